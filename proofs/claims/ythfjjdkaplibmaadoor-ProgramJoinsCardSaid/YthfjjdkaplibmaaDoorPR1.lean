import Derived.Test.YthfjjdkaplibmaaDoorPS
import Derived.Lib.Walk
import Derived.Deep.LoopGhost
import Derived.Deep.Draws
namespace Go.Proofs.YthfjjdkaplibmaaDoor.Pr
open Go Go.RowKit Go.Proofs.YthfjjdkaplibmaaDoorW.PrintWords
set_option linter.unusedVariables false
set_option linter.unusedSimpArgs false

abbrev op51 (x : S51) : Value := .agg #[.int .i64 x.f0, .int .i64 x.f1, .int .i64 x.f2]
theorem op_calls (x : S51) (n p : Int) (w : World) : Calls Tryd.prog 25 #[op51 x, .int .i64 n, .int .i64 p] w fun e w' => e = .returned (.bool (pOp x.f0 x.f1 x.f2 n p)) ∧ Below w.heap.size w w' :=
  program_Op.calls 10 x.f0 x.f1 x.f2 n p _ w (op_f 10 (by decide) _ _ _ _ _)
/-- The closure in Right: a step that may not be. -/
theorem right_fn (x : S51) (n p : Int) (g1 g2 : Nat) (W : World) (h1 : W.cell? ⟨g1, 0, none⟩ = some (.int .i64 n)) (h2 : W.cell? ⟨g2, 0, none⟩ = some (.int .i64 p)) :
    Calls Tryd.prog 59 #[op51 x, .pointer (some ⟨g1, 0, none⟩), .pointer (some ⟨g2, 0, none⟩)] W fun e w' => e = .returned (.bool (!pOp x.f0 x.f1 x.f2 n p)) ∧ Below W.heap.size W w' := by
  have hu51 := Tryd.underlying51
  have HB := Aside0.mk (below_alloc (Below.refl W.heap.size W) (.cells #[.int .i64 x.f0, .int .i64 x.f1, .int .i64 x.f2] 51))
  have h1' : (W.alloc (.cells #[.int .i64 x.f0, .int .i64 x.f1, .int .i64 x.f2] 51)).cell? ⟨g1, 0, none⟩ = some (.int .i64 n) := (HB.out.cell (World.block_lt_of_cell? W _ h1)).trans h1
  have h2' : (W.alloc (.cells #[.int .i64 x.f0, .int .i64 x.f1, .int .i64 x.f2] 51)).cell? ⟨g2, 0, none⟩ = some (.int .i64 p) := (HB.out.cell (World.block_lt_of_cell? W _ h2)).trans h2
  clear h1 h2
  go_enter Tryd.func59, Tryd.ntmps59
  go_wp2_with (first | (go_at_call 25; refine (op_calls x n p _).mono ?_; rintro e w' ⟨rfl, hb⟩))
  go_ret
  exact ⟨rfl, below_step HB.out hb⟩
theorem any_drop {α : Type} (q : α → Bool) (l : List α) (i : Nat) (h : i < l.length) : (l.drop i).any q = (q l[i] || (l.drop (i + 1)).any q) := by
  rw [List.drop_eq_getElem_cons h, List.any_cons]
set_option maxRecDepth 100000 in
set_option maxHeartbeats 2000000 in
/-- slices.IndexFunc over steps: is there one? -/
theorem index_51 (g : Nat) (eg : ∀ args w, (callFunc g args).run Tryd.prog w = .ok (.enter g args) w) (lb : Array Value) (q : S51 → Bool) (A : Option Addr) (c : Nat) (l : List S51) (w : World) (hC : Kd.C k51 w A l.length l) (hl : l.length ≤ 1000000)
    (hp : ∀ (x : S51) (W : World), Below w.heap.size w W → Calls Tryd.prog g (#[op51 x] ++ lb) W fun e w' => e = .returned (.bool (q x)) ∧ Below W.heap.size W w') :
    Calls Tryd.prog 79 #[.slice A l.length c, .func (.func g) #[] lb] w fun e w' => (∃ i : Int, e = .returned (.int .i64 i) ∧ decide (i ≥ 0) = l.any q) ∧ Below w.heap.size w w' := by
  have hu51 := Tryd.underlying51
  have HC := Aside0.mk hC
  have HP := Aside0.mk hp
  clear hC hp
  go_enter Tryd.func79, Tryd.ntmps79
  go_wp2
  go_loopg [5, 8] l.length (fun gg _ s8 wr => ∃ kk : Nat, kk ≤ l.length ∧ l.length - kk ≤ gg ∧ s8 = .int .i64 kk ∧ Aside0 (Below w.heap.size w wr) ∧ Aside0 (l.any q = (l.drop kk).any q))
  case atStart => exact ⟨0, Nat.zero_le _, by omega, rfl, ⟨Below.refl _ _⟩, ⟨rfl⟩⟩
  case round =>
    obtain ⟨kk, hkk, hg, rfl, HB, HA⟩ := hrel
    by_cases hlt : kk < l.length
    · have hltz : decide ((kk : Int) < (l.length : Int)) = true := decide_eq_true (by omega)
      have hlt0 : decide (0 ≤ (kk : Int)) = true := decide_eq_true (by omega)
      obtain ⟨x, hx⟩ : ∃ x, l[kk] = x := ⟨_, rfl⟩
      obtain ⟨ad, e0, x0, x1, x2⟩ := at_T51 HC.out (kk : Int) (by omega) (by omega)
      subst e0
      rw [rd51_at hlt, hx] at x0 x1 x2
      rw [Int.toNat_natCast] at x0 x1 x2
      replace x0 := (HB.out.cell (World.block_lt_of_cell? w _ x0)).trans x0
      replace x1 := (HB.out.cell (World.block_lt_of_cell? w _ x1)).trans x1
      replace x2 := (HB.out.cell (World.block_lt_of_cell? w _ x2)).trans x2
      have hcall := HP.out x wr HB.out
      have HX := Aside0.mk hx
      clear hx
      cases hq : q x with
      | true =>
        rw [hq] at hcall
        go_wp2_with (go_at_fn g; refine hcall.mono ?_; rintro e w' ⟨rfl, hb⟩)
        go_ret
        refine ⟨⟨_, rfl, ?_⟩, below_step HB.out hb⟩
        rw [HA.out, any_drop q l kk hlt, HX.out, hq, decide_eq_true (by omega)]
        rfl
      | false =>
        rw [hq] at hcall
        go_wp2_with (go_at_fn g; refine hcall.mono ?_; rintro e w' ⟨rfl, hb⟩)
        go_roundg (l.length - (kk + 1))
        case measure => omega
        case rel =>
          refine ⟨kk + 1, by omega, by omega, by go_num, ⟨below_step HB.out hb⟩, ⟨?_⟩⟩
          rw [HA.out, any_drop q l kk hlt, HX.out, hq, Bool.false_or]
    · have hltz : decide ((kk : Int) < (l.length : Int)) = false := decide_eq_false (by omega)
      go_wp2
      go_ret
      refine ⟨⟨_, rfl, ?_⟩, HB.out⟩
      rw [HA.out, List.drop_eq_nil_iff.2 (by omega)]
      rfl
theorem contains_51 (g : Nat) (eg : ∀ args w, (callFunc g args).run Tryd.prog w = .ok (.enter g args) w) (lb : Array Value) (q : S51 → Bool) (A : Option Addr) (c : Nat) (l : List S51) (w : World) (hC : Kd.C k51 w A l.length l) (hl : l.length ≤ 1000000)
    (hp : ∀ (x : S51) (W : World), Below w.heap.size w W → Calls Tryd.prog g (#[op51 x] ++ lb) W fun e w' => e = .returned (.bool (q x)) ∧ Below W.heap.size W w') :
    Calls Tryd.prog 58 #[.slice A l.length c, .func (.func g) #[] lb] w fun e w' => e = .returned (.bool (l.any q)) ∧ Below w.heap.size w w' := by
  have HI := Aside0.mk (index_51 g eg lb q A c l w hC hl hp)
  clear hC hp
  go_enter Tryd.func58, Tryd.ntmps58
  go_wp2_with (first | (go_at_call 79; refine HI.out.mono ?_; rintro e w' ⟨⟨i, rfl, hi⟩, hb⟩))
  go_ret
  exact ⟨rfl, hb⟩
theorem any_not {l : List S51} {n p : Int} : (!(l.any fun o => !pOp o.f0 o.f1 o.f2 n p)) = l.all fun o => pOp o.f0 o.f1 o.f2 n p := by
  rw [List.all_eq_not_any_not]
set_option maxRecDepth 100000 in
theorem program_Right.calls (A0 : Option Addr) (c0 : Nat) (l0 : List (S51)) (a1 : Int) (a2 : Int) (r : Bool) (w : World) (hr0 : Kd.C k51 w A0 l0.length l0) (hc0 : l0.length ≤ c0) (h : program_Right.f l0 a1 a2 = some r) :
    Calls Tryd.prog 27 #[.slice A0 l0.length c0, .int .i64 a1, .int .i64 a2] w fun e w' => e = .returned (.bool r) ∧ Below w.heap.size w w' := by
  have hr : r = pRight l0 a1 a2 := (Option.some.inj h).symm
  clear h
  obtain ⟨W, hW⟩ : ∃ W, (w.alloc (.cells #[.int .i64 a1] 3)).alloc (.cells #[.int .i64 a2] 3) = W := ⟨_, rfl⟩
  have hs : (w.alloc (.cells #[.int .i64 a1] 3)).heap.size = w.heap.size + 1 := by simp
  have hB : Below w.heap.size w W := by rw [← hW]; exact below_alloc (below_alloc (Below.refl _ _) _) _
  have k1 : W.heap[w.heap.size]? = some (.cells #[.int .i64 a1] 3 (0, 0)) := by rw [← hW]; exact blk_alloc (blk_new _ _) _
  have k2 : W.heap[w.heap.size + 1]? = some (.cells #[.int .i64 a2] 3 (0, 0)) := by rw [← hW, ← hs]; exact blk_new _ _
  by_cases hl : l0.length ≤ 16
  · have hl0 : decide ((l0.length : Int) ≤ 16) = true := decide_eq_true (by omega)
    have hcall := contains_51 59 (enters_of Tryd.func59 (by kernel_rfl) rfl) #[.pointer (some ⟨w.heap.size, 0, none⟩), .pointer (some ⟨w.heap.size + 1, 0, none⟩)] (fun o => !pOp o.f0 o.f1 o.f2 a1 a2) A0 c0 l0 W (Kd.C_below hr0 hB) (by omega) (by
      intro x W' hb
      exact right_fn x a1 a2 w.heap.size (w.heap.size + 1) W' ((blk_cell (blk_below k1 hb) 0).trans rfl) ((blk_cell (blk_below k2 hb) 0).trans rfl))
    have HI := Aside0.mk hcall
    have HB := Aside0.mk hB
    have HL := Aside0.mk hl
    clear hcall hB k1 k2 hr0 hl hs
    go_enter Tryd.func27, Tryd.ntmps27
    go_wp2_with (first | (go_at_call 58; (try simp only [World.size_alloc, hW]); (try rw [hW]); refine HI.out.mono ?_; rintro e w' ⟨rfl, hb⟩))
    go_ret
    refine ⟨?_, below_step HB.out hb⟩
    rw [hr]
    unfold pRight
    rw [decide_eq_true HL.out, Bool.true_and, ← any_not]
    rfl
  · have hl0 : decide ((l0.length : Int) ≤ 16) = false := decide_eq_false (by omega)
    have HB := Aside0.mk hB
    have HL := Aside0.mk hl
    clear hB k1 k2 hr0 hl hs
    go_enter Tryd.func27, Tryd.ntmps27
    go_wp2
    go_ret
    refine ⟨?_, by first | exact HB.out | (rw [hW]; exact HB.out)⟩
    rw [hr]
    unfold pRight
    rw [decide_eq_false HL.out, Bool.false_and]
    rfl
end Go.Proofs.YthfjjdkaplibmaaDoor.Pr
