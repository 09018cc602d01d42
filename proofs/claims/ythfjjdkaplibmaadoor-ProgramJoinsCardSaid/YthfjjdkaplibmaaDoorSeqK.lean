/- A range over an iterator that keeps its state in one cell of its own, and reads cells that nobody turns (Kp) (a variable that its closure has captured and turns): of any program. -/
import Derived.RangeFuncIn
import Derived.RangeFuncRecord
import Derived.RangeFuncSeq
import Derived.RangeFuncOwn
import Derived.RangeFuncWrites
import Derived.Below
namespace Go.Proofs.YthfjjdkaplibmaaDoor
open Go Go.RowKit

/-- The blocks of which p speaks lie as they lay. -/
structure KeepAtK (p : Nat → Prop) (W W' : World) : Prop where
  size : W.heap.size ≤ W'.heap.size
  same : ∀ k, p k → k < W.heap.size → W'.heap[k]? = W.heap[k]?
theorem KeepAtK.refl (p : Nat → Prop) (W : World) : KeepAtK p W W := ⟨Nat.le_refl _, fun _ _ _ => rfl⟩
theorem KeepAtK.trans {p : Nat → Prop} {A B C : World} (h : KeepAtK p A B) (k : KeepAtK p B C) : KeepAtK p A C :=
  ⟨Nat.le_trans h.size k.size, fun i hp hi => (k.same i hp (Nat.lt_of_lt_of_le hi h.size)).trans (h.same i hp hi)⟩
theorem KeepAtK.below {p : Nat → Prop} {W W' : World} (h : Below W.heap.size W W') : KeepAtK p W W' := ⟨h.size, fun k _ hk => h.block k hk⟩
theorem KeepAtK.set {p : Nat → Prop} (W : World) (a : Addr) (v : Value) (h : ¬ p a.block) : KeepAtK p W (W.setCell a v) :=
  ⟨by rw [World.size_setCell]; exact Nat.le_refl _, fun k hp _ => Below.heap_setCell W a v k (fun e => h (e ▸ hp))⟩
theorem KeepAtK.alloc {p : Nat → Prop} (W : World) (o : Obj) : KeepAtK p W (W.alloc o) := ⟨by simp, fun k _ hk => Below.heap_alloc W o k hk⟩
theorem KeepAtK.drew {p : Nat → Prop} (W : World) : KeepAtK p W W.drew := ⟨Nat.le_refl _, fun _ _ _ => rfl⟩

/-- What the loop's own book-keeping and the iterator do to the world, the invariant abides. -/
structure AbStK (sB B : Nat) (I : Nat → World → Prop) : Prop where
  set : ∀ i W v, I i W → I i (W.setCell ⟨sB, 0, none⟩ v)
  drew : ∀ i W, I i W → I i W.drew
  alloc : ∀ i W o, I i W → I i (W.alloc o)
  put : ∀ i W r o o', I i W → B ≤ r → W.heap[r]? = some o → o.isCells = false → I i (W.putObj r o')

/-- THE ITERATOR's CONTRACT: it hands over the elements of xs, one by one, till there is none, or a round has said 'no more'; it turns its own cell in block sB alone; between two rounds st tells of that cell. -/
def GivesK {α : Type} (F : Fence) (n : Nat) (P : Program) (gf : FuncId) (lb : Array Value) (enc : α → Value) (xs : List α) (sB : Nat) (o0 : Obj) (Kp : World → Prop) : Prop :=
  ∀ (l : Nat) (J : Nat → World → Prop) (Jx : World → Prop) (W : World),
    (∀ i W v, J i W → J i (W.setCell ⟨sB, 0, none⟩ v)) → (∀ i W, J i W → J i W.drew) → (∀ i W, J i W → Kp W) → W.heap[sB]? = some o0 →
    (∀ i x W1, xs[i]? = some x → J i W1 → YieldAt F (n - 1) P l #[enc x] W1 fun e W' =>
      (e = .returned (.bool true) ∧ J (i + 1) W' ∧ W'.heap[sB]? = W1.heap[sB]?) ∨ (e = .returned (.bool false) ∧ Jx W')) →
    J 0 W →
    CallsIn F n P gf (#[.func (.yield l) #[] #[]] ++ lb) W fun e W' => (∃ v, e = .returned v) ∧ (J xs.length W' ∨ Jx W')

/-- How the body of a round may be left. -/
def postStK (p : Nat → Prop) (I : Nat → World → Prop) (Ix : Code → World → Prop) (i : Nat) (W : World) : Exit → Act → World → Prop
  | .normal, _, W' => KeepAtK p W W' ∧ I (i + 1) W'
  | .ret, _, W' => KeepAtK p W W' ∧ Ix .ret W'
  | .exit _, _, _ => False
  | .goto _, _, _ => False
  | .panic _, _, _ => False
  | .outgrown, _, _ => False

variable {F : Fence} {n : Nat} {P : Program}

theorem wpIn_range_k {α : Type} {g : Operand} {ps : Array Tmp} {assign body : Code} {Q : Exit → Act → World → Prop} {a : Act} {w : World}
    (hro : F.round = none) (h1 : 1 ≤ n) {gf : FuncId} {lb : Array Value} (hg : a.eval g = .func (.func gf) #[] lb) (hFg : F.fn gf) (eg : ∀ args w, (callFunc gf args).run P w = .ok (.enter gf args) w)
    {enc : α → Value} {xs : List α} {sB : Nat} {o0 : Obj} {Kp : World → Prop} (hseq : GivesK F (n - 1) P gf lb enc xs sB o0 Kp) (hs0 : w.heap[sB]? = some o0) (hps : ps.size = 1)
    (I : Nat → World → Prop) (Ix : Code → World → Prop) (hI : AbStK sB w.heap.size I) (hIx : ∀ W r o o', Ix .ret W → w.heap.size ≤ r → W.heap[r]? = some o → o.isCells = false → Ix .ret (W.putObj r o')) (hKp : ∀ i W, I i W → Kp W) (h0 : I 0 w) (a₁ : α → Act)
    (hassign : ∀ (l : Nat) (x : α) (W : World) (K : Act → World → Prop), K (a₁ x) W →
      assign.wpIn (F.inRound l) (n - 1 - 1) P (Exit.then K (fun _ _ _ => False)) { tmps := (ps.zip #[enc x]).foldl (fun t (p, v) => t.setIfInBounds p v) a.tmps, defers := [] } W)
    (hbody : ∀ (l i : Nat) (x : α) (W : World), xs[i]? = some x → I i W → w.heap.size + 1 < W.heap.size →
      body.wpIn (F.inRound l) (n - 1 - 1) P (postStK (fun k => k = sB ∨ k = w.heap.size ∨ k = w.heap.size + 1) I Ix i W) (a₁ x) W)
    (hdone : ∀ (W : World), I xs.length W → W.heap[w.heap.size]? = some (.deferred (some [])) → Q .normal { a with defers := { target := .collected w.heap.size, args := #[] } :: a.defers } W)
    (hstop : ∀ (W : World), Ix .ret W → W.heap[w.heap.size]? = some (.deferred (some [])) → Code.ret.wpIn F n P Q { a with defers := { target := .collected w.heap.size, args := #[] } :: a.defers } W) :
    (Code.rangeFunc g ps assign body).wpIn F n P Q a w := by
  have hsB : sB < w.heap.size := (Array.getElem?_eq_some_iff.1 hs0).1
  refine wpIn_rangeFunc fun fn hfn => ?_
  rw [hro]
  -- the record of the loop, and the two blocks that are laid
  let rec_ : LoopState → Option Code → Loop := fun st pe => { state := st, pending := pe, fn, tmps := a.tmps, params := ps, assign, body, defers := w.heap.size }
  obtain ⟨W1, hW1⟩ : ∃ W1, (w.alloc (.deferred (some []))).alloc (.loop (rec_ .ready none)) = W1 := ⟨_, rfl⟩
  have kD : W1.heap[w.heap.size]? = some (.deferred (some [])) := by
    rw [← hW1, Below.heap_alloc _ _ _ (by simp)]; exact World.alloc_heap_new w _
  have kL : W1.heap[w.heap.size + 1]? = some (.loop (rec_ .ready none)) := by
    have := World.alloc_heap_new (w.alloc (.deferred (some []))) (.loop (rec_ .ready none))
    rw [World.size_alloc] at this
    rw [← hW1]; exact this
  have kS : W1.heap[sB]? = some o0 := by
    rw [← hW1, Below.heap_alloc _ _ _ (by simp; omega), Below.heap_alloc _ _ _ hsB]; exact hs0
  have kI : I 0 W1 := by rw [← hW1]; exact hI.alloc _ _ _ (hI.alloc _ _ _ h0)
  refine ⟨w.heap.size + 1, [{ target := .collected w.heap.size, args := #[] }], W1, { target := .fn (.func gf) lb, args := #[.func (.yield (w.heap.size + 1)) #[] #[]] }, W1, gf,
    #[.func (.yield (w.heap.size + 1)) #[] #[]] ++ lb, W1, ?_, ?_, ?_, ?_, fun _ => h1, ?_⟩
  · rw [← hW1]; exact run_enterLoop_outer _ _ _ _ _
  · simp only [resolve, hg]
    simp [go_sem]
  · intro f' hf'
    simp [Target.leads] at hf'
    subst hf'
    exact hFg
  · simp [invoke, go_sem, eg]
  -- what holds between two rounds
  let J : Nat → World → Prop := fun i W => I i W ∧ w.heap.size + 1 < W.heap.size ∧ W.heap[w.heap.size + 1]? = some (.loop (rec_ .ready none)) ∧ W.heap[w.heap.size]? = some (.deferred (some []))
  let Jx : World → Prop := fun W => Ix .ret W ∧ W.heap[w.heap.size + 1]? = some (.loop (rec_ .done (some .ret))) ∧ W.heap[w.heap.size]? = some (.deferred (some []))
  have hJ : ∀ i W v, J i W → J i (W.setCell ⟨sB, 0, none⟩ v) := by
    rintro i W v ⟨j1, j2, j3, j4⟩
    refine ⟨hI.set i W v j1, by rw [World.size_setCell]; exact j2, ?_, ?_⟩
    · rw [Below.heap_setCell W ⟨sB, 0, none⟩ v _ (by show w.heap.size + 1 ≠ sB; omega)]; exact j3
    · rw [Below.heap_setCell W ⟨sB, 0, none⟩ v _ (by show w.heap.size ≠ sB; omega)]; exact j4
  have hJd : ∀ i W, J i W → J i W.drew := fun i W h => ⟨hI.drew i W h.1, h.2.1, h.2.2.1, h.2.2.2⟩
  refine (hseq (w.heap.size + 1) J Jx W1 hJ hJd (fun i W h => hKp i W h.1) kS ?_ ⟨kI, (Array.getElem?_eq_some_iff.1 kL).1, kL, kD⟩).mono ?_
  · -- one round
    rintro i x W hx ⟨j1, j2, j3, j4⟩
    have hy := run_yield (P := P) (args := #[enc x]) j3 (by show 1 = ps.size; omega)
    refine ⟨fn, _, assign, body, hy, roundIn_of_wpIn hfn (hassign _ x W _ ⟨_, run_beginRound j3 rfl, ?_⟩)⟩
    obtain ⟨W2, hW2⟩ : ∃ W2, W.putObj (w.heap.size + 1) (.loop { rec_ .ready none with state := .busy }) = W2 := ⟨_, rfl⟩
    have b1 : W2.heap[w.heap.size + 1]? = some (.loop { rec_ .ready none with state := .busy }) := by rw [← hW2]; exact World.putObj_heap_same j2
    have b2 : W2.heap[w.heap.size]? = some (.deferred (some [])) := by rw [← hW2, World.putObj_heap_other (by omega)]; exact j4
    have b3 : W2.heap[sB]? = W.heap[sB]? := by rw [← hW2, World.putObj_heap_other (by omega)]
    have b4 : W2.heap.size = W.heap.size := by rw [← hW2, World.putObj_size]
    have b5 : I i W2 := by rw [← hW2]; exact hI.put i W (w.heap.size + 1) _ _ j1 (by omega) j3 rfl
    show body.wpIn _ _ _ _ _ (W.putObj (w.heap.size + 1) (.loop { rec_ .ready none with state := .busy }))
    rw [hW2]
    refine wpIn_mono (hbody _ i x W2 hx b5 (by omega)) ?_
    -- the end of the round
    have fin : ∀ (jump : Option Code) (W3 : World), KeepAtK (fun k => k = sB ∨ k = w.heap.size ∨ k = w.heap.size + 1) W2 W3 →
        W3.heap[w.heap.size + 1]? = some (.loop { rec_ .ready none with state := .busy }) ∧
        (Instr.endRound (w.heap.size + 1) jump).run P W3 = .ok (.bool jump.isNone) (W3.putObj (w.heap.size + 1) (.loop (rec_ (if jump.isNone then .ready else .done) jump))) ∧
        w.heap.size + 1 < (W3.putObj (w.heap.size + 1) (.loop (rec_ (if jump.isNone then .ready else .done) jump))).heap.size ∧
        (W3.putObj (w.heap.size + 1) (.loop (rec_ (if jump.isNone then .ready else .done) jump))).heap[w.heap.size + 1]? = some (.loop (rec_ (if jump.isNone then .ready else .done) jump)) ∧
        (W3.putObj (w.heap.size + 1) (.loop (rec_ (if jump.isNone then .ready else .done) jump))).heap[w.heap.size]? = some (.deferred (some [])) ∧
        (W3.putObj (w.heap.size + 1) (.loop (rec_ (if jump.isNone then .ready else .done) jump))).heap[sB]? = W.heap[sB]? := by
      intro jump W3 hk
      have c1 : W3.heap[w.heap.size + 1]? = some (.loop { rec_ .ready none with state := .busy }) := (hk.same _ (.inr (.inr rfl)) (by omega)).trans b1
      have c2 : W3.heap[w.heap.size]? = some (.deferred (some [])) := (hk.same _ (.inr (.inl rfl)) (by omega)).trans b2
      have c3 : W3.heap[sB]? = W.heap[sB]? := ((hk.same _ (.inl rfl) (by omega)).trans b3)
      have c4 : w.heap.size + 1 < W3.heap.size := (Array.getElem?_eq_some_iff.1 c1).1
      refine ⟨c1, run_endRound (P := P) jump c1, by rw [World.putObj_size]; exact c4, World.putObj_heap_same c4, ?_, ?_⟩
      · rw [World.putObj_heap_other (by omega)]; exact c2
      · rw [World.putObj_heap_other (by omega)]; exact c3
    rintro e a3 W3 hp
    cases e with
    | normal =>
      obtain ⟨hk, hi⟩ := hp
      obtain ⟨f0, f1, f2, f3, f4, f5⟩ := fin none W3 hk
      exact ⟨_, _, f1, .inl ⟨rfl, ⟨hI.put _ _ (w.heap.size + 1) _ _ hi (by omega) f0 rfl, f2, f3, f4⟩, f5⟩⟩
    | ret =>
      obtain ⟨hk, hi⟩ := hp
      obtain ⟨f0, f1, f2, f3, f4, f5⟩ := fin (some .ret) W3 hk
      exact ⟨_, _, f1, .inr ⟨rfl, hIx _ (w.heap.size + 1) _ _ hi (by omega) f0 rfl, f3, f4⟩⟩
    | exit id => exact hp.elim
    | goto t => exact hp.elim
    | panic ch => exact hp.elim
    | outgrown => exact hp.elim
  · -- behind the iterator
    rintro e W2 ⟨⟨v, rfl⟩, (⟨j1, j2, j3, j4⟩ | ⟨j1, j3, j4⟩)⟩
    · refine ⟨none, _, run_endLoop (P := P) j3 (by intro h; cases h), ?_⟩
      exact hdone _ (hI.put _ _ (w.heap.size + 1) _ _ j1 (by omega) j3 rfl) (by rw [World.putObj_heap_other (by omega)]; exact j4)
    · refine ⟨some .ret, _, run_endLoop (P := P) j3 (by intro h; cases h), ?_⟩
      exact hstop _ (hIx _ (w.heap.size + 1) _ _ j1 (by omega) j3 rfl) (by rw [World.putObj_heap_other (by omega)]; exact j4)
end Go.Proofs.YthfjjdkaplibmaaDoor
