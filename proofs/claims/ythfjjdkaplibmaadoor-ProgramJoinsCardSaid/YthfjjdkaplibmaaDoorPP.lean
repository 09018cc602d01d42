import Derived.Test.YthfjjdkaplibmaaDoorStep
import Derived.Test.YthfjjdkaplibmaaDoorIterK
import Derived.Test.YthfjjdkaplibmaaDoorPR1
import Derived.Test.YthfjjdkaplibmaaDoorPr17
import Derived.Maps.OwnIn
import Derived.Maps.AppendAt
namespace Go.Proofs.YthfjjdkaplibmaaDoor.Pr
open Go Go.RowKit Go.Proofs.YthfjjdkaplibmaaDoorW.PrintWords Go.Proofs.YthfjjdkaplibmaaDoorW.PrintLast Go.Proofs.YthfjjdkaplibmaaDoorW.PrintMore
attribute [local go_sem] Oper.semAt_some
set_option linter.unusedVariables false
set_option linter.unusedSimpArgs false

/-! ### A program out of a text -/
def semiB : ByteArray := ⟨#[59, 32]⟩
def pSteps (s : ByteArray) : List S51 := if s.size = 0 then [] else (splitAll s semiB).map pStep
theorem qx51 (t : Nat) (ht : t ≠ 51) : ∀ q, q ∈ 51 :: k51.E → q ≠ t := by intro q hq; simp [k51, Kd.iso, Kd.pair, Kd.int, Kd.scalar] at hq; omega
theorem px_put {W : World} {B : Nat} {t : TypeId} {v : Value} (h : Boxed W B t v) {r : Nat} (o : Obj) (hr : r ≠ B) : Boxed (W.putObj r o) B t v := (World.putObj_heap_other (w := W) (Ne.symm hr)).trans h
theorem px_far {W : World} {B : Nat} {t : TypeId} {v : Value} (h : Boxed W B t v) {r : Nat} (u : Value) (hr : B ≠ r) : Boxed (W.setCell ⟨r, 0, none⟩ u) B t v := (Below.heap_setCell W ⟨r, 0, none⟩ u B hr).trans h
theorem px_below {W W' : World} {B : Nat} {t : TypeId} {v : Value} (h : Boxed W B t v) (hb : Below W.heap.size W W') : Boxed W' B t v := (hb.block B h.lt).trans h
theorem pbelow_put {w W : World} (h : Below w.heap.size w W) {r : Nat} (o : Obj) (hr : w.heap.size ≤ r) : Below w.heap.size w (W.putObj r o) :=
  ⟨h.os, h.tape, h.output, by rw [World.putObj_size]; exact h.size, fun k hk => by rw [World.putObj_heap_other (by omega)]; exact h.block k hk⟩
/-- What lies in memory in a round. -/
structure PW (w W : World) (sep : ByteArray) (out : List S51) (v u : Value) : Prop where
  le : out.length ≤ 2000000
  a0 : Boxed W w.heap.size 48 v
  a1 : Boxed W (w.heap.size + 1) 9 u
  a2 : Boxed W (w.heap.size + 2) 9 (.string sep)
  a3 : Boxed W (w.heap.size + 3) 3 (.int .i64 0)
  row : k51.R 51 W w.heap.size (fun k => k ≠ w.heap.size + 4 ∧ k ≠ w.heap.size + 5) v out
  bel : Below w.heap.size w W
theorem PW.set {w W : World} {sep : ByteArray} {out : List S51} {v u : Value} (h : PW w W sep out v u) (x : Value) : PW w (W.setCell ⟨w.heap.size + 1, 0, none⟩ x) sep out v x :=
  ⟨h.le, px_far h.a0 _ (by omega), h.a1.set x, px_far h.a2 _ (by omega), px_far h.a3 _ (by omega), Kd.R_set h.row h.a1 (qx51 9 (by decide)) 0 x, below_set h.bel (by omega)⟩
theorem PW.drew {w W : World} {sep : ByteArray} {out : List S51} {v u : Value} (h : PW w W sep out v u) : PW w W.drew sep out v u := ⟨h.le, h.a0, h.a1, h.a2, h.a3, Kd.R_drew h.row, below_drew h.bel⟩
theorem PW.alloc {w W : World} {sep : ByteArray} {out : List S51} {v u : Value} (h : PW w W sep out v u) (o : Obj) : PW w (W.alloc o) sep out v u :=
  ⟨h.le, h.a0.alloc _, h.a1.alloc _, h.a2.alloc _, h.a3.alloc _, Kd.R_alloc h.row _, below_alloc h.bel _⟩
theorem PW.below {w W W' : World} {sep : ByteArray} {out : List S51} {v u : Value} (h : PW w W sep out v u) (hb : Below W.heap.size W W') : PW w W' sep out v u :=
  ⟨h.le, px_below h.a0 hb, px_below h.a1 hb, px_below h.a2 hb, px_below h.a3 hb, Kd.R_below h.row hb, below_step h.bel hb⟩
theorem PW.put {w W : World} {sep : ByteArray} {out : List S51} {v u : Value} (h : PW w W sep out v u) {r : Nat} {o : Obj} (o' : Obj) (hr : w.heap.size + 4 ≤ r) (ho : W.heap[r]? = some o) (hc : o.isCells = false) : PW w (W.putObj r o') sep out v u := by
  refine ⟨h.le, px_put h.a0 _ (by omega), px_put h.a1 _ (by omega), px_put h.a2 _ (by omega), px_put h.a3 _ (by omega), ?_, pbelow_put h.bel _ (by omega)⟩
  refine Kd.R_mono (Kd.R_move (Kd.R_bound h.row) ?_) (fun _ hk => hk.1)
  rintro k ⟨_, _, _, q, _, cells, hk⟩
  refine World.putObj_heap_other ?_
  rintro rfl
  rw [ho] at hk
  cases hk
  cases hc
/-- What holds between two rounds. -/
structure PI (w : World) (sep : ByteArray) (L : List ByteArray) (i : Nat) (W : World) (out : List S51) (v : Value) (u : Value) : Prop extends PW w W sep out v u where
  go : out = (L.take i).map pStep
theorem PI.abSt (w : World) (sep : ByteArray) (L : List ByteArray) (B : Nat) (hB : B = w.heap.size + 4) : AbStK (w.heap.size + 1) B (fun i W => ∃ out v u, PI w sep L i W out v u) where
  set := by rintro i W x ⟨out, v, u, h⟩; exact ⟨out, v, x, h.toPW.set x, h.go⟩
  drew := by rintro i W ⟨out, v, u, h⟩; exact ⟨out, v, u, h.toPW.drew, h.go⟩
  alloc := by rintro i W o ⟨out, v, u, h⟩; exact ⟨out, v, u, h.toPW.alloc o, h.go⟩
  put := by rintro i W r o o' ⟨out, v, u, h⟩ hr ho hc; exact ⟨out, v, u, h.toPW.put o' (by omega) ho hc, h.go⟩
theorem three_M (w : World) (base : Nat) (ok : Nat → Prop) (x : S51) : k51.M w base ok x [.int .i64 x.f0, .int .i64 x.f1, .int .i64 x.f2] := k51_mkM w base ok x
theorem info51' : (Tryd.prog.info? 51).map (fun i => (i.zero, i.size, i.bytes)) = some (some (.agg #[.int .i64 0, .int .i64 0, .int .i64 0]), 3, 24) := by kernel_rfl
theorem pmixed : Tryd.prog.follows .mixedOrders = true := by kernel_rfl
theorem split_size (sep s : ByteArray) : ∀ x ∈ splitAll s sep, x.size ≤ s.size := fun x hx => splitB_size _ _ _ _ x hx

/-- An append to a row of one's own, in a region that draws its order, inside a fence. -/
theorem append_anyIn {F : Fence} {n : Nat} {P : Program} {md : Region.Mode} {ops : Array Oper} {Q : Exit → Act → World → Prop} {fuel : Nat} {listed : Array Bool} {a : Act} {w : World} {i : Nat} {o : Oper} (hi_ : ops[i]? = some o)
    (hw : Region.wanted o (yielded ops a.tmps) = true) (hrd : Region.ready md ops listed = [i]) (s x : Operand) (t : TypeId)
    (ho : o.op = .call { callee := .builtin .append, args := #[s, x], argTypes := #[t, t] })
    (base : Nat) (e : TypeId) (inf : TypeInfo) (z : Value) (size bytes : Nat) (ht : P.underlying t = some (.slice e)) (hi : P.info? e = some inf) (hz : inf.zero = some z)
    (hsize : inf.size = size) (hby : inf.bytes = bytes) (hzs : z.cells.size = size) (hsz : 0 < size)
    (v : Value) (k : Nat) (xs : List Value) (hs : a.eval s = v) (hown : w.ownsRow base e size v k xs)
    (ad : Addr) (m c : Nat) (news : List Value) (hx : a.eval x = .slice (some ad) m c) (hl : news.length = m * size) (hnews : ∀ j u, news[j]? = some u → w.cell? (ad.add j) = some u) (h1 : ∀ u ∈ news, u.oneCell' = true)
    (h63 : k + m ≤ maxLen) (hbytes : (k + m) * bytes ≤ 140737488355328) (hbase : base ≤ w.heap.size)
    (h : ∀ v' w', w'.ownsRow base e size v' (k + m) (xs ++ news) → w.grownBy w' v.ownBlock → (v' = .slice none 0 0 ↔ v = .slice none 0 0 ∧ m = 0) → (v'.ownBlock = v.ownBlock ∨ v'.ownBlock = some w.heap.size) → wpAnyIn F n P md ops Q fuel (listed.setIfInBounds i true) (a.put o.dst v') w') :
    wpAnyIn F n P md ops Q (fuel + 1) listed a w := by
  refine wpAnyIn_ready hrd (by simp) (AllReadyIn.cons hi_ (fun K hK => ?_) AllReadyIn.nil)
  rw [if_pos hw]
  obtain ⟨v', w', hr, h2, h3, h4, h5⟩ := run_append_own_at (P := P) w base t o.type e inf z size bytes ht hi hz hsize hby hzs hsz v k xs hown ad m c news hl hnews h1 h63 hbytes hbase
  unfold Oper.wpIn
  refine ⟨by simp [Oper.about, ho, resolve, Target.leads, Sem.run_pure], ?_⟩
  rw [Oper.semAt_plain F _ _ (by rw [ho]; intro c hc'; cases hc')]
  simp [execOp, ho, resolve, invoke, builtin, hs, hx, hr, Result.andThen]
  exact hK _ _ (h v' w' h2 h3 h4 h5)
theorem three_cells (W : World) (g : Nat) (hg : g = W.heap.size) (x : S51) : ∀ j u, ([.int .i64 x.f0, .int .i64 x.f1, .int .i64 x.f2] : List Value)[j]? = some u → (W.alloc (.cells #[.int .i64 x.f0, .int .i64 x.f1, .int .i64 x.f2] 51)).cell? ((⟨g, 0, none⟩ : Addr).add j) = some u := by
  subst hg
  intro j u h
  have e : ((⟨W.heap.size, 0, none⟩ : Addr).add j) = ⟨W.heap.size, j, none⟩ := by simp [Addr.add]; omega
  rw [e, blk_cell (blk_new W (.cells #[.int .i64 x.f0, .int .i64 x.f1, .int .i64 x.f2] 51)) j, ← h]
  simp
theorem PW.appended {w W w3 : World} {sep : ByteArray} {out : List S51} {v v' u : Value} (h : PW w W sep out v u) (hw : w.heap.size + 6 ≤ W.heap.size) (hl : out.length < 2000000) (x : S51) {inner : List Value}
    (h0 : ∀ k, v.ownBlock = some k → (k ≠ w.heap.size + 4 ∧ k ≠ w.heap.size + 5)) (hr : Reps (k51.M W w.heap.size (fun k => (k ≠ w.heap.size + 4 ∧ k ≠ w.heap.size + 5) ∧ some k ≠ v.ownBlock)) 3 out inner)
    (hown : w3.ownsRow w.heap.size 51 3 v' (out.length + 1) (inner ++ [.int .i64 x.f0, .int .i64 x.f1, .int .i64 x.f2])) (hg : W.grownBy w3 v.ownBlock) (hat : v'.ownBlock = v.ownBlock ∨ v'.ownBlock = some W.heap.size) :
    Boxed w3 w.heap.size 48 v ∧ PW w (w3.setCell ⟨w.heap.size, 0, none⟩ v') sep (out ++ [x]) v' u ∧ KeepAtK (fun k => k = w.heap.size + 1 ∨ k = w.heap.size + 4 ∨ k = w.heap.size + 5) W (w3.setCell ⟨w.heap.size, 0, none⟩ v') := by
  have hne : ∀ {g t : Nat} {x : Value}, Boxed W g t x → t ≠ 51 → some g ≠ v.ownBlock := fun hb ht => Kd.R_ne h.row hb (Ne.symm ht)
  have c0 := h.a0.kept hg (hne h.a0 (by decide))
  have c1 := h.a1.kept hg (hne h.a1 (by decide))
  have c2 := h.a2.kept hg (hne h.a2 (by decide))
  have c3 := h.a3.kept hg (hne h.a3 (by decide))
  have hB : Below w.heap.size w w3 := h.bel.grown hg h.bel.size (fun k hk => by
    obtain ⟨inner, ho⟩ := Kd.R_own h.row
    exact own_base ho k hk)
  have hR : k51.R 51 w3 w.heap.size (fun k => k ≠ w.heap.size + 4 ∧ k ≠ w.heap.size + 5) v' (out ++ [x]) :=
    Kd.R_appended (okp := fun _ => False) h0 hr (three_M W _ _ x) (fun _ hk => hk.elim) (fun k hk => by omega) hown hg (by rcases hat with e | e; exact .inl e; exact .inr ⟨_, e, Nat.le_refl _⟩)
  refine ⟨c0, ⟨by rw [List.length_append]; simp; omega, c0.set _, px_far c1 _ (by omega), px_far c2 _ (by omega), px_far c3 _ (by omega), Kd.R_set hR c0 (qx51 48 (by decide)) 0 _, below_set hB (Nat.le_refl _)⟩, ?_, ?_⟩
  · rw [World.size_setCell]; exact hg.size
  · intro k hk hlt
    rw [Below.heap_setCell w3 ⟨w.heap.size, 0, none⟩ v' k (by show k ≠ w.heap.size; omega)]
    refine hg.block k hlt ?_
    rcases hk with rfl | rfl | rfl
    · exact hne h.a1 (by decide)
    · exact fun e => (h0 _ e.symm).1 rfl
    · exact fun e => (h0 _ e.symm).2 rfl

set_option maxRecDepth 100000 in
set_option maxHeartbeats 4000000 in
theorem parse_in (a0 : ByteArray) (a1 a2 : Int) (L : List ByteArray) (hL : splitAll a0 semiB = L) (hs : a0.size ≤ 1000000) (h0 : a0.size ≠ 0) (w : World) (HE : Aside0 (Env w)) (ps : List S51) (hps : Aside0 (L.map pStep = ps)) (good eq : Bool) (hgood : Aside0 (pRight ps a1 a2 = good))
    (T : ByteArray) (hT : Aside0 (good = true → ∀ (A : Option Addr) (c : Nat) (w' : World), Kd.C k51 w' A ps.length ps → ps.length ≤ c → Env w' → Calls Tryd.prog 31 #[.slice A ps.length c] w' fun e w'' => e = .returned (.string T) ∧ Below w'.heap.size w' w''))
    (heq : (T.toList == a0.toList) = eq) (res : List S51) (er : Int) (h1 : Aside0 ((good && eq) = true → res = ps ∧ er = 0)) (h2 : Aside0 ((good && eq) = false → res = [] ∧ er = 10)) :
    Calls Tryd.prog 33 #[.string a0, .int .i64 a1, .int .i64 a2] w fun e w' => ∃ v0_ : Value, e = .returned (.tuple #[v0_, .int .i64 er]) ∧ Kd.R k51 51 w' w.heap.size (fun _ => True) v0_ res ∧ Below w.heap.size w w' := by
  have hlen : Aside0 (L.length ≤ 1000001) := ⟨by rw [← hL, splitAll_len a0 semiB (by decide)]; have := Lib.countB_le semiB (by decide) a0.size a0 (Nat.le_refl _); omega⟩
  have hsz : Aside0 (∀ x ∈ L, x.size ≤ 1000000) := ⟨by rw [← hL]; intro x hx; have := split_size _ _ x hx; omega⟩
  have hmx := pmixed
  have hne : (a0.toList == ([] : List UInt8)) = false := by
    rw [beq_eq_false_iff_ne]
    intro h
    rw [ByteArray.toList_eq] at h
    have e : a0.data.toList.length = a0.size := Array.length_toList
    rw [h] at e
    exact h0 (by simpa using e.symm)
  have hne' : (a0.toList != ([] : List UInt8)) = true := by rw [bne, hne]; rfl
  refine (callsIn_wide (n := 3)).1 ?_
  refine callsIn_of_wp_marks Tryd.func33 rfl trivial ?_ rfl
  simp only [Tryd.ntmps33, List.size_toArray, List.length_cons, List.length_nil, Nat.reduceAdd, Nat.reduceSub, Array.replicate_succ, Array.replicate_zero, List.push_toArray, List.append_toArray, List.nil_append, List.cons_append]
  gi_wp2_with (refine ⟨trivial, ?_⟩; gi_at_call 64; refine (callsIn_wide.2 (splitseq_calls a0 ⟨#[59, 32]⟩ _)).mono ?_; rintro e w' ⟨rfl, rfl⟩)
  obtain ⟨W0, hW0⟩ : ∃ W0, ((((w.alloc (.cells #[.slice none 0 0] 48)).alloc (.cells #[.string a0] 9)).alloc (.cells #[.string ⟨#[59, 32]⟩] 9)).alloc (.cells #[.int .i64 0] 3)) = W0 := ⟨_, rfl⟩
  rw [hW0]
  simp only [Nat.add_assoc, Nat.reduceAdd]
  have hW0s : W0.heap.size = w.heap.size + 4 := by rw [← hW0]; simp only [World.size_alloc]
  have hI0 : PI w semiB L 0 W0 [] (.slice none 0 0) (.string a0) := by
    rw [← hW0]
    refine ⟨⟨Nat.zero_le _, ?_, ?_, ?_, ?_, Kd.R_nil _ _ _ _ _, ?_⟩, rfl⟩
    · exact (((Boxed.new w 48 (.slice none 0 0)).alloc _).alloc _).alloc _
    · have := ((Boxed.new (w.alloc (.cells #[.slice none 0 0] 48)) 9 (.string a0)).alloc (.cells #[.string ⟨#[59, 32]⟩] 9)).alloc (.cells #[.int .i64 0] 3); simpa only [World.size_alloc] using this
    · have := (Boxed.new ((w.alloc (.cells #[.slice none 0 0] 48)).alloc (.cells #[.string a0] 9)) 9 (.string ⟨#[59, 32]⟩)).alloc (.cells #[.int .i64 0] 3); simp only [World.size_alloc] at this; exact this
    · have := Boxed.new (((w.alloc (.cells #[.slice none 0 0] 48)).alloc (.cells #[.string a0] 9)).alloc (.cells #[.string ⟨#[59, 32]⟩] 9)) 3 (.int .i64 0); simpa only [World.size_alloc] using this
    · exact below_alloc (below_alloc (below_alloc (below_alloc (Below.refl _ _) _) _) _) _
  have hs1 : W0.heap[w.heap.size + 1]? = some (.cells #[.string a0] 9 (0, 0)) := hI0.a1
  clear hW0
  refine wpIn_range_k rfl (by omega) (gf := 96) (lb := #[.pointer (some ⟨w.heap.size + 2, 0, none⟩), .pointer (some ⟨w.heap.size + 1, 0, none⟩), .pointer (some ⟨w.heap.size + 3, 0, none⟩)]) rfl trivial (enters_of Tryd.func96 (by kernel_rfl) rfl) (split_gives _ (by omega) (w.heap.size + 2) (w.heap.size + 1) (w.heap.size + 3) a0 semiB hs (by decide) (by decide) (by omega) (by omega)) hs1 rfl
    (fun i W => ∃ out v u, PI w semiB L i W out v u) (fun c W => False) (PI.abSt w semiB L _ hW0s) ?hx ?hkp ⟨_, _, _, hI0⟩ ?a1 ?assign ?body ?done ?stop
  case assign =>
    intro l x W K hK
    gi_wp2
    exact hK
  case hx => rintro W r o o' h _ _ _; exact h
  case hkp => rintro i W ⟨out, v, u, h⟩; exact ⟨h.a2, h.a3, Env.below HE.out h.bel⟩
  case stop => rintro W h; exact h.elim
  case body =>
    rintro l i x W hx ⟨out, v, u, h⟩ hlt
    have hxL : L[i]? = some x := by rw [← hL]; exact hx
    have hxs : x.size ≤ 1000000 := hsz.out x (List.mem_of_getElem? hxL)
    have hi : i < L.length := (List.getElem?_eq_some_iff.1 hxL).1
    obtain ⟨A, c, rfl⟩ := Kd.R_slice h.row
    have t3 := h.a0.cell
    have f3 := h.a0.frozen
    have hST : ∀ w', Env w' → Calls Tryd.prog 65 #[.string x] w' fun e w'' => e = .returned (.agg #[.int .i64 (pStep x).f0, .int .i64 (pStep x).f1, .int .i64 (pStep x).f2]) ∧ Below w'.heap.size w' w'' := fun w' hE => step_calls x w' hxs hE
    have hEW := Env.below HE.out h.toPW.drew.bel
    have HST := Aside0.mk hST
    have HEW := Aside0.mk hEW
    have H := Aside0.mk h
    obtain ⟨i51, hi51, hz0, hz1, hz2⟩ := info_parts info51'
    have HI51 := Aside0.mk hi51
    have HGO : Aside0 (out ++ [pStep x] = (L.take (i + 1)).map pStep) := ⟨by rw [List.take_add_one, hxL, h.go]; simp⟩
    have HLE : Aside0 (out.length < 2000000) := ⟨by rw [h.go, List.length_map, List.length_take]; have := hlen.out; omega⟩
    clear hST hEW h hx hxL hi51
    gi_wp2
    refine wpIn_region_any (by assumption) ?_
    change wpAnyIn _ _ _ _ _ _ _ _ _ (World.drew _)
    refine wpAnyIn_ready (rs := [0, 1]) (by kernel_rfl) (by simp) ?_
    refine AllReadyIn.cons rfl (fun K hK => ?_) ?_
    · skip
      go_simp
      refine hK _ _ ?_
      clear hK K
      refine wpAnyIn_ready (rs := [1]) (by kernel_rfl) (by simp) (AllReadyIn.cons rfl (fun K hK => ?_) AllReadyIn.nil)
      go_simp
      refine hK _ _ ?_
      clear hK K
      refine wpAnyIn_ready (rs := [2]) (by kernel_rfl) (by simp) (AllReadyIn.cons rfl (fun K hK => ?_) AllReadyIn.nil)
      go_simp
      refine ⟨trivial, ?_⟩
      refine (CallsIn.inRound l (callsIn_wide.2 (HST.out _ HEW.out))).mono ?_
      rintro e w1 ⟨rfl, hb1⟩
      have HT1 := Aside0.mk (H.out.toPW.drew.below hb1)
      have HKB := Aside0.mk (KeepAtK.below (p := fun k => k = w.heap.size + 1 ∨ k = W0.heap.size ∨ k = W0.heap.size + 1) hb1)
      have HS1 := Aside0.mk hb1.size
      have t3' := HT1.out.a0.cell
      clear hb1
      refine hK _ _ ?_
      clear hK K
      refine wpAnyIn_ready (rs := [3]) (by kernel_rfl) (by simp) (AllReadyIn.cons rfl (fun K hK => ?_) AllReadyIn.nil)
      go_simp
      refine hK _ _ ?_
      clear hK K
      have HT2 := Aside0.mk (HT1.out.alloc (.cells #[.int .i64 (pStep x).f0, .int .i64 (pStep x).f1, .int .i64 (pStep x).f2] 51))
      obtain ⟨h0r, inner, hown, hr⟩ := HT2.out.row
      refine append_anyIn (i := 4) rfl (by rfl) (by kernel_rfl) (.tmp 15) (.tmp 18) 48 rfl w.heap.size 51 i51 (.agg #[.int .i64 0, .int .i64 0, .int .i64 0]) 3 24 Tryd.underlying48 HI51.out hz0 hz1 hz2 rfl (by decide) _ _ _ rfl hown ⟨_, 0, none⟩ 1 1 [.int .i64 (pStep x).f0, .int .i64 (pStep x).f1, .int .i64 (pStep x).f2] rfl rfl (three_cells _ _ rfl (pStep x)) (by simp [Value.oneCell']) (Nat.le_trans (show out.length + 1 ≤ 3000000 by have := HLE.out; omega) (by decide)) (by have := HLE.out; omega) HT2.out.bel.size ?_
      intro v' w3 hown' hgrow _ hat
      obtain ⟨g', cap', rfl⟩ := ownsRow_succ hown'
      obtain ⟨c3, hPW, hKA⟩ := HT2.out.appended (by have := HS1.out; have hd : W.drew.heap.size = W.heap.size := rfl; simp only [World.size_alloc]; omega) HLE.out (pStep x) h0r hr hown' hgrow hat
      have hc3' := c3.cell
      have hf3' := c3.frozen
      have HPW := Aside0.mk hPW
      have HKA := Aside0.mk hKA
      clear hPW hKA c3 hown' hgrow hat h0r hown hr
      refine wpAnyIn_ready (rs := [5]) (by kernel_rfl) (by simp) (AllReadyIn.cons rfl (fun K hK => ?_) AllReadyIn.nil)
      go_simp
      refine hK _ _ ?_
      clear hK K
      refine wpAnyIn_done (by kernel_rfl) ?_ _
      gi_wp2
      exact ⟨((KeepAtK.drew W).trans HKB.out).trans ((KeepAtK.alloc _ _).trans (by rw [hW0s]; exact HKA.out)), _, _, _, HPW.out, HGO.out⟩
    refine AllReadyIn.cons rfl (fun K hK => ?_) ?_
    · skip
      go_simp
      refine hK _ _ ?_
      clear hK K
      refine wpAnyIn_ready (rs := [0, 2]) (by kernel_rfl) (by simp) ?_
      refine AllReadyIn.cons rfl (fun K hK => ?_) ?_
      · skip
        go_simp
        refine hK _ _ ?_
        clear hK K
        refine wpAnyIn_ready (rs := [2]) (by kernel_rfl) (by simp) (AllReadyIn.cons rfl (fun K hK => ?_) AllReadyIn.nil)
        go_simp
        refine ⟨trivial, ?_⟩
        refine (CallsIn.inRound l (callsIn_wide.2 (HST.out _ HEW.out))).mono ?_
        rintro e w1 ⟨rfl, hb1⟩
        have HT1 := Aside0.mk (H.out.toPW.drew.below hb1)
        have HKB := Aside0.mk (KeepAtK.below (p := fun k => k = w.heap.size + 1 ∨ k = W0.heap.size ∨ k = W0.heap.size + 1) hb1)
        have HS1 := Aside0.mk hb1.size
        have t3' := HT1.out.a0.cell
        clear hb1
        refine hK _ _ ?_
        clear hK K
        refine wpAnyIn_ready (rs := [3]) (by kernel_rfl) (by simp) (AllReadyIn.cons rfl (fun K hK => ?_) AllReadyIn.nil)
        go_simp
        refine hK _ _ ?_
        clear hK K
        have HT2 := Aside0.mk (HT1.out.alloc (.cells #[.int .i64 (pStep x).f0, .int .i64 (pStep x).f1, .int .i64 (pStep x).f2] 51))
        obtain ⟨h0r, inner, hown, hr⟩ := HT2.out.row
        refine append_anyIn (i := 4) rfl (by rfl) (by kernel_rfl) (.tmp 15) (.tmp 18) 48 rfl w.heap.size 51 i51 (.agg #[.int .i64 0, .int .i64 0, .int .i64 0]) 3 24 Tryd.underlying48 HI51.out hz0 hz1 hz2 rfl (by decide) _ _ _ rfl hown ⟨_, 0, none⟩ 1 1 [.int .i64 (pStep x).f0, .int .i64 (pStep x).f1, .int .i64 (pStep x).f2] rfl rfl (three_cells _ _ rfl (pStep x)) (by simp [Value.oneCell']) (Nat.le_trans (show out.length + 1 ≤ 3000000 by have := HLE.out; omega) (by decide)) (by have := HLE.out; omega) HT2.out.bel.size ?_
        intro v' w3 hown' hgrow _ hat
        obtain ⟨g', cap', rfl⟩ := ownsRow_succ hown'
        obtain ⟨c3, hPW, hKA⟩ := HT2.out.appended (by have := HS1.out; have hd : W.drew.heap.size = W.heap.size := rfl; simp only [World.size_alloc]; omega) HLE.out (pStep x) h0r hr hown' hgrow hat
        have hc3' := c3.cell
        have hf3' := c3.frozen
        have HPW := Aside0.mk hPW
        have HKA := Aside0.mk hKA
        clear hPW hKA c3 hown' hgrow hat h0r hown hr
        refine wpAnyIn_ready (rs := [5]) (by kernel_rfl) (by simp) (AllReadyIn.cons rfl (fun K hK => ?_) AllReadyIn.nil)
        go_simp
        refine hK _ _ ?_
        clear hK K
        refine wpAnyIn_done (by kernel_rfl) ?_ _
        gi_wp2
        exact ⟨((KeepAtK.drew W).trans HKB.out).trans ((KeepAtK.alloc _ _).trans (by rw [hW0s]; exact HKA.out)), _, _, _, HPW.out, HGO.out⟩
      refine AllReadyIn.cons rfl (fun K hK => ?_) ?_
      · skip
        go_simp
        refine ⟨trivial, ?_⟩
        refine (CallsIn.inRound l (callsIn_wide.2 (HST.out _ HEW.out))).mono ?_
        rintro e w1 ⟨rfl, hb1⟩
        have HT1 := Aside0.mk (H.out.toPW.drew.below hb1)
        have HKB := Aside0.mk (KeepAtK.below (p := fun k => k = w.heap.size + 1 ∨ k = W0.heap.size ∨ k = W0.heap.size + 1) hb1)
        have HS1 := Aside0.mk hb1.size
        have t3' := HT1.out.a0.cell
        clear hb1
        refine hK _ _ ?_
        clear hK K
        refine wpAnyIn_ready (rs := [0, 3]) (by kernel_rfl) (by simp) ?_
        refine AllReadyIn.cons rfl (fun K hK => ?_) ?_
        · skip
          go_simp
          refine hK _ _ ?_
          clear hK K
          refine wpAnyIn_ready (rs := [3]) (by kernel_rfl) (by simp) (AllReadyIn.cons rfl (fun K hK => ?_) AllReadyIn.nil)
          go_simp
          refine hK _ _ ?_
          clear hK K
          have HT2 := Aside0.mk (HT1.out.alloc (.cells #[.int .i64 (pStep x).f0, .int .i64 (pStep x).f1, .int .i64 (pStep x).f2] 51))
          obtain ⟨h0r, inner, hown, hr⟩ := HT2.out.row
          refine append_anyIn (i := 4) rfl (by rfl) (by kernel_rfl) (.tmp 15) (.tmp 18) 48 rfl w.heap.size 51 i51 (.agg #[.int .i64 0, .int .i64 0, .int .i64 0]) 3 24 Tryd.underlying48 HI51.out hz0 hz1 hz2 rfl (by decide) _ _ _ rfl hown ⟨_, 0, none⟩ 1 1 [.int .i64 (pStep x).f0, .int .i64 (pStep x).f1, .int .i64 (pStep x).f2] rfl rfl (three_cells _ _ rfl (pStep x)) (by simp [Value.oneCell']) (Nat.le_trans (show out.length + 1 ≤ 3000000 by have := HLE.out; omega) (by decide)) (by have := HLE.out; omega) HT2.out.bel.size ?_
          intro v' w3 hown' hgrow _ hat
          obtain ⟨g', cap', rfl⟩ := ownsRow_succ hown'
          obtain ⟨c3, hPW, hKA⟩ := HT2.out.appended (by have := HS1.out; have hd : W.drew.heap.size = W.heap.size := rfl; simp only [World.size_alloc]; omega) HLE.out (pStep x) h0r hr hown' hgrow hat
          have hc3' := c3.cell
          have hf3' := c3.frozen
          have HPW := Aside0.mk hPW
          have HKA := Aside0.mk hKA
          clear hPW hKA c3 hown' hgrow hat h0r hown hr
          refine wpAnyIn_ready (rs := [5]) (by kernel_rfl) (by simp) (AllReadyIn.cons rfl (fun K hK => ?_) AllReadyIn.nil)
          go_simp
          refine hK _ _ ?_
          clear hK K
          refine wpAnyIn_done (by kernel_rfl) ?_ _
          gi_wp2
          exact ⟨((KeepAtK.drew W).trans HKB.out).trans ((KeepAtK.alloc _ _).trans (by rw [hW0s]; exact HKA.out)), _, _, _, HPW.out, HGO.out⟩
        refine AllReadyIn.cons rfl (fun K hK => ?_) ?_
        · skip
          go_simp
          refine hK _ _ ?_
          clear hK K
          have t3a := (HT1.out.alloc (.cells #[.int .i64 (pStep x).f0, .int .i64 (pStep x).f1, .int .i64 (pStep x).f2] 51)).a0.cell
          refine wpAnyIn_ready (rs := [0]) (by kernel_rfl) (by simp) (AllReadyIn.cons rfl (fun K hK => ?_) AllReadyIn.nil)
          go_simp
          refine hK _ _ ?_
          clear hK K
          have HT2 := Aside0.mk (HT1.out.alloc (.cells #[.int .i64 (pStep x).f0, .int .i64 (pStep x).f1, .int .i64 (pStep x).f2] 51))
          obtain ⟨h0r, inner, hown, hr⟩ := HT2.out.row
          refine append_anyIn (i := 4) rfl (by rfl) (by kernel_rfl) (.tmp 15) (.tmp 18) 48 rfl w.heap.size 51 i51 (.agg #[.int .i64 0, .int .i64 0, .int .i64 0]) 3 24 Tryd.underlying48 HI51.out hz0 hz1 hz2 rfl (by decide) _ _ _ rfl hown ⟨_, 0, none⟩ 1 1 [.int .i64 (pStep x).f0, .int .i64 (pStep x).f1, .int .i64 (pStep x).f2] rfl rfl (three_cells _ _ rfl (pStep x)) (by simp [Value.oneCell']) (Nat.le_trans (show out.length + 1 ≤ 3000000 by have := HLE.out; omega) (by decide)) (by have := HLE.out; omega) HT2.out.bel.size ?_
          intro v' w3 hown' hgrow _ hat
          obtain ⟨g', cap', rfl⟩ := ownsRow_succ hown'
          obtain ⟨c3, hPW, hKA⟩ := HT2.out.appended (by have := HS1.out; have hd : W.drew.heap.size = W.heap.size := rfl; simp only [World.size_alloc]; omega) HLE.out (pStep x) h0r hr hown' hgrow hat
          have hc3' := c3.cell
          have hf3' := c3.frozen
          have HPW := Aside0.mk hPW
          have HKA := Aside0.mk hKA
          clear hPW hKA c3 hown' hgrow hat h0r hown hr
          refine wpAnyIn_ready (rs := [5]) (by kernel_rfl) (by simp) (AllReadyIn.cons rfl (fun K hK => ?_) AllReadyIn.nil)
          go_simp
          refine hK _ _ ?_
          clear hK K
          refine wpAnyIn_done (by kernel_rfl) ?_ _
          gi_wp2
          exact ⟨((KeepAtK.drew W).trans HKB.out).trans ((KeepAtK.alloc _ _).trans (by rw [hW0s]; exact HKA.out)), _, _, _, HPW.out, HGO.out⟩
        exact AllReadyIn.nil
      exact AllReadyIn.nil
    exact AllReadyIn.nil
  case done =>
    rintro W ⟨out, v, u, h⟩ hK
    rw [hW0s] at hK
    have hout : out = ps := by rw [h.go, hL, List.take_length, hps.out]
    subst hout
    obtain ⟨A, c, rfl⟩ := Kd.R_slice h.row
    obtain ⟨_, hc, hC⟩ := Kd.R_reads' h.row
    have t3 := h.a0.cell
    have HR : Aside0 (Calls Tryd.prog 27 #[.slice A out.length c, .int .i64 a1, .int .i64 a2] W fun e w' => e = .returned (.bool good) ∧ Below W.heap.size W w') := ⟨by rw [← hgood.out]; exact program_Right.calls A c _ a1 a2 _ W hC hc rfl⟩
    have H := Aside0.mk h
    have HK := Aside0.mk hK
    have HC := Aside0.mk hC
    have HCC := Aside0.mk hc
    have hD : W0.heap.size ≠ w.heap.size := by omega
    clear h hK hC hc hL
    have HEW := Aside0.mk (Env.below HE.out H.out.bel)
    cases good with
    | false =>
      gi_wp2_with (first | (refine ⟨trivial, ?_⟩; gi_at_call 27; refine (callsIn_wide.2 HR.out).mono ?_; rintro e w1 ⟨rfl, hb1⟩; have HB1 := Aside0.mk hb1; clear hb1))
      refine ⟨trivial, ?_⟩
      gi_wp2
      refine ⟨by simp, .inl ⟨_, _, rfl, run_takeDeferred ((HB1.out.block _ (Array.getElem?_eq_some_iff.1 HK.out).1).trans HK.out), ?_⟩⟩
      obtain ⟨e1, e2⟩ := h2.out rfl
      subst e1 e2
      exact ⟨_, results_tmp2 rfl _ _ _, _, rfl, Kd.R_nil _ _ _ _ _, pbelow_put (below_step H.out.bel HB1.out) _ (by omega)⟩
    | true =>
      cases eq with
      | false =>
        gi_wp2_with (first | (refine ⟨trivial, ?_⟩; gi_at_call 27; refine (callsIn_wide.2 HR.out).mono ?_; rintro e w1 ⟨rfl, hb1⟩; have HB1 := Aside0.mk hb1; have t3' := (px_below H.out.a0 hb1).cell; clear hb1))
        refine ⟨trivial, ?_⟩
        refine (callsIn_wide.2 (hT.out trivial A c _ (Kd.C_below HC.out HB1.out) HCC.out (Env.below HEW.out HB1.out))).mono ?_
        rintro e w2 ⟨rfl, hb2⟩
        have HB2 := Aside0.mk hb2
        clear hb2
        gi_wp2
        refine ⟨by simp, .inl ⟨_, _, rfl, run_takeDeferred ((HB2.out.block _ (Nat.lt_of_lt_of_le (Array.getElem?_eq_some_iff.1 HK.out).1 HB1.out.size)).trans ((HB1.out.block _ (Array.getElem?_eq_some_iff.1 HK.out).1).trans HK.out)), ?_⟩⟩
        obtain ⟨e1, e2⟩ := h2.out rfl
        subst e1 e2
        exact ⟨_, results_tmp2 rfl _ _ _, _, rfl, Kd.R_nil _ _ _ _ _, pbelow_put (below_step (below_step H.out.bel HB1.out) HB2.out) _ (by omega)⟩
      | true =>
        gi_wp2_with (first | (refine ⟨trivial, ?_⟩; gi_at_call 27; refine (callsIn_wide.2 HR.out).mono ?_; rintro e w1 ⟨rfl, hb1⟩; have HB1 := Aside0.mk hb1; have t3' := (px_below H.out.a0 hb1).cell; clear hb1))
        refine ⟨trivial, ?_⟩
        refine (callsIn_wide.2 (hT.out trivial A c _ (Kd.C_below HC.out HB1.out) HCC.out (Env.below HEW.out HB1.out))).mono ?_
        rintro e w2 ⟨rfl, hb2⟩
        have HB2 := Aside0.mk hb2
        have t3b := (px_below (px_below H.out.a0 HB1.out) hb2).cell
        clear hb2
        gi_wp2
        refine ⟨by simp, .inl ⟨_, _, rfl, run_takeDeferred ((HB2.out.block _ (Nat.lt_of_lt_of_le (Array.getElem?_eq_some_iff.1 HK.out).1 HB1.out.size)).trans ((HB1.out.block _ (Array.getElem?_eq_some_iff.1 HK.out).1).trans HK.out)), ?_⟩⟩
        obtain ⟨e1, e2⟩ := h1.out rfl
        subst e1 e2
        refine ⟨_, results_tmp2 rfl _ _ _, _, rfl, ?_, pbelow_put (below_step (below_step H.out.bel HB1.out) HB2.out) _ (by omega)⟩
        have d2 := Kd.R_below (Kd.R_below H.out.row HB1.out) HB2.out
        refine Kd.R_mono (Kd.R_step d2 ?_) (fun _ _ => trivial)
        intro k hk _
        exact World.putObj_heap_other (by have := hk.1; omega)
/-- The program's Parse. -/
def pBadKind (o : S51) : Bool := decide (o.f0 < 1) || decide (o.f0 > 7)
def pTextStep (o : S51) : List UInt8 := (vWords.getD o.f0.toNat ⟨#[]⟩).data.toList ++ (([o.f1, o.f2].take (pCount o.f0).toNat).map blankNum).flatten
def pText (l : List S51) : ByteArray := if l.any pBadKind then ⟨#[]⟩ else ⟨(Lib.join (l.map pTextStep) [59, 32]).toArray⟩
def pParse (s : ByteArray) (n p : Int) : List S51 × Int := if pRight (pSteps s) n p && (pText (pSteps s)).data.toList == s.data.toList then (pSteps s, 0) else ([], 10)
def program_Parse.f (s : ByteArray) (n p : Int) : Option (List S51 × Int) := if s.size ≤ 1000000 then some (pParse s n p) else none
end Go.Proofs.YthfjjdkaplibmaaDoor.Pr
