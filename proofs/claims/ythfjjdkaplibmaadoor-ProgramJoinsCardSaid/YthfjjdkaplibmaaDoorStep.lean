import Derived.Test.YthfjjdkaplibmaaDoorGD
import Derived.Test.YthfjjdkaplibmaaDoorPS
namespace Go.Proofs.YthfjjdkaplibmaaDoor.Pr
open Go Go.RowKit Go.Proofs.YthfjjdkaplibmaaDoorW.PrintWords Go.Proofs.YthfjjdkaplibmaaDoorW.PrintMore
attribute [local go_sem] max2_int max_two
set_option linter.unusedVariables false
set_option linter.unusedSimpArgs false

/-! ### A step out of a text -/
def vWords : List ByteArray := [⟨#[]⟩, ⟨#[119, 111, 114, 107]⟩, ⟨#[115, 112, 97, 119, 110]⟩, ⟨#[106, 111, 105, 110]⟩, ⟨#[104, 101, 97, 100]⟩, ⟨#[97, 110, 115, 119, 101, 114]⟩, ⟨#[102, 97, 105, 108]⟩, ⟨#[114, 101, 102, 117, 115, 101]⟩]
def verbCells : Array Value := (vWords.map Value.string).toArray
def top0 (k : Int) : Int := if k < 0 then 0 else k
def pStep (s : ByteArray) : S51 := ⟨top0 (Lib.idxOfS vWords ((splitAll s blankB).getD 0 ⟨#[]⟩)), sNum (splitAll s blankB) 0, sNum (splitAll s blankB) 1⟩
set_option maxRecDepth 100000 in
theorem verbs_in (w : World) : Calls Tryd.prog 60 #[] w fun e w' => e = .returned (.slice (some ⟨w.heap.size, 0, none⟩) 8 8) ∧ w' = w.alloc (.cells verbCells 9) := by
  go_enter Tryd.func60, Tryd.ntmps60
  go_wp2
  go_ret
  exact ⟨rfl, rfl⟩
theorem vidx_calls (B : Nat) (x : ByteArray) (w : World) (hB : w.heap[B]? = some (.cells verbCells 9 (0, 0))) :
    Calls Tryd.prog 40 #[.slice (some ⟨B, 0, none⟩) 8 8, .string x] w fun e w' => e = .returned (.int .i64 (Lib.idxOfS vWords x)) ∧ w' = w := by
  have h := Tryd.slices_Index_string B 0 8 8 vWords x w (by decide) (by omega) (fun j hj => by
    rw [Nat.zero_add, blk_cell hB j]
    exact partCells_at vWords j hj)
  exact h
theorem three_put {W : World} {b : Nat} {t : TypeId} {c0 c1 c2 : Value} (v0 v1 v2 : Value) (h : W.heap[b]? = some (.cells #[c0, c1, c2] t (0, 0))) :
    (((W.setCell ⟨b, 0, none⟩ v0).setCell ⟨b, 1, none⟩ v1).setCell ⟨b, 2, none⟩ v2).heap[b]? = some (.cells #[v0, v1, v2] t (0, 0)) :=
  blk_put (cs := #[v0, v1, c2]) (blk_put (cs := #[v0, c1, c2]) (blk_put h 0 _ rfl) 1 _ rfl) 2 _ rfl
theorem three_below {w W : World} {b : Nat} (v0 v1 v2 : Value) (h : Below w.heap.size w W) (hb : w.heap.size ≤ b) :
    Below w.heap.size w (((W.setCell ⟨b, 0, none⟩ v0).setCell ⟨b, 1, none⟩ v1).setCell ⟨b, 2, none⟩ v2) := below_set (below_set (below_set h hb) hb) hb
theorem three_far {W : World} {b g : Nat} {cs : Array Value} {t : TypeId} (v0 v1 v2 : Value) (h : W.heap[g]? = some (.cells cs t (0, 0))) (hb : g ≠ b) :
    (((W.setCell ⟨b, 0, none⟩ v0).setCell ⟨b, 1, none⟩ v1).setCell ⟨b, 2, none⟩ v2).heap[g]? = some (.cells cs t (0, 0)) := blk_far (blk_far (blk_far h hb _) hb _) hb _
theorem blk_at (W : World) (o : Obj) (n : Nat) (h : W.heap.size = n) : (W.alloc o).heap[n]? = some o := h ▸ blk_new W o
theorem size51 : (Tryd.prog.info? 51).map (·.size) = some 3 := by kernel_rfl
theorem two_new (w : World) (A B : Obj) : ((w.alloc A).alloc B).heap[w.heap.size]? = some A ∧ ((w.alloc A).alloc B).heap[w.heap.size + 1]? = some B := by
  refine ⟨blk_alloc (blk_new _ _) _, ?_⟩
  have h := blk_new (w.alloc A) B
  rwa [show (w.alloc A).heap.size = w.heap.size + 1 from by simp] at h
set_option maxRecDepth 100000 in
set_option maxHeartbeats 2000000 in
theorem step_in (s : ByteArray) (w : World) (hs : s.size ≤ 1000000) (HE : Aside0 (Env w)) (ps : List ByteArray) (hps : Aside0 (splitAll s blankB = ps)) (kd : Int) (hkd : Aside0 (Lib.idxOfS vWords (ps.getD 0 ⟨#[]⟩) = kd))
    (hlen : Aside0 (∀ p, p ∈ ps → p.size ≤ 1000000)) (N0 N1 : Int) (hn0 : Aside0 (sNum ps 0 = N0)) (hn1 : Aside0 (sNum ps 1 = N1)) :
    Calls Tryd.prog 65 #[.string s] w fun e w' => e = .returned (.agg #[.int .i64 (top0 kd), .int .i64 N0, .int .i64 N1]) ∧ Below w.heap.size w w' := by
  have hS : ∀ w, Env w → Calls Tryd.prog 39 #[.string s, .string ⟨#[32]⟩] w fun e w' => e = .returned (.slice (some ⟨w.heap.size, 0, none⟩) ps.length ps.length) ∧ w' = w.alloc (.cells (partCells ps) 9) := by
    intro w hE; rw [← hps.out]; exact split_calls s hs w hE
  have HS := Lib.hid hS
  clear hS
  have hp1 : 1 ≤ ps.length := by rw [← hps.out, splitAll_len s blankB (Nat.le_refl _)]; omega
  have hp2 : ps.length ≤ 1000001 := by rw [← hps.out, splitAll_len s blankB (Nat.le_refl _)]; have := Lib.countB_le blankB (Nat.le_refl _) s.size s (Nat.le_refl _); omega
  obtain ⟨p0, hp0⟩ : ∃ p0, ps.getD 0 ⟨#[]⟩ = p0 := ⟨_, rfl⟩
  have hc0 : (partCells ps)[0]? = some (.string p0) := by rw [← hp0]; exact partCells_at ps 0 (by omega)
  have hI : ∀ B w, w.heap[B]? = some (.cells verbCells 9 (0, 0)) → Calls Tryd.prog 40 #[.slice (some ⟨B, 0, none⟩) 8 8, .string p0] w fun e w' => e = .returned (.int .i64 kd) ∧ w' = w := by
    intro B w hB; rw [← hkd.out, hp0]; exact vidx_calls B p0 w hB
  have HI := Lib.hid hI
  clear hI
  clear hp0
  have hu51 := Tryd.underlying51
  have hbw : Aside0 (Below w.heap.size w w) := ⟨Below.refl _ _⟩
  obtain ⟨K, hK⟩ : ∃ K, top0 kd = K := ⟨_, rfl⟩
  have hK' : (if kd < 0 then 0 else kd) = K := hK
  rw [hK]
  have HK := Aside0.mk hK
  clear hK
  go_enter Tryd.func65, Tryd.ntmps65
  go_wp2_with (go_at_call 39; refine (HS.out _ (Env.below HE.out (by repeat (first | exact hbw.out | apply below_alloc | apply pw_below_drewN | apply below_drew1)))).mono ?_; rintro e w' ⟨rfl, rfl⟩)
  go_upto_region 2 with (fail)
  go_cut [4] (fun v wc => ∃ g, v = .pointer (some ⟨g, 0, none⟩) ∧ w.heap.size + 2 ≤ g ∧ wc.heap[g]? = some (.cells #[.int .i64 K, .int .i64 0, .int .i64 0] 51 (0, 0)) ∧ wc.heap[w.heap.size]? = some (.cells #[.int .i64 0, .int .i64 0, .int .i64 0] 51 (0, 0)) ∧ wc.heap[w.heap.size + 1]? = some (.cells (partCells ps) 9 (0, 0)) ∧ Aside0 (Below w.heap.size w wc))
  case first =>
    go_region_with (first | (go_at_call 60; refine (verbs_in _).mono ?_; rintro e w' ⟨rfl, rfl⟩) | (go_at_call 40; refine (HI.out _ _ (by repeat (first | exact blk_at _ _ _ (by simp; done) | refine blk_drew ?_ | refine blk_alloc ?_ _))).mono ?_; rintro e w' ⟨rfl, rfl⟩))
    all_goals (go_wp2; go_meet; exact ⟨_, rfl, by omega, by repeat (first | exact blk_at _ _ _ (by simp; done) | refine blk_drew ?_ | refine blk_alloc ?_ _), by repeat (first | exact blk_at _ _ _ (by simp; done) | refine blk_drew ?_ | refine blk_alloc ?_ _), by repeat (first | exact blk_at _ _ _ (by simp; done) | refine blk_drew ?_ | refine blk_alloc ?_ _), ⟨by repeat (first | exact Below.refl _ _ | apply below_alloc | apply below_drew1)⟩⟩)
  case rest =>
    rename_i wc
    obtain ⟨g, rfl, hg, hX, hR, hN, HB⟩ := hcut
    clear hc0 hK'
    have HX := Aside0.mk hX
    have HR := Aside0.mk hR
    have HN := Aside0.mk hN
    have hgw : g < wc.heap.size := blk_lt hX
    have hrw : w.heap.size + 1 < wc.heap.size := blk_lt hN
    clear hX hR hN
    go_wp2
    have hst : (wc.alloc (.cells #[.pointer (some ⟨g, 1, none⟩), .pointer (some ⟨g, 2, none⟩)] 111)).heap[wc.heap.size]? = some (.cells #[.pointer (some ⟨g, 1, none⟩), .pointer (some ⟨g, 2, none⟩)] 111 (0, 0)) := blk_new _ _
    have HST := Aside0.mk hst
    clear hst
    go_loopw [20] (fun i wr => ∃ (j : Nat) (x0 x1 : Int), j ≤ 2 ∧ i = .int .i64 j ∧ Aside0 (x0 = if 0 < j then N0 else 0) ∧ Aside0 (x1 = if 1 < j then N1 else 0) ∧ Aside0 (wr.heap[g]? = some (.cells #[.int .i64 K, .int .i64 x0, .int .i64 x1] 51 (0, 0))) ∧ Aside0 (wr.heap[wc.heap.size]? = some (.cells #[.pointer (some ⟨g, 1, none⟩), .pointer (some ⟨g, 2, none⟩)] 111 (0, 0))) ∧ Aside0 (wr.heap[w.heap.size]? = some (.cells #[.int .i64 0, .int .i64 0, .int .i64 0] 51 (0, 0))) ∧ Aside0 (wr.heap[w.heap.size + 1]? = some (.cells (partCells ps) 9 (0, 0))) ∧ Aside0 (Below w.heap.size w wr)) (fun i _ => 4 - (intOf i).toNat)
    case atStart => exact ⟨0, 0, 0, by omega, rfl, ⟨rfl⟩, ⟨rfl⟩, ⟨blk_alloc HX.out _⟩, HST, ⟨blk_alloc HR.out _⟩, ⟨blk_alloc HN.out _⟩, ⟨below_alloc HB.out _⟩⟩
    case round =>
      clear HB HX HR HN HST
      obtain ⟨j, x0, x1, hj, rfl, hx0, hx1, HX, HP, HR, HN, HB⟩ := hrel
      have hE := Aside0.mk (Env.below HE.out HB.out)
      match j, hj, hx0, hx1 with
      | 0, hj, hx0, hx1 =>
        have p0 : wr.cell? ⟨wc.heap.size, 0, none⟩ = some (.pointer (some ⟨g, 1, none⟩)) := (blk_cell HP.out 0).trans rfl
        by_cases hlt : 1 < ps.length
        · have d1 : decide ((1 : Int) < (ps.length : Int)) = true := decide_eq_true (by omega)
          obtain ⟨pj, hpj⟩ : ∃ pj, ps.getD 1 ⟨#[]⟩ = pj := ⟨_, rfl⟩
          have hsz : pj.size ≤ 1000000 := hlen.out pj (by rw [← hpj]; exact getD_mem' ps 1 (by omega))
          have c1 : wr.cell? ⟨w.heap.size + 1, 1, none⟩ = some (.string pj) := by rw [blk_cell HN.out, partCells_at ps 1 (by omega), hpj]
          have HPJ := Lib.hid hpj
          clear hpj
          go_wp2_with (go_at_call 42; refine (atoi_calls pj hsz _ hE.out).mono ?_; rintro e w' ⟨er, rfl, hb'⟩; have q1 := (blk_cell (blk_below HX.out hb') 1).trans rfl; have q2 := blk_frozen (blk_below HX.out hb') 1; have HB' := Aside0.mk hb'; clear hb')
          go_roundw
          case rel => exact ⟨1, (atoiV pj), x1, by omega, by rfl, ⟨by rw [if_pos (by omega), ← hn0.out]; exact (sNum_of ps 0 pj (by omega) HPJ.out).symm⟩, ⟨by have := hx1.out; simpa using this⟩, ⟨blk_put (blk_below HX.out HB'.out) 1 _ rfl⟩, ⟨blk_far (blk_below HP.out HB'.out) (by show wc.heap.size ≠ g; omega) _⟩, ⟨blk_far (blk_below HR.out HB'.out) (by show w.heap.size ≠ g; omega) _⟩, ⟨blk_far (blk_below HN.out HB'.out) (by show w.heap.size + 1 ≠ g; omega) _⟩, ⟨below_set (below_step HB.out HB'.out) (by show w.heap.size ≤ g; omega)⟩⟩
          case measure => simp [intOf]
        · have d1 : decide ((1 : Int) < (ps.length : Int)) = false := decide_eq_false (by omega)
          go_wp2
          go_roundw
          case rel => exact ⟨1, x0, x1, by omega, by rfl, ⟨by have h := hx0.out; rw [if_neg (by omega)] at h; rw [if_pos (by omega), h, ← hn0.out, sNum_zero ps 0 (by omega)]⟩, ⟨by have := hx1.out; simpa using this⟩, HX, HP, HR, HN, HB⟩
          case measure => simp [intOf]
      | 1, hj, hx0, hx1 =>
        have p1 : wr.cell? ⟨wc.heap.size, 1, none⟩ = some (.pointer (some ⟨g, 2, none⟩)) := (blk_cell HP.out 1).trans rfl
        by_cases hlt : 2 < ps.length
        · have d1 : decide ((2 : Int) < (ps.length : Int)) = true := decide_eq_true (by omega)
          obtain ⟨pj, hpj⟩ : ∃ pj, ps.getD 2 ⟨#[]⟩ = pj := ⟨_, rfl⟩
          have hsz : pj.size ≤ 1000000 := hlen.out pj (by rw [← hpj]; exact getD_mem' ps 2 (by omega))
          have c1 : wr.cell? ⟨w.heap.size + 1, 2, none⟩ = some (.string pj) := by rw [blk_cell HN.out, partCells_at ps 2 (by omega), hpj]
          have HPJ := Lib.hid hpj
          clear hpj
          go_wp2_with (go_at_call 42; refine (atoi_calls pj hsz _ hE.out).mono ?_; rintro e w' ⟨er, rfl, hb'⟩; have q1 := (blk_cell (blk_below HX.out hb') 2).trans rfl; have q2 := blk_frozen (blk_below HX.out hb') 2; have HB' := Aside0.mk hb'; clear hb')
          go_roundw
          case rel => exact ⟨2, x0, (atoiV pj), by omega, by rfl, ⟨by have := hx0.out; simpa using this⟩, ⟨by rw [if_pos (by omega), ← hn1.out]; exact (sNum_of ps 1 pj (by omega) HPJ.out).symm⟩, ⟨blk_put (blk_below HX.out HB'.out) 2 _ rfl⟩, ⟨blk_far (blk_below HP.out HB'.out) (by show wc.heap.size ≠ g; omega) _⟩, ⟨blk_far (blk_below HR.out HB'.out) (by show w.heap.size ≠ g; omega) _⟩, ⟨blk_far (blk_below HN.out HB'.out) (by show w.heap.size + 1 ≠ g; omega) _⟩, ⟨below_set (below_step HB.out HB'.out) (by show w.heap.size ≤ g; omega)⟩⟩
          case measure => simp [intOf]
        · have d1 : decide ((2 : Int) < (ps.length : Int)) = false := decide_eq_false (by omega)
          go_wp2
          go_roundw
          case rel => exact ⟨2, x0, x1, by omega, by rfl, ⟨by have := hx0.out; simpa using this⟩, ⟨by have h := hx1.out; rw [if_neg (by omega)] at h; rw [if_pos (by omega), h, ← hn1.out, sNum_zero ps 1 (by omega)]⟩, HX, HP, HR, HN, HB⟩
          case measure => simp [intOf]
      | 2, hj, hx0, hx1 =>
        have e0 : x0 = N0 := hx0.out
        have e1 : x1 = N1 := hx1.out
        subst e0 e1
        have c0 : wr.cell? ⟨g, 0, none⟩ = some (.int .i64 K) := (blk_cell HX.out 0).trans rfl
        have c1 : wr.cell? ⟨g, 1, none⟩ = some (.int .i64 x0) := (blk_cell HX.out 1).trans rfl
        have c2 : wr.cell? ⟨g, 2, none⟩ = some (.int .i64 x1) := (blk_cell HX.out 2).trans rfl
        have k0 : wr.cell? ⟨w.heap.size, 0, none⟩ = some (.int .i64 0) := (blk_cell HR.out 0).trans rfl
        have k1 : wr.cell? ⟨w.heap.size, 1, none⟩ = some (.int .i64 0) := (blk_cell HR.out 1).trans rfl
        have k2 : wr.cell? ⟨w.heap.size, 2, none⟩ = some (.int .i64 0) := (blk_cell HR.out 2).trans rfl
        have z0 : wr.frozen? ⟨w.heap.size, 0, none⟩ = false := blk_frozen HR.out 0
        have z1 : wr.frozen? ⟨w.heap.size, 1, none⟩ = false := blk_frozen HR.out 1
        have z2 : wr.frozen? ⟨w.heap.size, 2, none⟩ = false := blk_frozen HR.out 2
        go_wp2
        refine bodyPost_ret (results_cell_row rfl _ _ w.heap.size 51 #[.int .i64 K, .int .i64 x0, .int .i64 x1] (0, 0) _ rfl (three_put _ _ _ HR.out) Tryd.underlying51 rfl size51) rfl ?_
        exact ⟨rfl, three_below _ _ _ HB.out (Nat.le_refl _)⟩
      | (n + 3), hj, hx0, hx1 => exact absurd hj (by omega)
def step_f (s : ByteArray) : Option S51 := if s.size ≤ 1000000 then some (pStep s) else none
theorem step_calls (s : ByteArray) (w : World) (hs : s.size ≤ 1000000) (hE : Env w) :
    Calls Tryd.prog 65 #[.string s] w fun e w' => e = .returned (.agg #[.int .i64 (pStep s).f0, .int .i64 (pStep s).f1, .int .i64 (pStep s).f2]) ∧ Below w.heap.size w w' :=
  step_in s w hs ⟨hE⟩ (splitAll s blankB) ⟨rfl⟩ _ ⟨rfl⟩ ⟨fun p hp => Nat.le_trans (splitB_size _ _ _ _ p hp) hs⟩ _ _ ⟨rfl⟩ ⟨rfl⟩
end Go.Proofs.YthfjjdkaplibmaaDoor.Pr
