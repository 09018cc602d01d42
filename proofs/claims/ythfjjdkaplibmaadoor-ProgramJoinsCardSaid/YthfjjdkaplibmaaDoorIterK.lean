import Derived.Test.YthfjjdkaplibmaaDoorSeqK
import Derived.Test.YthfjjdkaplibmaaDoorGB
import Derived.RangeFuncNested
import Derived.RangeFuncCalls
import Derived.RangeFuncLeaves
import Derived.Shelf.RegionOpen
import Derived.WalkKit
import Derived.OwnWalkIn
import Derived.TacticsInMore
import Derived.LoopNIn
import Derived.LoopIn
import Derived.Outline
import Derived.Lib.SplitLaws
namespace Go.Proofs.YthfjjdkaplibmaaDoor.Pr
open Go Go.RowKit Go.Proofs.YthfjjdkaplibmaaDoorW.PrintWords
attribute [local go_sem] Oper.semAt_some
set_option linter.unusedVariables false
set_option linter.unusedSimpArgs false

def strLenK (sB : Nat) (w : World) : Nat := match w.cell? ⟨sB, 0, none⟩ with
  | some (.string s) => s.size
  | _ => 0
theorem strLenK_of {sB : Nat} {w : World} {s : ByteArray} (h : w.cell? ⟨sB, 0, none⟩ = some (.string s)) : strLenK sB w = s.size := by unfold strLenK; rw [h]
/-- What the iterator of SplitSeq reads besides its own cell. -/
structure SplitK (cB vB : Nat) (sep : ByteArray) (W : World) : Prop where
  sep : Boxed W cB 9 (.string sep)
  save : Boxed W vB 3 (.int .i64 0)
  env : Env W
theorem split_step {sep si : ByteArray} {L : List ByteArray} {i m : Nat} (h : splitAll si sep = L.drop i) (h1 : 1 ≤ sep.size) (hm : Lib.index si.data.toList sep.data.toList = m) :
    L[i]? = some (si.extract 0 m) ∧ splitAll (si.extract (m + sep.size) si.size) sep = L.drop (i + 1) ∧ i + 1 ≤ L.length := by
  have hm' : Lib.indexB si sep = m := hm
  unfold splitAll at h ⊢
  rw [Lib.countB_hit si sep m h1 hm', Nat.add_comm, Lib.splitB_hit sep 0 _ si m hm'] at h
  have hl : i < L.length := by
    apply Classical.byContradiction
    intro hn
    rw [List.drop_eq_nil_iff.2 (by omega)] at h
    cases h
  rw [List.drop_eq_getElem_cons hl] at h
  injection h with h1 h2
  exact ⟨by rw [List.getElem?_eq_getElem hl, ← h1]; rfl, h2, hl⟩
theorem split_last {sep si : ByteArray} {L : List ByteArray} {i : Nat} (h : splitAll si sep = L.drop i) (hm : Lib.index si.data.toList sep.data.toList = -1) :
    L[i]? = some si ∧ L.length = i + 1 := by
  have hm' : Lib.indexB si sep = -1 := hm
  unfold splitAll at h
  rw [Lib.splitB_miss sep 0 _ si hm'] at h
  have hl : i < L.length := by
    apply Classical.byContradiction
    intro hn
    rw [List.drop_eq_nil_iff.2 (by omega)] at h
    cases h
  rw [List.drop_eq_getElem_cons hl] at h
  injection h with h1 h2
  refine ⟨by rw [List.getElem?_eq_getElem hl, ← h1], ?_⟩
  have := List.drop_eq_nil_iff.1 h2.symm
  omega
set_option maxRecDepth 100000 in
set_option maxHeartbeats 2000000 in
theorem split_gives (n : Nat) (hd : 1 ≤ n) (cB sB vB : Nat) (s sep : ByteArray) (hs : s.size ≤ 1000000) (hsep : 1 ≤ sep.size) (hsep2 : sep.size ≤ 1000) (hne1 : cB ≠ sB) (hne2 : vB ≠ sB) :
    GivesK Fence.wide n Tryd.prog 96 #[.pointer (some ⟨cB, 0, none⟩), .pointer (some ⟨sB, 0, none⟩), .pointer (some ⟨vB, 0, none⟩)] (fun b : ByteArray => Value.string b) (splitAll s sep) sB (.cells #[.string s] 9 (0, 0)) (SplitK cB vB sep) := by
  intro l J Jx W hJ hJd hJk hS hY h0
  have HJ := Aside0.mk hJ
  have HJd := Aside0.mk hJd
  have HJk := Aside0.mk hJk
  have HY := Aside0.mk hY
  have k0 := hJk _ _ h0
  have kc := k0.sep.cell
  have kz : ((sep.size : Int) == 0) = false := beq_eq_false_iff_ne.2 (by omega)
  have kz' : (sep.size == 0) = false := beq_eq_false_iff_ne.2 (by omega)
  clear hJd hJk hJ hY k0
  refine callsIn_of_wp Tryd.func96 rfl trivial ?_ rfl
  simp only [Tryd.ntmps96, List.size_toArray, List.length_cons, List.length_nil, Nat.reduceAdd, Nat.reduceSub, Array.replicate_succ, Array.replicate_zero, List.push_toArray, List.append_toArray, List.nil_append, List.cons_append]
  gi_wp2
  clear kc
  gi_loopw [7, 8] (fun v7 v8 wr => ∃ (i : Nat) (si : ByteArray), Boxed wr sB 9 (.string si) ∧ si.size ≤ 1000000 ∧ Aside0 (splitAll si sep = (splitAll s sep).drop i) ∧ Aside0 (J i wr)) (fun _ _ wr => strLenK sB wr)
  case atStart => exact ⟨0, s, hS, hs, ⟨rfl⟩, ⟨h0⟩⟩
  case round =>
    clear hS h0
    obtain ⟨i, si, hB, hsi, hraw, hJ⟩ := hrel
    have hK := HJk.out _ _ hJ.out
    obtain ⟨mx, hmx⟩ := hK.env.mlen
    have hc := hB.cell
    have hf := hB.frozen
    have hcs := hK.sep.cell
    have hcv := hK.save.cell
    have hI : ∀ w m, w.cell? ⟨2, 0, none⟩ = some (.int .i64 m) → Calls Tryd.prog 85 #[.string si, .string sep] w fun e w' => e = .returned (.int .i64 (Lib.index si.data.toList sep.data.toList)) ∧ w' = w := fun w m hm => Tryd.strings_Index si sep m w (by omega) hm
    by_cases h2 : Lib.index si.data.toList sep.data.toList = -1
    · rw [h2] at hI
      obtain ⟨hx, hlen⟩ := split_last hraw.out h2
      obtain ⟨fn, tmps, assign, body, hy, hR⟩ := HY.out i _ wr hx hJ.out
      have HI := Aside0.mk (hI wr mx hmx)
      have HR := Aside0.mk hR
      have HL := Aside0.mk hlen
      clear hI hR hlen hmx hK h2 hx
      gi_wp2_with (first | (refine ⟨trivial, ?_⟩; gi_at_call 85; refine (callsIn_wide.2 HI.out).mono ?_; rintro e w' ⟨rfl, rfl⟩))
      refine HR.out.mono ?_
      rintro e W3 (⟨rfl, hJ3, hk3⟩ | ⟨rfl, hx3⟩)
      · have HJ3 := Aside0.mk hJ3
        clear hJ3 hk3 hy
        gi_wp2
        go_end0
        refine ⟨⟨_, rfl⟩, .inl ?_⟩
        rw [HL.out]
        exact HJ3.out
      · have HX3 := Aside0.mk hx3
        clear hx3 hy
        gi_wp2
        go_end0
        exact ⟨⟨_, rfl⟩, .inr HX3.out⟩
    · obtain ⟨m, hm⟩ : ∃ m : Nat, Lib.index si.data.toList sep.data.toList = m := ⟨(Lib.index si.data.toList sep.data.toList).toNat, by have := Lib.index_ge si.data.toList sep.data.toList; omega⟩
      rw [hm] at hI
      obtain ⟨hx, hr', hl'⟩ := split_step hraw.out hsep hm
      have hroom : m + sep.size ≤ si.size := by
        have h3 := Lib.index_room si.data.toList sep.data.toList (by omega)
        rw [hm] at h3
        have e : si.data.toList.length = si.size := Array.length_toList
        have e2 : sep.data.toList.length = sep.size := Array.length_toList
        omega
      obtain ⟨fn, tmps, assign, body, hy, hR⟩ := HY.out i _ wr hx hJ.out
      have HI := Aside0.mk (hI wr mx hmx)
      have HR := Aside0.mk hR
      have HR' := Aside0.mk hr'
      have HM := Lib.hid hm
      clear hI hR hmx hK hm h2 hx hr' hl'
      gi_wp2_with (first | (refine ⟨trivial, ?_⟩; gi_at_call 85; refine (callsIn_wide.2 HI.out).mono ?_; rintro e w' ⟨rfl, rfl⟩))
      refine HR.out.mono ?_
      rintro e W3 (⟨rfl, hJ3, hk3⟩ | ⟨rfl, hx3⟩)
      · have hB3 : Boxed W3 sB 9 (.string si) := hk3.trans hB
        have hK3 := HJk.out _ _ hJ3
        have hc3 := hB3.cell
        have hf3 := hB3.frozen
        have hcs3 := hK3.sep.cell
        have HB3 := Aside0.mk hB3
        have HJ3 := Aside0.mk (HJ.out _ _ (.string (si.extract (m + sep.size) si.size)) hJ3)
        have HB0 := Aside0.mk hB
        clear hB3 hJ3 hk3 hy hK3 hB hc hf hcs hcv
        gi_wp2
        go_roundw
        case rel => exact ⟨i + 1, _, HB3.out.set _, by rw [ByteArray.size_extract]; omega, HR', HJ3⟩
        case measure => rw [strLenK_of (HB3.out.set _).cell, strLenK_of HB0.out.cell, ByteArray.size_extract]; omega
      · have HX3 := Aside0.mk hx3
        clear hx3 hy
        gi_wp2
        refine bodyPost_ret (results_none rfl _ _ _) rfl ?_
        exact ⟨⟨_, rfl⟩, .inr HX3.out⟩
theorem splitseq_calls (s sep : ByteArray) (w : World) : Calls Tryd.prog 64 #[.string s, .string sep] w fun e w' => e = .returned (.func (.func 96) #[] #[.pointer (some ⟨w.heap.size + 1, 0, none⟩), .pointer (some ⟨w.heap.size, 0, none⟩), .pointer (some ⟨w.heap.size + 2, 0, none⟩)]) ∧ w' = ((w.alloc (.cells #[.string s] 9)).alloc (.cells #[.string sep] 9)).alloc (.cells #[.int .i64 0] 3) := by
  go_enter Tryd.func64, Tryd.ntmps64
  go_wp2
  go_ret
  exact ⟨by simp, rfl⟩
end Go.Proofs.YthfjjdkaplibmaaDoor.Pr
