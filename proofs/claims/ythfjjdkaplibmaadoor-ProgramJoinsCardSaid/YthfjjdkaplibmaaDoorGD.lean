/- My texts Text, Parse, Lines, Seq, Iter, Read, put together by wip/pack.py. -/
import Derived.Test.YthfjjdkaplibmaaDoorGC
import Derived.Outline
import Derived.Deep.RegionWith
import Derived.Deep.DeepCutAuto
import Derived.Lib.ItoaLen
import Derived.Shelf.Strings.MapGrows
import Derived.RangeFuncIn
import Derived.RangeFuncRecord
import Derived.RangeFuncSeq
import Derived.RangeFuncOwn
import Derived.RangeFuncWrites
import Derived.Below
import Derived.Test.YthfjjdkaplibmaaDoorGB
import Derived.RangeFuncNested
import Derived.RangeFuncCalls
import Derived.RangeFuncLeaves
import Derived.Shelf.RegionOpen
import Derived.WalkKit
import Derived.OwnWalkIn
import Derived.TacticsInMore
import Derived.LoopNIn
import Derived.LoopIn
import Derived.Maps.OwnIn
import Derived.Maps.AppendAt

namespace Go.Proofs.YthfjjdkaplibmaaDoor.Pr
open Go.RowKit Go.Proofs.YthfjjdkaplibmaaDoorW.PrintWords
set_option linter.unusedVariables false
set_option linter.unusedSimpArgs false
def wordCells : Array Value := (sWords.map Value.string).toArray
set_option maxRecDepth 100000 in
theorem words_calls (w : World) : Calls Tryd.prog 41 #[] w fun e w' => e = .returned (.slice (some ⟨w.heap.size, 0, none⟩) 12 12) ∧ w' = w.alloc (.cells wordCells 9) := by
  go_enter Tryd.func41, Tryd.ntmps41
  go_wp2
  go_ret
  exact ⟨rfl, rfl⟩
theorem itoa_len (n : Int) (h0 : -9223372036854775808 ≤ n) (h1 : n ≤ 9223372036854775807) : (itoaB n).size ≤ 21 := by
  unfold itoaB; rw [ba_size]; exact Lib.itoa_length_le n h0 h1
theorem itoa_calls (n : Int) (h : is64 n = true) (w : World) (hE : Env w) : Calls Tryd.prog 49 #[.int .i64 n] w fun e w' => ∃ s : ByteArray, e = .returned (.string s) ∧ Aside0 (s = itoaB n) ∧ s.size ≤ 21 ∧ Below w.heap.size w w' := by
  have h' : -9223372036854775808 ≤ n ∧ n ≤ 9223372036854775807 := of_decide_eq_true h
  exact (strconv_Itoa.calls n (itoaB n) w (by unfold strconv_Itoa.f; rw [if_pos h']) hE).mono fun e w' ⟨he, hb⟩ => ⟨_, he, ⟨rfl⟩, itoa_len n h'.1 h'.2, hb⟩
/-- The text behind the word, j numbers told. -/
def numsTo (k a b c d : Int) (j : Nat) : List UInt8 := (([a, b, c, d].take j).map blankNum).flatten
def wordL (k : Int) : List UInt8 := (sWords.getD k.toNat ⟨#[]⟩).data.toList
theorem word_at (k : Int) (h1 : 1 ≤ k) (h2 : k ≤ 11) : wordCells[k.toNat]? = some (.string (sWords.getD k.toNat ⟨#[]⟩)) ∧ (sWords.getD k.toNat ⟨#[]⟩).size ≤ 7 := by
  obtain ⟨m, rfl⟩ : ∃ m : Nat, k = m := ⟨k.toNat, by omega⟩
  rw [Int.toNat_natCast]
  match m, (show 1 ≤ m by omega), (show m ≤ 11 by omega) with
  | 1, _, _ => exact ⟨rfl, by decide⟩
  | 2, _, _ => exact ⟨rfl, by decide⟩
  | 3, _, _ => exact ⟨rfl, by decide⟩
  | 4, _, _ => exact ⟨rfl, by decide⟩
  | 5, _, _ => exact ⟨rfl, by decide⟩
  | 6, _, _ => exact ⟨rfl, by decide⟩
  | 7, _, _ => exact ⟨rfl, by decide⟩
  | 8, _, _ => exact ⟨rfl, by decide⟩
  | 9, _, _ => exact ⟨rfl, by decide⟩
  | 10, _, _ => exact ⟨rfl, by decide⟩
  | 11, _, _ => exact ⟨rfl, by decide⟩
theorem sText_of (k a b c d : Int) (h1 : 1 ≤ k) (h2 : k ≤ 11) (s : ByteArray) (hs : s.data.toList = wordL k ++ numsTo k a b c d (sHas k)) : s = sText k a b c d := by
  unfold sText sTextL
  rw [if_pos ⟨h1, h2⟩]
  exact ba_ext (by rw [hs]; rfl)
theorem numsTo_1 (k a b c d : Int) : numsTo k a b c d 1 = numsTo k a b c d 0 ++ blankNum a := by simp [numsTo]
theorem numsTo_2 (k a b c d : Int) : numsTo k a b c d 2 = numsTo k a b c d 1 ++ blankNum b := by simp [numsTo]
theorem numsTo_3 (k a b c d : Int) : numsTo k a b c d 3 = numsTo k a b c d 2 ++ blankNum c := by simp [numsTo]
theorem numsTo_4 (k a b c d : Int) : numsTo k a b c d 4 = numsTo k a b c d 3 ++ blankNum d := by simp [numsTo]
theorem text_snoc (l x : List UInt8) (s r : ByteArray) (n : Int) (hs : s.data.toList = l ++ x) (hr : r = itoaB n) : (s ++ (⟨#[32]⟩ ++ r)).data.toList = l ++ (x ++ blankNum n) := by
  subst hr
  simp [hs, itoaB, blankNum]
theorem take_has (k : Int) (j : Nat) (h : sHasI k = j) : sHas k = j := by unfold sHasI at h; omega

theorem two_blocks (w : World) (A B C : Obj) (n : Nat) :
    ((((w.alloc A).drewN n).alloc B).alloc C).drew.heap[w.heap.size]? = some A ∧ ((((w.alloc A).drewN n).alloc B).alloc C).drew.heap[w.heap.size + 1]? = some B := by
  refine ⟨blk_drew (blk_alloc (blk_alloc (blk_drewN (blk_new _ _) _) _) _), blk_drew (blk_alloc ?_ _)⟩
  have h := blk_new ((w.alloc A).drewN n) B
  rwa [show ((w.alloc A).drewN n).heap.size = w.heap.size + 1 from by simp] at h
set_option maxRecDepth 100000 in
set_option maxHeartbeats 1000000 in
theorem script_Text_in (k a b c d : Int) (w : World) (hk : 1 ≤ k) (hk2 : k ≤ 11) (ha : Aside0 (is64 a = true)) (hb : Aside0 (is64 b = true)) (hc : Aside0 (is64 c = true)) (hd : Aside0 (is64 d = true)) (HE : Aside0 (Env w)) :
    Calls Tryd.prog 17 #[.agg #[.int .i64 k, .int .i64 a, .int .i64 b, .int .i64 c, .int .i64 d]] w fun e w' => e = .returned (.string (sText k a b c d)) ∧ Below w.heap.size w w' := by
  obtain ⟨wd, hwd, hws, hwl⟩ : ∃ wd : ByteArray, wordCells[k.toNat]? = some (.string wd) ∧ wd.size ≤ 7 ∧ Aside0 (wd.data.toList = wordL k) := ⟨_, (word_at k hk hk2).1, (word_at k hk hk2).2, ⟨rfl⟩⟩
  obtain ⟨H, hH⟩ : ∃ H : Nat, sHas k = H := ⟨_, rfl⟩
  have hp1 : 1 ≤ H := by have := (sHas_pos k).1; omega
  have hp2 : H ≤ 4 := by have := (sHas_pos k).2; omega
  have hsl : ∀ W, (Instr.sliceAt 70 (.pointer (some ⟨w.heap.size + 1, 0, none⟩)) none (some (.int .i64 (H : Int))) none).run Tryd.prog W = .ok (.slice (some ⟨w.heap.size + 1, 0, none⟩) H 4) W := fun W => by
    have hal : Tryd.prog.arrayLen 70 = 4 := by simp [Program.arrayLen, Tryd.underlying70]
    rw [run_sliceAt_array_h W 70 ⟨w.heap.size + 1, 0, none⟩ (by simp [Program.arrayLen, Program.elem, Tryd.underlying70]) .i64 (H : Int) (by omega) (by rw [hal]; omega)]
    go_simp
  have hcall : ∀ w, Calls Tryd.prog 48 #[.int .i64 k] w fun e w' => e = .returned (.int .i64 (H : Int)) ∧ ∃ n, w' = w.drewN n := by intro w; rw [← hH]; exact script_has_calls k w
  have HC := Lib.hid hcall
  have HH := Lib.hid hH
  clear hH hcall
  go_enter Tryd.func17, Tryd.ntmps17
  go_wp2_with (first | (go_at_call 47; refine (script_is_yes k hk hk2 _).mono ?_; rintro e w' ⟨rfl, n1, rfl⟩))
  go_upto_region 4 with (fail)
  go_cut [4] (fun v wc => v = .string wd ∧ wc.heap[w.heap.size]? = some (.cells #[.int .i64 k, .int .i64 a, .int .i64 b, .int .i64 c, .int .i64 d] 24 (0, 0)) ∧ wc.heap[w.heap.size + 1]? = some (.cells #[.int .i64 a, .int .i64 b, .int .i64 c, .int .i64 d] 70 (0, 0)) ∧ Aside0 (Below w.heap.size w wc))
  case first =>
    have hB1 : ∀ n1 o1 o2 o3, Below w.heap.size w ((((w.alloc o1).drewN n1).alloc o2).alloc o3) := fun n1 o1 o2 o3 => ((pw_below_drewN ((Below.refl _ _).alloc (Nat.le_refl _) _) n1).alloc (by simp) _).alloc (by simp; omega) _
    have HB1 := Aside0.mk hB1
    clear hB1
    go_region_with (go_at_call 41; refine (words_calls _).mono ?_; rintro e w' ⟨rfl, rfl⟩)
    all_goals (go_wp2; go_meet; exact ⟨rfl, (two_blocks _ _ _ _ _).1, (two_blocks _ _ _ _ _).2, ⟨below_drew (HB1.out _ _ _ _)⟩⟩)
  case rest =>
    clear hwd
    rename_i wc
    obtain ⟨rfl, hK, hN, HB⟩ := hcut
    have e0 : wc.cell? ⟨w.heap.size, 0, none⟩ = some (.int .i64 k) := (blk_cell hK 0).trans rfl
    go_wp2_with (first | (go_at_call 48; refine (HC.out _).mono ?_; rintro e w' ⟨rfl, n2, rfl⟩))
    clear e0
    have hwn : w.heap.size + 1 < wc.heap.size := blk_lt hN
    clear hK
    have HN := Aside0.mk hN
    clear hN
    go_loopw [4, 30] (fun v i wr => ∃ (j : Nat) (s : ByteArray), j ≤ H ∧ i = .int .i64 j ∧ v = .string s ∧ s.size ≤ 7 + 22 * j ∧ Aside0 (s.data.toList = wordL k ++ numsTo k a b c d j) ∧ Aside0 (wr.heap[w.heap.size + 1]? = some (.cells #[.int .i64 a, .int .i64 b, .int .i64 c, .int .i64 d] 70 (0, 0))) ∧ Aside0 (Below w.heap.size w wr)) (fun _ i _ => 4 - (intOf i).toNat)
    case atStart => exact ⟨0, wd, by omega, rfl, rfl, by omega, ⟨by rw [hwl.out]; simp [numsTo]⟩, ⟨blk_drewN HN.out _⟩, ⟨pw_below_drewN HB.out _⟩⟩
    case round =>
      clear HB HN
      obtain ⟨j, s, hj, rfl, rfl, hs, HS, HN, HB⟩ := hrel
      have hE := Aside0.mk (Env.below HE.out HB.out)
      by_cases hlt : j < H
      · match j, hj, hlt, hs, HS with
        | 0, hj, hlt, hs, HS =>
          have e0 : wr.cell? ⟨w.heap.size + 1, 0, none⟩ = some (.int .i64 a) := (blk_cell HN.out 0).trans rfl
          go_wp2_with (go_at_call 49; refine (itoa_calls a ha.out _ hE.out).mono ?_; rintro e w' ⟨r1, rfl, hr1, hr2, hb'⟩)
          go_roundw
          case rel => exact ⟨1, _, by omega, by rfl, rfl, by simp only [ByteArray.size_append]; have : (⟨#[32]⟩ : ByteArray).size = 1 := rfl; omega, ⟨by rw [numsTo_1]; exact text_snoc _ _ _ _ _ HS.out hr1.out⟩, ⟨blk_below HN.out hb'⟩, ⟨below_step HB.out hb'⟩⟩
          case measure => simp [intOf]
        | 1, hj, hlt, hs, HS =>
          have e1 : wr.cell? ⟨w.heap.size + 1, 1, none⟩ = some (.int .i64 b) := (blk_cell HN.out 1).trans rfl
          go_wp2_with (go_at_call 49; refine (itoa_calls b hb.out _ hE.out).mono ?_; rintro e w' ⟨r1, rfl, hr1, hr2, hb'⟩)
          go_roundw
          case rel => exact ⟨2, _, by omega, by rfl, rfl, by simp only [ByteArray.size_append]; have : (⟨#[32]⟩ : ByteArray).size = 1 := rfl; omega, ⟨by rw [numsTo_2]; exact text_snoc _ _ _ _ _ HS.out hr1.out⟩, ⟨blk_below HN.out hb'⟩, ⟨below_step HB.out hb'⟩⟩
          case measure => simp [intOf]
        | 2, hj, hlt, hs, HS =>
          have e2 : wr.cell? ⟨w.heap.size + 1, 2, none⟩ = some (.int .i64 c) := (blk_cell HN.out 2).trans rfl
          go_wp2_with (go_at_call 49; refine (itoa_calls c hc.out _ hE.out).mono ?_; rintro e w' ⟨r1, rfl, hr1, hr2, hb'⟩)
          go_roundw
          case rel => exact ⟨3, _, by omega, by rfl, rfl, by simp only [ByteArray.size_append]; have : (⟨#[32]⟩ : ByteArray).size = 1 := rfl; omega, ⟨by rw [numsTo_3]; exact text_snoc _ _ _ _ _ HS.out hr1.out⟩, ⟨blk_below HN.out hb'⟩, ⟨below_step HB.out hb'⟩⟩
          case measure => simp [intOf]
        | 3, hj, hlt, hs, HS =>
          have e3 : wr.cell? ⟨w.heap.size + 1, 3, none⟩ = some (.int .i64 d) := (blk_cell HN.out 3).trans rfl
          go_wp2_with (go_at_call 49; refine (itoa_calls d hd.out _ hE.out).mono ?_; rintro e w' ⟨r1, rfl, hr1, hr2, hb'⟩)
          go_roundw
          case rel => exact ⟨4, _, by omega, by rfl, rfl, by simp only [ByteArray.size_append]; have : (⟨#[32]⟩ : ByteArray).size = 1 := rfl; omega, ⟨by rw [numsTo_4]; exact text_snoc _ _ _ _ _ HS.out hr1.out⟩, ⟨blk_below HN.out hb'⟩, ⟨below_step HB.out hb'⟩⟩
          case measure => simp [intOf]
        | (n + 4), hj, hlt, hs, HS => exact absurd hlt (by omega)
      · have ej : H = j := by omega
        have EJ := Lib.hid ej
        clear ej
        go_wp2
        go_ret
        refine ⟨?_, HB.out⟩
        have e1 : sHas k = j := HH.out.trans EJ.out
        rw [sText_of k a b c d hk hk2 s (by rw [e1]; exact HS.out)]
        rfl

theorem script_Text.calls (a0_0 : Int) (a0_1 : Int) (a0_2 : Int) (a0_3 : Int) (a0_4 : Int) (r : ByteArray) (w : World) (h : script_Text.f a0_0 a0_1 a0_2 a0_3 a0_4 = some r) (hE : Env w) :
    Calls Tryd.prog 17 #[.agg #[.int .i64 a0_0, .int .i64 a0_1, .int .i64 a0_2, .int .i64 a0_3, .int .i64 a0_4]] w fun e w' => e = .returned (.string r) ∧ Below w.heap.size w w' := by
  unfold script_Text.f at h
  split at h
  · rename_i hb
    obtain rfl := Option.some.inj h
    simp only [Bool.and_eq_true] at hb
    obtain ⟨⟨⟨h1, h2⟩, h3⟩, h4⟩ := hb
    by_cases hk : 1 ≤ a0_0 ∧ a0_0 ≤ 11
    · exact script_Text_in _ _ _ _ _ w hk.1 hk.2 ⟨h1⟩ ⟨h2⟩ ⟨h3⟩ ⟨h4⟩ ⟨hE⟩
    · have e : sText a0_0 a0_1 a0_2 a0_3 a0_4 = ⟨#[]⟩ := by unfold sText sTextL; rw [if_neg hk]
      rw [e]
      clear h1 h2 h3 h4 hE
      go_enter Tryd.func17, Tryd.ntmps17
      go_wp2_with (first | (go_at_call 47; refine (script_is_no a0_0 hk _).mono ?_; rintro e w' ⟨rfl, n1, rfl⟩))
      go_ret
      exact ⟨rfl, pw_below_drewN ((Below.refl _ _).alloc (Nat.le_refl _) _) _⟩
  · cases h
end Go.Proofs.YthfjjdkaplibmaaDoor.Pr

namespace Go.Proofs.YthfjjdkaplibmaaDoor.Pr
open Go.RowKit Go.Proofs.YthfjjdkaplibmaaDoorW.PrintWords
set_option linter.unusedVariables false
set_option linter.unusedSimpArgs false

/-! ### The library's calls -/
def partCells (ps : List ByteArray) : Array Value := (ps.map Value.string).toArray
theorem partCells_at (ps : List ByteArray) (i : Nat) (h : i < ps.length) : (partCells ps)[i]? = some (.string (ps.getD i ⟨#[]⟩)) := by
  simp [partCells, List.getD, h]
theorem blankB_size : blankB.size = 1 := rfl
theorem splitAll_len (s sep : ByteArray) (h : 1 ≤ sep.size) : (splitAll s sep).length = Lib.countB s sep + 1 := Lib.splitB_all sep h 0 _ s rfl
theorem split_calls (s : ByteArray) (hs : s.size ≤ 1000000) (w : World) (hE : Env w) :
    Calls Tryd.prog 39 #[.string s, .string ⟨#[32]⟩] w fun e w' =>
      e = .returned (.slice (some ⟨w.heap.size, 0, none⟩) (splitAll s blankB).length (splitAll s blankB).length) ∧ w' = w.alloc (.cells (partCells (splitAll s blankB)) 9) := by
  obtain ⟨m, hm⟩ := hE.mlen
  have h := Tryd.strings_Split s ⟨#[32]⟩ m w (by omega) hm (Nat.le_refl _)
  rw [splitAll_len s blankB (Nat.le_refl _)]
  exact h
theorem idx_calls (B : Nat) (x : ByteArray) (w : World) (hB : w.heap[B]? = some (.cells wordCells 9 (0, 0))) :
    Calls Tryd.prog 40 #[.slice (some ⟨B, 0, none⟩) 12 12, .string x] w fun e w' => e = .returned (.int .i64 (Lib.idxOfS sWords x)) ∧ w' = w := by
  have h := Tryd.slices_Index_string B 0 12 12 sWords x w (by decide) (by omega) (fun j hj => by
    rw [Nat.zero_add, blk_cell hB j]
    exact partCells_at sWords j hj)
  exact h
theorem atoi_calls (s : ByteArray) (hs : s.size ≤ 1000000) (w : World) (hE : Env w) :
    Calls Tryd.prog 42 #[.string s] w fun e w' => ∃ er, e = .returned (.tuple #[.int .i64 (atoiV s), er]) ∧ Below w.heap.size w w' := by
  rcases atoi_ends s.data.toList with ⟨v, h⟩ | h | h
  · have ev : atoiV s = v := by unfold atoiV; rw [h]
    rw [ev]
    refine (Tryd.strconv_Atoi_ok s (by omega) v h w).mono ?_
    rintro e w' ⟨rfl, rfl | ⟨t, rfl⟩⟩
    · exact ⟨_, rfl, Below.refl _ _⟩
    · exact ⟨_, rfl, Lib.bytesWorld_below _ _ _⟩
  · have ev : atoiV s = 0 := by unfold atoiV; rw [h]; rfl
    rw [ev]
    obtain ⟨tp, p, hv⟩ := hE.syn
    refine (Tryd.strconv_Atoi_synt_var s (by omega) h tp p w hv).mono ?_
    rintro e w' ⟨N, rfl, _, _, hb⟩
    exact ⟨_, rfl, hb⟩
  · have ev : atoiV s = Lib.atoiSat s.data.toList := by unfold atoiV; rw [h]
    rw [ev]
    obtain ⟨tp, p, hv⟩ := hE.rng
    refine (Tryd.strconv_Atoi_range_var s (by omega) h tp p w hv).mono ?_
    rintro e w' ⟨N, rfl, _, _, hb⟩
    exact ⟨_, rfl, hb⟩

theorem five_put {W : World} {b : Nat} {t : TypeId} {c0 c1 c2 c3 c4 : Value} (v0 v1 v2 v3 v4 : Value) (h : W.heap[b]? = some (.cells #[c0, c1, c2, c3, c4] t (0, 0))) :
    (((((W.setCell ⟨b, 0, none⟩ v0).setCell ⟨b, 1, none⟩ v1).setCell ⟨b, 2, none⟩ v2).setCell ⟨b, 3, none⟩ v3).setCell ⟨b, 4, none⟩ v4).heap[b]? = some (.cells #[v0, v1, v2, v3, v4] t (0, 0)) :=
  blk_put (cs := #[v0, v1, v2, v3, c4]) (blk_put (cs := #[v0, v1, v2, c3, c4]) (blk_put (cs := #[v0, v1, c2, c3, c4]) (blk_put (cs := #[v0, c1, c2, c3, c4]) (blk_put h 0 _ rfl) 1 _ rfl) 2 _ rfl) 3 _ rfl) 4 _ rfl
theorem five_below {w W : World} {b : Nat} (v0 v1 v2 v3 v4 : Value) (h : Below w.heap.size w W) (hb : w.heap.size ≤ b) :
    Below w.heap.size w (((((W.setCell ⟨b, 0, none⟩ v0).setCell ⟨b, 1, none⟩ v1).setCell ⟨b, 2, none⟩ v2).setCell ⟨b, 3, none⟩ v3).setCell ⟨b, 4, none⟩ v4) :=
  below_set (below_set (below_set (below_set (below_set h hb) hb) hb) hb) hb
theorem size24 : (Tryd.prog.info? 24).map (·.size) = some 5 := by kernel_rfl
theorem three_blocks (w : World) (A B C : Obj) :
    (((w.alloc A).alloc B).alloc C).drew.heap[w.heap.size]? = some A ∧ (((w.alloc A).alloc B).alloc C).drew.heap[w.heap.size + 1]? = some B ∧ (((w.alloc A).alloc B).alloc C).drew.heap[w.heap.size + 1 + 1]? = some C := by
  refine ⟨blk_drew (blk_alloc (blk_alloc (blk_new _ _) _) _), blk_drew (blk_alloc ?_ _), blk_drew ?_⟩
  · have h := blk_new (w.alloc A) B
    rwa [show (w.alloc A).heap.size = w.heap.size + 1 from by simp] at h
  · have h := blk_new ((w.alloc A).alloc B) C
    rwa [show ((w.alloc A).alloc B).heap.size = w.heap.size + 1 + 1 from by simp] at h

theorem splitB_size (sep : ByteArray) (save : Nat) : ∀ (k : Nat) (s p : ByteArray), p ∈ Lib.splitB sep save k s → p.size ≤ s.size
  | 0, s, p, h => by
    rw [Lib.splitB_zero] at h
    simp at h
    subst h
    exact Nat.le_refl _
  | k + 1, s, p, h => by
    unfold Lib.splitB at h
    split at h
    · simp at h
      subst h
      exact Nat.le_refl _
    · rcases List.mem_cons.1 h with rfl | h
      · rw [ByteArray.size_extract]; omega
      · have := splitB_size sep save k _ p h
        rw [ByteArray.size_extract] at this
        omega
theorem idxFromS_lt (x : ByteArray) : ∀ (zs : List ByteArray) (i : Nat), -1 ≤ Lib.idxFromS zs x i ∧ Lib.idxFromS zs x i < (i + zs.length : Nat)
  | [], i => by simp [Lib.idxFromS]; omega
  | z :: zs, i => by
    have := idxFromS_lt x zs (i + 1)
    unfold Lib.idxFromS
    split
    · simp; omega
    · simp at this ⊢; omega
theorem idx_lt (x : ByteArray) : Lib.idxOfS sWords x ≤ 11 := by
  have := (idxFromS_lt x sWords 0).2
  have e : sWords.length = 12 := rfl
  unfold Lib.idxOfS
  omega
theorem getD_mem' (ps : List ByteArray) (i : Nat) (h : i < ps.length) : ps.getD i ⟨#[]⟩ ∈ ps := by
  rw [List.getD_eq_getElem?_getD, List.getElem?_eq_getElem h]; exact List.getElem_mem h
theorem sNum_of (ps : List ByteArray) (i : Nat) (p : ByteArray) (h : i + 1 < ps.length) (hp : ps.getD (i + 1) ⟨#[]⟩ = p) : sNum ps i = atoiV p := by unfold sNum; rw [if_pos h, hp]
theorem sNum_zero (ps : List ByteArray) (i : Nat) (h : ¬ i + 1 < ps.length) : sNum ps i = 0 := by unfold sNum; rw [if_neg h]
set_option maxRecDepth 100000 in
set_option maxHeartbeats 2000000 in
theorem script_Parse_in (s : ByteArray) (w : World) (hs : s.size ≤ 1000000) (HE : Aside0 (Env w)) (ps : List ByteArray) (hps : Aside0 (splitAll s blankB = ps)) (kd : Int) (hkd : Aside0 (Lib.idxOfS sWords (ps.getD 0 ⟨#[]⟩) = kd))
    (hlen : Aside0 (∀ p, p ∈ ps → p.size ≤ 1000000)) (N0 N1 N2 N3 : Int) (hn0 : Aside0 (sNum ps 0 = N0)) (hn1 : Aside0 (sNum ps 1 = N1)) (hn2 : Aside0 (sNum ps 2 = N2)) (hn3 : Aside0 (sNum ps 3 = N3)) (good : Bool) (hgood : Aside0 (sRight kd N0 N1 N2 N3 = good))
    (T : ByteArray) (hT : Aside0 (good = true → ∀ w, Env w → Calls Tryd.prog 17 #[.agg #[.int .i64 kd, .int .i64 N0, .int .i64 N1, .int .i64 N2, .int .i64 N3]] w fun e w' => e = .returned (.string T) ∧ Below w.heap.size w w')) (eq : Bool) (heq : (T.toList == s.toList) = eq) (r : Value)
    (hr : Aside0 (r = if kd < 1 then .tuple #[.agg #[.int .i64 0, .int .i64 0, .int .i64 0, .int .i64 0, .int .i64 0], .int .i64 10] else if good && eq then .tuple #[.agg #[.int .i64 kd, .int .i64 N0, .int .i64 N1, .int .i64 N2, .int .i64 N3], .int .i64 0] else .tuple #[.agg #[.int .i64 0, .int .i64 0, .int .i64 0, .int .i64 0, .int .i64 0], .int .i64 10])) :
    Calls Tryd.prog 13 #[.string s] w fun e w' => e = .returned r ∧ Below w.heap.size w w' := by
  have hS : ∀ w, Env w → Calls Tryd.prog 39 #[.string s, .string ⟨#[32]⟩] w fun e w' => e = .returned (.slice (some ⟨w.heap.size, 0, none⟩) ps.length ps.length) ∧ w' = w.alloc (.cells (partCells ps) 9) := by
    intro w hE; rw [← hps.out]; exact split_calls s hs w hE
  have HS := Lib.hid hS
  clear hS
  have hp1 : 1 ≤ ps.length := by rw [← hps.out, splitAll_len s blankB (Nat.le_refl _)]; omega
  have hp2 : ps.length ≤ 1000001 := by rw [← hps.out, splitAll_len s blankB (Nat.le_refl _)]; have := Lib.countB_le blankB (Nat.le_refl _) s.size s (Nat.le_refl _); omega
  have hkm : kd ≤ 11 := by rw [← hkd.out]; exact idx_lt _
  obtain ⟨p0, hp0⟩ : ∃ p0, ps.getD 0 ⟨#[]⟩ = p0 := ⟨_, rfl⟩
  have hc0 : (partCells ps)[0]? = some (.string p0) := by rw [← hp0]; exact partCells_at ps 0 (by omega)
  have hI : ∀ B w, w.heap[B]? = some (.cells wordCells 9 (0, 0)) → Calls Tryd.prog 40 #[.slice (some ⟨B, 0, none⟩) 12 12, .string p0] w fun e w' => e = .returned (.int .i64 kd) ∧ w' = w := by
    intro B w hB; rw [← hkd.out, hp0]; exact idx_calls B p0 w hB
  have HI := Lib.hid hI
  clear hI
  clear hp0
  have hbw : Aside0 (Below w.heap.size w w) := ⟨Below.refl _ _⟩
  go_enter Tryd.func13, Tryd.ntmps13
  go_wp2_with (go_at_call 39; refine (HS.out _ (Env.below HE.out (by repeat (first | exact hbw.out | apply below_alloc | apply pw_below_drewN | apply below_drew1)))).mono ?_; rintro e w' ⟨rfl, rfl⟩)
  go_upto_region 2 with (fail)
  go_cut [5] (fun v wc => v = .int .i64 kd ∧ wc.heap[w.heap.size]? = some (.cells #[.int .i64 0, .int .i64 0, .int .i64 0, .int .i64 0, .int .i64 0] 24 (0, 0)) ∧ wc.heap[w.heap.size + 1]? = some (.cells (partCells ps) 9 (0, 0)) ∧ Aside0 (Below w.heap.size w wc))
  case first =>
    have hB1 : ∀ o1 o2 o3, Below w.heap.size w (((w.alloc o1).alloc o2).alloc o3) := fun o1 o2 o3 => (((Below.refl _ _).alloc (Nat.le_refl _) _).alloc (by simp) _).alloc (by simp; omega) _
    have HB1 := Aside0.mk hB1
    clear hB1
    go_region_with (first | (go_at_call 41; refine (words_calls _).mono ?_; rintro e w' ⟨rfl, rfl⟩) | (go_at_call 40; refine (HI.out _ _ (by first | exact (three_blocks _ _ _ _).2.2 | exact blk_drew (three_blocks _ _ _ _).2.2)).mono ?_; rintro e w' ⟨rfl, rfl⟩))
    all_goals (go_wp2; go_meet; exact ⟨rfl, (three_blocks _ _ _ _).1, (three_blocks _ _ _ _).2.1, ⟨below_drew (HB1.out _ _ _)⟩⟩)
  case rest =>
    rename_i wc
    obtain ⟨rfl, hK, hN, HB⟩ := hcut
    clear hc0
    have HK := Aside0.mk hK
    have HN := Aside0.mk hN
    have k0 : wc.cell? ⟨w.heap.size, 0, none⟩ = some (.int .i64 0) := (blk_cell hK 0).trans rfl
    have k1 : wc.cell? ⟨w.heap.size, 1, none⟩ = some (.int .i64 0) := (blk_cell hK 1).trans rfl
    have k2 : wc.cell? ⟨w.heap.size, 2, none⟩ = some (.int .i64 0) := (blk_cell hK 2).trans rfl
    have k3 : wc.cell? ⟨w.heap.size, 3, none⟩ = some (.int .i64 0) := (blk_cell hK 3).trans rfl
    have k4 : wc.cell? ⟨w.heap.size, 4, none⟩ = some (.int .i64 0) := (blk_cell hK 4).trans rfl
    have z0 : wc.frozen? ⟨w.heap.size, 0, none⟩ = false := blk_frozen hK 0
    have z1 : wc.frozen? ⟨w.heap.size, 1, none⟩ = false := blk_frozen hK 1
    have z2 : wc.frozen? ⟨w.heap.size, 2, none⟩ = false := blk_frozen hK 2
    have z3 : wc.frozen? ⟨w.heap.size, 3, none⟩ = false := blk_frozen hK 3
    have z4 : wc.frozen? ⟨w.heap.size, 4, none⟩ = false := blk_frozen hK 4
    clear hK hN
    by_cases hlt : kd < 1
    · have hd : decide (kd < 1) = true := decide_eq_true hlt
      have hrr := hr.out
      rw [if_pos hlt] at hrr
      subst hrr
      go_wp2
      refine bodyPost_ret (results_ct rfl _ _ w.heap.size 24 #[.int .i64 0, .int .i64 0, .int .i64 0, .int .i64 0, .int .i64 0] (0, 0) _ rfl (five_put _ _ _ _ _ HK.out) Tryd.underlying24 rfl size24) rfl ?_
      exact ⟨rfl, five_below _ _ _ _ _ HB.out (Nat.le_refl _)⟩
    · have hd : decide (kd < 1) = false := decide_eq_false hlt
      have hrr := hr.out
      rw [if_neg hlt] at hrr
      replace hr := Aside0.mk hrr
      clear hrr
      clear k0 k1 k2 k3 k4 z0 z1 z2 z3 z4
      go_wp2
      obtain ⟨M, hM⟩ : ∃ M : Nat, min ((ps.length : Int) - 1) 4 = (M : Int) := ⟨(min ((ps.length : Int) - 1) 4).toNat, by omega⟩
      have hM1 : M ≤ 4 := by omega
      have hM2 : M + 1 ≤ ps.length := by omega
      have HM : Aside0 (M = 4 ∨ M + 1 = ps.length) := ⟨by omega⟩
      rw [hM]
      clear hM
      have hwn : w.heap.size + 1 < wc.heap.size := blk_lt HN.out
      have hstart : (wc.alloc (.cells #[.int .i64 0, .int .i64 0, .int .i64 0, .int .i64 0] 70)).heap[wc.heap.size]? = some (.cells #[.int .i64 0, .int .i64 0, .int .i64 0, .int .i64 0] 70 (0, 0)) := blk_new _ _
      have HST := Aside0.mk hstart
      clear hstart
      go_loopw [23] (fun i wr => ∃ (j : Nat) (x0 x1 x2 x3 : Int), j ≤ M ∧ i = .int .i64 j ∧ Aside0 (x0 = if 0 < j then N0 else 0) ∧ Aside0 (x1 = if 1 < j then N1 else 0) ∧ Aside0 (x2 = if 2 < j then N2 else 0) ∧ Aside0 (x3 = if 3 < j then N3 else 0) ∧ Aside0 (wr.heap[wc.heap.size]? = some (.cells #[.int .i64 x0, .int .i64 x1, .int .i64 x2, .int .i64 x3] 70 (0, 0))) ∧ Aside0 (wr.heap[w.heap.size]? = some (.cells #[.int .i64 0, .int .i64 0, .int .i64 0, .int .i64 0, .int .i64 0] 24 (0, 0))) ∧ Aside0 (wr.heap[w.heap.size + 1]? = some (.cells (partCells ps) 9 (0, 0))) ∧ Aside0 (Below w.heap.size w wr)) (fun i _ => 4 - (intOf i).toNat)
      case atStart => exact ⟨0, 0, 0, 0, 0, Nat.zero_le _, rfl, ⟨rfl⟩, ⟨rfl⟩, ⟨rfl⟩, ⟨rfl⟩, HST, ⟨blk_alloc HK.out _⟩, ⟨blk_alloc HN.out _⟩, ⟨below_alloc HB.out _⟩⟩
      case round =>
        clear HB HK HN HST
        obtain ⟨j, x0, x1, x2, x3, hj, rfl, hx0, hx1, hx2, hx3, HX, HK, HN, HB⟩ := hrel
        have hE := Aside0.mk (Env.below HE.out HB.out)
        by_cases hjm : j < M
        · match j, hj, hjm, hx0, hx1, hx2, hx3 with
          | 0, hj, hjm, hx0, hx1, hx2, hx3 =>
            obtain ⟨pj, hpj⟩ : ∃ pj, ps.getD 1 ⟨#[]⟩ = pj := ⟨_, rfl⟩
            have hsz : pj.size ≤ 1000000 := hlen.out pj (by rw [← hpj]; exact getD_mem' ps 1 (by omega))
            have c1 : wr.cell? ⟨w.heap.size + 1, 1, none⟩ = some (.string pj) := by rw [blk_cell HN.out, partCells_at ps 1 (by omega), hpj]
            have HPJ := Lib.hid hpj
            clear hpj
            go_wp2_with (go_at_call 42; refine (atoi_calls pj hsz _ hE.out).mono ?_; rintro e w' ⟨er, rfl, hb'⟩; have q1 := (blk_cell (blk_below HX.out hb') 0).trans rfl; have q2 := blk_frozen (blk_below HX.out hb') 0; have HB' := Aside0.mk hb'; clear hb')
            go_roundw
            case rel => exact ⟨1, (atoiV pj), x1, x2, x3, by omega, by rfl, ⟨by rw [if_pos (by omega), ← hn0.out]; exact (sNum_of ps 0 pj (by omega) HPJ.out).symm⟩, ⟨by have := hx1.out; simpa using this⟩, ⟨by have := hx2.out; simpa using this⟩, ⟨by have := hx3.out; simpa using this⟩, ⟨blk_put (blk_below HX.out HB'.out) 0 _ rfl⟩, ⟨blk_far (blk_below HK.out HB'.out) (by show w.heap.size ≠ wc.heap.size; omega) _⟩, ⟨blk_far (blk_below HN.out HB'.out) (by show w.heap.size + 1 ≠ wc.heap.size; omega) _⟩, ⟨below_set (below_step HB.out HB'.out) (by omega)⟩⟩
            case measure => simp [intOf]
          | 1, hj, hjm, hx0, hx1, hx2, hx3 =>
            obtain ⟨pj, hpj⟩ : ∃ pj, ps.getD 2 ⟨#[]⟩ = pj := ⟨_, rfl⟩
            have hsz : pj.size ≤ 1000000 := hlen.out pj (by rw [← hpj]; exact getD_mem' ps 2 (by omega))
            have c1 : wr.cell? ⟨w.heap.size + 1, 2, none⟩ = some (.string pj) := by rw [blk_cell HN.out, partCells_at ps 2 (by omega), hpj]
            have HPJ := Lib.hid hpj
            clear hpj
            go_wp2_with (go_at_call 42; refine (atoi_calls pj hsz _ hE.out).mono ?_; rintro e w' ⟨er, rfl, hb'⟩; have q1 := (blk_cell (blk_below HX.out hb') 1).trans rfl; have q2 := blk_frozen (blk_below HX.out hb') 1; have HB' := Aside0.mk hb'; clear hb')
            go_roundw
            case rel => exact ⟨2, x0, (atoiV pj), x2, x3, by omega, by rfl, ⟨by have := hx0.out; simpa using this⟩, ⟨by rw [if_pos (by omega), ← hn1.out]; exact (sNum_of ps 1 pj (by omega) HPJ.out).symm⟩, ⟨by have := hx2.out; simpa using this⟩, ⟨by have := hx3.out; simpa using this⟩, ⟨blk_put (blk_below HX.out HB'.out) 1 _ rfl⟩, ⟨blk_far (blk_below HK.out HB'.out) (by show w.heap.size ≠ wc.heap.size; omega) _⟩, ⟨blk_far (blk_below HN.out HB'.out) (by show w.heap.size + 1 ≠ wc.heap.size; omega) _⟩, ⟨below_set (below_step HB.out HB'.out) (by omega)⟩⟩
            case measure => simp [intOf]
          | 2, hj, hjm, hx0, hx1, hx2, hx3 =>
            obtain ⟨pj, hpj⟩ : ∃ pj, ps.getD 3 ⟨#[]⟩ = pj := ⟨_, rfl⟩
            have hsz : pj.size ≤ 1000000 := hlen.out pj (by rw [← hpj]; exact getD_mem' ps 3 (by omega))
            have c1 : wr.cell? ⟨w.heap.size + 1, 3, none⟩ = some (.string pj) := by rw [blk_cell HN.out, partCells_at ps 3 (by omega), hpj]
            have HPJ := Lib.hid hpj
            clear hpj
            go_wp2_with (go_at_call 42; refine (atoi_calls pj hsz _ hE.out).mono ?_; rintro e w' ⟨er, rfl, hb'⟩; have q1 := (blk_cell (blk_below HX.out hb') 2).trans rfl; have q2 := blk_frozen (blk_below HX.out hb') 2; have HB' := Aside0.mk hb'; clear hb')
            go_roundw
            case rel => exact ⟨3, x0, x1, (atoiV pj), x3, by omega, by rfl, ⟨by have := hx0.out; simpa using this⟩, ⟨by have := hx1.out; simpa using this⟩, ⟨by rw [if_pos (by omega), ← hn2.out]; exact (sNum_of ps 2 pj (by omega) HPJ.out).symm⟩, ⟨by have := hx3.out; simpa using this⟩, ⟨blk_put (blk_below HX.out HB'.out) 2 _ rfl⟩, ⟨blk_far (blk_below HK.out HB'.out) (by show w.heap.size ≠ wc.heap.size; omega) _⟩, ⟨blk_far (blk_below HN.out HB'.out) (by show w.heap.size + 1 ≠ wc.heap.size; omega) _⟩, ⟨below_set (below_step HB.out HB'.out) (by omega)⟩⟩
            case measure => simp [intOf]
          | 3, hj, hjm, hx0, hx1, hx2, hx3 =>
            obtain ⟨pj, hpj⟩ : ∃ pj, ps.getD 4 ⟨#[]⟩ = pj := ⟨_, rfl⟩
            have hsz : pj.size ≤ 1000000 := hlen.out pj (by rw [← hpj]; exact getD_mem' ps 4 (by omega))
            have c1 : wr.cell? ⟨w.heap.size + 1, 4, none⟩ = some (.string pj) := by rw [blk_cell HN.out, partCells_at ps 4 (by omega), hpj]
            have HPJ := Lib.hid hpj
            clear hpj
            go_wp2_with (go_at_call 42; refine (atoi_calls pj hsz _ hE.out).mono ?_; rintro e w' ⟨er, rfl, hb'⟩; have q1 := (blk_cell (blk_below HX.out hb') 3).trans rfl; have q2 := blk_frozen (blk_below HX.out hb') 3; have HB' := Aside0.mk hb'; clear hb')
            go_roundw
            case rel => exact ⟨4, x0, x1, x2, (atoiV pj), by omega, by rfl, ⟨by have := hx0.out; simpa using this⟩, ⟨by have := hx1.out; simpa using this⟩, ⟨by have := hx2.out; simpa using this⟩, ⟨by rw [if_pos (by omega), ← hn3.out]; exact (sNum_of ps 3 pj (by omega) HPJ.out).symm⟩, ⟨blk_put (blk_below HX.out HB'.out) 3 _ rfl⟩, ⟨blk_far (blk_below HK.out HB'.out) (by show w.heap.size ≠ wc.heap.size; omega) _⟩, ⟨blk_far (blk_below HN.out HB'.out) (by show w.heap.size + 1 ≠ wc.heap.size; omega) _⟩, ⟨below_set (below_step HB.out HB'.out) (by omega)⟩⟩
            case measure => simp [intOf]
          | (n + 4), hj, hjm, hx0, hx1, hx2, hx3 => exact absurd hjm (by omega)
        · have ej : j = M := by omega
          have EX : Aside0 (x0 = N0 ∧ x1 = N1 ∧ x2 = N2 ∧ x3 = N3) := ⟨by
            have hm := HM.out
            refine ⟨?_, ?_, ?_, ?_⟩
            · rw [hx0.out]
              by_cases hq : 0 < j
              · rw [if_pos hq]
              · rw [if_neg hq, ← hn0.out, sNum_zero ps 0 (by omega)]
            · rw [hx1.out]
              by_cases hq : 1 < j
              · rw [if_pos hq]
              · rw [if_neg hq, ← hn1.out, sNum_zero ps 1 (by omega)]
            · rw [hx2.out]
              by_cases hq : 2 < j
              · rw [if_pos hq]
              · rw [if_neg hq, ← hn2.out, sNum_zero ps 2 (by omega)]
            · rw [hx3.out]
              by_cases hq : 3 < j
              · rw [if_pos hq]
              · rw [if_neg hq, ← hn3.out, sNum_zero ps 3 (by omega)]
            ⟩
          obtain ⟨rfl, rfl, rfl, rfl⟩ := EX.out
          clear hx0 hx1 hx2 hx3 ej EX HM
          have y0 : wr.cell? ⟨wc.heap.size, 0, none⟩ = some (.int .i64 x0) := (blk_cell HX.out 0).trans rfl
          have y1 : wr.cell? ⟨wc.heap.size, 1, none⟩ = some (.int .i64 x1) := (blk_cell HX.out 1).trans rfl
          have y2 : wr.cell? ⟨wc.heap.size, 2, none⟩ = some (.int .i64 x2) := (blk_cell HX.out 2).trans rfl
          have y3 : wr.cell? ⟨wc.heap.size, 3, none⟩ = some (.int .i64 x3) := (blk_cell HX.out 3).trans rfl
          have HX0 := HX
          cases good with
          | false =>
            go_wp2_with (go_at_call 16; refine (script_Right.calls kd x0 x1 x2 x3 false _ (by unfold script_Right.f; rw [hgood.out])).mono ?_; rintro e w1 ⟨rfl, hb1⟩; have HK1 := Aside0.mk (blk_below (blk_alloc HK.out (.cells #[.int .i64 kd, .int .i64 x0, .int .i64 x1, .int .i64 x2, .int .i64 x3] 24)) hb1); have HB1 := Aside0.mk (below_step (below_alloc HB.out (.cells #[.int .i64 kd, .int .i64 x0, .int .i64 x1, .int .i64 x2, .int .i64 x3] 24)) hb1); clear hb1; have kk0 := (blk_cell HK1.out 0).trans rfl; have kk1 := (blk_cell HK1.out 1).trans rfl; have kk2 := (blk_cell HK1.out 2).trans rfl; have kk3 := (blk_cell HK1.out 3).trans rfl; have kk4 := (blk_cell HK1.out 4).trans rfl; have zz0 := blk_frozen HK1.out 0; have zz1 := blk_frozen HK1.out 1; have zz2 := blk_frozen HK1.out 2; have zz3 := blk_frozen HK1.out 3; have zz4 := blk_frozen HK1.out 4)
            have hrr := hr.out
            rw [if_neg (by simp)] at hrr
            subst hrr
            refine bodyPost_ret (results_ct rfl _ _ w.heap.size 24 #[.int .i64 0, .int .i64 0, .int .i64 0, .int .i64 0, .int .i64 0] (0, 0) _ rfl (five_put _ _ _ _ _ HK1.out) Tryd.underlying24 rfl size24) rfl ?_
            exact ⟨rfl, five_below _ _ _ _ _ HB1.out (Nat.le_refl _)⟩
          | true =>
            cases eq with
            | true =>
              go_wp2_with (first | (go_at_call 16; refine (script_Right.calls kd x0 x1 x2 x3 true _ (by unfold script_Right.f; rw [hgood.out])).mono ?_; rintro e w1 ⟨rfl, hb1⟩; have HO1 := Aside0.mk (blk_below (blk_new wr (.cells #[.int .i64 kd, .int .i64 x0, .int .i64 x1, .int .i64 x2, .int .i64 x3] 24)) hb1); have HK1 := Aside0.mk (blk_below (blk_alloc HK.out (.cells #[.int .i64 kd, .int .i64 x0, .int .i64 x1, .int .i64 x2, .int .i64 x3] 24)) hb1); have HB1 := Aside0.mk (below_step (below_alloc HB.out (.cells #[.int .i64 kd, .int .i64 x0, .int .i64 x1, .int .i64 x2, .int .i64 x3] 24)) hb1); clear hb1; have oo0 := (blk_cell HO1.out 0).trans rfl; have oo1 := (blk_cell HO1.out 1).trans rfl; have oo2 := (blk_cell HO1.out 2).trans rfl; have oo3 := (blk_cell HO1.out 3).trans rfl; have oo4 := (blk_cell HO1.out 4).trans rfl) | (go_at_call 17; refine (hT.out (by simp) _ (Env.below HE.out HB1.out)).mono ?_; rintro e w2 ⟨rfl, hb2⟩; have HO2 := Aside0.mk (blk_below HO1.out hb2); have HK2 := Aside0.mk (blk_below HK1.out hb2); have HB2 := Aside0.mk (below_step HB1.out hb2); clear hb2; have op0 := (blk_cell HO2.out 0).trans rfl; have op1 := (blk_cell HO2.out 1).trans rfl; have op2 := (blk_cell HO2.out 2).trans rfl; have op3 := (blk_cell HO2.out 3).trans rfl; have op4 := (blk_cell HO2.out 4).trans rfl; have kk0 := (blk_cell HK2.out 0).trans rfl; have kk1 := (blk_cell HK2.out 1).trans rfl; have kk2 := (blk_cell HK2.out 2).trans rfl; have kk3 := (blk_cell HK2.out 3).trans rfl; have kk4 := (blk_cell HK2.out 4).trans rfl; have zz0 := blk_frozen HK2.out 0; have zz1 := blk_frozen HK2.out 1; have zz2 := blk_frozen HK2.out 2; have zz3 := blk_frozen HK2.out 3; have zz4 := blk_frozen HK2.out 4))
              have hrr := hr.out
              rw [if_pos (by simp)] at hrr
              subst hrr
              refine bodyPost_ret (results_ct rfl _ _ w.heap.size 24 #[.int .i64 kd, .int .i64 x0, .int .i64 x1, .int .i64 x2, .int .i64 x3] (0, 0) _ rfl (five_put _ _ _ _ _ HK2.out) Tryd.underlying24 rfl size24) rfl ?_
              exact ⟨rfl, five_below _ _ _ _ _ HB2.out (Nat.le_refl _)⟩
            | false =>
              go_wp2_with (first | (go_at_call 16; refine (script_Right.calls kd x0 x1 x2 x3 true _ (by unfold script_Right.f; rw [hgood.out])).mono ?_; rintro e w1 ⟨rfl, hb1⟩; have HO1 := Aside0.mk (blk_below (blk_new wr (.cells #[.int .i64 kd, .int .i64 x0, .int .i64 x1, .int .i64 x2, .int .i64 x3] 24)) hb1); have HK1 := Aside0.mk (blk_below (blk_alloc HK.out (.cells #[.int .i64 kd, .int .i64 x0, .int .i64 x1, .int .i64 x2, .int .i64 x3] 24)) hb1); have HB1 := Aside0.mk (below_step (below_alloc HB.out (.cells #[.int .i64 kd, .int .i64 x0, .int .i64 x1, .int .i64 x2, .int .i64 x3] 24)) hb1); clear hb1; have oo0 := (blk_cell HO1.out 0).trans rfl; have oo1 := (blk_cell HO1.out 1).trans rfl; have oo2 := (blk_cell HO1.out 2).trans rfl; have oo3 := (blk_cell HO1.out 3).trans rfl; have oo4 := (blk_cell HO1.out 4).trans rfl) | (go_at_call 17; refine (hT.out (by simp) _ (Env.below HE.out HB1.out)).mono ?_; rintro e w2 ⟨rfl, hb2⟩; have HK2 := Aside0.mk (blk_below HK1.out hb2); have HB2 := Aside0.mk (below_step HB1.out hb2); clear hb2; have kk0 := (blk_cell HK2.out 0).trans rfl; have kk1 := (blk_cell HK2.out 1).trans rfl; have kk2 := (blk_cell HK2.out 2).trans rfl; have kk3 := (blk_cell HK2.out 3).trans rfl; have kk4 := (blk_cell HK2.out 4).trans rfl; have zz0 := blk_frozen HK2.out 0; have zz1 := blk_frozen HK2.out 1; have zz2 := blk_frozen HK2.out 2; have zz3 := blk_frozen HK2.out 3; have zz4 := blk_frozen HK2.out 4))
              have hrr := hr.out
              rw [if_neg (by simp)] at hrr
              subst hrr
              refine bodyPost_ret (results_ct rfl _ _ w.heap.size 24 #[.int .i64 0, .int .i64 0, .int .i64 0, .int .i64 0, .int .i64 0] (0, 0) _ rfl (five_put _ _ _ _ _ HK2.out) Tryd.underlying24 rfl size24) rfl ?_
              exact ⟨rfl, five_below _ _ _ _ _ HB2.out (Nat.le_refl _)⟩

theorem script_Parse.calls (a0 : ByteArray) (r1 : Int) (r2 : Int) (r3 : Int) (r4 : Int) (r5 : Int) (r6 : Int) (w : World) (h : script_Parse.f a0 = some (r1, r2, r3, r4, r5, r6)) (hE : Env w) :
    Calls Tryd.prog 13 #[.string a0] w fun e w' => e = .returned (.tuple #[.agg #[.int .i64 r1, .int .i64 r2, .int .i64 r3, .int .i64 r4, .int .i64 r5], .int .i64 r6]) ∧ Below w.heap.size w w' := by
  unfold script_Parse.f at h
  split at h
  · rename_i hs
    have h := Option.some.inj h
    refine (script_Parse_in a0 w hs ⟨hE⟩ (splitAll a0 blankB) ⟨rfl⟩ _ ⟨rfl⟩ ⟨fun p hp => Nat.le_trans (splitB_size _ _ _ _ p hp) hs⟩ _ _ _ _ ⟨rfl⟩ ⟨rfl⟩ ⟨rfl⟩ ⟨rfl⟩ _ ⟨rfl⟩
      (sText (Lib.idxOfS sWords ((splitAll a0 blankB).getD 0 ⟨#[]⟩)) (sNum (splitAll a0 blankB) 0) (sNum (splitAll a0 blankB) 1) (sNum (splitAll a0 blankB) 2) (sNum (splitAll a0 blankB) 3)) ⟨fun hg w hE => ?_⟩ _ rfl _ ⟨rfl⟩).mono ?_
    · refine script_Text.calls _ _ _ _ _ _ w ?_ hE
      unfold script_Text.f
      rw [if_pos]
      have hm : ∀ x, inMost x = true → is64 x = true := fun x hx => by unfold inMost at hx; unfold is64; have := of_decide_eq_true hx; exact decide_eq_true (by omega)
      unfold sRight at hg
      simp only [Bool.and_eq_true] at hg ⊢
      obtain ⟨⟨⟨⟨⟨⟨⟨_, h1⟩, h2⟩, h3⟩, h4⟩, _⟩, _⟩, _⟩ := hg
      exact ⟨⟨⟨hm _ h1, hm _ h2⟩, hm _ h3⟩, hm _ h4⟩
    · rintro e w' ⟨rfl, hb⟩
      refine ⟨?_, hb⟩
      congr 1
      unfold sParse at h
      simp only at h
      split
      · rename_i hk
        rw [if_pos hk] at h
        obtain ⟨rfl, rfl, rfl, rfl, rfl, rfl⟩ := h
        rfl
      · rename_i hk
        rw [if_neg hk] at h
        split
        · rename_i hg
          rw [if_pos (by rw [Lib.toList_data, Lib.toList_data] at hg; exact hg)] at h
          obtain ⟨rfl, rfl, rfl, rfl, rfl, rfl⟩ := h
          rfl
        · rename_i hg
          rw [if_neg (by rw [Lib.toList_data, Lib.toList_data] at hg; exact hg)] at h
          obtain ⟨rfl, rfl, rfl, rfl, rfl, rfl⟩ := h
          rfl
  · cases h
end Go.Proofs.YthfjjdkaplibmaaDoor.Pr

namespace Go.Proofs
open Go.Shelf Go.RowKit
theorem Tryd.Builder_WriteString_k (B b : Nat) (bs : List Value) (s : ByteArray) (w : World) (h : Lib.IsBuilderF 90 5 B b bs w) (hlen : bs.length + s.size ≤ 140737488355328) (hBw : B ≤ w.heap.size) :
    Calls Tryd.prog 54 #[.pointer (some ⟨b, 0, none⟩), .string s] w fun e w' => e = .returned (.tuple #[.int .i64 s.size, .nilIface]) ∧ (Lib.BuilderAtF 90 5 B b (.pointer (some ⟨b, 0, none⟩)) (bs ++ Lib.strCells s) w' ∧ Below B w w' ∧ Lib.OthersKept 5 (some b) w w') :=
  Any.Builder_WriteString_k { Tryd.lays156 with } Tryd.Builder_Extra_156 B b bs s w h hlen hBw
end Go.Proofs
namespace Go.Proofs.YthfjjdkaplibmaaDoor.Pr
open Go.RowKit Go.Proofs.YthfjjdkaplibmaaDoorW.PrintWords
set_option linter.unusedVariables false
set_option linter.unusedSimpArgs false

theorem blankNum_len (n : Int) (h : is64 n = true) : (blankNum n).length ≤ 22 := by
  have h' : -9223372036854775808 ≤ n ∧ n ≤ 9223372036854775807 := of_decide_eq_true h
  have := Lib.itoa_length_le n h'.1 h'.2
  unfold blankNum
  simp
  omega
theorem sText_len (k a b c d : Int) (ha : is64 a = true) (hb : is64 b = true) (hc : is64 c = true) (hd : is64 d = true) : (sTextL k a b c d).length ≤ 95 := by
  unfold sTextL
  split
  · rename_i hk
    have h1 := (word_at k hk.1 hk.2).2
    have e1 : (sWords.getD k.toNat ⟨#[]⟩).data.toList.length = (sWords.getD k.toNat ⟨#[]⟩).size := Array.length_toList
    have l1 := blankNum_len a ha
    have l2 := blankNum_len b hb
    have l3 := blankNum_len c hc
    have l4 := blankNum_len d hd
    have hh := sHas_pos k
    rw [List.length_append, e1]
    have : (([a, b, c, d].take (sHas k)).map blankNum).flatten.length ≤ 88 := by
      rcases (show sHas k = 1 ∨ sHas k = 2 ∨ sHas k = 3 ∨ sHas k = 4 by omega) with e | e | e | e <;> rw [e] <;> simp <;> omega
    omega
  · simp
theorem text_calls (k a b c d : Int) (h : (is64 a && is64 b && is64 c && is64 d) = true) (w : World) (hE : Env w) :
    Calls Tryd.prog 17 #[.agg #[.int .i64 k, .int .i64 a, .int .i64 b, .int .i64 c, .int .i64 d]] w fun e w' => ∃ t : ByteArray, e = .returned (.string t) ∧ Aside0 (t.data.toList = sTextL k a b c d) ∧ t.size ≤ 95 ∧ Below w.heap.size w w' := by
  refine (script_Text.calls k a b c d (sText k a b c d) w (by unfold script_Text.f; rw [if_pos h]) hE).mono ?_
  rintro e w' ⟨rfl, hb⟩
  simp only [Bool.and_eq_true] at h
  have hl := sText_len k a b c d h.1.1.1 h.1.1.2 h.1.2 h.2
  exact ⟨_, rfl, ⟨by simp [sText]⟩, by unfold sText; rw [ba_size]; exact hl, hb⟩
def lineOf (x : S24) : List UInt8 := sTextL x.f0 x.f1 x.f2 x.f3 x.f4 ++ [10]
def linesTo (l : List S24) (j : Nat) : List UInt8 := ((l.take j).map lineOf).flatten
theorem linesTo_succ (l : List S24) (j : Nat) (h : j < l.length) : linesTo l (j + 1) = linesTo l j ++ lineOf (l.getD j z24) := by
  unfold linesTo
  rw [List.take_add_one, List.getElem?_eq_getElem h, List.map_append, List.flatten_append]
  simp [List.getD, h]
theorem linesTo_all (l : List S24) : linesTo l l.length = sLinesL l := by unfold linesTo sLinesL; rw [List.take_length]; rfl
theorem linesTo_len (l : List S24) (h : l.all ok24 = true) (j : Nat) : (linesTo l j).length ≤ 96 * j := by
  induction j with
  | zero => simp [linesTo]
  | succ j ih =>
    by_cases hj : j < l.length
    · rw [linesTo_succ l j hj, List.length_append]
      have hx := List.all_eq_true.1 h (l.getD j z24) (by rw [List.getD_eq_getElem?_getD, List.getElem?_eq_getElem hj]; exact List.getElem_mem hj)
      unfold ok24 at hx
      simp only [Bool.and_eq_true] at hx
      have := sText_len (l.getD j z24).f0 _ _ _ _ hx.1.1.1 hx.1.1.2 hx.1.2 hx.2
      unfold lineOf
      simp only [List.length_append, List.length_cons, List.length_nil]
      omega
    · have e : linesTo l (j + 1) = linesTo l j := by unfold linesTo; rw [List.take_of_length_le (by omega), List.take_of_length_le (by omega)]
      rw [e]; omega

theorem lines_room (l : List UInt8) (t : ByteArray) (j : Nat) {n : Nat} (hn : n ≤ 1000000) (hj : j ≤ n) (hl : l.length ≤ 96 * j) (ht : t.size ≤ 95) : (Lib.byteCells l).length + (t ++ ⟨#[10]⟩).size ≤ 140737488355328 := by
  have e : (⟨#[10]⟩ : ByteArray).size = 1 := rfl
  rw [Lib.byteCells_length, ByteArray.size_append, e]
  omega
theorem lines_next (l : List UInt8) (x : S24) (t : ByteArray) (ht : t.data.toList = sTextL x.f0 x.f1 x.f2 x.f3 x.f4) : Lib.byteCells (l ++ lineOf x) = Lib.byteCells l ++ Lib.strCells (t ++ ⟨#[10]⟩) := by
  unfold lineOf
  rw [Lib.strCells_eq]
  simp [Lib.byteCells, ht]
set_option maxRecDepth 100000 in
set_option maxHeartbeats 1000000 in
theorem script_Lines_in (A0 : Option Addr) (c0 : Nat) (l0 : List S24) (w : World) (hr : Aside0 (Kd.C k24 w A0 l0.length l0)) (hl : l0.length ≤ 1000000) (hall : Aside0 (l0.all ok24 = true)) (HE : Aside0 (Env w)) :
    Calls Tryd.prog 22 #[.slice A0 l0.length c0] w fun e w' => e = .returned (.string ⟨(sLinesL l0).toArray⟩) ∧ Below w.heap.size w w' := by
  have hfr : Aside0 (Lib.IsBuilderF 90 5 w.heap.size w.heap.size (Lib.byteCells (linesTo l0 0)) (w.alloc (.cells #[.pointer none, .slice none 0 0] 90))) := ⟨Lib.IsBuilderF.of (Lib.fresh_isBuilder 90 5 w)⟩
  go_enter Tryd.func22, Tryd.ntmps22
  go_wp2
  have hB0 : Aside0 (Below w.heap.size w (w.alloc (.cells #[.pointer none, .slice none 0 0] 90))) := ⟨(Below.refl _ _).alloc (Nat.le_refl _) _⟩
  go_loopw [8] (fun i wr => ∃ j : Nat, j ≤ l0.length ∧ i = .int .i64 j ∧ Aside0 (Lib.IsBuilderF 90 5 w.heap.size w.heap.size (Lib.byteCells (linesTo l0 j)) wr) ∧ Aside0 (Below w.heap.size w wr)) (fun i _ => l0.length - (intOf i).toNat)
  case atStart => exact ⟨0, Nat.zero_le _, rfl, hfr, hB0⟩
  case round =>
    clear hfr hB0
    obtain ⟨j, hj, rfl, hI, HB⟩ := hrel
    have hE := Aside0.mk (Env.below HE.out HB.out)
    by_cases hlt : j < l0.length
    · have hC := Kd.C_below hr.out HB.out
      obtain ⟨ad, rfl, h0, h1, h2, h3, h4⟩ := at_T24 hC (j : Int) (by omega) (by omega)
      obtain ⟨x, hx⟩ : ∃ x, rd_T24 l0 (j : Int) = x := ⟨_, rfl⟩
      rw [hx] at h0 h1 h2 h3 h4
      simp only [Int.toNat_natCast] at h0 h1 h2 h3 h4
      have hx' : l0.getD j z24 = x := by rw [← hx]; unfold rd_T24; rw [Int.toNat_natCast]
      have HX := Aside0.mk hx'
      clear hx hx' hC
      have hok : ok24 x = true := List.all_eq_true.1 hall.out x (by rw [← HX.out, List.getD_eq_getElem?_getD, List.getElem?_eq_getElem hlt]; exact List.getElem_mem hlt)
      have HOK := Aside0.mk hok
      clear hok
      have hlen := linesTo_len l0 hall.out j
      have HLEN := Aside0.mk hlen
      clear hlen
      go_wp2_with (first | (go_at_call 17; refine (text_calls x.f0 x.f1 x.f2 x.f3 x.f4 HOK.out _ (Env.below HE.out (below_alloc HB.out _))).mono ?_; rintro e w1 ⟨t, rfl, ht, hts, hb1⟩; have HB1 := Aside0.mk (below_step (below_alloc HB.out _) hb1); have HI1 := Aside0.mk (Lib.IsBuilderF.below (hI.out.alloc _) hb1); clear hb1) | (go_at_call 54; refine (Tryd.Builder_WriteString_k w.heap.size w.heap.size _ _ _ HI1.out (lines_room _ _ _ hl hj HLEN.out hts) HB1.out.size).mono ?_; rintro e w2 ⟨rfl, hI2, hb2, _⟩; have HB2 := Aside0.mk (HB1.out.trans hb2); have HI2 := Aside0.mk hI2; clear hI2 hb2))
      go_roundw
      case rel => exact ⟨j + 1, by omega, by go_num, ⟨by rw [linesTo_succ l0 j hlt, HX.out, lines_next _ _ _ ht.out]; exact .inr HI2.out⟩, HB2⟩
      case measure => simp [intOf]; omega
    · have ej : j = l0.length := by omega
      have EJ := Lib.hid ej
      clear ej
      go_wp2_with (go_at_call 55; refine (Tryd.Builder_String_any_k w.heap.size w.heap.size (linesTo l0 j) _ hI.out HB.out.size).mono ?_; rintro e w2 ⟨rfl, _, hb2, _⟩; have HB2 := Aside0.mk (HB.out.trans hb2); clear hb2)
      go_ret
      exact ⟨by rw [show sLinesL l0 = linesTo l0 j from by rw [EJ.out, linesTo_all]]; rfl, HB2.out⟩
theorem script_Lines.calls (A0 : Option Addr) (c0 : Nat) (l0 : List S24) (r : ByteArray) (w : World) (hr0 : Kd.C k24 w A0 l0.length l0) (hc0 : l0.length ≤ c0) (h : script_Lines.f l0 = some r) (hE : Env w) :
    Calls Tryd.prog 22 #[.slice A0 l0.length c0] w fun e w' => e = .returned (.string r) ∧ Below w.heap.size w w' := by
  unfold script_Lines.f at h
  split at h
  · rename_i hb
    obtain rfl := Option.some.inj h
    exact script_Lines_in A0 c0 l0 w ⟨hr0⟩ hb.1 ⟨hb.2⟩ ⟨hE⟩
  · cases h
end Go.Proofs.YthfjjdkaplibmaaDoor.Pr

/- A range over an iterator that keeps its state in one cell of its own (a variable that its closure has captured and turns): of any program. -/
namespace Go.Proofs.YthfjjdkaplibmaaDoor
open Go Go.RowKit

/-- The blocks of which p speaks lie as they lay. -/
structure KeepAt (p : Nat → Prop) (W W' : World) : Prop where
  size : W.heap.size ≤ W'.heap.size
  same : ∀ k, p k → k < W.heap.size → W'.heap[k]? = W.heap[k]?
theorem KeepAt.refl (p : Nat → Prop) (W : World) : KeepAt p W W := ⟨Nat.le_refl _, fun _ _ _ => rfl⟩
theorem KeepAt.trans {p : Nat → Prop} {A B C : World} (h : KeepAt p A B) (k : KeepAt p B C) : KeepAt p A C :=
  ⟨Nat.le_trans h.size k.size, fun i hp hi => (k.same i hp (Nat.lt_of_lt_of_le hi h.size)).trans (h.same i hp hi)⟩
theorem KeepAt.below {p : Nat → Prop} {W W' : World} (h : Below W.heap.size W W') : KeepAt p W W' := ⟨h.size, fun k _ hk => h.block k hk⟩
theorem KeepAt.set {p : Nat → Prop} (W : World) (a : Addr) (v : Value) (h : ¬ p a.block) : KeepAt p W (W.setCell a v) :=
  ⟨by rw [World.size_setCell]; exact Nat.le_refl _, fun k hp _ => Below.heap_setCell W a v k (fun e => h (e ▸ hp))⟩
theorem KeepAt.alloc {p : Nat → Prop} (W : World) (o : Obj) : KeepAt p W (W.alloc o) := ⟨by simp, fun k _ hk => Below.heap_alloc W o k hk⟩
theorem KeepAt.drew {p : Nat → Prop} (W : World) : KeepAt p W W.drew := ⟨Nat.le_refl _, fun _ _ _ => rfl⟩

/-- What the loop's own book-keeping and the iterator do to the world, the invariant abides. -/
structure AbSt (sB B : Nat) (I : Nat → World → Prop) : Prop where
  set : ∀ i W v, I i W → I i (W.setCell ⟨sB, 0, none⟩ v)
  drew : ∀ i W, I i W → I i W.drew
  alloc : ∀ i W o, I i W → I i (W.alloc o)
  put : ∀ i W r o o', I i W → B ≤ r → W.heap[r]? = some o → o.isCells = false → I i (W.putObj r o')

/-- THE ITERATOR's CONTRACT: it hands over the elements of xs, one by one, till there is none, or a round has said 'no more'; it turns its own cell in block sB alone; between two rounds st tells of that cell. -/
def GivesSt {α : Type} (F : Fence) (n : Nat) (P : Program) (gf : FuncId) (lb : Array Value) (enc : α → Value) (xs : List α) (sB : Nat) (o0 : Obj) : Prop :=
  ∀ (l : Nat) (J : Nat → World → Prop) (Jx : World → Prop) (W : World),
    (∀ i W v, J i W → J i (W.setCell ⟨sB, 0, none⟩ v)) → (∀ i W, J i W → J i W.drew) → W.heap[sB]? = some o0 →
    (∀ i x W1, xs[i]? = some x → J i W1 → YieldAt F (n - 1) P l #[enc x] W1 fun e W' =>
      (e = .returned (.bool true) ∧ J (i + 1) W' ∧ W'.heap[sB]? = W1.heap[sB]?) ∨ (e = .returned (.bool false) ∧ Jx W')) →
    J 0 W →
    CallsIn F n P gf (#[.func (.yield l) #[] #[]] ++ lb) W fun e W' => (∃ v, e = .returned v) ∧ (J xs.length W' ∨ Jx W')

/-- How the body of a round may be left. -/
def postSt (p : Nat → Prop) (I : Nat → World → Prop) (Ix : Code → World → Prop) (i : Nat) (W : World) : Exit → Act → World → Prop
  | .normal, _, W' => KeepAt p W W' ∧ I (i + 1) W'
  | .ret, _, W' => KeepAt p W W' ∧ Ix .ret W'
  | .exit _, _, _ => False
  | .goto _, _, _ => False
  | .panic _, _, _ => False
  | .outgrown, _, _ => False

variable {F : Fence} {n : Nat} {P : Program}

theorem wpIn_range_st {α : Type} {g : Operand} {ps : Array Tmp} {assign body : Code} {Q : Exit → Act → World → Prop} {a : Act} {w : World}
    (hro : F.round = none) (h1 : 1 ≤ n) {gf : FuncId} {lb : Array Value} (hg : a.eval g = .func (.func gf) #[] lb) (hFg : F.fn gf) (eg : ∀ args w, (callFunc gf args).run P w = .ok (.enter gf args) w)
    {enc : α → Value} {xs : List α} {sB : Nat} {o0 : Obj} (hseq : GivesSt F (n - 1) P gf lb enc xs sB o0) (hs0 : w.heap[sB]? = some o0) (hps : ps.size = 1)
    (I : Nat → World → Prop) (Ix : Code → World → Prop) (hI : AbSt sB w.heap.size I) (hIx : ∀ W r o o', Ix .ret W → w.heap.size ≤ r → W.heap[r]? = some o → o.isCells = false → Ix .ret (W.putObj r o')) (h0 : I 0 w) (a₁ : α → Act)
    (hassign : ∀ (l : Nat) (x : α) (W : World) (K : Act → World → Prop), K (a₁ x) W →
      assign.wpIn (F.inRound l) (n - 1 - 1) P (Exit.then K (fun _ _ _ => False)) { tmps := (ps.zip #[enc x]).foldl (fun t (p, v) => t.setIfInBounds p v) a.tmps, defers := [] } W)
    (hbody : ∀ (l i : Nat) (x : α) (W : World), xs[i]? = some x → I i W → w.heap.size + 1 < W.heap.size →
      body.wpIn (F.inRound l) (n - 1 - 1) P (postSt (fun k => k = sB ∨ k = w.heap.size ∨ k = w.heap.size + 1) I Ix i W) (a₁ x) W)
    (hdone : ∀ (W : World), I xs.length W → W.heap[w.heap.size]? = some (.deferred (some [])) → Q .normal { a with defers := { target := .collected w.heap.size, args := #[] } :: a.defers } W)
    (hstop : ∀ (W : World), Ix .ret W → W.heap[w.heap.size]? = some (.deferred (some [])) → Code.ret.wpIn F n P Q { a with defers := { target := .collected w.heap.size, args := #[] } :: a.defers } W) :
    (Code.rangeFunc g ps assign body).wpIn F n P Q a w := by
  have hsB : sB < w.heap.size := (Array.getElem?_eq_some_iff.1 hs0).1
  refine wpIn_rangeFunc fun fn hfn => ?_
  rw [hro]
  -- the record of the loop, and the two blocks that are laid
  let rec_ : LoopState → Option Code → Loop := fun st pe => { state := st, pending := pe, fn, tmps := a.tmps, params := ps, assign, body, defers := w.heap.size }
  obtain ⟨W1, hW1⟩ : ∃ W1, (w.alloc (.deferred (some []))).alloc (.loop (rec_ .ready none)) = W1 := ⟨_, rfl⟩
  have kD : W1.heap[w.heap.size]? = some (.deferred (some [])) := by
    rw [← hW1, Below.heap_alloc _ _ _ (by simp)]; exact World.alloc_heap_new w _
  have kL : W1.heap[w.heap.size + 1]? = some (.loop (rec_ .ready none)) := by
    have := World.alloc_heap_new (w.alloc (.deferred (some []))) (.loop (rec_ .ready none))
    rw [World.size_alloc] at this
    rw [← hW1]; exact this
  have kS : W1.heap[sB]? = some o0 := by
    rw [← hW1, Below.heap_alloc _ _ _ (by simp; omega), Below.heap_alloc _ _ _ hsB]; exact hs0
  have kI : I 0 W1 := by rw [← hW1]; exact hI.alloc _ _ _ (hI.alloc _ _ _ h0)
  refine ⟨w.heap.size + 1, [{ target := .collected w.heap.size, args := #[] }], W1, { target := .fn (.func gf) lb, args := #[.func (.yield (w.heap.size + 1)) #[] #[]] }, W1, gf,
    #[.func (.yield (w.heap.size + 1)) #[] #[]] ++ lb, W1, ?_, ?_, ?_, ?_, fun _ => h1, ?_⟩
  · rw [← hW1]; exact run_enterLoop_outer _ _ _ _ _
  · simp only [resolve, hg]
    simp [go_sem]
  · intro f' hf'
    simp [Target.leads] at hf'
    subst hf'
    exact hFg
  · simp [invoke, go_sem, eg]
  -- what holds between two rounds
  let J : Nat → World → Prop := fun i W => I i W ∧ w.heap.size + 1 < W.heap.size ∧ W.heap[w.heap.size + 1]? = some (.loop (rec_ .ready none)) ∧ W.heap[w.heap.size]? = some (.deferred (some []))
  let Jx : World → Prop := fun W => Ix .ret W ∧ W.heap[w.heap.size + 1]? = some (.loop (rec_ .done (some .ret))) ∧ W.heap[w.heap.size]? = some (.deferred (some []))
  have hJ : ∀ i W v, J i W → J i (W.setCell ⟨sB, 0, none⟩ v) := by
    rintro i W v ⟨j1, j2, j3, j4⟩
    refine ⟨hI.set i W v j1, by rw [World.size_setCell]; exact j2, ?_, ?_⟩
    · rw [Below.heap_setCell W ⟨sB, 0, none⟩ v _ (by show w.heap.size + 1 ≠ sB; omega)]; exact j3
    · rw [Below.heap_setCell W ⟨sB, 0, none⟩ v _ (by show w.heap.size ≠ sB; omega)]; exact j4
  have hJd : ∀ i W, J i W → J i W.drew := fun i W h => ⟨hI.drew i W h.1, h.2.1, h.2.2.1, h.2.2.2⟩
  refine (hseq (w.heap.size + 1) J Jx W1 hJ hJd kS ?_ ⟨kI, (Array.getElem?_eq_some_iff.1 kL).1, kL, kD⟩).mono ?_
  · -- one round
    rintro i x W hx ⟨j1, j2, j3, j4⟩
    have hy := run_yield (P := P) (args := #[enc x]) j3 (by show 1 = ps.size; omega)
    refine ⟨fn, _, assign, body, hy, roundIn_of_wpIn hfn (hassign _ x W _ ⟨_, run_beginRound j3 rfl, ?_⟩)⟩
    obtain ⟨W2, hW2⟩ : ∃ W2, W.putObj (w.heap.size + 1) (.loop { rec_ .ready none with state := .busy }) = W2 := ⟨_, rfl⟩
    have b1 : W2.heap[w.heap.size + 1]? = some (.loop { rec_ .ready none with state := .busy }) := by rw [← hW2]; exact World.putObj_heap_same j2
    have b2 : W2.heap[w.heap.size]? = some (.deferred (some [])) := by rw [← hW2, World.putObj_heap_other (by omega)]; exact j4
    have b3 : W2.heap[sB]? = W.heap[sB]? := by rw [← hW2, World.putObj_heap_other (by omega)]
    have b4 : W2.heap.size = W.heap.size := by rw [← hW2, World.putObj_size]
    have b5 : I i W2 := by rw [← hW2]; exact hI.put i W (w.heap.size + 1) _ _ j1 (by omega) j3 rfl
    show body.wpIn _ _ _ _ _ (W.putObj (w.heap.size + 1) (.loop { rec_ .ready none with state := .busy }))
    rw [hW2]
    refine wpIn_mono (hbody _ i x W2 hx b5 (by omega)) ?_
    -- the end of the round
    have fin : ∀ (jump : Option Code) (W3 : World), KeepAt (fun k => k = sB ∨ k = w.heap.size ∨ k = w.heap.size + 1) W2 W3 →
        W3.heap[w.heap.size + 1]? = some (.loop { rec_ .ready none with state := .busy }) ∧
        (Instr.endRound (w.heap.size + 1) jump).run P W3 = .ok (.bool jump.isNone) (W3.putObj (w.heap.size + 1) (.loop (rec_ (if jump.isNone then .ready else .done) jump))) ∧
        w.heap.size + 1 < (W3.putObj (w.heap.size + 1) (.loop (rec_ (if jump.isNone then .ready else .done) jump))).heap.size ∧
        (W3.putObj (w.heap.size + 1) (.loop (rec_ (if jump.isNone then .ready else .done) jump))).heap[w.heap.size + 1]? = some (.loop (rec_ (if jump.isNone then .ready else .done) jump)) ∧
        (W3.putObj (w.heap.size + 1) (.loop (rec_ (if jump.isNone then .ready else .done) jump))).heap[w.heap.size]? = some (.deferred (some [])) ∧
        (W3.putObj (w.heap.size + 1) (.loop (rec_ (if jump.isNone then .ready else .done) jump))).heap[sB]? = W.heap[sB]? := by
      intro jump W3 hk
      have c1 : W3.heap[w.heap.size + 1]? = some (.loop { rec_ .ready none with state := .busy }) := (hk.same _ (.inr (.inr rfl)) (by omega)).trans b1
      have c2 : W3.heap[w.heap.size]? = some (.deferred (some [])) := (hk.same _ (.inr (.inl rfl)) (by omega)).trans b2
      have c3 : W3.heap[sB]? = W.heap[sB]? := ((hk.same _ (.inl rfl) (by omega)).trans b3)
      have c4 : w.heap.size + 1 < W3.heap.size := (Array.getElem?_eq_some_iff.1 c1).1
      refine ⟨c1, run_endRound (P := P) jump c1, by rw [World.putObj_size]; exact c4, World.putObj_heap_same c4, ?_, ?_⟩
      · rw [World.putObj_heap_other (by omega)]; exact c2
      · rw [World.putObj_heap_other (by omega)]; exact c3
    rintro e a3 W3 hp
    cases e with
    | normal =>
      obtain ⟨hk, hi⟩ := hp
      obtain ⟨f0, f1, f2, f3, f4, f5⟩ := fin none W3 hk
      exact ⟨_, _, f1, .inl ⟨rfl, ⟨hI.put _ _ (w.heap.size + 1) _ _ hi (by omega) f0 rfl, f2, f3, f4⟩, f5⟩⟩
    | ret =>
      obtain ⟨hk, hi⟩ := hp
      obtain ⟨f0, f1, f2, f3, f4, f5⟩ := fin (some .ret) W3 hk
      exact ⟨_, _, f1, .inr ⟨rfl, hIx _ (w.heap.size + 1) _ _ hi (by omega) f0 rfl, f3, f4⟩⟩
    | exit id => exact hp.elim
    | goto t => exact hp.elim
    | panic ch => exact hp.elim
    | outgrown => exact hp.elim
  · -- behind the iterator
    rintro e W2 ⟨⟨v, rfl⟩, (⟨j1, j2, j3, j4⟩ | ⟨j1, j3, j4⟩)⟩
    · refine ⟨none, _, run_endLoop (P := P) j3 (by intro h; cases h), ?_⟩
      exact hdone _ (hI.put _ _ (w.heap.size + 1) _ _ j1 (by omega) j3 rfl) (by rw [World.putObj_heap_other (by omega)]; exact j4)
    · refine ⟨some .ret, _, run_endLoop (P := P) j3 (by intro h; cases h), ?_⟩
      exact hstop _ (hIx _ (w.heap.size + 1) _ _ j1 (by omega) j3 rfl) (by rw [World.putObj_heap_other (by omega)]; exact j4)
end Go.Proofs.YthfjjdkaplibmaaDoor

namespace Go.Proofs.YthfjjdkaplibmaaDoor.Pr
open Go Go.RowKit Go.Proofs.YthfjjdkaplibmaaDoorW.PrintWords
attribute [local go_sem] Oper.semAt_some
set_option linter.unusedVariables false
set_option linter.unusedSimpArgs false

theorem indexByte_lt (l : List UInt8) (c : UInt8) (h : 0 ≤ Lib.indexByte l c) : Lib.indexByte l c < l.length := by
  induction l with
  | nil => simp [Lib.indexByte] at h
  | cons b l ih =>
    unfold Lib.indexByte at h ⊢
    split
    · simp
    · rename_i hb
      rw [if_neg hb] at h
      split
      · rename_i h1; rw [if_pos h1] at h; omega
      · rename_i h1
        have hg := Lib.indexByte_ge l c
        have h2 : Lib.indexByte l c ≠ -1 := by simpa using h1
        have := ih (by omega)
        simp
        omega
def strLen (sB : Nat) (w : World) : Nat := match w.cell? ⟨sB, 0, none⟩ with
  | some (.string s) => s.size
  | _ => 0
theorem strLen_of {sB : Nat} {w : World} {s : ByteArray} (h : w.cell? ⟨sB, 0, none⟩ = some (.string s)) : strLen sB w = s.size := by unfold strLen; rw [h]

theorem raw_step {k i : Nat} {si : ByteArray} {L : List ByteArray} (h : rawB k si = L.drop i) (hk : si.size < k) (h0 : si.size ≠ 0) {m : Nat} (hm : Lib.indexByte si.data.toList 10 = m) :
    L[i]? = some (si.extract 0 (m + 1)) ∧ ∃ k', k = k' + 1 ∧ rawB k' (si.extract (m + 1) si.size) = L.drop (i + 1) ∧ i + 1 ≤ L.length := by
  obtain ⟨k, rfl⟩ : ∃ q, k = q + 1 := ⟨k - 1, by omega⟩
  rw [rawB, if_neg h0, if_pos (by omega), hm, Int.toNat_natCast] at h
  have hl : i < L.length := by
    apply Classical.byContradiction
    intro hn
    rw [List.drop_eq_nil_iff.2 (by omega)] at h
    cases h
  rw [List.drop_eq_getElem_cons hl] at h
  injection h with h1 h2
  exact ⟨by rw [List.getElem?_eq_getElem hl, ← h1], k, rfl, h2, hl⟩
theorem raw_last {k i : Nat} {si : ByteArray} {L : List ByteArray} (h : rawB k si = L.drop i) (hk : si.size < k) (h0 : si.size ≠ 0) (hm : ¬ 0 ≤ Lib.indexByte si.data.toList 10) :
    L[i]? = some si ∧ rawB 1 ⟨#[]⟩ = L.drop (i + 1) ∧ i + 1 ≤ L.length := by
  obtain ⟨k, rfl⟩ : ∃ q, k = q + 1 := ⟨k - 1, by omega⟩
  rw [rawB, if_neg h0, if_neg hm] at h
  have hl : i < L.length := by
    apply Classical.byContradiction
    intro hn
    rw [List.drop_eq_nil_iff.2 (by omega)] at h
    cases h
  rw [List.drop_eq_getElem_cons hl] at h
  injection h with h1 h2
  exact ⟨by rw [List.getElem?_eq_getElem hl, ← h1], by rw [← h2]; rfl, hl⟩
set_option maxRecDepth 100000 in
set_option maxHeartbeats 2000000 in
theorem lines_gives (n : Nat) (hd : 1 ≤ n) (sB : Nat) (s : ByteArray) (hs : s.size ≤ 1000000) :
    GivesSt Fence.wide n Tryd.prog 74 #[.pointer (some ⟨sB, 0, none⟩)] (fun b : ByteArray => Value.string b) (rawB (s.size + 1) s) sB (.cells #[.string s] 9 (0, 0)) := by
  intro l J Jx W hJ hJd hS hY h0
  have HJ := Aside0.mk hJ
  have HJd := Aside0.mk hJd
  clear hJd
  have HY := Aside0.mk hY
  clear hJ hY
  refine callsIn_of_wp Tryd.func74 rfl trivial ?_ rfl
  simp only [Tryd.ntmps74, List.size_toArray, List.length_cons, List.length_nil, Nat.reduceAdd, Nat.reduceSub, Array.replicate_succ, Array.replicate_zero, List.push_toArray, List.append_toArray, List.nil_append, List.cons_append]
  gi_wp2
  gi_loopw [3] (fun v wr => ∃ (i k : Nat) (si : ByteArray), Boxed wr sB 9 (.string si) ∧ si.size < k ∧ si.size ≤ 1000000 ∧ Aside0 (rawB k si = (rawB (s.size + 1) s).drop i) ∧ Aside0 (i ≤ (rawB (s.size + 1) s).length) ∧ Aside0 (J i wr)) (fun _ wr => strLen sB wr)
  case atStart => exact ⟨0, s.size + 1, s, hS, by omega, hs, ⟨rfl⟩, ⟨Nat.zero_le _⟩, ⟨h0⟩⟩
  case round =>
    clear hS h0
    obtain ⟨i, k, si, hB, hk, hsi, hraw, hle, hJ⟩ := hrel
    have hc := hB.cell
    have hf := hB.frozen
    by_cases h1 : si.size = 0
    · have hgt : decide (0 < si.size) = false := by simp [h1]
      gi_wp2
      go_end0
      refine ⟨⟨_, rfl⟩, .inl ?_⟩
      have e1 : rawB k si = [] := by obtain ⟨k, rfl⟩ : ∃ m, k = m + 1 := ⟨k - 1, by omega⟩; simp [rawB, h1]
      have e2 := hraw.out
      rw [e1] at e2
      have e3 := List.drop_eq_nil_iff.1 e2.symm
      rw [show (rawB (s.size + 1) s).length = i from Nat.le_antisymm e3 hle.out]
      exact hJ.out
    · have hgt : decide (0 < si.size) = true := by simp; omega
      by_cases h2 : 0 ≤ Lib.indexByte si.data.toList 10
      · obtain ⟨m, hm⟩ : ∃ m : Nat, Lib.indexByte si.data.toList 10 = m := ⟨_, (Int.toNat_of_nonneg h2).symm⟩
        have hlt : m < si.size := by have := indexByte_lt _ _ h2; rw [hm] at this; have e : si.data.toList.length = si.size := Array.length_toList; omega
        have hI : ∀ w, Calls Tryd.prog 75 #[.string si, .int .u8 10] w fun e w' => e = .returned (.int .i64 (m : Int)) ∧ w = w' := by intro w; rw [← hm]; exact (Tryd.strings_IndexByte si 10 w).mono fun _ _ h => ⟨h.1, h.2.symm⟩
        obtain ⟨hx, k', hk', hr', hl'⟩ := raw_step hraw.out hk h1 hm
        have HX := Aside0.mk hx
        have HR' := Aside0.mk hr'
        have HL' := Aside0.mk hl'
        have hke : k' + 1 ≤ k ∧ k ≤ k' + 1 := by omega
        obtain ⟨hke1, hke2⟩ := hke
        clear hx hr' hl' hk' 
        have HI := Lib.hid hI
        have HM := Lib.hid hm
        clear hI hm h2
        gi_wp2_with (refine ⟨trivial, ?_⟩; gi_at_call 75; refine (callsIn_wide.2 (HI.out _)).mono ?_; rintro e w' ⟨rfl, rfl⟩)
        gi_region
        obtain ⟨fn, tmps, assign, body, hy, hR⟩ := HY.out i _ ((wr.setCell ⟨sB, 0, none⟩ (.string (si.extract (m + 1) si.size))).drew) HX.out (HJd.out _ _ (HJ.out _ _ _ hJ.out))
        have HR := Aside0.mk hR
        have HB := Aside0.mk hB
        clear hR hB hc hf
        gi_wp2
        refine HR.out.mono ?_
        rintro e W3 (⟨rfl, hJ3, hk3⟩ | ⟨rfl, hx3⟩)
        · have hB3 : Boxed W3 sB 9 (.string (si.extract (m + 1) si.size)) := hk3.trans (HB.out.set (.string (si.extract (m + 1) si.size)))
          have HB3 := Aside0.mk hB3
          have HJ3 := Aside0.mk hJ3
          clear hB3 hJ3 hk3 hy
          gi_wp2
          go_roundw
          case rel => exact ⟨i + 1, k', _, HB3.out, by rw [ByteArray.size_extract]; omega, by rw [ByteArray.size_extract]; omega, HR', HL', HJ3⟩
          case measure => rw [strLen_of HB3.out.cell, strLen_of HB.out.cell, ByteArray.size_extract]; omega
        · have HX3 := Aside0.mk hx3
          clear hx3 hy
          gi_wp2
          refine bodyPost_ret (results_none rfl _ _ _) rfl ?_
          exact ⟨⟨_, rfl⟩, .inr HX3.out⟩
      · obtain ⟨hx, hr', hl'⟩ := raw_last hraw.out hk h1 h2
        have hI : ∀ w, Calls Tryd.prog 75 #[.string si, .int .u8 10] w fun e w' => e = .returned (.int .i64 (-1)) ∧ w = w' := by
          intro w
          have e : Lib.indexByte si.data.toList 10 = -1 := by have := Lib.indexByte_ge si.data.toList 10; omega
          rw [← e]
          exact (Tryd.strings_IndexByte si 10 w).mono fun _ _ h => ⟨h.1, h.2.symm⟩
        have HX := Aside0.mk hx
        have HR' := Aside0.mk hr'
        have HL' := Aside0.mk hl'
        have HI := Lib.hid hI
        clear hI h2 hx hr' hl'
        obtain ⟨fn, tmps, assign, body, hy, hR⟩ := HY.out i _ (wr.setCell ⟨sB, 0, none⟩ (.string ⟨#[]⟩)) HX.out (HJ.out _ _ _ hJ.out)
        have HR := Aside0.mk hR
        have HB := Aside0.mk hB
        clear hR hB
        gi_wp2_with (refine ⟨trivial, ?_⟩; gi_at_call 75; refine (callsIn_wide.2 (HI.out _)).mono ?_; rintro e w' ⟨rfl, rfl⟩)
        refine HR.out.mono ?_
        rintro e W3 (⟨rfl, hJ3, hk3⟩ | ⟨rfl, hx3⟩)
        · have hB3 : Boxed W3 sB 9 (.string ⟨#[]⟩) := hk3.trans (HB.out.set (.string ⟨#[]⟩))
          have HB3 := Aside0.mk hB3
          have HJ3 := Aside0.mk hJ3
          clear hB3 hJ3 hk3 hy
          gi_wp2
          go_roundw
          case rel => exact ⟨i + 1, 1, _, HB3.out, Nat.zero_lt_one, Nat.zero_le _, HR', HL', HJ3⟩
          case measure => rw [strLen_of HB3.out.cell, strLen_of HB.out.cell]; exact Nat.pos_of_ne_zero h1
        · have HX3 := Aside0.mk hx3
          clear hx3 hy
          gi_wp2
          refine bodyPost_ret (results_none rfl _ _ _) rfl ?_
          exact ⟨⟨_, rfl⟩, .inr HX3.out⟩
theorem lines_calls (s : ByteArray) (w : World) : Calls Tryd.prog 50 #[.string s] w fun e w' => e = .returned (.func (.func 74) #[] #[.pointer (some ⟨w.heap.size, 0, none⟩)]) ∧ w' = w.alloc (.cells #[.string s] 9) := by
  go_enter Tryd.func50, Tryd.ntmps50
  go_wp2
  go_ret
  exact ⟨rfl, rfl⟩
end Go.Proofs.YthfjjdkaplibmaaDoor.Pr

namespace Go.Proofs.YthfjjdkaplibmaaDoor.Pr
open Go Go.RowKit Go.Proofs.YthfjjdkaplibmaaDoorW.PrintWords Go.Proofs.YthfjjdkaplibmaaDoorW.PrintLast Go.Proofs.YthfjjdkaplibmaaDoorW.PrintMore
attribute [local go_sem] Oper.semAt_some
set_option linter.unusedVariables false
set_option linter.unusedSimpArgs false

theorem rawB_len (k : Nat) (s : ByteArray) : (rawB k s).length ≤ k := by
  induction k generalizing s with
  | zero => simp [rawB]
  | succ k ih =>
    unfold rawB
    split
    · simp
    · split
      · have := ih (s.extract ((Lib.indexByte s.data.toList 10).toNat + 1) s.size)
        simp only [List.length_cons]; omega
      · simp
theorem bx_blk {W : World} {B : Nat} {t : TypeId} {v : Value} (h : Boxed W B t v) : W.heap[B]? = some (.cells #[v] t (0, 0)) := h

theorem q24 (t : Nat) (ht : t ≠ 24) : ∀ q, q ∈ 24 :: k24.E → q ≠ t := by intro q hq; simp [k24, Kd.iso, Kd.pair, Kd.int, Kd.scalar] at hq; omega
theorem bx_put {W : World} {B : Nat} {t : TypeId} {v : Value} (h : Boxed W B t v) {r : Nat} (o : Obj) (hr : r ≠ B) : Boxed (W.putObj r o) B t v := (World.putObj_heap_other (w := W) (Ne.symm hr)).trans h
theorem bx_far {W : World} {B : Nat} {t : TypeId} {v : Value} (h : Boxed W B t v) {r : Nat} (u : Value) (hr : B ≠ r) : Boxed (W.setCell ⟨r, 0, none⟩ u) B t v := (Below.heap_setCell W ⟨r, 0, none⟩ u B hr).trans h
theorem bx_below {W W' : World} {B : Nat} {t : TypeId} {v : Value} (h : Boxed W B t v) (hb : Below W.heap.size W W') : Boxed W' B t v := (hb.block B h.lt).trans h
theorem below_put {w W : World} (h : Below w.heap.size w W) {r : Nat} (o : Obj) (hr : w.heap.size ≤ r) : Below w.heap.size w (W.putObj r o) :=
  ⟨h.os, h.tape, h.output, by rw [World.putObj_size]; exact h.size, fun k hk => by rw [World.putObj_heap_other (by omega)]; exact h.block k hk⟩

/-- What lies in memory in a round. -/
structure RW (w W : World) (out : List S24) (v u : Value) (n : Int) : Prop where
  le : out.length ≤ 400
  a0 : Boxed W w.heap.size 35 (.slice none 0 0)
  a1 : Boxed W (w.heap.size + 1) 3 (.int .i64 0)
  a2 : Boxed W (w.heap.size + 2) 25 (.int .i64 0)
  a3 : Boxed W (w.heap.size + 3) 35 v
  a4 : Boxed W (w.heap.size + 4) 3 (.int .i64 n)
  a5 : Boxed W (w.heap.size + 5) 9 u
  row : k24.R 24 W w.heap.size (fun k => k ≠ w.heap.size + 6 ∧ k ≠ w.heap.size + 7) v out
  bel : Below w.heap.size w W
theorem RW.set {w W : World} {out : List S24} {v u : Value} {n : Int} (h : RW w W out v u n) (x : Value) : RW w (W.setCell ⟨w.heap.size + 5, 0, none⟩ x) out v x n :=
  ⟨h.le, bx_far h.a0 _ (by omega), bx_far h.a1 _ (by omega), bx_far h.a2 _ (by omega), bx_far h.a3 _ (by omega), bx_far h.a4 _ (by omega), h.a5.set x, Kd.R_set h.row h.a5 (q24 9 (by decide)) 0 x, below_set h.bel (by omega)⟩
theorem RW.tick {w W : World} {out : List S24} {v u : Value} {n : Int} (h : RW w W out v u n) (m : Int) : RW w (W.setCell ⟨w.heap.size + 4, 0, none⟩ (.int .i64 m)) out v u m :=
  ⟨h.le, bx_far h.a0 _ (by omega), bx_far h.a1 _ (by omega), bx_far h.a2 _ (by omega), bx_far h.a3 _ (by omega), h.a4.set _, bx_far h.a5 _ (by omega), Kd.R_set h.row h.a4 (q24 3 (by decide)) 0 _, below_set h.bel (by omega)⟩
theorem RW.drew {w W : World} {out : List S24} {v u : Value} {n : Int} (h : RW w W out v u n) : RW w W.drew out v u n := ⟨h.le, h.a0, h.a1, h.a2, h.a3, h.a4, h.a5, Kd.R_drew h.row, below_drew h.bel⟩
theorem RW.alloc {w W : World} {out : List S24} {v u : Value} {n : Int} (h : RW w W out v u n) (o : Obj) : RW w (W.alloc o) out v u n :=
  ⟨h.le, h.a0.alloc _, h.a1.alloc _, h.a2.alloc _, h.a3.alloc _, h.a4.alloc _, h.a5.alloc _, Kd.R_alloc h.row _, below_alloc h.bel _⟩
theorem RW.below {w W W' : World} {out : List S24} {v u : Value} {n : Int} (h : RW w W out v u n) (hb : Below W.heap.size W W') : RW w W' out v u n :=
  ⟨h.le, bx_below h.a0 hb, bx_below h.a1 hb, bx_below h.a2 hb, bx_below h.a3 hb, bx_below h.a4 hb, bx_below h.a5 hb, Kd.R_below h.row hb, below_step h.bel hb⟩
theorem RW.put {w W : World} {out : List S24} {v u : Value} {n : Int} (h : RW w W out v u n) {r : Nat} {o : Obj} (o' : Obj) (hr : w.heap.size + 6 ≤ r) (ho : W.heap[r]? = some o) (hc : o.isCells = false) : RW w (W.putObj r o') out v u n := by
  refine ⟨h.le, bx_put h.a0 _ (by omega), bx_put h.a1 _ (by omega), bx_put h.a2 _ (by omega), bx_put h.a3 _ (by omega), bx_put h.a4 _ (by omega), bx_put h.a5 _ (by omega), ?_, below_put h.bel _ (by omega)⟩
  refine Kd.R_mono (Kd.R_move (Kd.R_bound h.row) ?_) (fun _ hk => hk.1)
  rintro k ⟨_, _, _, q, _, cells, hk⟩
  refine World.putObj_heap_other ?_
  rintro rfl
  rw [ho] at hk
  cases hk
  cases hc
/-- What holds between two rounds. -/
structure RI (w : World) (L : List ByteArray) (i : Nat) (W : World) (out : List S24) (v : Value) (u : Value) : Prop extends RW w W out v u (i : Int) where
  go : rGo (L.drop i) out i = rGo L [] 0
/-- What holds where a round has left. -/
structure RX (w : World) (L : List ByteArray) (W : World) (r2 r3 : Int) : Prop where
  go : rGo L [] 0 = ([], r2, r3)
  a0 : Boxed W w.heap.size 35 (.slice none 0 0)
  a1 : Boxed W (w.heap.size + 1) 3 (.int .i64 r2)
  a2 : Boxed W (w.heap.size + 2) 25 (.int .i64 r3)
  bel : Below w.heap.size w W

theorem RW.leave {w W : World} {out : List S24} {v u : Value} {n : Int} (h : RW w W out v u n) (L : List ByteArray) (e : Int) (hg : rGo L [] 0 = ([], n, e)) :
    RX w L (((W.setCell ⟨w.heap.size, 0, none⟩ (.slice none 0 0)).setCell ⟨w.heap.size + 1, 0, none⟩ (.int .i64 n)).setCell ⟨w.heap.size + 2, 0, none⟩ (.int .i64 e)).drew n e where
  go := hg
  a0 := bx_far (bx_far (h.a0.set _) _ (by omega)) _ (by omega)
  a1 := bx_far ((bx_far h.a1 _ (by omega)).set _) _ (by omega)
  a2 := (bx_far (bx_far h.a2 _ (by omega)) _ (by omega)).set _
  bel := below_drew (below_set (below_set (below_set h.bel (Nat.le_refl _)) (by omega)) (by omega))
theorem keep_leave {n0 n1 : Nat} (hn : n1 = n0 + 6) (W : World) (v0 v1 v2 : Value) :
    KeepAt (fun k => k = n0 + 5 ∨ k = n1 ∨ k = n1 + 1) W (((W.setCell ⟨n0, 0, none⟩ v0).setCell ⟨n0 + 1, 0, none⟩ v1).setCell ⟨n0 + 2, 0, none⟩ v2).drew :=
  (((KeepAt.set _ _ _ (by simp; omega)).trans (KeepAt.set _ _ _ (by simp; omega))).trans (KeepAt.set _ _ _ (by simp; omega))).trans (KeepAt.drew _)

def five (k a b c d : Int) : List Value := [.int .i64 k, .int .i64 a, .int .i64 b, .int .i64 c, .int .i64 d]
theorem five_M (w : World) (base : Nat) (ok : Nat → Prop) (k a b c d : Int) : k24.M w base ok ⟨k, a, b, c, d⟩ (five k a b c d) := ⟨[.int .i64 k], [.int .i64 a, .int .i64 b, .int .i64 c, .int .i64 d], rfl, rfl, [.int .i64 a], [.int .i64 b, .int .i64 c, .int .i64 d], rfl, rfl, [.int .i64 b], [.int .i64 c, .int .i64 d], rfl, rfl, [.int .i64 c], [.int .i64 d], rfl, rfl, rfl⟩
theorem five_cells (W : World) (g : Nat) (hg : g = W.heap.size) (k a b c d : Int) : ∀ j u, (five k a b c d)[j]? = some u → (W.alloc (.cells #[.int .i64 k, .int .i64 a, .int .i64 b, .int .i64 c, .int .i64 d] 24)).cell? ((⟨g, 0, none⟩ : Addr).add j) = some u := by
  subst hg
  intro j u h
  have e : ((⟨W.heap.size, 0, none⟩ : Addr).add j) = ⟨W.heap.size, j, none⟩ := by simp [Addr.add]; omega
  rw [e, blk_cell (blk_new W (.cells #[.int .i64 k, .int .i64 a, .int .i64 b, .int .i64 c, .int .i64 d] 24)) j, ← h]
  simp [five]
/-- The row has grown, and the box is to hold the new slice. -/
theorem RW.appended {w W w3 : World} {out : List S24} {v v' u : Value} {n : Int} (h : RW w W out v u n) (hw : w.heap.size + 8 ≤ W.heap.size) (hl : out.length < 400) (k a b c d : Int) {inner : List Value}
    (h0 : ∀ k, v.ownBlock = some k → (k ≠ w.heap.size + 6 ∧ k ≠ w.heap.size + 7)) (hr : Reps (k24.M W w.heap.size (fun k => (k ≠ w.heap.size + 6 ∧ k ≠ w.heap.size + 7) ∧ some k ≠ v.ownBlock)) 5 out inner)
    (hown : w3.ownsRow w.heap.size 24 5 v' (out.length + 1) (inner ++ five k a b c d)) (hg : W.grownBy w3 v.ownBlock) (hat : v'.ownBlock = v.ownBlock ∨ v'.ownBlock = some W.heap.size) :
    Boxed w3 (w.heap.size + 3) 35 v ∧ RW w (w3.setCell ⟨w.heap.size + 3, 0, none⟩ v') (out ++ [⟨k, a, b, c, d⟩]) v' u n ∧ KeepAt (fun k => k = w.heap.size + 5 ∨ k = w.heap.size + 6 ∨ k = w.heap.size + 7) W (w3.setCell ⟨w.heap.size + 3, 0, none⟩ v') := by
  have hne : ∀ {g t : Nat} {x : Value}, Boxed W g t x → t ≠ 24 → some g ≠ v.ownBlock := fun hb ht => Kd.R_ne h.row hb (Ne.symm ht)
  have c0 := h.a0.kept hg (hne h.a0 (by decide))
  have c1 := h.a1.kept hg (hne h.a1 (by decide))
  have c2 := h.a2.kept hg (hne h.a2 (by decide))
  have c3 := h.a3.kept hg (hne h.a3 (by decide))
  have c4 := h.a4.kept hg (hne h.a4 (by decide))
  have c5 := h.a5.kept hg (hne h.a5 (by decide))
  have hB : Below w.heap.size w w3 := h.bel.grown hg h.bel.size (fun k hk => by
    obtain ⟨inner, ho⟩ := Kd.R_own h.row
    exact own_base ho k hk)
  have hR : k24.R 24 w3 w.heap.size (fun k => k ≠ w.heap.size + 6 ∧ k ≠ w.heap.size + 7) v' (out ++ [⟨k, a, b, c, d⟩]) :=
    Kd.R_appended (okp := fun _ => False) h0 hr (five_M W _ _ k a b c d) (fun _ hk => hk.elim) (fun k hk => by omega) hown hg (by rcases hat with e | e; exact .inl e; exact .inr ⟨_, e, Nat.le_refl _⟩)
  refine ⟨c3, ⟨by rw [List.length_append]; simp; omega, bx_far c0 _ (by omega), bx_far c1 _ (by omega), bx_far c2 _ (by omega), c3.set _, bx_far c4 _ (by omega), bx_far c5 _ (by omega), Kd.R_set hR c3 (q24 35 (by decide)) 0 _, below_set hB (by omega)⟩, ?_, ?_⟩
  · rw [World.size_setCell]; exact hg.size
  · intro k hk hlt
    rw [Below.heap_setCell w3 ⟨w.heap.size + 3, 0, none⟩ v' k (by show k ≠ w.heap.size + 3; omega)]
    refine hg.block k hlt ?_
    rcases hk with rfl | rfl | rfl
    · exact hne h.a5 (by decide)
    · exact fun e => (h0 _ e.symm).1 rfl
    · exact fun e => (h0 _ e.symm).2 rfl
theorem trimNL_size (x : ByteArray) : (trimNL x).size ≤ x.size := by
  have e : x.data.toList.length = x.size := Array.length_toList
  unfold trimNL Lib.trimSuffix
  rw [ba_size]
  split
  · simp
  · exact Nat.le_refl _

theorem RI.abSt (w : World) (L : List ByteArray) (B : Nat) (hB : B = w.heap.size + 6) : AbSt (w.heap.size + 5) B (fun i W => ∃ out v u, RI w L i W out v u) where
  set := by rintro i W x ⟨out, v, u, h⟩; exact ⟨out, v, x, h.toRW.set x, h.go⟩
  drew := by rintro i W ⟨out, v, u, h⟩; exact ⟨out, v, u, h.toRW.drew, h.go⟩
  alloc := by rintro i W o ⟨out, v, u, h⟩; exact ⟨out, v, u, h.toRW.alloc o, h.go⟩
  put := by rintro i W r o o' ⟨out, v, u, h⟩ hr ho hc; exact ⟨out, v, u, h.toRW.put o' (by omega) ho hc, h.go⟩
theorem idle_bt (y : ByteArray) (h : y.size ≠ 0) : idle y = (bt y 0 == 35) := by
  cases y with | mk a => cases a with | mk l => cases l with
    | nil => exact absurd rfl h
    | cons b t =>
      have e : bt ⟨⟨b :: t⟩⟩ 0 = (b.toNat : Int) := by
        unfold bt
        rw [dif_pos (by show 0 < t.length + 1; omega)]
        rfl
      rw [e]
      unfold idle
      have e2 : decide ((⟨⟨b :: t⟩⟩ : ByteArray).size = 0) = false := decide_eq_false h
      rw [e2, Bool.false_or]
      show (some b == some 35) = _
      by_cases hb : b = 35
      · subst hb; rfl
      · rw [beq_eq_false_iff_ne.2 (by simpa using hb), eq_comm, beq_eq_false_iff_ne]
        intro e3
        exact hb (UInt8.toNat_inj.1 (by have : b.toNat = 35 := by omega
                                        exact this))

theorem info24' : (Tryd.prog.info? 24).map (fun i => (i.zero, i.size, i.bytes)) = some (some (.agg #[.int .i64 0, .int .i64 0, .int .i64 0, .int .i64 0, .int .i64 0]), 5, 40) := by kernel_rfl
theorem mixed : Tryd.prog.follows .mixedOrders = true := by kernel_rfl
theorem raw_size (k : Nat) (s : ByteArray) : ∀ x ∈ rawB k s, x.size ≤ s.size := by
  induction k generalizing s with
  | zero => simp [rawB]
  | succ k ih =>
    unfold rawB
    split
    · simp
    · split
      · intro x hx
        rcases List.mem_cons.1 hx with rfl | hx
        · rw [ByteArray.size_extract]; omega
        · have := ih _ x hx
          rw [ByteArray.size_extract] at this
          omega
      · intro x hx
        rw [List.mem_singleton.1 hx]
        exact Nat.le_refl _

theorem results_3 {P : Program} {fn : Func} {p0 p1 p2 : Tmp} {y0 y1 y2 : TypeId} (h : fn.results = #[.cell p0 y0, .cell p1 y1, .cell p2 y2]) (tmps : Array Value) (w : World) (g0 g1 g2 : Nat) (v0 v1 v2 : Value)
    (h0 : tmps.getD p0 undef = .pointer (some ⟨g0, 0, none⟩)) (h1 : tmps.getD p1 undef = .pointer (some ⟨g1, 0, none⟩)) (h2 : tmps.getD p2 undef = .pointer (some ⟨g2, 0, none⟩))
    (l0 : (loadVar y0 ⟨g0, 0, none⟩).run P w = .ok v0 w) (l1 : (loadVar y1 ⟨g1, 0, none⟩).run P w = .ok v1 w) (l2 : (loadVar y2 ⟨g2, 0, none⟩).run P w = .ok v2 w) :
    (results fn tmps).run P w = .ok (.tuple #[v0, v1, v2]) w := by
  have e0 : tmps[p0]?.getD undef = .pointer (some ⟨g0, 0, none⟩) := by simpa using h0
  have e1 : tmps[p1]?.getD undef = .pointer (some ⟨g1, 0, none⟩) := by simpa using h1
  have e2 : tmps[p2]?.getD undef = .pointer (some ⟨g2, 0, none⟩) := by simpa using h2
  simp [results, h, e0, e1, e2, asAddr, l0, l1, l2]
theorem load_35 {w : World} {b : Nat} {v : Value} (h : Boxed w b 35 v) : (loadVar 35 ⟨b, 0, none⟩).run Tryd.prog w = .ok v w := by
  have hc := h.cell
  simp [loadVar, hc, Tryd.underlying35, go_sem]
theorem load_3 {w : World} {b : Nat} {v : Value} (h : Boxed w b 3 v) : (loadVar 3 ⟨b, 0, none⟩).run Tryd.prog w = .ok v w := by
  have hc := h.cell
  simp [loadVar, hc, Tryd.underlying3, go_sem]
theorem load_25 {w : World} {b : Nat} {v : Value} (h : Boxed w b 25 v) : (loadVar 25 ⟨b, 0, none⟩).run Tryd.prog w = .ok v w := by
  have hc := h.cell
  simp [loadVar, hc, Tryd.underlying25, go_sem]

set_option maxRecDepth 100000 in
set_option maxHeartbeats 4000000 in
theorem script_Read_in (a0 : ByteArray) (L : List ByteArray) (hL : rawB (a0.size + 1) a0 = L) (hs : a0.size ≤ 1000000) (w : World) (HE : Aside0 (Env w)) :
    Calls Tryd.prog 18 #[.string a0] w fun e w' => ∃ v0_ : Value, e = .returned (.tuple #[v0_, .int .i64 (rGo L [] 0).2.1, .int .i64 (rGo L [] 0).2.2]) ∧ Kd.R k24 24 w' w.heap.size (fun _ => True) v0_ (rGo L [] 0).1 ∧ Below w.heap.size w w' := by
  have hlen : Aside0 (L.length ≤ 1000001) := ⟨by rw [← hL]; have := rawB_len (a0.size + 1) a0; omega⟩
  have hsz : Aside0 (∀ x ∈ L, x.size ≤ 1000000) := ⟨by rw [← hL]; intro x hx; have := raw_size _ _ x hx; omega⟩
  have hmx := mixed
  refine (callsIn_wide (n := 3)).1 ?_
  refine callsIn_of_wp_marks Tryd.func18 rfl trivial ?_ rfl
  simp only [Tryd.ntmps18, List.size_toArray, List.length_cons, List.length_nil, Nat.reduceAdd, Nat.reduceSub, Array.replicate_succ, Array.replicate_zero, List.push_toArray, List.append_toArray, List.nil_append, List.cons_append]
  gi_wp2_with (refine ⟨trivial, ?_⟩; gi_at_call 50; refine (callsIn_wide.2 (lines_calls a0 _)).mono ?_; rintro e w' ⟨rfl, rfl⟩)
  obtain ⟨W0, hW0⟩ : ∃ W0, ((((((w.alloc (.cells #[.slice none 0 0] 35)).alloc (.cells #[.int .i64 0] 3)).alloc (.cells #[.int .i64 0] 25)).alloc (.cells #[.slice none 0 0] 35)).alloc (.cells #[.int .i64 0] 3)).alloc (.cells #[.string a0] 9)) = W0 := ⟨_, rfl⟩
  rw [hW0]
  simp only [Nat.add_assoc, Nat.reduceAdd]
  have hW0s : W0.heap.size = w.heap.size + 6 := by rw [← hW0]; simp only [World.size_alloc]
  have hI0 : RI w L 0 W0 [] (.slice none 0 0) (.string a0) := by
    rw [← hW0]
    refine ⟨⟨Nat.zero_le _, ?_, ?_, ?_, ?_, ?_, ?_, Kd.R_nil _ _ _ _ _, ?_⟩, rfl⟩
    · exact (((((Boxed.new w 35 (.slice none 0 0)).alloc _).alloc _).alloc _).alloc _).alloc _
    · have := ((((Boxed.new (w.alloc (.cells #[.slice none 0 0] 35)) 3 (.int .i64 0)).alloc (.cells #[.int .i64 0] 25)).alloc (.cells #[.slice none 0 0] 35)).alloc (.cells #[.int .i64 0] 3)).alloc (.cells #[.string a0] 9); simpa only [World.size_alloc] using this
    · have := (((Boxed.new ((w.alloc (.cells #[.slice none 0 0] 35)).alloc (.cells #[.int .i64 0] 3)) 25 (.int .i64 0)).alloc (.cells #[.slice none 0 0] 35)).alloc (.cells #[.int .i64 0] 3)).alloc (.cells #[.string a0] 9); simpa only [World.size_alloc] using this
    · have := ((Boxed.new (((w.alloc (.cells #[.slice none 0 0] 35)).alloc (.cells #[.int .i64 0] 3)).alloc (.cells #[.int .i64 0] 25)) 35 (.slice none 0 0)).alloc (.cells #[.int .i64 0] 3)).alloc (.cells #[.string a0] 9); simpa only [World.size_alloc] using this
    · have := (Boxed.new ((((w.alloc (.cells #[.slice none 0 0] 35)).alloc (.cells #[.int .i64 0] 3)).alloc (.cells #[.int .i64 0] 25)).alloc (.cells #[.slice none 0 0] 35)) 3 (.int .i64 0)).alloc (.cells #[.string a0] 9); simp only [World.size_alloc] at this; exact this
    · have := Boxed.new (((((w.alloc (.cells #[.slice none 0 0] 35)).alloc (.cells #[.int .i64 0] 3)).alloc (.cells #[.int .i64 0] 25)).alloc (.cells #[.slice none 0 0] 35)).alloc (.cells #[.int .i64 0] 3)) 9 (.string a0); simpa only [World.size_alloc] using this
    · exact below_alloc (below_alloc (below_alloc (below_alloc (below_alloc (below_alloc (Below.refl _ _) _) _) _) _) _) _
  have hs5 : W0.heap[w.heap.size + 5]? = some (.cells #[.string a0] 9 (0, 0)) := hI0.a5
  clear hW0
  refine wpIn_range_st rfl (by omega) (gf := 74) (lb := #[.pointer (some ⟨w.heap.size + 5, 0, none⟩)]) rfl trivial (enters_of Tryd.func74 (by kernel_rfl) rfl) (lines_gives _ (by omega) (w.heap.size + 5) a0 hs) hs5 rfl
    (fun i W => ∃ out v u, RI w L i W out v u) (fun c W => ∃ r2 r3, RX w L W r2 r3) (RI.abSt w L _ hW0s) ?hx ⟨_, _, _, hI0⟩ ?a1 ?assign ?body ?done ?stop
  case assign =>
    intro l x W K hK
    gi_wp2
    exact hK
  case hx =>
    rintro W r o o' ⟨r2, r3, h⟩ hr ho hc
    exact ⟨r2, r3, h.go, bx_put h.a0 _ (by omega), bx_put h.a1 _ (by omega), bx_put h.a2 _ (by omega), below_put h.bel _ (by omega)⟩
  case body =>
    rintro l i x W hx ⟨out, v, u, h⟩ hlt
    have hxs : x.size ≤ 1000000 := hsz.out x (List.mem_of_getElem? (by rw [← hL]; exact hx))
    have hi : i < L.length := by rw [← hL]; exact (List.getElem?_eq_some_iff.1 hx).1
    obtain ⟨y, hy⟩ : ∃ y, trimNL x = y := ⟨_, rfl⟩
    have hyz : y.size ≤ 1000000 := by rw [← hy]; exact Nat.le_trans (trimNL_size x) hxs
    have hT : ∀ w, Calls Tryd.prog 51 #[.string x, .string ⟨#[10]⟩] w fun e w' => e = .returned (.string y) ∧ w' = w := by intro w; rw [← hy]; exact Tryd.strings_TrimSuffix x ⟨#[10]⟩ w (by omega)
    have hgo : rGo (L.drop i) out i = if idle y then rGo (L.drop (i + 1)) out (i + 1) else if 400 ≤ out.length then ([], (i : Int) + 1, 6) else match sParse y with
      | (k, a, b, c, d, e) => if e = 0 then rGo (L.drop (i + 1)) (out ++ [⟨k, a, b, c, d⟩]) (i + 1) else ([], (i : Int) + 1, e) := by
      rw [List.drop_eq_getElem_cons hi, rGo]
      have : L[i] = x := by rw [hL] at hx; exact (List.getElem?_eq_some_iff.1 hx).2
      rw [this, hy]
    obtain ⟨A, c, rfl⟩ := Kd.R_slice h.row
    have hc4 := h.a4.cell
    have hf4 := h.a4.frozen
    have hc3 : (W.setCell ⟨w.heap.size + 4, 0, none⟩ (.int .i64 (i + 1))).cell? ⟨w.heap.size + 3, 0, none⟩ = some (.slice A out.length c) := (bx_far h.a3 _ (by omega)).cell
    have hni : (i : Int) + 1 ≤ 1000001 := by have := hlen.out; omega
    have H := Aside0.mk h
    have HGO := Aside0.mk hgo
    have HHT := Aside0.mk hT
    have HY := Lib.hid hy
    have HX := Lib.hid hx
    clear h hgo hT hy hx
    by_cases z0 : y.size = 0
    · obtain rfl : y = ⟨#[]⟩ := by cases y with | mk a => congr 1; exact Array.size_eq_zero_iff.1 z0
      gi_wp2_with (refine ⟨trivial, ?_⟩; gi_at_call 51; refine (CallsIn.inRound l (callsIn_wide.2 (HHT.out _))).mono ?_; rintro e w' ⟨rfl, rfl⟩)
      exact ⟨KeepAt.set _ _ _ (by simp; omega), _, _, _, H.out.toRW.tick _, HGO.out.symm.trans H.out.go⟩
    · obtain ⟨b0, hb0⟩ : ∃ b0 : Int, bt y 0 = b0 := ⟨_, rfl⟩
      have k0 : (y.toList == ([] : List UInt8)) = false := beq_eq_false_iff_ne.mpr (fun e => z0 (by rw [Lib.toList_data] at e; cases y with | mk a => cases a with | mk l => cases e; rfl))
      have k1 : decide (0 < (y.size : Int)) = true := decide_eq_true (by omega)
      have k2 : decide (0 < y.size) = true := decide_eq_true (by omega)
      have k3 : 0 < y.size := by omega
      have k4 : ∀ h : 0 < y.size, (((y[0]'h).toNat : Int)) = b0 := by intro h; rw [← hb0]; exact bt_at y 0 h
      have HID := Aside0.mk (idle_bt y z0)
      have HYZ := Aside0.mk hyz
      have HB0 := Lib.hid hb0
      clear hyz z0 hb0
      by_cases z1 : b0 = 35
      · have k5 : (b0 == 35) = true := by simp [z1]
        have HK := Aside0.mk k5
        clear z1
        gi_wp2_with (refine ⟨trivial, ?_⟩; gi_at_call 51; refine (CallsIn.inRound l (callsIn_wide.2 (HHT.out _))).mono ?_; rintro e w' ⟨rfl, rfl⟩)
        have hg := HGO.out
        rw [HID.out, HB0.out, HK.out, if_pos rfl] at hg
        exact ⟨KeepAt.set _ _ _ (by simp; omega), _, _, _, H.out.toRW.tick _, hg.symm.trans H.out.go⟩
      · have k5 : (b0 == 35) = false := by simp [z1]
        have HK := Aside0.mk k5
        clear z1
        have hg := HGO.out
        rw [HID.out, HB0.out, HK.out, if_neg (by simp)] at hg
        clear HGO HID HB0
        by_cases z2 : 400 ≤ out.length
        · have k6 : decide (400 ≤ (out.length : Int)) = true := decide_eq_true (by omega)
          have k7 : decide (400 ≤ out.length) = true := decide_eq_true z2
          rw [if_pos z2] at hg
          have HG := Aside0.mk (hg.symm.trans H.out.go)
          have HT := Aside0.mk (H.out.toRW.tick ((i : Int) + 1))
          have t4 := HT.out.a4.cell
          have t0 := HT.out.a0.cell
          have t1 := HT.out.a1.cell
          have t2 := HT.out.a2.cell
          have f0 := HT.out.a0.frozen
          have f1 := HT.out.a1.frozen
          have f2 := HT.out.a2.frozen
          clear hg z2
          gi_wp2_with (refine ⟨trivial, ?_⟩; gi_at_call 51; refine (CallsIn.inRound l (callsIn_wide.2 (HHT.out _))).mono ?_; rintro e w' ⟨rfl, rfl⟩)
          gi_region_with_o (fail)
          all_goals gi_wp2
          all_goals exact ⟨(KeepAt.set _ _ _ (by simp; omega)).trans (keep_leave hW0s _ _ _ _), _, _, HT.out.leave L 6 HG.out.symm⟩
        · have k6 : decide (400 ≤ (out.length : Int)) = false := decide_eq_false (by omega)
          have k7 : decide (400 ≤ out.length) = false := decide_eq_false z2
          rw [if_neg z2] at hg
          obtain ⟨⟨kd, n1, n2, n3, n4, er⟩, hps⟩ : ∃ p, sParse y = p := ⟨_, rfl⟩
          rw [hps] at hg
          simp only at hg
          have HT := Aside0.mk (H.out.toRW.tick ((i : Int) + 1))
          have hEW := Env.below HE.out HT.out.bel
          have HP : Aside0 (∀ w', Env w' → Calls Tryd.prog 13 #[.string y] w' fun e' w'' => e' = .returned (.tuple #[.agg #[.int .i64 kd, .int .i64 n1, .int .i64 n2, .int .i64 n3, .int .i64 n4], .int .i64 er]) ∧ Below w'.heap.size w' w'') :=
            ⟨fun w' hE' => script_Parse.calls y kd n1 n2 n3 n4 er w' (by unfold script_Parse.f; rw [if_pos HYZ.out, hps]) hE'⟩
          have HEW := Aside0.mk hEW
          clear hEW hps z2
          by_cases z3 : er = 0
          · rw [if_pos z3] at hg
            have HG := Aside0.mk (hg.symm.trans H.out.go)
            have k8 : (er == 0) = true := by simp [z3]
            have k9 : (er != 0) = false := by simp [z3]
            have hl4 : out.length < 400 := by have := of_decide_eq_false k7; omega
            obtain ⟨i24, hi24, hz0, hz1, hz2⟩ := info_parts info24'
            have HI24 := Aside0.mk hi24
            have HL4 := Aside0.mk hl4
            clear hg z3 hl4 hi24
            gi_wp2_with (first | (refine ⟨trivial, ?_⟩; gi_at_call 51; refine (CallsIn.inRound l (callsIn_wide.2 (HHT.out _))).mono ?_; rintro e w' ⟨rfl, rfl⟩) | (refine ⟨trivial, ?_⟩; gi_at_call 13; refine (CallsIn.inRound l (callsIn_wide.2 (HP.out _ HEW.out))).mono ?_; rintro e w1 ⟨rfl, hb1⟩; have HT1 := Aside0.mk ((HT.out.below hb1).alloc (.cells #[.int .i64 kd, .int .i64 n1, .int .i64 n2, .int .i64 n3, .int .i64 n4] 24)); have HK1 := Aside0.mk ((KeepAt.below (p := fun k => k = w.heap.size + 5 ∨ k = W0.heap.size ∨ k = W0.heap.size + 1) hb1).trans (KeepAt.alloc _ (.cells #[.int .i64 kd, .int .i64 n1, .int .i64 n2, .int .i64 n3, .int .i64 n4] 24))); have HS1 := Aside0.mk hb1.size; clear hb1; have t3 := HT1.out.a3.cell) | (gi_at_builtin; have HT2 := Aside0.mk (HT1.out.alloc (.cells #[.int .i64 kd, .int .i64 n1, .int .i64 n2, .int .i64 n3, .int .i64 n4] 24)); obtain ⟨h0r, inner, hown, hr⟩ := HT2.out.row; refine wpListIn_append_own_at _ rfl (.tmp 37) (.tmp 39) 35 rfl w.heap.size 24 i24 (.agg #[.int .i64 0, .int .i64 0, .int .i64 0, .int .i64 0, .int .i64 0]) 5 40 Tryd.underlying35 HI24.out hz0 hz1 hz2 rfl (by decide) _ _ _ rfl hown ⟨_, 0, none⟩ 1 1 (five kd n1 n2 n3 n4) rfl rfl (five_cells _ _ (by simp) kd n1 n2 n3 n4) (by simp [five, Value.oneCell']) (Nat.le_trans (show out.length + 1 ≤ 500 by have := HL4.out; omega) (by decide)) (by have := HL4.out; omega) HT2.out.bel.size ?_; intro v' w3 hown' hgrow _ hat; obtain ⟨g', cap', rfl⟩ := ownsRow_succ hown'; obtain ⟨c3, hRW, hKA⟩ := HT2.out.appended (by have := HS1.out; rw [World.size_setCell] at this; simp only [World.size_alloc]; omega) HL4.out kd n1 n2 n3 n4 h0r hr hown' hgrow hat; have hc3' := c3.cell; have hf3' := c3.frozen; have HRW := Aside0.mk hRW; have HKA := Aside0.mk hKA; clear hRW hKA c3 hown' hgrow hat h0r hown hr))
            exact ⟨(((KeepAt.set _ _ _ (by simp; omega)).trans HK1.out).trans (KeepAt.alloc _ _)).trans (by rw [hW0s]; exact HKA.out), _, _, _, HRW.out, HG.out⟩
          · rw [if_neg z3] at hg
            have HG := Aside0.mk (hg.symm.trans H.out.go)
            have k8 : (er == 0) = false := by simp [z3]
            have k9 : (er != 0) = true := by simp [z3]
            clear hg z3
            gi_wp2_with (first | (refine ⟨trivial, ?_⟩; gi_at_call 51; refine (CallsIn.inRound l (callsIn_wide.2 (HHT.out _))).mono ?_; rintro e w' ⟨rfl, rfl⟩) | (refine ⟨trivial, ?_⟩; gi_at_call 13; refine (CallsIn.inRound l (callsIn_wide.2 (HP.out _ HEW.out))).mono ?_; rintro e w1 ⟨rfl, hb1⟩; have HT1 := Aside0.mk (HT.out.below hb1); have HK1 := Aside0.mk (KeepAt.below (p := fun k => k = w.heap.size + 5 ∨ k = W0.heap.size ∨ k = W0.heap.size + 1) hb1); clear hb1))
            have HT2 := Aside0.mk (HT1.out.alloc (.cells #[.int .i64 kd, .int .i64 n1, .int .i64 n2, .int .i64 n3, .int .i64 n4] 24))
            have t4 := HT2.out.a4.cell
            have t0 := HT2.out.a0.cell
            have t1 := HT2.out.a1.cell
            have t2 := HT2.out.a2.cell
            have f0 := HT2.out.a0.frozen
            have f1 := HT2.out.a1.frozen
            have f2 := HT2.out.a2.frozen
            gi_region_with_o (fail)
            all_goals gi_wp2
            all_goals exact ⟨(((KeepAt.set _ _ _ (by simp; omega)).trans HK1.out).trans (KeepAt.alloc _ _)).trans (keep_leave hW0s _ _ _ _), _, _, HT2.out.leave L er HG.out.symm⟩
  case done =>
    rintro W ⟨out, v, u, h⟩ hK
    obtain ⟨A, c, rfl⟩ := Kd.R_slice h.row
    have hc0 := h.a0.cell
    have hf0 := h.a0.frozen
    have hc1 := h.a1.cell
    have hf1 := h.a1.frozen
    have hc2 := h.a2.cell
    have hf2 := h.a2.frozen
    have hc3 := h.a3.cell
    have H := Aside0.mk h
    clear h
    gi_wp2
    have hD : W0.heap.size ≠ w.heap.size := by omega
    have hD1 : W0.heap.size ≠ w.heap.size + 1 := by omega
    have hD2 : W0.heap.size ≠ w.heap.size + 2 := by omega
    have hK' : (((W.setCell ⟨w.heap.size, 0, none⟩ (.slice A out.length c)).setCell ⟨w.heap.size + 1, 0, none⟩ (.int .i64 0)).setCell ⟨w.heap.size + 2, 0, none⟩ (.int .i64 0)).heap[W0.heap.size]? = some (.deferred (some [])) := by
      rw [Below.heap_setCell _ ⟨w.heap.size + 2, 0, none⟩ _ _ hD2, Below.heap_setCell _ ⟨w.heap.size + 1, 0, none⟩ _ _ hD1, Below.heap_setCell _ ⟨w.heap.size, 0, none⟩ _ _ hD]; exact hK
    refine ⟨by simp, .inl ⟨_, _, rfl, run_takeDeferred hK', ?_⟩⟩
    have c0 := bx_put (bx_far (bx_far (H.out.a0.set (.slice A out.length c)) (.int .i64 0) (show w.heap.size ≠ w.heap.size + 1 by omega)) (.int .i64 0) (show w.heap.size ≠ w.heap.size + 2 by omega)) (.deferred none) hD
    have c1 := bx_put (bx_far ((bx_far H.out.a1 (.slice A out.length c) (show w.heap.size + 1 ≠ w.heap.size by omega)).set (.int .i64 0)) (.int .i64 0) (show w.heap.size + 1 ≠ w.heap.size + 2 by omega)) (.deferred none) hD1
    have c2 := bx_put ((bx_far (bx_far H.out.a2 (.slice A out.length c) (show w.heap.size + 2 ≠ w.heap.size by omega)) (.int .i64 0) (show w.heap.size + 2 ≠ w.heap.size + 1 by omega)).set (.int .i64 0)) (.deferred none) hD2
    have hg := H.out.go
    rw [hL, List.drop_length, rGo] at hg
    rw [← hg]
    refine ⟨_, results_3 rfl _ _ _ _ _ _ _ _ rfl rfl rfl (load_35 c0) (load_3 c1) (load_25 c2), _, rfl, ?_, ?_⟩
    · have d0 := Kd.R_set H.out.row H.out.a0 (q24 35 (by decide)) 0 (.slice A out.length c)
      have d1 := Kd.R_set d0 (bx_far H.out.a1 (.slice A out.length c) (show w.heap.size + 1 ≠ w.heap.size by omega)) (q24 3 (by decide)) 0 (.int .i64 0)
      have d2 := Kd.R_set d1 (bx_far (bx_far H.out.a2 (.slice A out.length c) (show w.heap.size + 2 ≠ w.heap.size by omega)) (.int .i64 0) (show w.heap.size + 2 ≠ w.heap.size + 1 by omega)) (q24 25 (by decide)) 0 (.int .i64 0)
      refine Kd.R_mono (Kd.R_step d2 ?_) (fun _ _ => trivial)
      intro k hk _
      exact World.putObj_heap_other (by have := hk.1; omega)
    · exact below_put (below_set (below_set (below_set H.out.bel (Nat.le_refl _)) (by omega)) (by omega)) _ (by omega)
  case stop =>
    rintro W ⟨r2, r3, h⟩ hK
    gi_wp2
    refine ⟨by simp, .inl ⟨_, _, rfl, run_takeDeferred hK, ?_⟩⟩
    rw [h.go]
    refine ⟨_, results_3 rfl _ _ _ _ _ _ _ _ rfl rfl rfl (load_35 (bx_put h.a0 (.deferred none) (show W0.heap.size ≠ w.heap.size by omega))) (load_3 (bx_put h.a1 (.deferred none) (show W0.heap.size ≠ w.heap.size + 1 by omega))) (load_25 (bx_put h.a2 (.deferred none) (show W0.heap.size ≠ w.heap.size + 2 by omega))), _, rfl, Kd.R_nil _ _ _ _ _, below_put h.bel _ (by omega)⟩
theorem script_Read.calls (a0 : ByteArray) (r1 : List (S24)) (r2 : Int) (r3 : Int) (w : World) (h : script_Read.f a0 = some (r1, r2, r3)) (hE : Env w) :
    Calls Tryd.prog 18 #[.string a0] w fun e w' => ∃ v0_ : Value, e = .returned (.tuple #[v0_, .int .i64 r2, .int .i64 r3]) ∧ Kd.R k24 24 w' w.heap.size (fun _ => True) v0_ r1 ∧ Below w.heap.size w w' := by
  unfold script_Read.f at h
  split at h
  · rename_i hs
    have h := Option.some.inj h
    have := script_Read_in a0 _ rfl hs w ⟨hE⟩
    rw [h] at this
    exact this
  · cases h
end Go.Proofs.YthfjjdkaplibmaaDoor.Pr
