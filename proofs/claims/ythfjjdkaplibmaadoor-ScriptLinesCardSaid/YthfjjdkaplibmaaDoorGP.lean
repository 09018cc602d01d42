/- My texts Pl1, Pl2, Pl3, Pl4, Pl5, Pl6, Pl7, put together by wip/pack.py. -/
import Derived.Test.YthfjjdkaplibmaaDoorPr5
import Derived.Test.YthfjjdkaplibmaaDoorPr9

namespace Go.Proofs.YthfjjdkaplibmaaDoor.Pr
open Go Go.RowKit Go.Proofs.YthfjjdkaplibmaaDoorW.PrintWords Go.Proofs.YthfjjdkaplibmaaDoorW.PrintLast Go.Proofs.YthfjjdkaplibmaaDoorW.PrintMore
set_option linter.unusedVariables false
set_option linter.unusedSimpArgs false

theorem awake_true : hourglasslaw30_awake.f = some true := by kernel_rfl

/-! ### The reference's number -/
/-- Digits eaten: what they spell behind acc, and what is left. -/
def eatN (acc : Nat) : List UInt8 → Nat × List UInt8
  | [] => (acc, [])
  | c :: r => if 48 ≤ c.toNat then (if c.toNat ≤ 57 then (if acc < 10000000000000000 then eatN (acc * 10 + (c.toNat - 48)) r else (acc, c :: r)) else (acc, c :: r)) else (acc, c :: r)
def sg (neg : Bool) (m : Nat) : Int := if neg then -(m : Int) else m

theorem bt_drop {s : ByteArray} {i : Nat} {c : UInt8} {r : List UInt8} (h : s.data.toList.drop i = c :: r) : i < s.size ∧ bt s (i : Int) = (c.toNat : Int) := by
  have hl : i < s.data.toList.length := by
    apply Classical.byContradiction
    intro hn
    rw [List.drop_eq_nil_iff.2 (by omega)] at h
    cases h
  have hl' : i < s.size := by have e : s.data.toList.length = s.size := Array.length_toList; omega
  refine ⟨hl', ?_⟩
  rw [List.drop_eq_getElem_cons hl] at h
  injection h with h1 _
  unfold bt
  rw [dif_pos (by simpa using hl')]
  rw [← h1]
  rfl
theorem drop_next {s : ByteArray} {i : Nat} {c : UInt8} {r : List UInt8} (h : s.data.toList.drop i = c :: r) : s.data.toList.drop (i + 1) = r := by
  rw [← List.drop_drop, h]
  rfl
theorem len_drop {s : ByteArray} {i : Nat} {l : List UInt8} (h : s.data.toList.drop i = l) (hi : i ≤ s.size) : s.size - l.length = i := by
  have e : s.data.toList.length = s.size := Array.length_toList
  rw [← h, List.length_drop]
  omega
theorem digits_ok (n : Int) (h0 : -9223372036854775808 ≤ n) (h1 : n ≤ 9223372036854775807) : hourglassref06_Digits.f n = some (itoaB n) := by
  unfold hourglassref06_Digits.f
  rw [if_pos ⟨h0, h1⟩]
theorem wrap64_id (n : Int) (h0 : -9223372036854775808 ≤ n) (h1 : n ≤ 9223372036854775807) : wrap64 n = n := by
  unfold wrap64; omega
/-- What the loop answers at its end. -/
theorem num_fin (s : ByteArray) (i frm m : Nat) (neg : Bool) (hi : i ≤ s.size) (hf : frm ≤ i) (hm : m < 1000000000000000000) :
    (if neg = true then ((hourglassref06_Digits.f (wrap64 (-(m : Int)))).bind fun t129 => (if (0 : Int) ≤ (frm : Int) then (if (frm : Int) ≤ (i : Int) then (if (i : Int) ≤ (s.size : Int) then (some (wrap64 (-(m : Int)), (i : Int), (t129.toList == (s.extract (frm : Int).toNat (i : Int).toNat).toList))) else (none)) else (none)) else (none)))
      else ((hourglassref06_Digits.f (m : Int)).bind fun t130 => (if (0 : Int) ≤ (frm : Int) then (if (frm : Int) ≤ (i : Int) then (if (i : Int) ≤ (s.size : Int) then (some ((m : Int), (i : Int), (t130.toList == (s.extract (frm : Int).toNat (i : Int).toNat).toList))) else (none)) else (none)) else (none))))
    = some (sg neg m, (i : Int), (itoaB (sg neg m)).toList == (s.extract frm i).toList) := by
  have e : wrap64 (-(m : Int)) = -(m : Int) := wrap64_id _ (by omega) (by omega)
  have h1 : (0 : Int) ≤ (frm : Int) := by omega
  have h2 : (frm : Int) ≤ (i : Int) := by omega
  have h3 : (i : Int) ≤ (s.size : Int) := by omega
  cases neg with
  | true =>
    rw [if_pos rfl, e, digits_ok _ (by omega) (by omega)]
    simp only [Option.bind_some]
    rw [if_pos h1, if_pos h2, if_pos h3]
    rfl
  | false =>
    rw [if_neg (by simp), digits_ok _ (by omega) (by omega)]
    simp only [Option.bind_some]
    rw [if_pos h1, if_pos h2, if_pos h3]
    rfl
theorem eatN_go (n : Nat) (c : UInt8) (r : List UInt8) (h1 : 48 ≤ c.toNat) (h2 : c.toNat ≤ 57) (h3 : n < 10000000000000000) : eatN n (c :: r) = eatN (n * 10 + (c.toNat - 48)) r := by
  rw [eatN, if_pos h1, if_pos h2, if_pos h3]
theorem eatN_end (n : Nat) (c : UInt8) (r : List UInt8) (h : ¬ (48 ≤ c.toNat ∧ c.toNat ≤ 57 ∧ n < 10000000000000000)) : eatN n (c :: r) = (n, c :: r) := by
  rw [eatN]
  split
  · split
    · split
      · rename_i a b d; exact absurd ⟨a, b, d⟩ h
      · rfl
    · rfl
  · rfl
theorem dig_step (n c : Nat) (h0 : 48 ≤ c) (h1 : c ≤ 57) (h : n < 10000000000000000) : wrap64 (wrap64 (wrap64 (10 * (n : Int)) + wrap64 (c : Int)) - 48) = ((n * 10 + (c - 48) : Nat) : Int) := by
  have e2 : wrap64 (10 * (n : Int)) = 10 * (n : Int) := wrap64_id _ (by omega) (by omega)
  have e3 : wrap64 (c : Int) = (c : Int) := wrap64_id _ (by omega) (by omega)
  have e4 : wrap64 (10 * (n : Int) + (c : Int)) = 10 * (n : Int) + (c : Int) := wrap64_id _ (by omega) (by omega)
  have e5 : wrap64 (10 * (n : Int) + (c : Int) - 48) = 10 * (n : Int) + (c : Int) - 48 := wrap64_id _ (by omega) (by omega)
  have e6 : 10 * (n : Int) + (c : Int) - 48 = ((n * 10 + (c - 48) : Nat) : Int) := by omega
  exact ((congrArg (fun z => wrap64 (wrap64 (z + wrap64 (c : Int)) - 48)) e2).trans ((congrArg (fun z => wrap64 (wrap64 (10 * (n : Int) + z) - 48)) e3).trans ((congrArg (fun z => wrap64 (z - 48)) e4).trans e5))).trans e6
theorem dig_step' (n c N : Nat) (h0 : 48 ≤ c) (h1 : c ≤ 57) (h : n < 10000000000000000) (hN : n * 10 + (c - 48) = N) : wrap64 (wrap64 (wrap64 (10 * (n : Int)) + wrap64 (c : Int)) - 48) = (N : Int) := by
  subst hN
  exact dig_step n c h0 h1 h
theorem num_l0 (s : ByteArray) (hs : s.size ≤ 1000000) (frm : Nat) (neg : Bool) (l : List UInt8) : ∀ (i n K : Nat), s.data.toList.drop i = l → i ≤ s.size → frm ≤ i → n < 100000000000000000 → l.length + 1 ≤ K →
    hourglassref30_number.l0 K s (i : Int) (frm : Int) (n : Int) neg = some (sg neg (eatN n l).1, ((s.size - (eatN n l).2.length : Nat) : Int), (itoaB (sg neg (eatN n l).1)).toList == (s.extract frm (s.size - (eatN n l).2.length)).toList) := by
  induction l with
  | nil =>
    intro i n K hd hi hf hn hK
    obtain ⟨K, rfl⟩ : ∃ k, K = k + 1 := ⟨K - 1, by omega⟩
    have hz : i = s.size := by
      have e : s.data.toList.length = s.size := Array.length_toList
      have := List.drop_eq_nil_iff.1 hd
      omega
    have q1 : ¬ (i : Int) < (s.size : Int) := by omega
    rw [hourglassref30_number.l0, if_neg q1]
    rw [num_fin s i frm n neg hi hf (by omega)]
    subst hz
    rfl
  | cons c r ih =>
    intro i n K hd hi hf hn hK
    obtain ⟨K, rfl⟩ : ∃ k, K = k + 1 := ⟨K - 1, by omega⟩
    obtain ⟨hlt, hb⟩ := bt_drop hd
    have hE := num_fin s i frm n neg hi hf (by omega)
    have hlen := len_drop hd hi
    have q1 : (i : Int) < (s.size : Int) := by omega
    have q2 : (0 : Int) ≤ (i : Int) := by omega
    rw [hourglassref30_number.l0, if_pos q1, if_pos q2, hb]
    by_cases h48 : 48 ≤ c.toNat
    · have p48 : (c.toNat : Int) ≥ 48 := by omega
      rw [if_pos p48]
      by_cases h57 : c.toNat ≤ 57
      · have p57 : (c.toNat : Int) ≤ 57 := by omega
        rw [if_pos p57]
        by_cases h16 : n < 10000000000000000
        · have p16 : (n : Int) < 10000000000000000 := by omega
          obtain ⟨N, hN⟩ : ∃ N, n * 10 + (c.toNat - 48) = N := ⟨_, rfl⟩
          have eN : eatN n (c :: r) = eatN N r := (eatN_go n c r h48 h57 h16).trans (congrArg (fun z => eatN z r) hN)
          have hNb : N < 100000000000000000 := by omega
          have e1 : wrap64 ((i : Int) + 1) = ((i + 1 : Nat) : Int) := by unfold wrap64; omega
          have e5 : wrap64 (wrap64 (wrap64 (10 * (n : Int)) + wrap64 (c.toNat : Int)) - 48) = (N : Int) := dig_step' n c.toNat N h48 h57 h16 hN
          have ef : ∀ X Y : Int, X = ((i + 1 : Nat) : Int) → Y = (N : Int) → hourglassref30_number.l0 K s X (frm : Int) Y neg = some (sg neg (eatN N r).1, ((s.size - (eatN N r).2.length : Nat) : Int), (itoaB (sg neg (eatN N r).1)).toList == (s.extract frm (s.size - (eatN N r).2.length)).toList) := by
            intro X Y hX hY
            have := ih (i + 1) N K (drop_next hd) hlt (Nat.le_succ_of_le hf) hNb (Nat.le_of_succ_le_succ hK)
            rw [hX, hY]
            exact this
          rw [if_pos p16, eN]
          exact ef _ _ e1 e5
        · have p16 : ¬ (n : Int) < 10000000000000000 := by omega
          rw [if_neg p16, eatN_end n c r (fun h => h16 h.2.2), hE, hlen]
      · have p57 : ¬ (c.toNat : Int) ≤ 57 := by omega
        rw [if_neg p57, eatN_end n c r (fun h => h57 h.2.1), hE, hlen]
    · have p48 : ¬ (c.toNat : Int) ≥ 48 := by omega
      rw [if_neg p48, eatN_end n c r (fun h => h48 h.1), hE, hlen]
/-- The numeral is eaten whole. -/
theorem eatN_dec (r : List UInt8) (u : Nat) : u < 100000000000000000 → eatN 0 (Lib.decDigits u ++ r) = eatN u r := by
  induction u using Nat.strongRecOn generalizing r with
  | _ u ih =>
    intro hu
    have hd : ∀ d : Nat, d < 10 → (UInt8.ofNat (48 + d)).toNat = 48 + d := by intro d hd; simp; omega
    rw [Lib.decDigits]
    split
    · rename_i h
      show eatN 0 (UInt8.ofNat (48 + u) :: r) = _
      have e := hd u h
      rw [eatN_go 0 _ r (by omega) (by omega) (by omega), e]
      congr 1; omega
    · rename_i h
      rw [List.append_assoc, ih (u / 10) (by omega) _ (by omega)]
      show eatN (u / 10) (UInt8.ofNat (48 + u % 10) :: r) = _
      have e := hd (u % 10) (Nat.mod_lt _ (by decide))
      rw [eatN_go (u / 10) _ r (by omega) (by omega) (by omega), e]
      congr 1; omega
theorem eatN_stop (u : Nat) (r : List UInt8) (h : r = [] ∨ ∃ r', r = 32 :: r') : eatN u r = (u, r) := by
  rcases h with rfl | ⟨r', rfl⟩
  · rfl
  · exact eatN_end u 32 r' (fun h => absurd h.1 (by decide))
end Go.Proofs.YthfjjdkaplibmaaDoor.Pr

namespace Go.Proofs.YthfjjdkaplibmaaDoor.Pr
open Go Go.RowKit Go.Proofs.YthfjjdkaplibmaaDoorW.PrintWords Go.Proofs.YthfjjdkaplibmaaDoorW.PrintLast Go.Proofs.YthfjjdkaplibmaaDoorW.PrintMore
set_option linter.unusedVariables false
set_option linter.unusedSimpArgs false

/-- What number answers at a place, as a list's word: is it negative, how much, what is left. -/
def numAt (l : List UInt8) : Bool × Nat × List UInt8 := match l with
  | 45 :: r => (true, eatN 0 r)
  | l => (false, eatN 0 l)
def numRes (s : ByteArray) (frm : Nat) (p : Bool × Nat × List UInt8) : Int × Int × Bool :=
  (sg p.1 p.2.1, ((s.size - p.2.2.length : Nat) : Int), (itoaB (sg p.1 p.2.1)).toList == (s.extract frm (s.size - p.2.2.length)).toList)
theorem num_f (s : ByteArray) (hs : s.size ≤ 1000000) (frm : Nat) (hf : frm ≤ s.size) (K : Nat) (hK : s.size + 4 ≤ K) :
    hourglassref30_number.f K s (frm : Int) = some (numRes s frm (numAt (s.data.toList.drop frm))) := by
  obtain ⟨K, rfl⟩ : ∃ k, K = k + 2 := ⟨K - 2, by omega⟩
  have e : s.data.toList.length = s.size := Array.length_toList
  unfold hourglassref30_number.f
  cases hl : s.data.toList.drop frm with
  | nil =>
    have hz := List.drop_eq_nil_iff.1 hl
    have q : ¬ (frm : Int) < (s.size : Int) := by omega
    rw [if_neg q, hourglassref30_number.j0, if_neg (by simp), hourglassref30_number.j1]
    have := num_l0 s hs frm false [] frm 0 K hl hf (Nat.le_refl _) (by omega) (by simp; omega)
    exact this
  | cons c r =>
    obtain ⟨hlt, hb⟩ := bt_drop hl
    have hlen : r.length + 1 + frm = s.size := by
      have h := congrArg List.length hl
      rw [List.length_drop, List.length_cons] at h
      omega
    have q : (frm : Int) < (s.size : Int) := by omega
    have q2 : (0 : Int) ≤ (frm : Int) := by omega
    rw [if_pos q, if_pos q2, hb]
    by_cases hc : c = 45
    · subst hc
      rw [hourglassref30_number.j0, if_pos (by decide), hourglassref30_number.j1]
      have e1 : wrap64 ((frm : Int) + 1) = ((frm + 1 : Nat) : Int) := by unfold wrap64; omega
      rw [e1]
      have := num_l0 s hs frm true r (frm + 1) 0 K (drop_next hl) hlt (Nat.le_succ _) (by omega) (by omega)
      exact this
    · have q3 : ((c.toNat : Int) == 45) = false := by
        rw [beq_eq_false_iff_ne]
        intro h
        exact hc (UInt8.toNat_inj.1 (by have : c.toNat = 45 := by omega
                                        exact this))
      rw [q3, hourglassref30_number.j0, if_neg (by simp), hourglassref30_number.j1]
      have := num_l0 s hs frm false (c :: r) frm 0 K hl hf (Nat.le_refl _) (by omega) (by simp only [List.length_cons]; omega)
      rw [show numAt (c :: r) = (false, eatN 0 (c :: r)) from by
        unfold numAt
        split
        · rename_i h; injection h with h _; exact absurd h hc
        · rfl]
      exact this
end Go.Proofs.YthfjjdkaplibmaaDoor.Pr

namespace Go.Proofs.YthfjjdkaplibmaaDoor.Pr
open Go Go.RowKit Go.Proofs.YthfjjdkaplibmaaDoorW.PrintWords Go.Proofs.YthfjjdkaplibmaaDoorW.PrintLast Go.Proofs.YthfjjdkaplibmaaDoorW.PrintMore
set_option linter.unusedVariables false
set_option linter.unusedSimpArgs false

theorem decDigits_digit (u : Nat) : ∀ c ∈ Lib.decDigits u, 48 ≤ c.toNat ∧ c.toNat ≤ 57 := by
  induction u using Nat.strongRecOn with
  | _ u ih =>
    intro c hc
    have hd : ∀ d : Nat, d < 10 → (UInt8.ofNat (48 + d)).toNat = 48 + d := by intro d hd; simp; omega
    rw [Lib.decDigits] at hc
    split at hc
    · rename_i h
      rw [List.mem_singleton.1 hc, hd u h]; omega
    · rename_i h
      rcases List.mem_append.1 hc with hc | hc
      · exact ih (u / 10) (by omega) c hc
      · rw [List.mem_singleton.1 hc, hd _ (Nat.mod_lt _ (by decide))]; omega
theorem decDigits_ne (u : Nat) : Lib.decDigits u ≠ [] := by
  intro h
  have := Lib.decDigits_length u
  have h2 := Lib.nDigits_pos u
  rw [h] at this
  simp at this
  omega
theorem numAt_other (c : UInt8) (r : List UInt8) (h : c ≠ 45) : numAt (c :: r) = (false, eatN 0 (c :: r)) := by
  unfold numAt
  split
  · rename_i e; injection e with e _; exact absurd e h
  · rfl
theorem numAt_itoa (m : Int) (hm : m.natAbs < 100000000000000000) (r : List UInt8) (hr : r = [] ∨ ∃ r', r = 32 :: r') : numAt (Lib.itoa m ++ r) = (decide (m < 0), m.natAbs, r) := by
  unfold Lib.itoa
  by_cases h : m < 0
  · rw [if_pos h, decide_eq_true h]
    show (true, eatN 0 (Lib.decDigits m.natAbs ++ r)) = _
    rw [eatN_dec r m.natAbs hm, eatN_stop _ _ hr]
  · rw [if_neg h, decide_eq_false h]
    have e : m.toNat = m.natAbs := by omega
    rw [e]
    cases hd : Lib.decDigits m.natAbs with
    | nil => exact absurd hd (decDigits_ne _)
    | cons c l =>
      have hc := decDigits_digit m.natAbs c (by rw [hd]; exact List.mem_cons_self)
      rw [List.cons_append, numAt_other c _ (by rintro rfl; exact absurd hc.1 (by decide)), ← List.cons_append, ← hd, eatN_dec r m.natAbs hm, eatN_stop _ _ hr]
theorem sg_abs (m : Int) : sg (decide (m < 0)) m.natAbs = m := by
  unfold sg
  by_cases h : m < 0
  · rw [decide_eq_true h]; simp; omega
  · rw [decide_eq_false h]; simp; omega
end Go.Proofs.YthfjjdkaplibmaaDoor.Pr

namespace Go.Proofs.YthfjjdkaplibmaaDoor.Pr
open Go Go.RowKit Go.Proofs.YthfjjdkaplibmaaDoorW.PrintWords Go.Proofs.YthfjjdkaplibmaaDoorW.PrintLast Go.Proofs.YthfjjdkaplibmaaDoorW.PrintMore
set_option linter.unusedVariables false
set_option linter.unusedSimpArgs false

theorem count_1 : hourglassref30_Count.f 1 = some ((sHas 1 : Nat) : Int) := by kernel_rfl
theorem word_1 : hourglassref30_Word.f 1 = some (sWords.getD (1 : Int).toNat ⟨#[]⟩) := by kernel_rfl
theorem count_2 : hourglassref30_Count.f 2 = some ((sHas 2 : Nat) : Int) := by kernel_rfl
theorem word_2 : hourglassref30_Word.f 2 = some (sWords.getD (2 : Int).toNat ⟨#[]⟩) := by kernel_rfl
theorem count_3 : hourglassref30_Count.f 3 = some ((sHas 3 : Nat) : Int) := by kernel_rfl
theorem word_3 : hourglassref30_Word.f 3 = some (sWords.getD (3 : Int).toNat ⟨#[]⟩) := by kernel_rfl
theorem count_4 : hourglassref30_Count.f 4 = some ((sHas 4 : Nat) : Int) := by kernel_rfl
theorem word_4 : hourglassref30_Word.f 4 = some (sWords.getD (4 : Int).toNat ⟨#[]⟩) := by kernel_rfl
theorem count_5 : hourglassref30_Count.f 5 = some ((sHas 5 : Nat) : Int) := by kernel_rfl
theorem word_5 : hourglassref30_Word.f 5 = some (sWords.getD (5 : Int).toNat ⟨#[]⟩) := by kernel_rfl
theorem count_6 : hourglassref30_Count.f 6 = some ((sHas 6 : Nat) : Int) := by kernel_rfl
theorem word_6 : hourglassref30_Word.f 6 = some (sWords.getD (6 : Int).toNat ⟨#[]⟩) := by kernel_rfl
theorem count_7 : hourglassref30_Count.f 7 = some ((sHas 7 : Nat) : Int) := by kernel_rfl
theorem word_7 : hourglassref30_Word.f 7 = some (sWords.getD (7 : Int).toNat ⟨#[]⟩) := by kernel_rfl
theorem count_8 : hourglassref30_Count.f 8 = some ((sHas 8 : Nat) : Int) := by kernel_rfl
theorem word_8 : hourglassref30_Word.f 8 = some (sWords.getD (8 : Int).toNat ⟨#[]⟩) := by kernel_rfl
theorem count_9 : hourglassref30_Count.f 9 = some ((sHas 9 : Nat) : Int) := by kernel_rfl
theorem word_9 : hourglassref30_Word.f 9 = some (sWords.getD (9 : Int).toNat ⟨#[]⟩) := by kernel_rfl
theorem count_10 : hourglassref30_Count.f 10 = some ((sHas 10 : Nat) : Int) := by kernel_rfl
theorem word_10 : hourglassref30_Word.f 10 = some (sWords.getD (10 : Int).toNat ⟨#[]⟩) := by kernel_rfl
theorem count_11 : hourglassref30_Count.f 11 = some ((sHas 11 : Nat) : Int) := by kernel_rfl
theorem word_11 : hourglassref30_Word.f 11 = some (sWords.getD (11 : Int).toNat ⟨#[]⟩) := by kernel_rfl
theorem count_f (k : Int) (h0 : 1 ≤ k) (h1 : k ≤ 11) : hourglassref30_Count.f k = some (sHas k : Int) := by
  have hk : k = 1 ∨ k = 2 ∨ k = 3 ∨ k = 4 ∨ k = 5 ∨ k = 6 ∨ k = 7 ∨ k = 8 ∨ k = 9 ∨ k = 10 ∨ k = 11 := by omega
  rcases hk with rfl | rfl | rfl | rfl | rfl | rfl | rfl | rfl | rfl | rfl | rfl
  · exact count_1
  · exact count_2
  · exact count_3
  · exact count_4
  · exact count_5
  · exact count_6
  · exact count_7
  · exact count_8
  · exact count_9
  · exact count_10
  · exact count_11
theorem word_f (k : Int) (h0 : 1 ≤ k) (h1 : k ≤ 11) : hourglassref30_Word.f k = some (sWords.getD k.toNat ⟨#[]⟩) := by
  have hk : k = 1 ∨ k = 2 ∨ k = 3 ∨ k = 4 ∨ k = 5 ∨ k = 6 ∨ k = 7 ∨ k = 8 ∨ k = 9 ∨ k = 10 ∨ k = 11 := by omega
  rcases hk with rfl | rfl | rfl | rfl | rfl | rfl | rfl | rfl | rfl | rfl | rfl
  · exact word_1
  · exact word_2
  · exact word_3
  · exact word_4
  · exact word_5
  · exact word_6
  · exact word_7
  · exact word_8
  · exact word_9
  · exact word_10
  · exact word_11
/-- One number of four. -/
theorem right_step (K : Nat) (k a b c d : Int) (h0 : 1 ≤ k) (h1 : k ≤ 11) (i : Nat) (hi : i < 4) (x : Int) (hx : rd [a, b, c, d] (i : Int) = x) (g : Bool) (hg : (inMost x && (decide (i < sHas k) || x == 0)) = g) :
    hourglassref30_Right.l0 (K + 2) [a, b, c, d] (i : Int) k a b c d = if g = true then hourglassref30_Right.l0 K [a, b, c, d] ((i + 1 : Nat) : Int) k a b c d else some false := by
  have q1 : (i : Int) < 4 := by omega
  have q2 : (0 : Int) ≤ (i : Int) := by omega
  have q3 : (i : Int) < (([a, b, c, d] : List Int).length : Int) := by simp; omega
  have e1 : wrap64 ((i : Int) + 1) = ((i + 1 : Nat) : Int) := by unfold wrap64; omega
  rw [hourglassref30_Right.l0, if_pos q1, if_pos q2, if_pos q3, hx]
  have hj : ∀ z : Bool, hourglassref30_Right.j2 (K + 1) [a, b, c, d] (i : Int) z k a b c d = if z = true then some false else (if (i : Int) ≥ (sHas k : Int) then (if x = 0 then hourglassref30_Right.l0 K [a, b, c, d] ((i + 1 : Nat) : Int) k a b c d else some false) else hourglassref30_Right.l0 K [a, b, c, d] ((i + 1 : Nat) : Int) k a b c d) := by
    intro z
    rw [hourglassref30_Right.j2, count_f k h0 h1]
    simp only [Option.bind_some]
    rw [if_pos q2, if_pos q3, hx, e1]
  rw [hj, hj]
  rw [← hg]
  unfold inMost
  by_cases p1 : x < -1125899906842624
  · rw [if_pos p1, if_pos rfl, decide_eq_false (by omega)]; simp
  · rw [if_neg p1]
    by_cases p2 : x > 1125899906842624
    · rw [decide_eq_true p2, if_pos rfl, decide_eq_false (by omega)]; simp
    · rw [decide_eq_false p2, if_neg (by simp), decide_eq_true (show -1125899906842624 ≤ x ∧ x ≤ 1125899906842624 by omega), Bool.true_and]
      by_cases p3 : i < sHas k
      · rw [if_neg (by omega), decide_eq_true p3]; simp
      · rw [if_pos (by omega), decide_eq_false p3, Bool.false_or]
        by_cases p4 : x = 0
        · simp [p4]
        · simp [p4]
theorem right_f (K : Nat) (hK : 20 ≤ K) (k a b c d : Int) : hourglassref30_Right.f K k a b c d = some (sRight k a b c d) := by
  obtain ⟨K, rfl⟩ : ∃ m, K = m + 10 := ⟨K - 10, by omega⟩
  unfold hourglassref30_Right.f
  by_cases h0 : k < 1
  · rw [if_pos h0, hourglassref30_Right.j0, if_pos rfl]
    unfold sRight
    rw [decide_eq_false (by omega)]
    rfl
  · rw [if_neg h0]
    by_cases h1 : k > 11
    · rw [decide_eq_true h1, hourglassref30_Right.j0, if_pos rfl]
      unfold sRight
      rw [decide_eq_false (by omega)]
      rfl
    · rw [decide_eq_false h1, hourglassref30_Right.j0, if_neg (by simp)]
      unfold hourglassref30_numbers.f
      simp only [Option.bind_some]
      have s0 := right_step (K + 7) k a b c d (by omega) (by omega) 0 (by decide) a rfl _ rfl
      have s1 := right_step (K + 5) k a b c d (by omega) (by omega) 1 (by decide) b rfl _ rfl
      have s2 := right_step (K + 3) k a b c d (by omega) (by omega) 2 (by decide) c rfl _ rfl
      have s3 := right_step (K + 1) k a b c d (by omega) (by omega) 3 (by decide) d rfl _ rfl
      have s4 : hourglassref30_Right.l0 (K + 1) [a, b, c, d] ((3 + 1 : Nat) : Int) k a b c d = some true := by rw [hourglassref30_Right.l0, if_neg (by decide)]
      rw [s4] at s3
      rw [s3] at s2
      rw [s2] at s1
      rw [s1] at s0
      refine Eq.trans s0 ?_
      have hp : 1 ≤ sHas k := by unfold sHas; split <;> (try split) <;> (try split) <;> omega
      unfold sRight
      rw [decide_eq_true (show 1 ≤ k ∧ k ≤ 11 by omega), decide_eq_true (show 0 < sHas k by omega), Bool.true_or, Bool.and_true, Bool.true_and]
      have t1 : decide (1 < sHas k) = decide (2 ≤ sHas k) := rfl
      have t2 : decide (2 < sHas k) = decide (3 ≤ sHas k) := rfl
      have t3 : decide (3 < sHas k) = decide (4 ≤ sHas k) := rfl
      rw [t1, t2, t3]
      generalize decide (2 ≤ sHas k) = u1
      generalize decide (3 ≤ sHas k) = u2
      generalize decide (4 ≤ sHas k) = u3
      generalize inMost a = v0
      generalize inMost b = v1
      generalize inMost c = v2
      generalize inMost d = v3
      generalize (b == 0) = w1
      generalize (c == 0) = w2
      generalize (d == 0) = w3
      revert u1 u2 u3 v0 v1 v2 v3 w1 w2 w3
      decide
end Go.Proofs.YthfjjdkaplibmaaDoor.Pr

namespace Go.Proofs.YthfjjdkaplibmaaDoor.Pr
open Go Go.RowKit Go.Proofs.YthfjjdkaplibmaaDoorW.PrintWords Go.Proofs.YthfjjdkaplibmaaDoorW.PrintLast Go.Proofs.YthfjjdkaplibmaaDoorW.PrintMore
set_option linter.unusedVariables false
set_option linter.unusedSimpArgs false

/-! ### The reference's step: its numbers -/
theorem wrap_succ (n : Nat) (h : n < 1000000000000) : wrap64 ((n : Int) + 1) = ((n + 1 : Nat) : Int) := by unfold wrap64; omega
theorem wrap_pred (n : Nat) (h : n < 1000000000000) (h0 : 0 < n) : wrap64 ((n : Int) - 1) = ((n - 1 : Nat) : Int) := by unfold wrap64; omega
theorem eatN_suffix (l : List UInt8) : ∀ n : Nat, n < 100000000000000000 → (eatN n l).1 < 100000000000000000 ∧ ∃ p, l = p ++ (eatN n l).2 := by
  induction l with
  | nil => intro n hn; exact ⟨hn, [], rfl⟩
  | cons c r ih =>
    intro n hn
    by_cases h : 48 ≤ c.toNat ∧ c.toNat ≤ 57 ∧ n < 10000000000000000
    · rw [eatN_go n c r h.1 h.2.1 h.2.2]
      obtain ⟨h1, p, hp⟩ := ih (n * 10 + (c.toNat - 48)) (by omega)
      exact ⟨h1, c :: p, by rw [List.cons_append, ← hp]⟩
    · rw [eatN_end n c r h]
      exact ⟨hn, [], rfl⟩
theorem numAt_suffix (l : List UInt8) : (numAt l).2.1 < 100000000000000000 ∧ ∃ p, l = p ++ (numAt l).2.2 := by
  cases l with
  | nil => exact eatN_suffix [] 0 (by decide)
  | cons c r =>
    by_cases h : c = 45
    · subst h
      obtain ⟨h1, p, hp⟩ := eatN_suffix r 0 (by decide)
      refine ⟨h1, 45 :: p, ?_⟩
      show 45 :: r = 45 :: p ++ (eatN 0 r).2
      rw [List.cons_append, ← hp]
    · rw [numAt_other c r h]
      exact eatN_suffix (c :: r) 0 (by decide)
def nVal (l : List UInt8) : Int := sg (numAt l).1 (numAt l).2.1
/-- Is the number at a place told as it is? -/
def nOk (l : List UInt8) : Bool := Lib.itoa (nVal l) == l.take (l.length - (numAt l).2.2.length)
theorem nOk_split {l : List UInt8} (h : nOk l = true) : l = Lib.itoa (nVal l) ++ (numAt l).2.2 := by
  obtain ⟨_, p, hp⟩ := numAt_suffix l
  have e := eq_of_beq h
  have hl := congrArg List.length hp
  rw [List.length_append] at hl
  rw [e]
  generalize (numAt l).2.2 = q at *
  subst hp
  rw [show (p ++ q).length - q.length = p.length by simp, List.take_left]
theorem nOk_itoa (m : Int) (hm : m.natAbs < 100000000000000000) (r : List UInt8) (hr : r = [] ∨ ∃ r', r = 32 :: r') : nOk (Lib.itoa m ++ r) = true ∧ nVal (Lib.itoa m ++ r) = m ∧ (numAt (Lib.itoa m ++ r)).2.2 = r := by
  have e := numAt_itoa m hm r hr
  have e1 : nVal (Lib.itoa m ++ r) = m := by unfold nVal; rw [e]; exact sg_abs m
  refine ⟨?_, e1, by rw [e]⟩
  unfold nOk
  rw [e1, e]
  show (Lib.itoa m == (Lib.itoa m ++ r).take ((Lib.itoa m ++ r).length - r.length)) = true
  rw [show (Lib.itoa m ++ r).length - r.length = (Lib.itoa m).length by simp, List.take_left]
  exact beq_self_eq_true _
/-- n numbers, each behind a blank. -/
def pN : Nat → List UInt8 → Option (List Int × List UInt8)
  | 0, r => some ([], r)
  | _ + 1, [] => none
  | n + 1, c :: r => if c = 32 then (if nOk r = true then (match pN n (numAt r).2.2 with | some p => some (nVal r :: p.1, p.2) | none => none) else none) else none
theorem pN_sound : ∀ (n : Nat) (r : List UInt8) (ns : List Int) (q : List UInt8), pN n r = some (ns, q) → ns.length = n ∧ r = (ns.map blankNum).flatten ++ q := by
  intro n
  induction n with
  | zero => intro r ns q h; injection h with h; injection h with h1 h2; subst h1 h2; exact ⟨rfl, rfl⟩
  | succ n ih =>
    intro r ns q h
    cases r with
    | nil => cases h
    | cons c r =>
      rw [pN] at h
      split at h
      · rename_i hc
        split at h
        · rename_i ho
          split at h
          · rename_i p hp
            injection h with h
            injection h with h1 h2
            obtain ⟨e1, e2⟩ := ih _ p.1 p.2 hp
            subst h1 h2
            refine ⟨by rw [List.length_cons, e1], ?_⟩
            rw [List.map_cons, List.flatten_cons, blankNum, hc, List.cons_append, List.cons_append, List.append_assoc, ← e2, ← nOk_split ho]
          · cases h
        · cases h
      · cases h
theorem nums_head (ns : List Int) : (ns.map blankNum).flatten = [] ∨ ∃ r', (ns.map blankNum).flatten = 32 :: r' := by
  cases ns with
  | nil => exact Or.inl rfl
  | cons a l => exact Or.inr ⟨_, by rw [List.map_cons, List.flatten_cons, blankNum, List.cons_append]⟩
theorem pN_complete : ∀ (ns : List Int), (∀ n ∈ ns, n.natAbs < 100000000000000000) → pN ns.length (ns.map blankNum).flatten = some (ns, []) := by
  intro ns
  induction ns with
  | nil => intro _; rfl
  | cons a l ih =>
    intro h
    obtain ⟨h1, h2, h3⟩ := nOk_itoa a (h a List.mem_cons_self) _ (nums_head l)
    rw [List.map_cons, List.flatten_cons, blankNum, List.cons_append, List.length_cons, pN, if_pos rfl, if_pos h1, h3, ih (fun n hn => h n (List.mem_cons_of_mem _ hn)), h2]
def setAll (acc : List Int) (i : Nat) : List Int → List Int
  | [] => acc
  | n :: ns => setAll (acc.set i n) (i + 1) ns
theorem setAll_len (ns : List Int) : ∀ (acc : List Int) (i : Nat), (setAll acc i ns).length = acc.length := by
  induction ns with
  | nil => intro acc i; rfl
  | cons n ns ih => intro acc i; rw [setAll, ih, List.length_set]
abbrev pNo : Int × Int × Int × Int × Int × Bool := (0, 0, 0, 0, 0, false)
def pFin (k : Int) (acc : List Int) (i : Nat) : Option (List Int × List UInt8) → Int × Int × Int × Int × Int × Bool
  | none => pNo
  | some p => if p.2 = [] then (if sRight k (rd (setAll acc i p.1) 0) (rd (setAll acc i p.1) 1) (rd (setAll acc i p.1) 2) (rd (setAll acc i p.1) 3) = true then (k, rd (setAll acc i p.1) 0, rd (setAll acc i p.1) 1, rd (setAll acc i p.1) 2, rd (setAll acc i p.1) 3, true) else pNo) else pNo
/-- The loop's end. -/
theorem parse_j3_end (K : Nat) (hK : 20 ≤ K) (s : ByteArray) (k : Int) (acc : List Int) (hl : acc.length = 4) (at_ : Nat) (hat : at_ ≤ s.size) (good : Bool) (x9 : Int) :
    hourglassref30_Parse.j3 (K + 1) s k acc (at_ : Int) good x9 false = some (if good = true then pFin k acc 0 (some ([], s.data.toList.drop at_)) else pNo) := by
  have q0 : (0 : Int) < (acc.length : Int) := by omega
  have q1 : (1 : Int) < (acc.length : Int) := by omega
  have q2 : (2 : Int) < (acc.length : Int) := by omega
  have q3 : (3 : Int) < (acc.length : Int) := by omega
  have e : s.data.toList.length = s.size := Array.length_toList
  rw [hourglassref30_Parse.j3, if_neg (by simp), if_pos q0, if_pos q1, if_pos q2, if_pos q3]
  cases good with
  | false => rw [if_neg (by simp), if_neg (by simp)]
  | true =>
    rw [if_pos rfl, if_pos rfl]
    by_cases h : at_ = s.size
    · rw [if_pos (by omega), right_f K hK]
      simp only [Option.bind_some]
      unfold pFin
      dsimp only
      rw [if_pos (List.drop_eq_nil_iff.2 (by omega))]
      have e0 : setAll acc 0 [] = acc := rfl
      rw [e0]
      by_cases hr : sRight k (rd acc 0) (rd acc 1) (rd acc 2) (rd acc 3) = true
      · rw [if_pos hr, if_pos hr]
      · rw [if_neg hr, if_neg hr]
    · rw [if_neg (by omega)]
      unfold pFin
      dsimp only
      rw [if_neg (fun hn => h (by have := List.drop_eq_nil_iff.1 hn; omega))]
theorem parse_l1_bad (K : Nat) (hK : 20 ≤ K) (s : ByteArray) (k : Int) (h0 : 1 ≤ k) (h1 : k ≤ 11) (acc : List Int) (hl : acc.length = 4) (at_ : Nat) (hat : at_ ≤ s.size) (x9 : Int) :
    hourglassref30_Parse.l1 (K + 2) s k acc (at_ : Int) false x9 = some pNo := by
  rw [hourglassref30_Parse.l1, count_f k h0 h1]
  simp only [Option.bind_some]
  rw [parse_j3_end K hK s k acc hl at_ hat false x9]
  split
  · rfl
  · rfl
theorem parse_l1 (s : ByteArray) (hs : s.size ≤ 1000000) (k : Int) (h0 : 1 ≤ k) (h1 : k ≤ 11) : ∀ (m i : Nat) (at_ : Nat) (acc : List Int) (K : Nat), i + m = sHas k → i + m ≤ 4 → at_ ≤ s.size → acc.length = 4 → s.size + 40 + 2 * m ≤ K →
    hourglassref30_Parse.l1 K s k acc (at_ : Int) true (i : Int) = some (pFin k acc i (pN m (s.data.toList.drop at_))) := by
  have e : s.data.toList.length = s.size := Array.length_toList
  intro m
  induction m with
  | zero =>
    intro i at_ acc K hi h4 hat hl hK
    obtain ⟨K, rfl⟩ : ∃ m, K = m + 2 := ⟨K - 2, by omega⟩
    rw [hourglassref30_Parse.l1, count_f k h0 h1]
    simp only [Option.bind_some]
    rw [if_neg (by omega), parse_j3_end K (by omega) s k acc hl at_ hat true]
    rfl
  | succ m ih =>
    intro i at_ acc K hi h4 hat hl hK
    obtain ⟨K, rfl⟩ : ∃ m, K = m + 2 := ⟨K - 2, by omega⟩
    rw [hourglassref30_Parse.l1, count_f k h0 h1]
    simp only [Option.bind_some]
    rw [if_pos (by omega), hourglassref30_Parse.j3, if_pos rfl]
    cases hd : s.data.toList.drop at_ with
    | nil =>
      have := List.drop_eq_nil_iff.1 hd
      rw [if_pos (by omega)]
      rfl
    | cons c r =>
      obtain ⟨hlt, hb⟩ := bt_drop hd
      have hr := drop_next hd
      rw [if_neg (by omega), if_pos (by omega), if_pos (by omega), hb]
      by_cases hc : c = 32
      · subst hc
        have w3 : ((i : Int)).toNat = i := by omega
        rw [if_pos (by decide), wrap_succ at_ (by omega), num_f s hs (at_ + 1) (by omega) K (by omega), hr]
        simp only [Option.bind_some]
        rw [if_pos (by omega), if_pos (by omega), wrap_succ i (by omega), w3]
        obtain ⟨hv, p, hp⟩ := numAt_suffix r
        have hlen : (numAt r).2.2.length ≤ r.length := by
          have := congrArg List.length hp
          rw [List.length_append] at this
          omega
        have hrl : r.length = s.size - (at_ + 1) := by rw [← hr, List.length_drop, e]
        have hx : s.data.toList.drop (s.size - (numAt r).2.2.length) = (numAt r).2.2 := by
          have e3 : s.size - (numAt r).2.2.length = at_ + 1 + (r.length - (numAt r).2.2.length) := by omega
          rw [e3, ← List.drop_drop, hr]
          generalize (numAt r).2.2 = q at *
          subst hp
          rw [show (p ++ q).length - q.length = p.length by simp, List.drop_left]
        have hgood : (numRes s (at_ + 1) (numAt r)).2.2 = nOk r := by
          unfold numRes nOk nVal
          show ((itoaB _).toList == (s.extract _ _).toList) = _
          rw [ByteArray.toList_eq, ByteArray.toList_eq, Lib.extract_data, hr]
          have e4 : s.size - (numAt r).2.2.length - (at_ + 1) = r.length - (numAt r).2.2.length := by omega
          rw [e4]
          rfl
        rw [hgood]
        show hourglassref30_Parse.l1 K s k (acc.set i (nVal r)) ((s.size - (numAt r).2.2.length : Nat) : Int) (nOk r) _ = _
        rw [pN, if_pos rfl]
        cases hg : nOk r with
        | false =>
          obtain ⟨K, rfl⟩ : ∃ m, K = m + 2 := ⟨K - 2, by omega⟩
          rw [parse_l1_bad K (by omega) s k h0 h1 _ (by rw [List.length_set]; exact hl) _ (by omega), if_neg (by simp)]
          rfl
        | true =>
          rw [ih (i + 1) _ _ K (by omega) (by omega) (by omega) (by rw [List.length_set]; exact hl) (by omega), hx, if_pos rfl]
          cases pN m (numAt r).2.2 with
          | none => rfl
          | some p => rfl
      · have q : ¬ ((c.toNat : Int) = 32) := by
          intro h
          exact hc (UInt8.toNat_inj.1 (by have : c.toNat = 32 := by omega
                                          exact this))
        rw [if_neg q, pN, if_neg hc]
        rfl
end Go.Proofs.YthfjjdkaplibmaaDoor.Pr

namespace Go.Proofs.YthfjjdkaplibmaaDoor.Pr
open Go Go.RowKit Go.Proofs.YthfjjdkaplibmaaDoorW.PrintWords Go.Proofs.YthfjjdkaplibmaaDoorW.PrintLast Go.Proofs.YthfjjdkaplibmaaDoorW.PrintMore
set_option linter.unusedVariables false
set_option linter.unusedSimpArgs false

/-! ### The reference's step: its kinds -/
def wL (k : Nat) : List UInt8 := (sWords.getD k ⟨#[]⟩).data.toList
def pKind (L : List UInt8) : Nat → Nat → Int × Int × Int × Int × Int × Bool
  | 0, _ => pNo
  | n + 1, k => if (wL k).isPrefixOf L = true then pFin (k : Int) [0, 0, 0, 0] 0 (pN (sHas (k : Int)) (L.drop (wL k).length)) else pKind L n (k + 1)
theorem sHas_le (k : Int) : 1 ≤ sHas k ∧ sHas k ≤ 4 := by unfold sHas; split <;> (try split) <;> (try split) <;> omega
theorem parse_kinds (s : ByteArray) (hs : s.size ≤ 1000000) : ∀ (n k K : Nat), 1 ≤ k → k + n = 12 → s.size + 60 + 2 * n ≤ K →
    hourglassref30_Parse.l0 K s (k : Int) = some (pKind s.data.toList n k) := by
  have e : s.data.toList.length = s.size := Array.length_toList
  intro n
  induction n with
  | zero =>
    intro k K h1 hk hK
    obtain ⟨K, rfl⟩ : ∃ m, K = m + 1 := ⟨K - 1, by omega⟩
    rw [hourglassref30_Parse.l0, if_neg (by omega)]
    rfl
  | succ n ih =>
    intro k K h1 hk hK
    obtain ⟨K, rfl⟩ : ∃ m, K = m + 2 := ⟨K - 2, by omega⟩
    have hw : ((sWords.getD ((k : Int)).toNat ⟨#[]⟩)).data.toList = wL k := rfl
    have hwl : ((sWords.getD ((k : Int)).toNat ⟨#[]⟩)).size = (wL k).length := by rw [← hw]; exact Array.length_toList.symm
    rw [hourglassref30_Parse.l0, if_pos (by omega), word_f (k : Int) (by omega) (by omega)]
    simp only [Option.bind_some]
    have hj : ∀ b : Bool, hourglassref30_Parse.j1 (K + 1) s (k : Int) (sWords.getD ((k : Int)).toNat ⟨#[]⟩) b = if b = true then hourglassref30_Parse.l0 K s ((k + 1 : Nat) : Int) else hourglassref30_Parse.l1 K s (k : Int) [0, 0, 0, 0] ((wL k).length : Int) true 0 := by
      intro b
      rw [hourglassref30_Parse.j1, wrap_succ k (by omega), hwl]
    rw [hj, hj, hwl, pKind]
    by_cases hlt : (s.size : Int) < ((wL k).length : Int)
    · rw [if_pos hlt, if_pos rfl, ih (k + 1) K (by omega) (by omega) (by omega)]
      have hp : ¬ (wL k).isPrefixOf s.data.toList = true := by
        intro h
        have := (List.isPrefixOf_iff_prefix.1 h).length_le
        omega
      rw [if_neg hp]
    · rw [if_neg hlt, if_pos (by omega), if_pos (by omega)]
      have ht : (s.extract 0 ((wL k).length : Int).toNat).toList = s.data.toList.take (wL k).length := by
        rw [ByteArray.toList_eq, Lib.extract_data]
        simp
      rw [ht, ByteArray.toList_eq, hw]
      by_cases hp : (wL k).isPrefixOf s.data.toList = true
      · have h2 := List.prefix_iff_eq_take.1 (List.isPrefixOf_iff_prefix.1 hp)
        have h3 : (s.data.toList.take (wL k).length != wL k) = false := by rw [← h2]; simp
        rw [h3, if_neg (by simp), if_pos hp]
        have h4 := sHas_le (k : Int)
        exact parse_l1 s hs (k : Int) (by omega) (by omega) (sHas (k : Int)) 0 (wL k).length [0, 0, 0, 0] K (by omega) (by omega) (by omega) rfl (by omega)
      · have h3 : (s.data.toList.take (wL k).length != wL k) = true := by
          rw [bne_iff_ne]
          intro h
          exact hp (List.isPrefixOf_iff_prefix.2 (List.prefix_iff_eq_take.2 h.symm))
        rw [h3, if_pos rfl, if_neg hp, ih (k + 1) K (by omega) (by omega) (by omega)]
/-- The reference's Parse. -/
def rParse (L : List UInt8) : Int × Int × Int × Int × Int × Bool := pKind L 11 1
theorem rParse_f (s : ByteArray) (hs : s.size ≤ 1000000) (K : Nat) (hK : s.size + 100 ≤ K) : hourglassref30_Parse.f K s = some (rParse s.data.toList) := by
  unfold hourglassref30_Parse.f
  exact parse_kinds s hs 11 1 K (by decide) rfl (by omega)

theorem setAll_take (ns : List Int) (h : ns.length ≤ 4) (h1 : 1 ≤ ns.length) : [rd (setAll [0, 0, 0, 0] 0 ns) 0, rd (setAll [0, 0, 0, 0] 0 ns) 1, rd (setAll [0, 0, 0, 0] 0 ns) 2, rd (setAll [0, 0, 0, 0] 0 ns) 3].take ns.length = ns := by
  match ns, h, h1 with
  | [a], _, _ => rfl
  | [a, b], _, _ => rfl
  | [a, b, c], _, _ => rfl
  | [a, b, c, d], _, _ => rfl
theorem sText_k (k : Nat) (h1 : 1 ≤ k) (h2 : k ≤ 11) (a b c d : Int) : sTextL (k : Int) a b c d = wL k ++ (([a, b, c, d].take (sHas (k : Int))).map blankNum).flatten := by
  unfold sTextL wL
  rw [if_pos ⟨by omega, by omega⟩]
  rfl
theorem pKind_sound (L : List UInt8) : ∀ (n k : Nat) (x : Int) (a b c d : Int), 1 ≤ k → k + n = 12 → pKind L n k = (x, a, b, c, d, true) → sRight x a b c d = true ∧ sTextL x a b c d = L := by
  intro n
  induction n with
  | zero => intro k x a b c d h1 hk h; simp [pKind] at h
  | succ n ih =>
    intro k x a b c d h1 hk h
    rw [pKind] at h
    split at h
    · rename_i hp
      obtain ⟨t, ht⟩ := List.isPrefixOf_iff_prefix.1 hp
      have hdrop : L.drop (wL k).length = t := by rw [← ht, List.drop_left]
      rw [hdrop] at h
      cases hN : pN (sHas (k : Int)) t with
      | none => rw [hN] at h; simp [pFin] at h
      | some p =>
        obtain ⟨ns, q⟩ := p
        rw [hN] at h
        unfold pFin at h
        obtain ⟨e1, e2⟩ := pN_sound _ _ _ _ hN
        have hb := sHas_le (k : Int)
        have e3 := setAll_take ns (by omega) (by omega)
        dsimp only at h
        split at h
        · rename_i hq
          split at h
          · rename_i hr
            simp only [Prod.mk.injEq, and_true] at h
            obtain ⟨rfl, rfl, rfl, rfl, rfl⟩ := h
            refine ⟨hr, ?_⟩
            rw [sText_k k h1 (by omega), ← e1, e3, ← ht, e2, hq, List.append_nil]
          · simp at h
        · simp at h
    · exact ih (k + 1) x a b c d (by omega) (by omega) h
theorem words_apart : ∀ k, k < 12 → ∀ j, j < k → 1 ≤ j → (wL j).isPrefixOf (wL k) = false ∧ (wL k).isPrefixOf (wL j) = false := by decide +kernel
theorem not_prefix {j k : Nat} (hk : k < 12) (hj : j < k) (h1 : 1 ≤ j) (r : List UInt8) : ¬ (wL j).isPrefixOf (wL k ++ r) = true := by
  intro h
  obtain ⟨a1, a2⟩ := words_apart k hk j hj h1
  rcases List.prefix_or_prefix_of_prefix (List.isPrefixOf_iff_prefix.1 h) (List.prefix_append (wL k) r) with h | h
  · rw [List.isPrefixOf_iff_prefix.2 h] at a1; cases a1
  · rw [List.isPrefixOf_iff_prefix.2 h] at a2; cases a2
theorem pKind_skip (k : Nat) (hk : k < 12) (r : List UInt8) : ∀ (n j : Nat), j ≤ k → 1 ≤ j → k ≤ j + n → pKind (wL k ++ r) n j = pKind (wL k ++ r) (n - (k - j)) k := by
  intro n
  induction n with
  | zero => intro j hj h1 hn; rw [show j = k by omega]; congr 1; omega
  | succ n ih =>
    intro j hj h1 hn
    by_cases e : j = k
    · rw [e]; congr 1; omega
    · rw [pKind, if_neg (not_prefix hk (by omega) h1 r), ih (j + 1) (by omega) (by omega) (by omega)]
      congr 1; omega
theorem most_abs {n : Int} (h : inMost n = true) : n.natAbs < 100000000000000000 := by
  have := of_decide_eq_true h
  omega
theorem sRight_parts {k a b c d : Int} (h : sRight k a b c d = true) : (1 ≤ k ∧ k ≤ 11) ∧ inMost a = true ∧ inMost b = true ∧ inMost c = true ∧ inMost d = true ∧ (2 ≤ sHas k ∨ b = 0) ∧ (3 ≤ sHas k ∨ c = 0) ∧ (4 ≤ sHas k ∨ d = 0) := by
  unfold sRight at h
  simp only [Bool.and_eq_true, Bool.or_eq_true, decide_eq_true_eq, beq_iff_eq] at h
  obtain ⟨⟨⟨⟨⟨⟨⟨h1, h2⟩, h3⟩, h4⟩, h5⟩, h6⟩, h7⟩, h8⟩ := h
  exact ⟨h1, h2, h3, h4, h5, h6, h7, h8⟩
theorem setAll_right {n : Nat} {a b c d : Int} (h1 : 1 ≤ n) (h4 : n ≤ 4) (hb : 2 ≤ n ∨ b = 0) (hc : 3 ≤ n ∨ c = 0) (hd : 4 ≤ n ∨ d = 0) : setAll [0, 0, 0, 0] 0 ([a, b, c, d].take n) = [a, b, c, d] := by
  have hn : n = 1 ∨ n = 2 ∨ n = 3 ∨ n = 4 := by omega
  rcases hn with rfl | rfl | rfl | rfl
  · rw [show b = 0 by omega, show c = 0 by omega, show d = 0 by omega]; rfl
  · rw [show c = 0 by omega, show d = 0 by omega]; rfl
  · rw [show d = 0 by omega]; rfl
  · rfl
theorem rParse_sound {L : List UInt8} {x a b c d : Int} (h : rParse L = (x, a, b, c, d, true)) : sRight x a b c d = true ∧ sTextL x a b c d = L :=
  pKind_sound L 11 1 x a b c d (by decide) rfl h
theorem rParse_complete {x a b c d : Int} (h : sRight x a b c d = true) : rParse (sTextL x a b c d) = (x, a, b, c, d, true) := by
  obtain ⟨⟨h1, h2⟩, ha, hb, hc, hd, qb, qc, qd⟩ := sRight_parts h
  obtain ⟨k, rfl⟩ : ∃ k : Nat, x = (k : Int) := ⟨x.toNat, by omega⟩
  have hs := sHas_le (k : Int)
  have hlen : ([a, b, c, d].take (sHas (k : Int))).length = sHas (k : Int) := by rw [List.length_take]; simp; omega
  unfold rParse
  rw [sText_k k (by omega) (by omega), pKind_skip k (by omega) _ 11 1 (by omega) (by decide) (by omega)]
  obtain ⟨m, hm⟩ : ∃ m, 11 - (k - 1) = m + 1 := ⟨11 - (k - 1) - 1, by omega⟩
  rw [hm, pKind, if_pos (List.isPrefixOf_iff_prefix.2 (List.prefix_append _ _)), List.drop_left]
  have hc2 := pN_complete ([a, b, c, d].take (sHas (k : Int))) (by
    intro n hn
    have hm := List.mem_of_mem_take hn
    simp only [List.mem_cons, List.not_mem_nil, or_false] at hm
    rcases hm with rfl | rfl | rfl | rfl
    · exact most_abs ha
    · exact most_abs hb
    · exact most_abs hc
    · exact most_abs hd)
  rw [hlen] at hc2
  rw [hc2]
  unfold pFin
  dsimp only
  rw [if_pos rfl, setAll_right hs.1 hs.2 qb qc qd]
  show (if sRight (k : Int) a b c d = true then ((k : Int), a, b, c, d, true) else pNo) = _
  rw [if_pos h]
theorem rParse_false {L : List UInt8} {x a b c d : Int} (h : rParse L = (x, a, b, c, d, false)) : rParse L = pNo := by
  have : ∀ (n k : Nat), (∃ x a b c d, pKind L n k = (x, a, b, c, d, true)) ∨ pKind L n k = pNo := by
    intro n
    induction n with
    | zero => intro k; exact Or.inr rfl
    | succ n ih =>
      intro k
      rw [pKind]
      split
      · unfold pFin
        split
        · exact Or.inr rfl
        · split
          · split
            · exact Or.inl ⟨_, _, _, _, _, rfl⟩
            · exact Or.inr rfl
          · exact Or.inr rfl
      · exact ih _
  rcases this 11 1 with ⟨x', a', b', c', d', e⟩ | e
  · have e2 : rParse L = (x', a', b', c', d', true) := e
    rw [e2] at h
    simp at h
  · exact e
end Go.Proofs.YthfjjdkaplibmaaDoor.Pr

namespace Go.Proofs.YthfjjdkaplibmaaDoor.Pr
open Go Go.RowKit Go.Proofs.YthfjjdkaplibmaaDoorW.PrintWords Go.Proofs.YthfjjdkaplibmaaDoorW.PrintLast Go.Proofs.YthfjjdkaplibmaaDoorW.PrintMore
set_option linter.unusedVariables false
set_option linter.unusedSimpArgs false

/-! ### The program's step: what is told is parsed -/
theorem indexByte_miss (c : UInt8) : ∀ (p : List UInt8), c ∉ p → Lib.indexByte p c = -1
  | [], _ => rfl
  | b :: p, h => by
    unfold Lib.indexByte
    have hb : ¬ (b == c) = true := by intro e; rw [beq_iff_eq] at e; subst e; exact h List.mem_cons_self
    rw [if_neg hb, indexByte_miss c p (fun hm => h (List.mem_cons_of_mem _ hm))]
    rfl
theorem indexByte_hit (c : UInt8) (r : List UInt8) : ∀ (p : List UInt8), c ∉ p → Lib.indexByte (p ++ c :: r) c = (p.length : Int)
  | [], _ => by
    show Lib.indexByte (c :: r) c = _
    unfold Lib.indexByte
    rw [if_pos (beq_self_eq_true c)]
    rfl
  | b :: p, h => by
    rw [List.cons_append]
    unfold Lib.indexByte
    have hb : ¬ (b == c) = true := by intro e; rw [beq_iff_eq] at e; subst e; exact h List.mem_cons_self
    rw [if_neg hb, indexByte_hit c r p (fun hm => h (List.mem_cons_of_mem _ hm))]
    have : ¬ (((p.length : Int) == -1) = true) := by intro e; have := beq_iff_eq.1 e; omega
    rw [if_neg this, List.length_cons]
    omega
/-- Pieces, a blank between any two. -/
def joinBl (p : List UInt8) (ps : List (List UInt8)) : List UInt8 := p ++ (ps.map (32 :: ·)).flatten
theorem count_join : ∀ (ps : List (List UInt8)) (p : List UInt8), (∀ q ∈ p :: ps, (32 : UInt8) ∉ q) → Lib.count (joinBl p ps) [32] = ps.length
  | [], p, h => by
    have hm := indexByte_miss 32 p (h p List.mem_cons_self)
    unfold joinBl
    rw [List.map_nil, List.flatten_nil, List.append_nil]
    exact Lib.count_miss (by rw [Lib.index_one]; exact hm)
  | q :: ps, p, h => by
    have hm := indexByte_hit 32 (joinBl q ps) p (h p List.mem_cons_self)
    have e : joinBl p (q :: ps) = p ++ 32 :: joinBl q ps := by unfold joinBl; rw [List.map_cons, List.flatten_cons, List.cons_append]
    rw [e, Lib.count_hit (i := p.length) (by simp) (by rw [Lib.index_one]; exact hm)]
    have e2 : (p ++ 32 :: joinBl q ps).drop (p.length + [(32 : UInt8)].length) = joinBl q ps := by rw [← List.drop_drop, List.drop_left]; rfl
    rw [e2, count_join ps q (fun x hx => h x (List.mem_cons_of_mem _ hx)), List.length_cons]
    omega
theorem split_join : ∀ (ps : List (List UInt8)) (p : List UInt8), (∀ q ∈ p :: ps, (32 : UInt8) ∉ q) → Lib.splitK [32] 0 ps.length (joinBl p ps) = p :: ps
  | [], p, h => by unfold joinBl; simp [Lib.splitK]
  | q :: ps, p, h => by
    have hm := indexByte_hit 32 (joinBl q ps) p (h p List.mem_cons_self)
    have e : joinBl p (q :: ps) = p ++ 32 :: joinBl q ps := by unfold joinBl; rw [List.map_cons, List.flatten_cons, List.cons_append]
    rw [e, List.length_cons, Lib.splitK, Lib.index_one, hm]
    have hn : ¬ (((p.length : Int) == -1) = true) := by intro e; have := beq_iff_eq.1 e; omega
    have e2 : (p ++ 32 :: joinBl q ps).drop ((p.length : Int).toNat + [(32 : UInt8)].length) = joinBl q ps := by rw [Int.toNat_natCast, ← List.drop_drop, List.drop_left]; rfl
    have e3 : (p ++ 32 :: joinBl q ps).take ((p.length : Int).toNat + 0) = p := by rw [Int.toNat_natCast, Nat.add_zero, List.take_left]
    rw [if_neg hn, e2, e3, split_join ps q (fun x hx => h x (List.mem_cons_of_mem _ hx))]
theorem splitAll_join (s : ByteArray) (p : List UInt8) (ps : List (List UInt8)) (h : ∀ q ∈ p :: ps, (32 : UInt8) ∉ q) (hs : s.data.toList = joinBl p ps) : (splitAll s blankB).map (·.data.toList) = p :: ps := by
  unfold splitAll
  rw [Lib.splitB_data]
  show Lib.splitK [32] 0 (Lib.count s.data.toList [32]) s.data.toList = _
  rw [hs, count_join ps p h, split_join ps p h]
theorem itoa_no_blank (n : Int) : (32 : UInt8) ∉ Lib.itoa n := by
  intro h
  unfold Lib.itoa at h
  split at h
  · rcases List.mem_cons.1 h with h | h
    · exact absurd h (by decide)
    · exact absurd (decDigits_digit _ _ h).1 (by decide)
  · exact absurd (decDigits_digit _ _ h).1 (by decide)
theorem uint_dec (r : List UInt8) (u : Nat) : u < 18446744073709551616 → Lib.parseUint10 0 (Lib.decDigits u ++ r) = Lib.parseUint10 u r := by
  induction u using Nat.strongRecOn generalizing r with
  | _ u ih =>
    intro hu
    have hd : ∀ d : Nat, d < 10 → (UInt8.ofNat (48 + d)).toNat = 48 + d := by intro d hd; simp; omega
    rw [Lib.decDigits]
    split
    · rename_i h
      show Lib.parseUint10 0 (UInt8.ofNat (48 + u) :: r) = _
      have e := hd u h
      rw [Lib.parseUint10, e, if_pos (by omega), if_neg (by omega), if_neg (by omega)]
      congr 1; omega
    · rename_i h
      rw [List.append_assoc, ih (u / 10) (by omega) _ (by omega)]
      show Lib.parseUint10 (u / 10) (UInt8.ofNat (48 + u % 10) :: r) = _
      have e := hd (u % 10) (Nat.mod_lt _ (by decide))
      rw [Lib.parseUint10, e, if_pos (by omega), if_neg (by omega), if_neg (by omega)]
      congr 1; omega
theorem mag_dec (u : Nat) (hu : u < 18446744073709551616) : Lib.parseMag (Lib.decDigits u) = .ok u := by
  unfold Lib.parseMag
  rw [if_neg (decDigits_ne u)]
  have := uint_dec [] u hu
  rw [List.append_nil] at this
  rw [this]
  rfl
theorem atoi_itoa (n : Int) (h0 : -9223372036854775808 ≤ n) (h1 : n ≤ 9223372036854775807) : Lib.atoiAll (Lib.itoa n) = .ok n := by
  unfold Lib.itoa
  by_cases h : n < 0
  · rw [if_pos h]
    unfold Lib.atoiAll
    have e45 : (45 : UInt8).toNat = 45 := rfl
    simp only [e45, or_true, if_true]
    rw [mag_dec n.natAbs (by omega)]
    dsimp only
    rw [if_neg (fun hn => hn.1 trivial), if_neg (fun hn => absurd hn.2 (by omega))]
    congr 1
    omega
  · rw [if_neg h]
    cases hd : Lib.decDigits n.toNat with
    | nil => exact absurd hd (decDigits_ne _)
    | cons c l =>
      have hc := decDigits_digit n.toNat c (by rw [hd]; exact List.mem_cons_self)
      unfold Lib.atoiAll
      dsimp only
      rw [if_neg (by omega), ← hd, mag_dec n.toNat (by omega)]
      dsimp only
      rw [if_neg (by omega), if_neg (by omega), if_neg (by omega)]
      congr 1
      omega
theorem atoiV_itoa (b : ByteArray) (n : Int) (h0 : -9223372036854775808 ≤ n) (h1 : n ≤ 9223372036854775807) (hb : b.data.toList = Lib.itoa n) : atoiV b = n := by
  unfold atoiV
  rw [hb, atoi_itoa n h0 h1]
theorem words_ix : ∀ k, k < 12 → Lib.idxOfS sWords (sWords.getD k ⟨#[]⟩) = (k : Int) := by decide +kernel
theorem words_no_blank : ∀ k, k < 12 → (32 : UInt8) ∉ wL k := by decide +kernel
theorem bytes_eq {a b : ByteArray} (h : a.data.toList = b.data.toList) : a = b := ByteArray.ext (Array.toList_inj.1 h)
theorem most_64 {n : Int} (h : inMost n = true) : -9223372036854775808 ≤ n ∧ n ≤ 9223372036854775807 := by
  have := of_decide_eq_true h
  omega
/-- Four numbers out of the pieces. -/
theorem sNum_at {parts : List ByteArray} {w : List UInt8} {ns : List Int} (hp : parts.map (·.data.toList) = w :: ns.map Lib.itoa) (hn : ∀ n ∈ ns, inMost n = true) (i : Nat) : sNum parts i = ns.getD i 0 := by
  have hl := congrArg List.length hp
  simp only [List.length_map, List.length_cons] at hl
  unfold sNum
  by_cases hi : i < ns.length
  · rw [if_pos (by omega)]
    have h1 : i + 1 < parts.length := by omega
    have e1 : parts.getD (i + 1) ⟨#[]⟩ = parts[i + 1] := by simp [List.getD, h1]
    have e2 : (parts[i + 1]).data.toList = Lib.itoa ns[i] := by
      have h2 : (parts.map (·.data.toList))[i + 1]? = (w :: ns.map Lib.itoa)[i + 1]? := by rw [hp]
      rw [List.getElem?_map, List.getElem?_cons_succ, List.getElem?_map, List.getElem?_eq_getElem h1, List.getElem?_eq_getElem hi] at h2
      simpa using h2
    have hm := most_64 (hn _ (List.getElem_mem hi))
    rw [e1, atoiV_itoa _ _ hm.1 hm.2 e2]
    simp [List.getD, hi]
  · rw [if_neg (by omega)]
    simp [List.getD, Nat.le_of_not_lt hi]
theorem getD_right {n : Nat} {a b c d : Int} (h1 : 1 ≤ n) (h4 : n ≤ 4) (hb : 2 ≤ n ∨ b = 0) (hc : 3 ≤ n ∨ c = 0) (hd : 4 ≤ n ∨ d = 0) :
    ([a, b, c, d].take n).getD 0 0 = a ∧ ([a, b, c, d].take n).getD 1 0 = b ∧ ([a, b, c, d].take n).getD 2 0 = c ∧ ([a, b, c, d].take n).getD 3 0 = d := by
  have hn : n = 1 ∨ n = 2 ∨ n = 3 ∨ n = 4 := by omega
  rcases hn with rfl | rfl | rfl | rfl
  · rw [show b = 0 by omega, show c = 0 by omega, show d = 0 by omega]; exact ⟨rfl, rfl, rfl, rfl⟩
  · rw [show c = 0 by omega, show d = 0 by omega]; exact ⟨rfl, rfl, rfl, rfl⟩
  · rw [show d = 0 by omega]; exact ⟨rfl, rfl, rfl, rfl⟩
  · exact ⟨rfl, rfl, rfl, rfl⟩
theorem sParse_text {s : ByteArray} {x a b c d : Int} (h : sRight x a b c d = true) (hs : s.data.toList = sTextL x a b c d) : sParse s = (x, a, b, c, d, 0) := by
  obtain ⟨⟨h1, h2⟩, ha, hb, hc, hd, qb, qc, qd⟩ := sRight_parts h
  obtain ⟨k, rfl⟩ : ∃ k : Nat, x = (k : Int) := ⟨x.toNat, by omega⟩
  have hh := sHas_le (k : Int)
  obtain ⟨ns, hns⟩ : ∃ ns, [a, b, c, d].take (sHas (k : Int)) = ns := ⟨_, rfl⟩
  have hmost : ∀ n ∈ ns, inMost n = true := by
    intro n hn
    rw [← hns] at hn
    have hm := List.mem_of_mem_take hn
    simp only [List.mem_cons, List.not_mem_nil, or_false] at hm
    rcases hm with rfl | rfl | rfl | rfl
    · exact ha
    · exact hb
    · exact hc
    · exact hd
  have hj : s.data.toList = joinBl (wL k) (ns.map Lib.itoa) := by
    rw [hs, sText_k k (by omega) (by omega), hns]
    unfold joinBl
    rw [List.map_map]
    rfl
  have hsp := splitAll_join s (wL k) (ns.map Lib.itoa) (by
    intro q hq
    rcases List.mem_cons.1 hq with rfl | hq
    · exact words_no_blank k (by omega)
    · obtain ⟨n, _, rfl⟩ := List.mem_map.1 hq
      exact itoa_no_blank n) hj
  have hk0 : (splitAll s blankB).getD 0 ⟨#[]⟩ = sWords.getD k ⟨#[]⟩ := by
    cases hp : splitAll s blankB with
    | nil => rw [hp] at hsp; cases hsp
    | cons p ps =>
      rw [hp] at hsp
      rw [List.map_cons] at hsp
      injection hsp with e _
      exact bytes_eq e
  obtain ⟨g0, g1, g2, g3⟩ := getD_right (a := a) (b := b) (c := c) (d := d) hh.1 hh.2 qb qc qd
  rw [hns] at g0 g1 g2 g3
  unfold sParse
  dsimp only
  rw [hk0, words_ix k (by omega), if_neg (by omega), sNum_at hsp hmost 0, sNum_at hsp hmost 1, sNum_at hsp hmost 2, sNum_at hsp hmost 3, g0, g1, g2, g3, h]
  have ht : ((sText (k : Int) a b c d).data.toList == s.data.toList) = true := by
    rw [hs]
    unfold sText
    simp
  rw [ht]
  rfl
/-- The program's Parse is the reference's. -/
theorem parse_same (s : ByteArray) : (∃ x a b c d, rParse s.data.toList = (x, a, b, c, d, true) ∧ sParse s = (x, a, b, c, d, 0) ∧ sRight x a b c d = true ∧ sTextL x a b c d = s.data.toList) ∨ (rParse s.data.toList = pNo ∧ sParse s = (0, 0, 0, 0, 0, 10)) := by
  cases hr : rParse s.data.toList with
  | mk x p => obtain ⟨a, b, c, d, ok⟩ := p; cases ok with
    | true =>
      obtain ⟨h1, h2⟩ := rParse_sound hr
      exact Or.inl ⟨x, a, b, c, d, rfl, sParse_text h1 h2.symm, h1, h2⟩
    | false =>
      have hn := rParse_false hr
      refine Or.inr ⟨by rw [← hr]; exact hn, ?_⟩
      unfold sParse
      dsimp only
      split
      · rfl
      · split
        · rename_i h1 h2
          rw [Bool.and_eq_true] at h2
          have h3 := rParse_complete h2.1
          have h4 : sTextL _ _ _ _ _ = s.data.toList := eq_of_beq h2.2
          rw [h4, hn] at h3
          simp at h3
        · rfl
theorem right_64 {x a b c d : Int} (h : sRight x a b c d = true) : (is64 a && is64 b && is64 c && is64 d) = true := by
  obtain ⟨_, ha, hb, hc, hd, _⟩ := sRight_parts h
  unfold is64
  rw [decide_eq_true (most_64 ha), decide_eq_true (most_64 hb), decide_eq_true (most_64 hc), decide_eq_true (most_64 hd)]
  rfl
theorem sText_list {x a b c d : Int} {s : ByteArray} (h : sTextL x a b c d = s.data.toList) : sText x a b c d = s := bytes_eq (by unfold sText; rw [← h])
end Go.Proofs.YthfjjdkaplibmaaDoor.Pr
