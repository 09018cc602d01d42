import Derived.Test.YthfjjdkaplibmaaDoorGB
import Derived.Lib.SplitLaws
/-! Numerals and pieces of a text: numbers that are told are read; a text that was joined is split. -/
namespace Go.Proofs.YthfjjdkaplibmaaDoor.Nm
open Go Go.RowKit Go.Proofs.YthfjjdkaplibmaaDoor.Pr Go.Proofs.YthfjjdkaplibmaaDoorW.PrintWords
set_option linter.unusedVariables false
set_option linter.unusedSimpArgs false
theorem decDigits_digit (u : Nat) : ∀ c ∈ Lib.decDigits u, 48 ≤ c.toNat ∧ c.toNat ≤ 57 := by
  induction u using Nat.strongRecOn with
  | _ u ih =>
    intro c hc
    have hd : ∀ d : Nat, d < 10 → (UInt8.ofNat (48 + d)).toNat = 48 + d := by intro d hd; simp; omega
    rw [Lib.decDigits] at hc
    split at hc
    · rename_i h
      rw [List.mem_singleton.1 hc, hd u h]; omega
    · rename_i h
      rcases List.mem_append.1 hc with hc | hc
      · exact ih (u / 10) (by omega) c hc
      · rw [List.mem_singleton.1 hc, hd _ (Nat.mod_lt _ (by decide))]; omega
theorem decDigits_ne (u : Nat) : Lib.decDigits u ≠ [] := by
  intro h
  have := Lib.decDigits_length u
  have h2 := Lib.nDigits_pos u
  rw [h] at this
  simp at this
  omega
theorem indexByte_miss (c : UInt8) : ∀ (p : List UInt8), c ∉ p → Lib.indexByte p c = -1
  | [], _ => rfl
  | b :: p, h => by
    unfold Lib.indexByte
    have hb : ¬ (b == c) = true := by intro e; rw [beq_iff_eq] at e; subst e; exact h List.mem_cons_self
    rw [if_neg hb, indexByte_miss c p (fun hm => h (List.mem_cons_of_mem _ hm))]
    rfl
theorem indexByte_hit (c : UInt8) (r : List UInt8) : ∀ (p : List UInt8), c ∉ p → Lib.indexByte (p ++ c :: r) c = (p.length : Int)
  | [], _ => by
    show Lib.indexByte (c :: r) c = _
    unfold Lib.indexByte
    rw [if_pos (beq_self_eq_true c)]
    rfl
  | b :: p, h => by
    rw [List.cons_append]
    unfold Lib.indexByte
    have hb : ¬ (b == c) = true := by intro e; rw [beq_iff_eq] at e; subst e; exact h List.mem_cons_self
    rw [if_neg hb, indexByte_hit c r p (fun hm => h (List.mem_cons_of_mem _ hm))]
    have : ¬ (((p.length : Int) == -1) = true) := by intro e; have := beq_iff_eq.1 e; omega
    rw [if_neg this, List.length_cons]
    omega
/-- Pieces, a blank between any two. -/
def joinBl (p : List UInt8) (ps : List (List UInt8)) : List UInt8 := p ++ (ps.map (32 :: ·)).flatten
theorem count_join : ∀ (ps : List (List UInt8)) (p : List UInt8), (∀ q ∈ p :: ps, (32 : UInt8) ∉ q) → Lib.count (joinBl p ps) [32] = ps.length
  | [], p, h => by
    have hm := indexByte_miss 32 p (h p List.mem_cons_self)
    unfold joinBl
    rw [List.map_nil, List.flatten_nil, List.append_nil]
    exact Lib.count_miss (by rw [Lib.index_one]; exact hm)
  | q :: ps, p, h => by
    have hm := indexByte_hit 32 (joinBl q ps) p (h p List.mem_cons_self)
    have e : joinBl p (q :: ps) = p ++ 32 :: joinBl q ps := by unfold joinBl; rw [List.map_cons, List.flatten_cons, List.cons_append]
    rw [e, Lib.count_hit (i := p.length) (by simp) (by rw [Lib.index_one]; exact hm)]
    have e2 : (p ++ 32 :: joinBl q ps).drop (p.length + [(32 : UInt8)].length) = joinBl q ps := by rw [← List.drop_drop, List.drop_left]; rfl
    rw [e2, count_join ps q (fun x hx => h x (List.mem_cons_of_mem _ hx)), List.length_cons]
    omega
theorem split_join : ∀ (ps : List (List UInt8)) (p : List UInt8), (∀ q ∈ p :: ps, (32 : UInt8) ∉ q) → Lib.splitK [32] 0 ps.length (joinBl p ps) = p :: ps
  | [], p, h => by unfold joinBl; simp [Lib.splitK]
  | q :: ps, p, h => by
    have hm := indexByte_hit 32 (joinBl q ps) p (h p List.mem_cons_self)
    have e : joinBl p (q :: ps) = p ++ 32 :: joinBl q ps := by unfold joinBl; rw [List.map_cons, List.flatten_cons, List.cons_append]
    rw [e, List.length_cons, Lib.splitK, Lib.index_one, hm]
    have hn : ¬ (((p.length : Int) == -1) = true) := by intro e; have := beq_iff_eq.1 e; omega
    have e2 : (p ++ 32 :: joinBl q ps).drop ((p.length : Int).toNat + [(32 : UInt8)].length) = joinBl q ps := by rw [Int.toNat_natCast, ← List.drop_drop, List.drop_left]; rfl
    have e3 : (p ++ 32 :: joinBl q ps).take ((p.length : Int).toNat + 0) = p := by rw [Int.toNat_natCast, Nat.add_zero, List.take_left]
    rw [if_neg hn, e2, e3, split_join ps q (fun x hx => h x (List.mem_cons_of_mem _ hx))]
theorem splitAll_join (s : ByteArray) (p : List UInt8) (ps : List (List UInt8)) (h : ∀ q ∈ p :: ps, (32 : UInt8) ∉ q) (hs : s.data.toList = joinBl p ps) : (splitAll s blankB).map (·.data.toList) = p :: ps := by
  unfold splitAll
  rw [Lib.splitB_data]
  show Lib.splitK [32] 0 (Lib.count s.data.toList [32]) s.data.toList = _
  rw [hs, count_join ps p h, split_join ps p h]
theorem itoa_no_blank (n : Int) : (32 : UInt8) ∉ Lib.itoa n := by
  intro h
  unfold Lib.itoa at h
  split at h
  · rcases List.mem_cons.1 h with h | h
    · exact absurd h (by decide)
    · exact absurd (decDigits_digit _ _ h).1 (by decide)
  · exact absurd (decDigits_digit _ _ h).1 (by decide)
theorem uint_dec (r : List UInt8) (u : Nat) : u < 18446744073709551616 → Lib.parseUint10 0 (Lib.decDigits u ++ r) = Lib.parseUint10 u r := by
  induction u using Nat.strongRecOn generalizing r with
  | _ u ih =>
    intro hu
    have hd : ∀ d : Nat, d < 10 → (UInt8.ofNat (48 + d)).toNat = 48 + d := by intro d hd; simp; omega
    rw [Lib.decDigits]
    split
    · rename_i h
      show Lib.parseUint10 0 (UInt8.ofNat (48 + u) :: r) = _
      have e := hd u h
      rw [Lib.parseUint10, e, if_pos (by omega), if_neg (by omega), if_neg (by omega)]
      congr 1; omega
    · rename_i h
      rw [List.append_assoc, ih (u / 10) (by omega) _ (by omega)]
      show Lib.parseUint10 (u / 10) (UInt8.ofNat (48 + u % 10) :: r) = _
      have e := hd (u % 10) (Nat.mod_lt _ (by decide))
      rw [Lib.parseUint10, e, if_pos (by omega), if_neg (by omega), if_neg (by omega)]
      congr 1; omega
theorem mag_dec (u : Nat) (hu : u < 18446744073709551616) : Lib.parseMag (Lib.decDigits u) = .ok u := by
  unfold Lib.parseMag
  rw [if_neg (decDigits_ne u)]
  have := uint_dec [] u hu
  rw [List.append_nil] at this
  rw [this]
  rfl
theorem atoi_itoa (n : Int) (h0 : -9223372036854775808 ≤ n) (h1 : n ≤ 9223372036854775807) : Lib.atoiAll (Lib.itoa n) = .ok n := by
  unfold Lib.itoa
  by_cases h : n < 0
  · rw [if_pos h]
    unfold Lib.atoiAll
    have e45 : (45 : UInt8).toNat = 45 := rfl
    simp only [e45, or_true, if_true]
    rw [mag_dec n.natAbs (by omega)]
    dsimp only
    rw [if_neg (fun hn => hn.1 trivial), if_neg (fun hn => absurd hn.2 (by omega))]
    congr 1
    omega
  · rw [if_neg h]
    cases hd : Lib.decDigits n.toNat with
    | nil => exact absurd hd (decDigits_ne _)
    | cons c l =>
      have hc := decDigits_digit n.toNat c (by rw [hd]; exact List.mem_cons_self)
      unfold Lib.atoiAll
      dsimp only
      rw [if_neg (by omega), ← hd, mag_dec n.toNat (by omega)]
      dsimp only
      rw [if_neg (by omega), if_neg (by omega), if_neg (by omega)]
      congr 1
      omega
theorem atoiV_itoa (b : ByteArray) (n : Int) (h0 : -9223372036854775808 ≤ n) (h1 : n ≤ 9223372036854775807) (hb : b.data.toList = Lib.itoa n) : atoiV b = n := by
  unfold atoiV
  rw [hb, atoi_itoa n h0 h1]
theorem bytes_eq {a b : ByteArray} (h : a.data.toList = b.data.toList) : a = b := ByteArray.ext (Array.toList_inj.1 h)
/-- Four numbers out of the pieces. -/
theorem sNum_at {parts : List ByteArray} {w : List UInt8} {ns : List Int} (hp : parts.map (·.data.toList) = w :: ns.map Lib.itoa) (hn : ∀ n ∈ ns, is64 n = true) (i : Nat) : sNum parts i = ns.getD i 0 := by
  have hl := congrArg List.length hp
  simp only [List.length_map, List.length_cons] at hl
  unfold sNum
  by_cases hi : i < ns.length
  · rw [if_pos (by omega)]
    have h1 : i + 1 < parts.length := by omega
    have e1 : parts.getD (i + 1) ⟨#[]⟩ = parts[i + 1] := by simp [List.getD, h1]
    have e2 : (parts[i + 1]).data.toList = Lib.itoa ns[i] := by
      have h2 : (parts.map (·.data.toList))[i + 1]? = (w :: ns.map Lib.itoa)[i + 1]? := by rw [hp]
      rw [List.getElem?_map, List.getElem?_cons_succ, List.getElem?_map, List.getElem?_eq_getElem h1, List.getElem?_eq_getElem hi] at h2
      simpa using h2
    have hm : -9223372036854775808 ≤ ns[i] ∧ ns[i] ≤ 9223372036854775807 := of_decide_eq_true (hn _ (List.getElem_mem hi))
    rw [e1, atoiV_itoa _ _ hm.1 hm.2 e2]
    simp [List.getD, hi]
  · rw [if_neg (by omega)]
    simp [List.getD, Nat.le_of_not_lt hi]

/-! ### The same with a separator of two bytes -/
theorem index2_miss (c d : UInt8) : ∀ (p : List UInt8), c ∉ p → Lib.index p [c, d] = -1
  | [], _ => rfl
  | b :: p, h => by
    unfold Lib.index
    have hb : ¬ ([c, d].isPrefixOf (b :: p) = true) := by
      intro e
      have := List.isPrefixOf_iff_prefix.1 e
      obtain ⟨t, ht⟩ := this
      injection ht with h1 _
      exact h (by rw [h1]; exact List.mem_cons_self)
    rw [if_neg hb, index2_miss c d p (fun hm => h (List.mem_cons_of_mem _ hm))]
    rfl
theorem index2_hit (c d : UInt8) (r : List UInt8) : ∀ (p : List UInt8), c ∉ p → Lib.index (p ++ c :: d :: r) [c, d] = (p.length : Int)
  | [], _ => by
    show Lib.index (c :: d :: r) [c, d] = _
    unfold Lib.index
    have hp : [c, d].isPrefixOf (c :: d :: r) = true := List.isPrefixOf_iff_prefix.2 ⟨r, rfl⟩
    rw [if_pos hp]
    rfl
  | b :: p, h => by
    rw [List.cons_append]
    unfold Lib.index
    have hb : ¬ ([c, d].isPrefixOf (b :: (p ++ c :: d :: r)) = true) := by
      intro e
      obtain ⟨t, ht⟩ := List.isPrefixOf_iff_prefix.1 e
      injection ht with h1 _
      exact h (by rw [h1]; exact List.mem_cons_self)
    rw [if_neg hb, index2_hit c d r p (fun hm => h (List.mem_cons_of_mem _ hm))]
    have : ¬ (((p.length : Int) == -1) = true) := by intro e; have := beq_iff_eq.1 e; omega
    rw [if_neg this, List.length_cons]
    omega
def join2 (c d : UInt8) (p : List UInt8) (ps : List (List UInt8)) : List UInt8 := p ++ (ps.map ([c, d] ++ ·)).flatten
theorem join2_cons (c d : UInt8) (p q : List UInt8) (ps : List (List UInt8)) : join2 c d p (q :: ps) = p ++ c :: d :: join2 c d q ps := by unfold join2; rw [List.map_cons, List.flatten_cons]; simp
theorem count2_join (c d : UInt8) : ∀ (ps : List (List UInt8)) (p : List UInt8), (∀ q ∈ p :: ps, c ∉ q) → Lib.count (join2 c d p ps) [c, d] = ps.length
  | [], p, h => by
    have hm := index2_miss c d p (h p List.mem_cons_self)
    unfold join2
    rw [List.map_nil, List.flatten_nil, List.append_nil]
    exact Lib.count_miss hm
  | q :: ps, p, h => by
    have hm := index2_hit c d (join2 c d q ps) p (h p List.mem_cons_self)
    rw [join2_cons, Lib.count_hit (i := p.length) (by simp) hm]
    have e2 : (p ++ c :: d :: join2 c d q ps).drop (p.length + [c, d].length) = join2 c d q ps := by rw [← List.drop_drop, List.drop_left]; rfl
    rw [e2, count2_join c d ps q (fun x hx => h x (List.mem_cons_of_mem _ hx)), List.length_cons]
    omega
theorem split2_join (c d : UInt8) : ∀ (ps : List (List UInt8)) (p : List UInt8), (∀ q ∈ p :: ps, c ∉ q) → Lib.splitK [c, d] 0 ps.length (join2 c d p ps) = p :: ps
  | [], p, h => by unfold join2; simp [Lib.splitK]
  | q :: ps, p, h => by
    have hm := index2_hit c d (join2 c d q ps) p (h p List.mem_cons_self)
    rw [join2_cons, List.length_cons, Lib.splitK, hm]
    have hn : ¬ (((p.length : Int) == -1) = true) := by intro e; have := beq_iff_eq.1 e; omega
    have e2 : (p ++ c :: d :: join2 c d q ps).drop ((p.length : Int).toNat + [c, d].length) = join2 c d q ps := by rw [Int.toNat_natCast, ← List.drop_drop, List.drop_left]; rfl
    have e3 : (p ++ c :: d :: join2 c d q ps).take ((p.length : Int).toNat + 0) = p := by rw [Int.toNat_natCast, Nat.add_zero, List.take_left]
    rw [if_neg hn, e2, e3, split2_join c d ps q (fun x hx => h x (List.mem_cons_of_mem _ hx))]
theorem splitAll2_join (s sep : ByteArray) (c d : UInt8) (hsep : sep.data.toList = [c, d]) (p : List UInt8) (ps : List (List UInt8)) (h : ∀ q ∈ p :: ps, c ∉ q) (hs : s.data.toList = join2 c d p ps) : (splitAll s sep).map (·.data.toList) = p :: ps := by
  unfold splitAll
  rw [Lib.splitB_data]
  show Lib.splitK sep.data.toList 0 (Lib.count s.data.toList sep.data.toList) s.data.toList = _
  rw [hsep, hs, count2_join c d ps p h, split2_join c d ps p h]
end Go.Proofs.YthfjjdkaplibmaaDoor.Nm
