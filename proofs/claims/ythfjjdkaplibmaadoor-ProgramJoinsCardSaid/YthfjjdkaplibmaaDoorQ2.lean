import Derived.Test.YthfjjdkaplibmaaDoorQ1
import Derived.Test.YthfjjdkaplibmaaDoorPP
namespace Go.Proofs.YthfjjdkaplibmaaDoor.Pr
open Go Go.RowKit Go.Proofs.YthfjjdkaplibmaaDoorW.PrintWords Go.Proofs.YthfjjdkaplibmaaDoorW.PrintLast Go.Proofs.YthfjjdkaplibmaaDoorW.PrintMore
set_option linter.unusedVariables false
set_option linter.unusedSimpArgs false

/-! ### The text of a program: the program's and the reference's -/
def yOf (l : List UInt8) : ByteArray := ⟨l.toArray⟩
theorem yext {a b : ByteArray} (h : a.data.toList = b.data.toList) : a = b := ByteArray.ext (Array.toList_inj.1 h)
theorem yOf_list (l : List UInt8) : (yOf l).data.toList = l := rfl
theorem yOf_app (a b : List UInt8) : yOf a ++ yOf b = yOf (a ++ b) := yext (by simp [yOf])
theorem yOf_size (a : List UInt8) : (yOf a).size = a.length := by
  have e2 : (yOf a).data.toList.length = (yOf a).size := Array.length_toList
  rw [yOf_list] at e2
  exact e2.symm
theorem join_nil' (sep : List UInt8) : Lib.join [] sep = [] := by simp [Lib.join, List.intercalate]
theorem join_one' (x sep : List UInt8) : Lib.join [x] sep = x := by simp [Lib.join, List.intercalate]
theorem join_two (x y : List UInt8) (r : List (List UInt8)) (sep : List UInt8) : Lib.join (x :: y :: r) sep = x ++ sep ++ Lib.join (y :: r) sep := by simp [Lib.join, List.intercalate]
theorem join_cons (x : List UInt8) (sep : List UInt8) : ∀ r : List (List UInt8), Lib.join (x :: r) sep = x ++ (r.map (sep ++ ·)).flatten := by
  intro r
  induction r generalizing x with
  | nil => rw [join_one']; simp
  | cons y r ih => rw [join_two, ih y, List.map_cons, List.flatten_cons, List.append_assoc, List.append_assoc]
theorem flat_le (B : Nat) : ∀ (l : List (List UInt8)), (∀ x ∈ l, x.length ≤ B) → l.flatten.length ≤ B * l.length
  | [], _ => by simp
  | x :: r, h => by
    have h1 := h x List.mem_cons_self
    have h2 := flat_le B r (fun y hy => h y (List.mem_cons_of_mem _ hy))
    rw [List.flatten_cons, List.length_append, List.length_cons, Nat.mul_add]
    omega
theorem join_le (B : Nat) (sep : List UInt8) (l : List (List UInt8)) (h : ∀ x ∈ l, x.length ≤ B) : (Lib.join l sep).length ≤ (B + sep.length) * l.length := by
  cases l with
  | nil => rw [join_nil']; simp
  | cons x r =>
    rw [join_cons, List.length_append]
    have h1 := h x List.mem_cons_self
    have h2 := flat_le (B + sep.length) (r.map (sep ++ ·)) (by
      intro y hy
      obtain ⟨z, hz, rfl⟩ := List.mem_map.1 hy
      have := h z (List.mem_cons_of_mem _ hz)
      rw [List.length_append]; omega)
    rw [List.length_map] at h2
    rw [List.length_cons, Nat.mul_add]
    omega
def num64 (n : Int) : Bool := decide (-9223372036854775808 ≤ n ∧ n ≤ 9223372036854775807)
theorem itoa_f (n : Int) (h : is64 n = true) : strconv_Itoa.f n = some (yOf (Lib.itoa n)) := by
  have h' := of_decide_eq_true h
  unfold strconv_Itoa.f
  rw [if_pos h']
  rfl
theorem digits_f (n : Int) (h : is64 n = true) : hourglassref06_Digits.f n = some (yOf (Lib.itoa n)) := by
  have h' := of_decide_eq_true h
  unfold hourglassref06_Digits.f
  rw [if_pos h']
  rfl
theorem itoa_le (n : Int) (h : is64 n = true) : (Lib.itoa n).length ≤ 21 := by
  have h' := of_decide_eq_true h
  exact Lib.itoa_length_le n h'.1 h'.2
theorem join_f (l : List ByteArray) (sep : ByteArray) (B : Nat) (hB : ∀ x ∈ l, x.size ≤ B) (hl : l.length ≤ 1000000) (hb : B ≤ 10000) (hs : sep.size ≤ 10000) : strings_Join.f l sep = some (yOf (Lib.join (l.map (·.data.toList)) sep.data.toList)) := by
  have e : sep.data.toList.length = sep.size := Array.length_toList
  have h := join_le B sep.data.toList (l.map (·.data.toList)) (by
    intro x hx
    obtain ⟨y, hy, rfl⟩ := List.mem_map.1 hx
    have e2 : y.data.toList.length = y.size := Array.length_toList
    have := hB y hy
    omega)
  rw [List.length_map, e] at h
  have h2 : (B + sep.size) * l.length ≤ 20000 * 1000000 := Nat.mul_le_mul (by omega) hl
  unfold strings_Join.f
  rw [if_pos ⟨by omega, by omega⟩]
  rfl
def ok51 (o : S51) : Bool := is64 o.f1 && is64 o.f2
theorem vword_len : ∀ k, k < 9 → (vWords.getD k ⟨#[]⟩).size ≤ 7 := by decide +kernel
theorem nums_join (w : List UInt8) (l : List Int) : Lib.join (w :: l.map Lib.itoa) [32] = w ++ (l.map blankNum).flatten := by
  rw [join_cons, List.map_map]
  rfl
theorem nums_le (l : List Int) (h : ∀ n ∈ l, is64 n = true) : ((l.map blankNum).flatten).length ≤ 22 * l.length := by
  have := flat_le 22 (l.map blankNum) (by
    intro x hx
    obtain ⟨n, hn, rfl⟩ := List.mem_map.1 hx
    have := itoa_le n (h n hn)
    rw [blankNum, List.length_cons]
    omega)
  rwa [List.length_map] at this
theorem ptext_len (o : S51) (hk : pBadKind o = false) (h : ok51 o = true) : (pTextStep o).length ≤ 51 := by
  unfold ok51 at h
  rw [Bool.and_eq_true] at h
  unfold pBadKind at hk
  simp only [Bool.or_eq_false_iff, decide_eq_false_iff_not] at hk
  have hw := vword_len o.f0.toNat (by omega)
  have e : (vWords.getD o.f0.toNat ⟨#[]⟩).data.toList.length = (vWords.getD o.f0.toNat ⟨#[]⟩).size := Array.length_toList
  have hn := nums_le ([o.f1, o.f2].take (pCount o.f0).toNat) (by
    intro n hn
    have hm := List.mem_of_mem_take hn
    simp only [List.mem_cons, List.not_mem_nil, or_false] at hm
    rcases hm with rfl | rfl
    · exact h.1
    · exact h.2)
  have h2 : ([o.f1, o.f2].take (pCount o.f0).toNat).length ≤ 2 := by rw [List.length_take]; simp; omega
  unfold pTextStep
  rw [List.length_append]
  omega
theorem text_l1 (l : List S51) (x3 : List ByteArray) (i : Int) (y : List Int) (hy : y.length ≤ 2) (h64 : ∀ n ∈ y, is64 n = true) : ∀ (m j K : Nat) (x6 : List ByteArray), j + m = y.length → x6.length ≤ 5 + j → (∀ x ∈ x6, x.size ≤ 100) →
    program_Text.l1 (K + m + 1) x3 x6 l (l.length : Int) i y (y.length : Int) (j : Int) = if x3.length < 8796093022208 then program_Text.l0 K (x3 ++ [yOf (Lib.join ((x6.map (·.data.toList)) ++ (y.drop j).map Lib.itoa) [32])]) l (l.length : Int) (wrap64 (i + 1)) else none := by
  intro m
  induction m with
  | zero =>
    intro j K x6 hj h6 hs6
    rw [program_Text.l1, if_neg (by omega), join_f x6 ⟨#[32]⟩ 100 hs6 (by omega) (by omega) (by decide)]
    simp only [Option.bind_some]
    rw [List.drop_eq_nil_iff.2 (by omega), List.map_nil, List.append_nil]
  | succ m ih =>
    intro j K x6 hj h6 hs6
    have hlt : j < y.length := by omega
    have hr : rd y (j : Int) = y[j] := by unfold rd; simp [List.getD, hlt]
    have h64j := h64 y[j] (List.getElem_mem hlt)
    rw [program_Text.l1, if_pos (by omega), if_pos (by omega), if_pos (by omega), hr, itoa_f _ h64j]
    simp only [Option.bind_some]
    rw [if_pos (by omega), wrap_next j (by omega), show K + (m + 1) = K + m + 1 by omega, ih (j + 1) K _ (by omega) (by simp; omega) (by
      intro x hx
      rcases List.mem_append.1 hx with hx | hx
      · exact hs6 x hx
      · rw [List.mem_singleton] at hx; rw [hx, yOf_size]; have := itoa_le _ h64j; omega), List.drop_eq_getElem_cons hlt, List.map_cons, List.map_append, List.append_assoc]
    rfl
theorem text_l0 (l : List S51) (hl : l.length ≤ 100000) (hok : l.all ok51 = true) : ∀ (m i K : Nat) (x3 : List ByteArray), i + m = l.length → x3.length ≤ i → (∀ x ∈ x3, x.size ≤ 51) → 6 * m + 10 ≤ K →
    program_Text.l0 K x3 l (l.length : Int) (i : Int) = some (if (l.drop i).any pBadKind then ⟨#[]⟩ else yOf (Lib.join (x3.map (·.data.toList) ++ (l.drop i).map pTextStep) [59, 32])) := by
  intro m
  induction m with
  | zero =>
    intro i K x3 hi hx hs hK
    obtain ⟨K, rfl⟩ : ∃ m, K = m + 1 := ⟨K - 1, by omega⟩
    rw [program_Text.l0, if_neg (by omega), join_f x3 ⟨#[59, 32]⟩ 51 hs (by omega) (by omega) (by decide), List.drop_eq_nil_iff.2 (by omega), List.map_nil, List.append_nil]
    rfl
  | succ m ih =>
    intro i K x3 hi hx hs hK
    obtain ⟨K, rfl⟩ : ∃ m, K = m + 2 := ⟨K - 2, by omega⟩
    have hlt : i < l.length := by omega
    obtain ⟨o, ho⟩ : ∃ o, l[i] = o := ⟨_, rfl⟩
    have hoo : ok51 o = true := by rw [← ho]; exact List.all_eq_true.1 hok _ (List.getElem_mem hlt)
    have ho2 := hoo
    unfold ok51 at ho2
    rw [Bool.and_eq_true] at ho2
    have hj : ∀ b : Bool, b = pBadKind o → program_Text.j1 (K + 1) x3 l (l.length : Int) (i : Int) b o.f0 o.f1 o.f2 = some (if (l.drop i).any pBadKind then ⟨#[]⟩ else yOf (Lib.join (x3.map (·.data.toList) ++ (l.drop i).map pTextStep) [59, 32])) := by
      intro b hb
      rw [hb, program_Text.j1, drop51 hlt, ho, List.any_cons]
      cases hk : pBadKind o with
      | true => rw [if_pos rfl, Bool.true_or, if_pos rfl]
      | false =>
        have hk' := hk
        unfold pBadKind at hk'
        simp only [Bool.or_eq_false_iff, decide_eq_false_iff_not] at hk'
        have hv : program_verbs.f = some vWords := rfl
        have hvl : vWords.length = 8 := rfl
        obtain ⟨cn, hcn⟩ : ∃ cn : Nat, pCount o.f0 = (cn : Int) ∧ cn ≤ 2 := by
          unfold pCount
          repeat' split
          · exact ⟨1, rfl, by omega⟩
          · exact ⟨1, rfl, by omega⟩
          · exact ⟨1, rfl, by omega⟩
          · exact ⟨1, rfl, by omega⟩
          · exact ⟨2, rfl, by omega⟩
          · exact ⟨0, rfl, by omega⟩
        have hyl : ([o.f1, o.f2].take cn).length = cn := by rw [List.length_take]; simp; omega
        have hw := vword_len o.f0.toNat (by omega)
        have hrw : rdOf ByteArray.empty vWords o.f0 = vWords.getD o.f0.toNat ⟨#[]⟩ := rfl
        rw [if_neg (by simp), hv]
        simp only [Option.bind_some]
        rw [if_pos (by omega), hvl, if_pos (by omega), pcount_f K (by omega), hcn.1]
        simp only [Option.bind_some]
        rw [if_pos (by omega), if_pos (by simp; omega), Int.toNat_natCast]
        obtain ⟨K', rfl⟩ : ∃ m, K = m + cn + 1 := ⟨K - cn - 1, by omega⟩
        refine Eq.trans (text_l1 l x3 (i : Int) ([o.f1, o.f2].take cn) (by omega) (by
          intro n hn
          have hm := List.mem_of_mem_take hn
          simp only [List.mem_cons, List.not_mem_nil, or_false] at hm
          rcases hm with rfl | rfl
          · exact ho2.1
          · exact ho2.2) cn 0 K' [rdOf ByteArray.empty vWords o.f0] (by omega) (by simp) (by
          intro x hx
          rw [List.mem_singleton] at hx
          rw [hx, hrw]
          omega)) ?_
        rw [if_pos (by omega), wrap_next i (by omega)]
        have hstep : Lib.join (([rdOf ByteArray.empty vWords o.f0]).map (·.data.toList) ++ (([o.f1, o.f2].take cn).drop 0).map Lib.itoa) [32] = pTextStep o := by
          rw [List.map_cons, List.map_nil, List.drop_zero, List.singleton_append, nums_join, hrw]
          unfold pTextStep
          rw [hcn.1, Int.toNat_natCast]
        rw [hstep, ih (i + 1) K' (x3 ++ [yOf (pTextStep o)]) (by omega) (by simp; omega) (by
          intro x hx
          rcases List.mem_append.1 hx with hx | hx
          · exact hs x hx
          · rw [List.mem_singleton] at hx; rw [hx, yOf_size]; exact ptext_len o hk hoo) (by omega), Bool.false_or, List.map_append, List.map_cons, List.append_assoc]
        rfl
    rw [program_Text.l0, if_pos (by omega), if_pos (by omega), if_pos (by omega), rd51_at hlt, ho]
    by_cases h1 : o.f0 < 1
    · rw [if_pos h1]
      exact hj true (by unfold pBadKind; rw [decide_eq_true h1]; rfl)
    · rw [if_neg h1]
      exact hj _ (by unfold pBadKind; rw [decide_eq_false h1, Bool.false_or])
theorem text_f (l : List S51) (hl : l.length ≤ 100000) (hok : l.all ok51 = true) (K : Nat) (hK : 6 * l.length + 10 ≤ K) : program_Text.f K l = some (pText l) := by
  unfold program_Text.f
  have := text_l0 l hl hok l.length 0 K [] (by omega) (by simp) (by simp) hK
  exact this
end Go.Proofs.YthfjjdkaplibmaaDoor.Pr
