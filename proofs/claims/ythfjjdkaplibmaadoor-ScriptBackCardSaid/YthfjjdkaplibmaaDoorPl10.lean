import Derived.Test.YthfjjdkaplibmaaDoorPl9
import Derived.Test.YthfjjdkaplibmaaDoorPr13
import Derived.Test.YthfjjdkaplibmaaDoorPr14
import Derived.Lib.ItoaLen
namespace Go.Proofs.YthfjjdkaplibmaaDoor.Pr
open Go Go.RowKit Go.Proofs.YthfjjdkaplibmaaDoorW.PrintWords Go.Proofs.YthfjjdkaplibmaaDoorW.PrintLast Go.Proofs.YthfjjdkaplibmaaDoorW.PrintMore
set_option linter.unusedVariables false
set_option linter.unusedSimpArgs false

/-! ### The reference's text -/
theorem itoaB_bOf (n : Int) : itoaB n = bOf (Lib.itoa n) := rfl
theorem is64_iff {n : Int} : is64 n = true ↔ (-9223372036854775808 ≤ n ∧ n ≤ 9223372036854775807) := by unfold is64; exact decide_eq_true_iff
theorem ref_text_l0 (k a b c d : Int) (h0 : 1 ≤ k) (h1 : k ≤ 11) (ha : is64 a = true) (hb : is64 b = true) (hc : is64 c = true) (hd : is64 d = true) : ∀ (m i K : Nat) (t : List UInt8), i + m = sHas k → t.length ≤ 100 + 100 * i → m + 1 ≤ K →
    hourglassref30_Text.l0 K (bOf t) [a, b, c, d] (i : Int) k a b c d = some (bOf (t ++ ((([a, b, c, d].drop i).take m).map blankNum).flatten)) := by
  have h4 := sHas_le k
  intro m
  induction m with
  | zero =>
    intro i K t hi ht hK
    obtain ⟨K, rfl⟩ : ∃ m, K = m + 1 := ⟨K - 1, by omega⟩
    rw [hourglassref30_Text.l0, count_f k h0 h1]
    simp only [Option.bind_some]
    rw [if_neg (by omega)]
    simp
  | succ m ih =>
    intro i K t hi ht hK
    obtain ⟨K, rfl⟩ : ∃ m, K = m + 1 := ⟨K - 1, by omega⟩
    obtain ⟨x, hx, hx64, hdx⟩ : ∃ x, rd [a, b, c, d] (i : Int) = x ∧ is64 x = true ∧ [a, b, c, d].drop i = x :: [a, b, c, d].drop (i + 1) := by
      have hi4 : i = 0 ∨ i = 1 ∨ i = 2 ∨ i = 3 := by omega
      rcases hi4 with rfl | rfl | rfl | rfl
      · exact ⟨a, rfl, ha, rfl⟩
      · exact ⟨b, rfl, hb, rfl⟩
      · exact ⟨c, rfl, hc, rfl⟩
      · exact ⟨d, rfl, hd, rfl⟩
    obtain ⟨l0, l1⟩ := is64_iff.1 hx64
    have hlen := Lib.itoa_length_le x l0 l1
    rw [hourglassref30_Text.l0, count_f k h0 h1]
    simp only [Option.bind_some]
    have e32 : (⟨#[32]⟩ : ByteArray) = bOf [32] := rfl
    rw [if_pos (by omega), bOf_size, if_pos (by omega), if_pos (by omega), if_pos (by simp; omega), hx, digits_ok x l0 l1]
    simp only [Option.bind_some]
    rw [itoaB_bOf, e32, bOf_append, bOf_append, bOf_size, bOf_size, if_pos (by simp; omega), wrap_succ i (by omega), ih (i + 1) K _ (by omega) (by simp; omega) (by omega), hdx, List.take_succ_cons, List.map_cons, List.flatten_cons, blankNum]
    simp
theorem wL_len : ∀ k, k < 12 → (wL k).length ≤ 7 := by decide +kernel
theorem ref_text_f (K : Nat) (hK : 20 ≤ K) (k a b c d : Int) (ha : is64 a = true) (hb : is64 b = true) (hc : is64 c = true) (hd : is64 d = true) : hourglassref30_Text.f K k a b c d = some (sText k a b c d) := by
  obtain ⟨K, rfl⟩ : ∃ m, K = m + 1 := ⟨K - 1, by omega⟩
  unfold hourglassref30_Text.f
  by_cases h0 : k < 1
  · rw [if_pos h0, hourglassref30_Text.j0, if_pos rfl]
    unfold sText sTextL
    rw [if_neg (by omega)]
  · rw [if_neg h0]
    by_cases h1 : k > 11
    · rw [decide_eq_true h1, hourglassref30_Text.j0, if_pos rfl]
      unfold sText sTextL
      rw [if_neg (by omega)]
    · rw [decide_eq_false h1, hourglassref30_Text.j0, if_neg (by simp), word_f k (by omega) (by omega)]
      unfold hourglassref30_numbers.f
      simp only [Option.bind_some]
      have hw : sWords.getD k.toNat ⟨#[]⟩ = bOf (wL k.toNat) := bytes_eq rfl
      have h4 := sHas_le k
      have hl := wL_len k.toNat (by omega)
      rw [hw]
      have := ref_text_l0 k a b c d (by omega) (by omega) ha hb hc hd (sHas k) 0 K (wL k.toNat) (by omega) (by omega) (by omega)
      refine Eq.trans this ?_
      unfold sText sTextL bOf
      rw [if_pos ⟨by omega, by omega⟩]
      rfl
theorem nums_len (l : List Int) (h : ∀ n ∈ l, is64 n = true) : ((l.map blankNum).flatten).length ≤ 22 * l.length := by
  induction l with
  | nil => simp
  | cons a l ih =>
    have h1 := ih (fun n hn => h n (List.mem_cons_of_mem _ hn))
    obtain ⟨l0, l1⟩ := is64_iff.1 (h a List.mem_cons_self)
    have hlen := Lib.itoa_length_le a l0 l1
    rw [List.map_cons, List.flatten_cons, List.length_append, blankNum, List.length_cons, List.length_cons]
    omega
theorem text_len {k a b c d : Int} (ha : is64 a = true) (hb : is64 b = true) (hc : is64 c = true) (hd : is64 d = true) : (sTextL k a b c d).length ≤ 95 := by
  unfold sTextL
  split
  · rename_i h
    have hl := wL_len k.toNat (by omega)
    have hn := nums_len ([a, b, c, d].take (sHas k)) (by
      intro n hn
      have hm := List.mem_of_mem_take hn
      simp only [List.mem_cons, List.not_mem_nil, or_false] at hm
      rcases hm with rfl | rfl | rfl | rfl
      · exact ha
      · exact hb
      · exact hc
      · exact hd)
    have h4 : ([a, b, c, d].take (sHas k)).length ≤ 4 := by rw [List.length_take]; simp; omega
    have hw : (sWords.getD k.toNat ⟨#[]⟩).data.toList.length ≤ 7 := hl
    rw [List.length_append]
    omega
  · simp
def tOf (x : S24) : List UInt8 := sTextL x.f0 x.f1 x.f2 x.f3 x.f4
def r24 (x : S24) : Bool := sRight x.f0 x.f1 x.f2 x.f3 x.f4
theorem itoa_no_feed (n : Int) : (10 : UInt8) ∉ Lib.itoa n := by
  intro h
  unfold Lib.itoa at h
  split at h
  · rcases List.mem_cons.1 h with h | h
    · exact absurd h (by decide)
    · exact absurd (decDigits_digit _ _ h).1 (by decide)
  · exact absurd (decDigits_digit _ _ h).1 (by decide)
theorem words_no_feed : ∀ k, k < 12 → (10 : UInt8) ∉ wL k := by decide +kernel
theorem text_no_feed (x : S24) : (10 : UInt8) ∉ tOf x := by
  intro h
  unfold tOf sTextL at h
  split at h
  · rename_i hk
    rcases List.mem_append.1 h with h | h
    · exact words_no_feed x.f0.toNat (by omega) h
    · obtain ⟨l, hl, hm⟩ := List.mem_flatten.1 h
      obtain ⟨n, _, rfl⟩ := List.mem_map.1 hl
      rcases List.mem_cons.1 hm with hm | hm
      · exact absurd hm (by decide)
      · exact itoa_no_feed n hm
  · cases h
theorem lns_texts (l : List S24) : lns (sLinesL l) = l.map fun x => bOf (tOf x) := by
  induction l with
  | nil => rfl
  | cons x l ih =>
    have e : sLinesL (x :: l) = tOf x ++ 10 :: sLinesL l := by
      unfold sLinesL tOf
      rw [List.map_cons, List.flatten_cons, List.append_assoc]
      rfl
    rw [e, lns_cons _ _ (text_no_feed x), ih, List.map_cons]
theorem words_head : ∀ k, k < 12 → 1 ≤ k → (wL k).head?.isSome = true ∧ (wL k).head? ≠ some 35 := by decide +kernel
theorem text_awake {x : S24} (h : r24 x = true) : idle (bOf (tOf x)) = false := by
  obtain ⟨⟨h1, h2⟩, _⟩ := sRight_parts h
  obtain ⟨k, hk⟩ : ∃ k : Nat, x.f0 = (k : Int) := ⟨x.f0.toNat, by omega⟩
  obtain ⟨w1, w2⟩ := words_head k (by omega) (by omega)
  have e : tOf x = wL k ++ (([x.f1, x.f2, x.f3, x.f4].take (sHas (k : Int))).map blankNum).flatten := by
    unfold tOf
    rw [hk]
    exact sText_k k (by omega) (by omega) _ _ _ _
  cases hw : wL k with
  | nil => rw [hw] at w1; cases w1
  | cons c r =>
    rw [hw] at w2 e
    unfold idle
    rw [bOf_size, bOf_list, e]
    have h3 : c ≠ 35 := by intro h; subst h; exact w2 rfl
    simp [h3]
theorem text_parse {x : S24} (h : r24 x = true) : sParse (bOf (tOf x)) = (x.f0, x.f1, x.f2, x.f3, x.f4, 0) := sParse_text h rfl
theorem rGoL_texts : ∀ (l : List S24), (∀ x ∈ l, r24 x = true) → ∀ (out : List S24) (n : Int), out.length ≤ 400 →
    rGoL (l.map fun x => bOf (tOf x)) out n = if out.length + l.length ≤ 400 then (out ++ l, 0, 0) else ([], n + ((400 - out.length : Nat) : Int) + 1, 6) := by
  intro l
  induction l with
  | nil => intro h out n ho; rw [List.map_nil, rGoL, if_pos (by simpa using ho), List.append_nil]
  | cons x l ih =>
    intro h out n ho
    have hx := h x List.mem_cons_self
    rw [List.map_cons, rGoL, text_awake hx, if_neg (by simp)]
    by_cases h4 : 400 ≤ out.length
    · rw [if_pos h4, if_neg (by rw [List.length_cons]; omega)]
      have : 400 - out.length = 0 := by omega
      rw [this]
      simp
    · have hst : stepOf (bOf (tOf x)) = x := by unfold stepOf; rw [text_parse hx]
      rw [if_neg h4, hst, text_parse hx]
      dsimp only
      rw [if_pos rfl, ih (fun y hy => h y (List.mem_cons_of_mem _ hy)) _ _ (by simp; omega)]
      simp only [List.length_append, List.length_cons, List.length_nil]
      by_cases h5 : out.length + (l.length + 1) ≤ 400
      · rw [if_pos (by omega), if_pos h5, List.append_assoc]
        rfl
      · rw [if_neg (by omega), if_neg h5]
        congr 2
        omega
theorem sLines_len (l : List S24) (h : l.all ok24 = true) : (sLinesL l).length ≤ 96 * l.length := by
  induction l with
  | nil => simp [sLinesL]
  | cons x l ih =>
    rw [List.all_cons, Bool.and_eq_true] at h
    have h1 := ih h.2
    have h2 := h.1
    unfold ok24 at h2
    simp only [Bool.and_eq_true] at h2
    have h3 := text_len (k := x.f0) h2.1.1.1 h2.1.1.2 h2.1.2 h2.2
    have e : sLinesL (x :: l) = tOf x ++ 10 :: sLinesL l := by
      unfold sLinesL tOf
      rw [List.map_cons, List.flatten_cons, List.append_assoc]
      rfl
    have h4 : (tOf x).length ≤ 95 := h3
    rw [e, List.length_append, List.length_cons, List.length_cons]
    omega
theorem back_l1 (l : List S24) (hl : l.length ≤ 1000000) : ∀ (m i K : Nat), i + m = l.length → m + 1 ≤ K → hourglasslaw30_ScriptBack.l1 K l l (i : Int) = some true := by
  intro m
  induction m with
  | zero =>
    intro i K hi hK
    obtain ⟨K, rfl⟩ : ∃ m, K = m + 1 := ⟨K - 1, by omega⟩
    rw [hourglasslaw30_ScriptBack.l1, if_neg (by omega), awake_true]
    rfl
  | succ m ih =>
    intro i K hi hK
    obtain ⟨K, rfl⟩ : ∃ m, K = m + 1 := ⟨K - 1, by omega⟩
    rw [hourglasslaw30_ScriptBack.l1, if_pos (by omega), if_pos (by omega), if_pos (by omega), wrap_succ i (by omega), ih (i + 1) K (by omega) (by omega)]
    simp
theorem back_l0 (l : List S24) (hl : l.length ≤ 500) (hok : l.all ok24 = true) : ∀ (m i K : Nat), i + m = l.length → (∀ x ∈ l.take i, r24 x = true) → m + 1000 ≤ K → hourglasslaw30_ScriptBack.l0 K l (i : Int) = some true := by
  intro m
  induction m with
  | zero =>
    intro i K hi hr hK
    obtain ⟨K, rfl⟩ : ∃ m, K = m + 2 := ⟨K - 2, by omega⟩
    rw [List.take_of_length_le (by omega)] at hr
    have hlen := sLines_len l hok
    have hrd : script_Read.f (bOf (sLinesL l)) = some (rGoL (l.map fun x => bOf (tOf x)) [] 0) := by
      rw [read_f _ (by rw [bOf_size]; omega), bOf_list, lns_texts]
    rw [hourglasslaw30_ScriptBack.l0, if_neg (by omega), lines_f l (by omega) hok]
    simp only [Option.bind_some]
    have hg := rGoL_texts l hr [] 0 (by simp)
    rw [List.length_nil, Nat.zero_add, List.nil_append] at hg
    by_cases h4 : l.length ≤ 400
    · rw [if_pos h4] at hg
      rw [hrd, hg]
      simp only [Option.bind_some]
      rw [if_neg (show ¬ (l.length : Int) > 400 by omega), if_pos trivial, if_pos trivial, hourglasslaw30_ScriptBack.j1, if_neg (by simp)]
      exact back_l1 l (by omega) l.length 0 K (by omega) (by omega)
    · rw [if_neg h4] at hg
      rw [hrd, hg]
      simp only [Option.bind_some]
      rw [if_pos (show (l.length : Int) > 400 by omega)]
      simp [awake_true]
  | succ m ih =>
    intro i K hi hr hK
    obtain ⟨K, rfl⟩ : ∃ m, K = m + 1 := ⟨K - 1, by omega⟩
    have hlt : i < l.length := by omega
    rw [hourglasslaw30_ScriptBack.l0, if_pos (by omega), if_pos (by omega), rd24_at hlt, wrap_succ i (by omega)]
    have hx := List.all_eq_true.1 hok l[i] (List.getElem_mem hlt)
    unfold ok24 at hx
    simp only [Bool.and_eq_true] at hx
    obtain ⟨⟨⟨xa, xb⟩, xc⟩, xd⟩ := hx
    have hrf : script_Right.f l[i].f0 l[i].f1 l[i].f2 l[i].f3 l[i].f4 = some (r24 l[i]) := rfl
    rw [hrf]
    simp only [Option.bind_some]
    by_cases hrx : r24 l[i] = true
    · rw [if_pos hrx]
      refine ih (i + 1) K (by omega) ?_ (by omega)
      intro x hx
      rw [List.take_add_one, List.getElem?_eq_getElem hlt] at hx
      rcases List.mem_append.1 hx with hx | hx
      · exact hr x hx
      · rw [Option.toList_some, List.mem_singleton] at hx
        rw [hx]
        exact hrx
    · rw [if_neg hrx]
      have ht : script_Text.f l[i].f0 l[i].f1 l[i].f2 l[i].f3 l[i].f4 = some (sText l[i].f0 l[i].f1 l[i].f2 l[i].f3 l[i].f4) := by
        unfold script_Text.f
        rw [if_pos (by rw [xa, xb, xc, xd]; rfl)]
      rw [ht]
      unfold hourglasslaw28_Theirs.f
      simp only [Option.bind_some]
      rw [ref_text_f K (by omega) _ _ _ _ _ xa xb xc xd]
      simp [awake_true]
/-- ScriptBack's plain law. -/
theorem back_law (l : List S24) (hok : l.all ok24 = true) : ∃ k, hourglasslaw30_ScriptBack.f k l = some true := by
  refine ⟨2000, ?_⟩
  unfold hourglasslaw30_ScriptBack.f
  by_cases h : (l.length : Int) > 500
  · rw [if_pos h, awake_true]
    rfl
  · rw [if_neg h]
    exact back_l0 l (by omega) hok l.length 0 2000 (by omega) (by intro x hx; simp at hx) (by omega)
end Go.Proofs.YthfjjdkaplibmaaDoor.Pr
