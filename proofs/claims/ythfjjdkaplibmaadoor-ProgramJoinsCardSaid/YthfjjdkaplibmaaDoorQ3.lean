import Derived.Test.YthfjjdkaplibmaaDoorPC
import Derived.Test.YthfjjdkaplibmaaDoorNum
import Derived.Test.YthfjjdkaplibmaaDoorPr18
namespace Go.Proofs.YthfjjdkaplibmaaDoor.Pr
open Go Go.RowKit Go.Proofs.YthfjjdkaplibmaaDoorW.PrintWords Go.Proofs.YthfjjdkaplibmaaDoorW.PrintLast Go.Proofs.YthfjjdkaplibmaaDoorW.PrintMore
set_option linter.unusedVariables false
set_option linter.unusedSimpArgs false

/-! ### The reference's text; the example; what is told is parsed -/
def pre2 (i : Nat) : List UInt8 := if 0 < i then [59, 32] else []
theorem verb_f (k : Int) (h0 : 1 ≤ k) (h1 : k ≤ 7) : hourglassref22_Verb.f k = some (vWords.getD k.toNat ⟨#[]⟩) := by
  unfold hourglassref22_Verb.f
  simp only [Option.bind_some]
  rw [if_pos (by omega), if_pos (by simp; omega)]
  rfl
theorem numbers_f (k : Int) (h0 : 1 ≤ k) (h1 : k ≤ 7) : hourglassref22_Numbers.f k = some (pCount k) := by
  unfold hourglassref22_Numbers.f pCount
  have hk : k = 1 ∨ k = 2 ∨ k = 3 ∨ k = 4 ∨ k = 5 ∨ k = 6 ∨ k = 7 := by omega
  rcases hk with rfl | rfl | rfl | rfl | rfl | rfl | rfl <;> rfl
theorem pcount_cases (k : Int) : pCount k = 0 ∨ pCount k = 1 ∨ pCount k = 2 := by
  unfold pCount
  repeat' split
  all_goals omega
theorem ref_text_step (l : List S51) (i K : Nat) (t : List UInt8) (hlt : i < l.length) (hl : l.length ≤ 100000) (ht : t.length ≤ 100000000) (hok : ok51 l[i] = true) :
    hourglassref22_Text.l0 (K + 4) l (yOf t) (i : Int) = if pBadKind l[i] then some ⟨#[]⟩ else hourglassref22_Text.l0 K l (yOf (t ++ (pre2 i ++ pTextStep l[i]))) ((i + 1 : Nat) : Int) := by
  obtain ⟨o, ho⟩ : ∃ o, l[i] = o := ⟨_, rfl⟩
  rw [ho] at hok ⊢
  have ho2 := hok
  unfold ok51 at ho2
  rw [Bool.and_eq_true] at ho2
  have e32 : (⟨#[32]⟩ : ByteArray) = yOf [32] := rfl
  have e59 : (⟨#[59, 32]⟩ : ByteArray) = yOf [59, 32] := rfl
  have hj1 : ∀ b : Bool, b = pBadKind o → hourglassref22_Text.j1 (K + 3) l (yOf t) (i : Int) b = if pBadKind o then some ⟨#[]⟩ else hourglassref22_Text.l0 K l (yOf (t ++ (pre2 i ++ pTextStep o))) ((i + 1 : Nat) : Int) := by
    intro b hb
    rw [hb, hourglassref22_Text.j1]
    cases hk : pBadKind o with
    | true => rw [if_pos rfl, if_pos rfl]
    | false =>
      have hk' := hk
      unfold pBadKind at hk'
      simp only [Bool.or_eq_false_iff, decide_eq_false_iff_not] at hk'
      have hw := vword_len o.f0.toNat (by omega)
      obtain ⟨wl, hwl⟩ : ∃ wl, (vWords.getD o.f0.toNat ⟨#[]⟩).data.toList = wl := ⟨_, rfl⟩
      have ew : vWords.getD o.f0.toNat ⟨#[]⟩ = yOf wl := yext (by rw [hwl]; rfl)
      have hwlen : wl.length ≤ 7 := by rw [ew, yOf_size] at hw; exact hw
      have i1 := itoa_le o.f1 ho2.1
      have i2 := itoa_le o.f2 ho2.2
      have hstep : pTextStep o = wl ++ (([o.f1, o.f2].take (pCount o.f0).toNat).map blankNum).flatten := by unfold pTextStep; rw [hwl]
      have hj3 : ∀ u : List UInt8, u.length ≤ 100000100 → hourglassref22_Text.j3 (K + 1) l (yOf u) (i : Int) = hourglassref22_Text.l0 K l (yOf (u ++ (if pCount o.f0 = 2 then blankNum o.f2 else []))) ((i + 1 : Nat) : Int) := by
        intro u hu
        rw [hourglassref22_Text.j3, if_pos (by omega), if_pos (by omega), rd51_at hlt, ho, numbers_f o.f0 (by omega) (by omega), wrap_next i (by omega)]
        simp only [Option.bind_some]
        by_cases h2 : pCount o.f0 = 2
        · rw [if_pos h2, if_pos h2, yOf_size, if_pos (by omega), digits_f o.f2 ho2.2]
          simp only [Option.bind_some]
          rw [e32, yOf_app, yOf_app, yOf_size, yOf_size, if_pos (by rw [List.length_append]; simp; omega), List.append_assoc]
          rfl
        · rw [if_neg h2, if_neg h2, List.append_nil]
      have hj2 : ∀ u : List UInt8, u.length ≤ 100000002 → hourglassref22_Text.j2 (K + 2) l (yOf u) (i : Int) = hourglassref22_Text.l0 K l (yOf (u ++ pTextStep o)) ((i + 1 : Nat) : Int) := by
        intro u hu
        rw [hourglassref22_Text.j2, if_pos (by omega), if_pos (by omega), rd51_at hlt, ho, verb_f o.f0 (by omega) (by omega), ew]
        simp only [Option.bind_some]
        rw [yOf_size, yOf_size, if_pos (by omega), numbers_f o.f0 (by omega) (by omega)]
        simp only [Option.bind_some]
        rw [yOf_app, e32, hstep]
        rcases pcount_cases o.f0 with h | h | h
        · rw [h, if_neg (by decide), hj3 _ (by rw [List.length_append]; omega), h, if_neg (by decide), List.append_nil]
          congr 2
          simp
        · rw [h, if_pos (by decide), yOf_size, if_pos (by rw [List.length_append]; omega), digits_f o.f1 ho2.1]
          simp only [Option.bind_some]
          rw [yOf_app, yOf_app, yOf_size, yOf_size, if_pos (by simp only [List.length_append]; simp; omega), hj3 _ (by simp only [List.length_append]; simp; omega), h, if_neg (by decide), List.append_nil]
          congr 2
          simp [blankNum]
        · rw [h, if_pos (by decide), yOf_size, if_pos (by rw [List.length_append]; omega), digits_f o.f1 ho2.1]
          simp only [Option.bind_some]
          rw [yOf_app, yOf_app, yOf_size, yOf_size, if_pos (by simp only [List.length_append]; simp; omega), hj3 _ (by simp only [List.length_append]; simp; omega), h, if_pos rfl]
          congr 2
          simp [blankNum]
      rw [if_neg (show ¬ (false = true) by simp), if_neg (show ¬ (false = true) by simp)]
      unfold pre2
      by_cases h0 : 0 < i
      · rw [if_pos (by omega), if_pos h0, yOf_size, if_pos (by omega), e59, yOf_app, hj2 _ (by rw [List.length_append]; simp; omega), List.append_assoc]
      · rw [if_neg (by omega), if_neg h0, hj2 _ (by omega)]
        rfl
  rw [show K + 4 = (K + 3) + 1 from rfl, hourglassref22_Text.l0, if_pos (by omega), if_pos (by omega), rd51_at hlt, ho]
  by_cases h1 : o.f0 < 1
  · rw [if_pos h1]
    exact hj1 true (by unfold pBadKind; rw [decide_eq_true h1]; rfl)
  · rw [if_neg h1]
    exact hj1 _ (by unfold pBadKind; rw [decide_eq_false h1, Bool.false_or])
theorem ref_text_l0 (l : List S51) (hl : l.length ≤ 100000) (hok : l.all ok51 = true) : ∀ (m i K : Nat) (t : List UInt8), i + m = l.length → 1 ≤ i → t.length ≤ 60 * i → 4 * m + 1 ≤ K →
    hourglassref22_Text.l0 K l (yOf t) (i : Int) = some (if (l.drop i).any pBadKind then ⟨#[]⟩ else yOf (t ++ ((l.drop i).map (fun o => [59, 32] ++ pTextStep o)).flatten)) := by
  intro m
  induction m with
  | zero =>
    intro i K t hi h1 ht hK
    obtain ⟨K, rfl⟩ : ∃ m, K = m + 1 := ⟨K - 1, by omega⟩
    rw [hourglassref22_Text.l0, if_neg (by omega), List.drop_eq_nil_iff.2 (by omega)]
    simp
  | succ m ih =>
    intro i K t hi h1 ht hK
    obtain ⟨K, rfl⟩ : ∃ m, K = m + 4 := ⟨K - 4, by omega⟩
    have hlt : i < l.length := by omega
    have hoo : ok51 l[i] = true := List.all_eq_true.1 hok _ (List.getElem_mem hlt)
    rw [ref_text_step l i K t hlt hl (by omega) hoo, drop51 hlt, List.any_cons]
    cases hk : pBadKind l[i] with
    | true => rfl
    | false =>
      have hp : pre2 i = [59, 32] := by unfold pre2; rw [if_pos (show 0 < i by omega)]
      have hlen := ptext_len l[i] hk hoo
      rw [if_neg (by simp), hp, ih (i + 1) K _ (by omega) (by omega) (by simp only [List.length_append]; simp; omega) (by omega), Bool.false_or, List.map_cons, List.flatten_cons, List.append_assoc]
theorem ref_text_f (l : List S51) (hl : l.length ≤ 100000) (hok : l.all ok51 = true) (K : Nat) (hK : 4 * l.length + 10 ≤ K) : hourglassref22_Text.f K l = some (pText l) := by
  unfold hourglassref22_Text.f
  cases l with
  | nil =>
    obtain ⟨K, rfl⟩ : ∃ m, K = m + 1 := ⟨K - 1, by omega⟩
    rw [hourglassref22_Text.l0, if_neg (by simp)]
    rfl
  | cons o r =>
    obtain ⟨K, rfl⟩ : ∃ m, K = m + 4 := ⟨K - 4, by omega⟩
    have hoo : ok51 o = true := List.all_eq_true.1 hok _ List.mem_cons_self
    have hs := ref_text_step (o :: r) 0 K [] (by simp) hl (by simp) hoo
    refine Eq.trans hs ?_
    unfold pText
    rw [List.any_cons]
    show (if pBadKind o then _ else _) = _
    cases hk : pBadKind o with
    | true => rfl
    | false =>
      have hlen := ptext_len o hk hoo
      rw [if_neg (by simp), Bool.false_or]
      have h2 := ref_text_l0 (o :: r) hl hok r.length 1 K ([] ++ (pre2 0 ++ pTextStep o)) (by rw [List.length_cons]; omega) (Nat.le_refl _) (by simp [pre2]; omega) (by rw [List.length_cons] at hK; omega)
      refine Eq.trans h2 ?_
      rw [List.map_cons, join_cons, List.map_map]
      rfl
theorem awake22_true (K : Nat) (hK : 100 ≤ K) : hourglasslaw22_awake.f K = some true := by
  unfold hourglasslaw22_awake.f
  obtain ⟨ops, hp, hlen, hok, hu, ht⟩ : ∃ ops : List S51, program_Parse.f (⟨#[119, 111, 114, 107, 32, 51, 59, 32, 115, 112, 97, 119, 110, 32, 49, 32, 50, 59, 32, 106, 111, 105, 110, 59, 32, 97, 110, 115, 119, 101, 114, 32, 53]⟩ : ByteArray) 2 3 = some (ops, 0) ∧ ops.length = 4 ∧ ops.all ok51 = true ∧ pUnits 0 ops = 6 ∧ (pText ops).toList = ([119, 111, 114, 107, 32, 51, 59, 32, 115, 112, 97, 119, 110, 32, 49, 32, 50, 59, 32, 106, 111, 105, 110, 59, 32, 97, 110, 115, 119, 101, 114, 32, 53] : List UInt8) := by
    refine ⟨[⟨1, 3, 0⟩, ⟨2, 1, 2⟩, ⟨3, 0, 0⟩, ⟨5, 5, 0⟩], ?_, rfl, rfl, ?_, ?_⟩
    · kernel_rfl
    · kernel_rfl
    · kernel_rfl
  rw [hp]
  simp only [Option.bind_some]
  rw [if_pos trivial, if_pos (by rw [hlen]; rfl), units_f ops (by omega) K (by omega)]
  simp only [Option.bind_some]
  rw [if_pos hu, text_f ops (by omega) hok K (by omega)]
  simp only [Option.bind_some]
  rw [ht]
  simp
end Go.Proofs.YthfjjdkaplibmaaDoor.Pr
