import Derived.Test.YthfjjdkaplibmaaDoorQ3
import Derived.Test.YthfjjdkaplibmaaDoorPr25
namespace Go.Proofs.YthfjjdkaplibmaaDoor.Pr
open Go Go.RowKit Go.Proofs.YthfjjdkaplibmaaDoor.Nm Go.Proofs.YthfjjdkaplibmaaDoorW.PrintWords Go.Proofs.YthfjjdkaplibmaaDoorW.PrintLast Go.Proofs.YthfjjdkaplibmaaDoorW.PrintMore
set_option linter.unusedVariables false
set_option linter.unusedSimpArgs false

/-! ### What is told is parsed -/
theorem vwords_ix : ∀ k, k < 8 → Lib.idxOfS vWords (vWords.getD k ⟨#[]⟩) = (k : Int) := by decide +kernel
theorem vwords_no_blank : ∀ k, k < 8 → (32 : UInt8) ∉ (vWords.getD k ⟨#[]⟩).data.toList := by decide +kernel
theorem vwords_no_semi : ∀ k, k < 8 → (59 : UInt8) ∉ (vWords.getD k ⟨#[]⟩).data.toList := by decide +kernel
theorem vwords_some : ∀ k, k < 8 → 1 ≤ k → (vWords.getD k ⟨#[]⟩).data.toList ≠ [] := by decide +kernel
theorem itoa_no_semi (n : Int) : (59 : UInt8) ∉ Lib.itoa n := by
  intro h
  unfold Lib.itoa at h
  split at h
  · rcases List.mem_cons.1 h with h | h
    · exact absurd h (by decide)
    · have h2 := (Nm.decDigits_digit _ _ h).2
      exact absurd h2 (by decide)
  · have h2 := (Nm.decDigits_digit _ _ h).2
    exact absurd h2 (by decide)
/-- What a step that may be is made of. -/
theorem op_parts {o : S51} {n p : Int} (h : pOp o.f0 o.f1 o.f2 n p = true) : (1 ≤ o.f0 ∧ o.f0 ≤ 7) ∧ (pCount o.f0 = 0 → o.f1 = 0 ∧ o.f2 = 0) ∧ (pCount o.f0 = 1 → o.f2 = 0) := by
  have hk : o.f0 = 1 ∨ o.f0 = 2 ∨ o.f0 = 3 ∨ o.f0 = 4 ∨ o.f0 = 5 ∨ o.f0 = 6 ∨ o.f0 = 7 := by
    unfold pOp at h
    by_cases h1 : o.f0 = 1; · omega
    by_cases h2 : o.f0 = 2; · omega
    by_cases h3 : o.f0 = 3; · omega
    by_cases h4 : o.f0 = 4; · omega
    by_cases h5 : o.f0 = 5; · omega
    by_cases h6 : o.f0 = 6; · omega
    by_cases h7 : o.f0 = 7; · omega
    rw [if_neg h1, if_neg h2, if_neg h3, if_neg h4, if_neg h5, if_neg h6, if_neg h7] at h
    cases h
  refine ⟨by omega, ?_, ?_⟩
  · intro hc
    unfold pOp at h
    unfold pCount at hc
    rcases hk with e | e | e | e | e | e | e <;> rw [e] at h hc <;> simp at h hc <;> omega
  · intro hc
    unfold pOp at h
    unfold pCount at hc
    rcases hk with e | e | e | e | e | e | e <;> rw [e] at h hc <;> simp at h hc <;> omega
theorem take_two {c : Int} {a b : Int} (h : c = 0 ∨ c = 1 ∨ c = 2) (h0 : c = 0 → a = 0 ∧ b = 0) (h1 : c = 1 → b = 0) : ([a, b].take c.toNat).getD 0 0 = a ∧ ([a, b].take c.toNat).getD 1 0 = b := by
  rcases h with rfl | rfl | rfl
  · obtain ⟨rfl, rfl⟩ := h0 rfl
    exact ⟨rfl, rfl⟩
  · rw [h1 rfl]
    exact ⟨rfl, rfl⟩
  · exact ⟨rfl, rfl⟩
theorem step_text {o : S51} {n p : Int} (h : pOp o.f0 o.f1 o.f2 n p = true) (hok : ok51 o = true) {s : ByteArray} (hs : s.data.toList = pTextStep o) : pStep s = o := by
  obtain ⟨⟨hk1, hk2⟩, hc0, hc1⟩ := op_parts h
  obtain ⟨k, hk⟩ : ∃ k : Nat, o.f0 = (k : Int) := ⟨o.f0.toNat, by omega⟩
  have ho2 := hok
  unfold ok51 at ho2
  rw [Bool.and_eq_true] at ho2
  obtain ⟨ns, hns⟩ : ∃ ns, [o.f1, o.f2].take (pCount o.f0).toNat = ns := ⟨_, rfl⟩
  have h64 : ∀ m ∈ ns, is64 m = true := by
    intro m hm
    rw [← hns] at hm
    have hm := List.mem_of_mem_take hm
    simp only [List.mem_cons, List.not_mem_nil, or_false] at hm
    rcases hm with rfl | rfl
    · exact ho2.1
    · exact ho2.2
  have hj : s.data.toList = Nm.joinBl ((vWords.getD k ⟨#[]⟩).data.toList) (ns.map Lib.itoa) := by
    rw [hs]
    unfold pTextStep Nm.joinBl
    rw [hns, hk, Int.toNat_natCast, List.map_map]
    rfl
  have hsp := Nm.splitAll_join s _ (ns.map Lib.itoa) (by
    intro q hq
    rcases List.mem_cons.1 hq with rfl | hq
    · exact vwords_no_blank k (by omega)
    · obtain ⟨m, _, rfl⟩ := List.mem_map.1 hq
      exact Nm.itoa_no_blank m) hj
  have hk0 : (splitAll s blankB).getD 0 ⟨#[]⟩ = vWords.getD k ⟨#[]⟩ := by
    cases hp : splitAll s blankB with
    | nil => rw [hp] at hsp; cases hsp
    | cons q qs =>
      rw [hp] at hsp
      rw [List.map_cons] at hsp
      injection hsp with e _
      exact yext e
  obtain ⟨g0, g1⟩ := take_two (pcount_cases o.f0) hc0 hc1
  rw [hns] at g0 g1
  unfold pStep
  rw [hk0, vwords_ix k (by omega), Nm.sNum_at hsp h64 0, Nm.sNum_at hsp h64 1, g0, g1]
  unfold top0
  rw [if_neg (by omega), ← hk]
theorem step_no_semi (o : S51) (h1 : 1 ≤ o.f0) (h2 : o.f0 ≤ 7) : (59 : UInt8) ∉ pTextStep o := by
  intro h
  unfold pTextStep at h
  rcases List.mem_append.1 h with h | h
  · exact vwords_no_semi o.f0.toNat (by omega) h
  · obtain ⟨x, hx, hm⟩ := List.mem_flatten.1 h
    obtain ⟨m, _, rfl⟩ := List.mem_map.1 hx
    rcases List.mem_cons.1 hm with hm | hm
    · exact absurd hm (by decide)
    · exact itoa_no_semi m hm
theorem step_some (o : S51) (h1 : 1 ≤ o.f0) (h2 : o.f0 ≤ 7) : pTextStep o ≠ [] := by
  intro h
  unfold pTextStep at h
  exact vwords_some o.f0.toNat (by omega) (by omega) (List.append_eq_nil_iff.1 h).1
theorem right_ops {l : List S51} {n p : Int} (h : pRight l n p = true) : ∀ o ∈ l, pOp o.f0 o.f1 o.f2 n p = true := by
  unfold pRight at h
  rw [Bool.and_eq_true] at h
  exact fun o ho => List.all_eq_true.1 h.2 o ho
theorem right_known {l : List S51} (h : ∀ o ∈ l, 1 ≤ o.f0 ∧ o.f0 ≤ 7) : l.any pBadKind = false := by
  rw [List.any_eq_false]
  intro o ho
  have := h o ho
  unfold pBadKind
  rw [decide_eq_false (by omega), decide_eq_false (by omega)]
  simp
theorem map_back {l : List S51} {ps : List ByteArray} (h : ps.map (·.data.toList) = l.map pTextStep) (hs : ∀ o ∈ l, ∀ s : ByteArray, s.data.toList = pTextStep o → pStep s = o) : ps.map pStep = l := by
  induction l generalizing ps with
  | nil => cases ps with
    | nil => rfl
    | cons _ _ => cases h
  | cons o r ih => cases ps with
    | nil => cases h
    | cons q qs =>
      rw [List.map_cons, List.map_cons] at h
      injection h with h1 h2
      rw [List.map_cons, hs o List.mem_cons_self q h1, ih h2 (fun x hx => hs x (List.mem_cons_of_mem _ hx))]
theorem steps_text {l : List S51} {n p : Int} (h : pRight l n p = true) (hok : l.all ok51 = true) : pSteps (pText l) = l := by
  have hops := right_ops h
  have hk := fun o ho => (op_parts (hops o ho)).1
  have hb := right_known hk
  cases l with
  | nil => rfl
  | cons o r =>
    have ht : (pText (o :: r)).data.toList = Nm.join2 59 32 (pTextStep o) (r.map pTextStep) := by
      unfold pText Nm.join2
      rw [hb, if_neg (by simp), List.map_cons, join_cons]
    have hne : (pText (o :: r)).size ≠ 0 := by
      intro h0
      have e : (pText (o :: r)).data.toList.length = (pText (o :: r)).size := Array.length_toList
      rw [ht, h0] at e
      unfold Nm.join2 at e
      have := List.length_eq_zero_iff.1 e
      exact step_some o (hk o List.mem_cons_self).1 (hk o List.mem_cons_self).2 (List.append_eq_nil_iff.1 this).1
    unfold pSteps
    rw [if_neg hne]
    have hsp := Nm.splitAll2_join (pText (o :: r)) semiB 59 32 rfl (pTextStep o) (r.map pTextStep) (by
      intro q hq
      rcases List.mem_cons.1 hq with rfl | hq
      · exact step_no_semi o (hk o List.mem_cons_self).1 (hk o List.mem_cons_self).2
      · obtain ⟨x, hx, rfl⟩ := List.mem_map.1 hq
        exact step_no_semi x (hk x (List.mem_cons_of_mem _ hx)).1 (hk x (List.mem_cons_of_mem _ hx)).2) ht
    refine map_back (l := o :: r) (by rw [hsp, List.map_cons]) ?_
    intro x hx s hs
    exact step_text (hops x hx) (List.all_eq_true.1 hok x hx) hs
theorem parse_text {l : List S51} {n p : Int} (h : pRight l n p = true) (hok : l.all ok51 = true) : pParse (pText l) n p = (l, 0) := by
  unfold pParse
  rw [steps_text h hok, h]
  simp
theorem text_small (l : List S51) (hl : l.length ≤ 1000) (hok : l.all ok51 = true) : (pText l).size ≤ 60 * l.length := by
  unfold pText
  split
  · exact Nat.zero_le _
  · rename_i hb
    have hb' : l.any pBadKind = false := by simpa using hb
    have := join_le 51 [59, 32] (l.map pTextStep) (by
      intro x hx
      obtain ⟨o, ho, rfl⟩ := List.mem_map.1 hx
      have hk : pBadKind o = false := by
        rw [List.any_eq_false] at hb'
        exact (Bool.not_eq_true _).mp (hb' o ho)
      exact ptext_len o hk (List.all_eq_true.1 hok o ho))
    rw [List.length_map] at this
    have e := yOf_size (Lib.join (l.map pTextStep) [59, 32])
    show (yOf _).size ≤ _
    rw [e]
    simp at this
    omega
/-- ProgramBack's plain law. -/
theorem pback_law (l : List S51) (n p : Int) (hl : l.length ≤ 9223372036854775807) (hok : l.all ok51 = true) : ∃ k, hourglasslaw22_ProgramBack.f k l n p = some true := by
  refine ⟨l.length + 2000, ?_⟩
  unfold hourglasslaw22_ProgramBack.f
  rw [ref_right_f l n p hl _ (by omega)]
  simp only [Option.bind_some]
  by_cases h : pRight l n p = true
  · have h16 := right_len h
    have hz := text_small l (by omega) hok
    rw [if_pos h, text_f l (by omega) hok _ (by omega)]
    simp only [Option.bind_some]
    have hp : program_Parse.f (pText l) n p = some (l, 0) := by unfold program_Parse.f; rw [if_pos (by omega), parse_text h hok]
    rw [hp]
    simp only [Option.bind_some]
    rw [if_pos trivial, ref_same_f l (by omega) _ (by omega)]
    simp only [Option.bind_some]
    rw [if_pos trivial, awake22_true _ (by omega)]
    rfl
  · rw [if_neg h, awake22_true _ (by omega)]
    rfl
/-! ### Joins -/
theorem known_l0 (l : List S51) (hl : l.length ≤ 100000) : ∀ (m i K : Nat), i + m = l.length → m + 1 ≤ K → hourglasslaw22_known.l0 K l (i : Int) = some (!(l.drop i).any pBadKind) := by
  intro m
  induction m with
  | zero =>
    intro i K hi hK
    obtain ⟨K, rfl⟩ : ∃ m, K = m + 1 := ⟨K - 1, by omega⟩
    rw [hourglasslaw22_known.l0, if_neg (by omega), List.drop_eq_nil_iff.2 (by omega)]
    rfl
  | succ m ih =>
    intro i K hi hK
    obtain ⟨K, rfl⟩ : ∃ m, K = m + 1 := ⟨K - 1, by omega⟩
    have hlt : i < l.length := by omega
    rw [hourglasslaw22_known.l0, if_pos (by omega), if_pos (by omega), rd51_at hlt, wrap_next i (by omega), drop51 hlt, List.any_cons]
    unfold pBadKind
    by_cases h1 : l[i].f0 < 1
    · rw [if_pos h1, decide_eq_true h1]
      rfl
    · rw [if_neg h1, decide_eq_false h1, Bool.false_or]
      by_cases h7 : l[i].f0 > 7
      · rw [if_pos h7, decide_eq_true h7]
        rfl
      · rw [if_neg h7, decide_eq_false h7, Bool.false_or, ih (i + 1) K (by omega) (by omega)]
        rfl
theorem known_f (l : List S51) (hl : l.length ≤ 100000) (K : Nat) (hK : l.length + 1 ≤ K) : hourglasslaw22_known.f K l = some (!l.any pBadKind) := by
  unfold hourglasslaw22_known.f
  exact known_l0 l hl l.length 0 K (by omega) hK
theorem join_app (x : List UInt8) (A : List (List UInt8)) (y : List UInt8) (B : List (List UInt8)) (sep : List UInt8) : Lib.join ((x :: A) ++ (y :: B)) sep = Lib.join (x :: A) sep ++ sep ++ Lib.join (y :: B) sep := by
  rw [List.cons_append, join_cons, join_cons, join_cons, List.map_append, List.flatten_append, List.map_cons, List.flatten_cons]
  simp
theorem pSum_app (a b : List S51) : pSum (a ++ b) = pSum a + pSum b := by
  induction a with
  | nil => rw [List.nil_append, pSum]; omega
  | cons o r ih => rw [List.cons_append, pSum, pSum, ih]; omega
theorem pText_nil : pText [] = ⟨#[]⟩ := rfl
theorem pText_app {a b : List S51} (hk : (a ++ b).any pBadKind = false) (ha : a ≠ []) (hb : b ≠ []) : pText (a ++ b) = pText a ++ yOf [59, 32] ++ pText b := by
  have hk2 := hk
  rw [List.any_append, Bool.or_eq_false_iff] at hk2
  cases a with
  | nil => exact absurd rfl ha
  | cons x A => cases b with
    | nil => exact absurd rfl hb
    | cons y B =>
      unfold pText
      rw [hk, hk2.1, hk2.2, if_neg (by simp), if_neg (by simp), if_neg (by simp)]
      show yOf _ = yOf _ ++ yOf _ ++ yOf _
      rw [yOf_app, yOf_app, List.map_append, List.map_cons, List.map_cons, join_app]
theorem right_app (a b : List S51) (n p : Int) : (pRight a n p && (pRight b n p && decide ((a ++ b).length ≤ 16))) = pRight (a ++ b) n p := by
  unfold pRight
  rw [List.all_append]
  by_cases h : (a ++ b).length ≤ 16
  · have h' := h
    rw [List.length_append] at h'
    rw [decide_eq_true h, decide_eq_true (show a.length ≤ 16 by omega), decide_eq_true (show b.length ≤ 16 by omega)]
    simp
  · rw [decide_eq_false h]
    simp
theorem joins_j3 (a b : List S51) (n p : Int) (ha : a.length ≤ 20) (hb : b.length ≤ 20) (hoa : a.all ok51 = true) (hob : b.all ok51 = true) (K : Nat) (hK : 1000 ≤ K) (want : ByteArray) (hw : want = pText (a ++ b)) (may : Bool) (hm : may = pRight (a ++ b) n p) :
    hourglasslaw22_ProgramJoins.j3 (K + 1) a b n p (a ++ b) want may = some true := by
  have hl : (a ++ b).length ≤ 40 := by rw [List.length_append]; omega
  have hok : (a ++ b).all ok51 = true := by rw [List.all_append, hoa, hob]; rfl
  have s1 := pSum_range a
  have s2 := pSum_range b
  have u0 : pUnits 0 (a ++ b) = wrap64 (pUnits 0 a + pUnits 0 b) := by
    have e : wrap64 (pSum a + pSum b) = pSum a + pSum b := by unfold wrap64; omega
    rw [pUnits_sum _ 0 (by omega) (by omega), pUnits_sum a 0 (by omega) (by omega), pUnits_sum b 0 (by omega) (by omega), Int.zero_add, Int.zero_add, Int.zero_add, e, pSum_app]
  have hr : program_Right.f (a ++ b) n p = some (pRight (a ++ b) n p) := rfl
  rw [hourglasslaw22_ProgramJoins.j3, units_f _ (by omega) K (by omega), units_f a (by omega) K (by omega), units_f b (by omega) K (by omega)]
  simp only [Option.bind_some]
  rw [if_pos u0, text_f _ (by omega) hok K (by omega)]
  simp only [Option.bind_some]
  rw [if_pos (by rw [hw]), hr]
  simp only [Option.bind_some]
  rw [if_pos (by rw [hm]; simp), awake22_true K (by omega)]
  rfl
theorem joins_j2 (a b : List S51) (n p : Int) (ha : a.length ≤ 20) (hb : b.length ≤ 20) (hoa : a.all ok51 = true) (hob : b.all ok51 = true) (K : Nat) (hK : 1000 ≤ K) (want : ByteArray) (hw : want = pText (a ++ b)) :
    hourglasslaw22_ProgramJoins.j2 (K + 2) a b n p (a ++ b) want = some true := by
  have hra : program_Right.f a n p = some (pRight a n p) := rfl
  have hrb : program_Right.f b n p = some (pRight b n p) := rfl
  have happ := right_app a b n p
  rw [hourglasslaw22_ProgramJoins.j2, hra]
  simp only [Option.bind_some]
  by_cases h1 : pRight a n p = true
  · rw [if_pos h1, hrb]
    simp only [Option.bind_some]
    rw [h1, Bool.true_and] at happ
    by_cases h2 : pRight b n p = true
    · rw [h2, Bool.true_and] at happ
      rw [if_pos h2]
      exact joins_j3 a b n p ha hb hoa hob K hK want hw _ (by rw [← happ]; exact decide_eq_decide.2 (by omega))
    · rw [(Bool.not_eq_true _).mp h2, Bool.false_and] at happ
      rw [if_neg h2]
      exact joins_j3 a b n p ha hb hoa hob K hK want hw _ happ
  · rw [(Bool.not_eq_true _).mp h1, Bool.false_and] at happ
    rw [if_neg h1]
    exact joins_j3 a b n p ha hb hoa hob K hK want hw _ happ
/-- ProgramJoins' plain law. -/
theorem joins_law (a b : List S51) (n p : Int) (hoa : a.all ok51 = true) (hob : b.all ok51 = true) : ∃ k, hourglasslaw22_ProgramJoins.f k a b n p = some true := by
  refine ⟨2004, ?_⟩
  have hj0 : hourglasslaw22_ProgramJoins.j0 2004 a b n p true = some true := by
    rw [hourglasslaw22_ProgramJoins.j0, if_pos rfl, awake22_true _ (by decide)]
    rfl
  unfold hourglasslaw22_ProgramJoins.f
  by_cases h1 : (a.length : Int) > 20
  · rw [if_pos h1, hj0]
  · rw [if_neg h1]
    by_cases h2 : (b.length : Int) > 20
    · rw [decide_eq_true h2, hj0]
    · have ha : a.length ≤ 20 := by omega
      have hb : b.length ≤ 20 := by omega
      have hl : (a ++ b).length ≤ 40 := by rw [List.length_append]; omega
      have za := text_small a (by omega) hoa
      have zb := text_small b (by omega) hob
      rw [decide_eq_false h2, hourglasslaw22_ProgramJoins.j0, if_neg (by simp), if_pos (by simp; omega), List.nil_append]
      simp only [Option.bind_some]
      rw [if_pos (by omega)]
      rw [known_f (a ++ b) (by omega) _ (by omega)]
      simp only [Option.bind_some]
      cases hk : (a ++ b).any pBadKind with
      | true =>
        rw [if_neg (by simp)]
        exact joins_j2 a b n p ha hb hoa hob 2001 (by decide) _ (by unfold pText; rw [hk, if_pos rfl])
      | false =>
        have hk2 := hk
        rw [List.any_append, Bool.or_eq_false_iff] at hk2
        have e59 : (⟨#[59, 32]⟩ : ByteArray) = yOf [59, 32] := rfl
        have ea : pText a = yOf (pText a).data.toList := yext rfl
        have la : (pText a).data.toList.length = (pText a).size := Array.length_toList
        have hsz : (pText a ++ (⟨#[59, 32]⟩ : ByteArray)).size = (pText a).size + 2 := by
          rw [e59]
          conv => lhs; rw [ea, yOf_app, yOf_size, List.length_append]
          rw [la]
          rfl
        have hj1 : ∀ bb : Bool, bb = (decide (a = []) || decide (b = [])) → hourglasslaw22_ProgramJoins.j1 2003 a b n p (a ++ b) (pText a ++ (⟨#[59, 32]⟩ : ByteArray) ++ pText b) bb = some true := by
          intro bb hbb
          rw [hourglasslaw22_ProgramJoins.j1]
          by_cases he : a = [] ∨ b = []
          · have hbt : bb = true := by
              rw [hbb]
              rcases he with e | e
              · rw [decide_eq_true e]; rfl
              · rw [decide_eq_true e, Bool.or_true]
            rw [if_pos hbt, text_f a (by omega) hoa _ (by omega), text_f b (by omega) hob _ (by omega)]
            simp only [Option.bind_some]
            rw [if_pos (by omega)]
            refine joins_j2 a b n p ha hb hoa hob 2000 (by decide) _ ?_
            rcases he with rfl | rfl
            · rw [pText_nil, List.nil_append]
              exact yext (by simp)
            · rw [pText_nil, List.append_nil]
              exact yext (by simp)
          · have hbf : bb = false := by
              rw [hbb, decide_eq_false (fun e => he (Or.inl e)), decide_eq_false (fun e => he (Or.inr e))]
              rfl
            rw [if_neg (by rw [hbf]; simp)]
            exact joins_j2 a b n p ha hb hoa hob 2000 (by decide) _ (pText_app hk (fun e => he (Or.inl e)) (fun e => he (Or.inr e))).symm
        rw [if_pos (by simp), text_f a (by omega) hoa _ (by omega)]
        simp only [Option.bind_some]
        rw [if_pos (by omega), text_f b (by omega) hob _ (by omega)]
        simp only [Option.bind_some]
        rw [hsz, if_pos (by omega)]
        by_cases h0 : (a.length : Int) = 0
        · have he : a = [] := List.length_eq_zero_iff.1 (by omega)
          rw [if_pos h0]
          exact hj1 true (by rw [decide_eq_true he]; rfl)
        · have he : a ≠ [] := fun e => h0 (by rw [e]; rfl)
          rw [if_neg h0]
          refine hj1 _ ?_
          rw [decide_eq_false he, Bool.false_or]
          cases b with
          | nil => rfl
          | cons y B => simp; omega
end Go.Proofs.YthfjjdkaplibmaaDoor.Pr
