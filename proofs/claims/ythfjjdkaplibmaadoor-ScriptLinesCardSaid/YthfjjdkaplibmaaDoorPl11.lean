import Derived.Test.YthfjjdkaplibmaaDoorPl9
import Derived.Test.YthfjjdkaplibmaaDoorPr15
namespace Go.Proofs.YthfjjdkaplibmaaDoor.Pr
open Go Go.RowKit Go.Proofs.YthfjjdkaplibmaaDoorW.PrintWords Go.Proofs.YthfjjdkaplibmaaDoorW.PrintLast Go.Proofs.YthfjjdkaplibmaaDoorW.PrintMore
set_option linter.unusedVariables false
set_option linter.unusedSimpArgs false

/-! ### ScriptLines -/
def badLn (x : ByteArray) : Bool := !idle x && !((sParse x).2.2.2.2.2 == 0)
def badAt : List ByteArray → Nat → Nat
  | [], _ => 0
  | x :: r, n => if badLn x = true then n + 1 else badAt r (n + 1)
def told (x : ByteArray) : Bool := !idle x
def stepsL (l : List ByteArray) : List S24 := (l.filter told).map stepOf
def feedL (l : List ByteArray) : List UInt8 := (l.map fun x => x.data.toList ++ [10]).flatten
def cleanLn (x : ByteArray) : Bool := decide (x.size ≤ 60) && !(x.data.toList.contains 10)
theorem clean_size {x : ByteArray} (h : cleanLn x = true) : x.size ≤ 60 ∧ (10 : UInt8) ∉ x.data.toList := by
  unfold cleanLn at h
  rw [Bool.and_eq_true] at h
  refine ⟨of_decide_eq_true h.1, ?_⟩
  intro hm
  have := h.2
  rw [List.contains_iff_mem.2 hm] at this
  cases this
theorem badAt_snoc (x : ByteArray) : ∀ (l : List ByteArray) (n : Nat), badAt (l ++ [x]) n = if badAt l n = 0 then (if badLn x = true then n + l.length + 1 else 0) else badAt l n := by
  intro l
  induction l with
  | nil => intro n; simp [badAt]
  | cons y l ih =>
    intro n
    rw [List.cons_append, badAt, badAt, ih]
    by_cases h : badLn y = true
    · rw [if_pos h, if_pos h, if_neg (by omega)]
    · rw [if_neg h, if_neg h, List.length_cons, show n + 1 + l.length + 1 = n + (l.length + 1) + 1 by omega]
theorem feed_snoc (l : List ByteArray) (x : ByteArray) : feedL (l ++ [x]) = feedL l ++ x.data.toList ++ [10] := by unfold feedL; simp
theorem feed_len (l : List ByteArray) (h : ∀ x ∈ l, cleanLn x = true) : (feedL l).length ≤ 61 * l.length := by
  induction l with
  | nil => simp [feedL]
  | cons x l ih =>
    have h1 := ih (fun y hy => h y (List.mem_cons_of_mem _ hy))
    have h2 := (clean_size (h x List.mem_cons_self)).1
    have e : x.data.toList.length = x.size := Array.length_toList
    unfold feedL at h1 ⊢
    rw [List.map_cons, List.flatten_cons, List.length_append, List.length_append, List.length_cons, List.length_cons, List.length_nil]
    omega
theorem lns_feed (l : List ByteArray) (h : ∀ x ∈ l, cleanLn x = true) : lns (feedL l) = l := by
  induction l with
  | nil => rfl
  | cons x l ih =>
    have h2 := (clean_size (h x List.mem_cons_self)).2
    have e : feedL (x :: l) = x.data.toList ++ 10 :: feedL l := by
      unfold feedL
      rw [List.map_cons, List.flatten_cons, List.append_assoc]
      rfl
    rw [e, lns_cons _ _ h2, ih (fun y hy => h y (List.mem_cons_of_mem _ hy)), bOf_data]
theorem rGoL_lines : ∀ (l : List ByteArray) (out : List S24) (n : Nat), out.length + l.length ≤ 400 →
    rGoL l out (n : Int) = if badAt l n = 0 then (out ++ stepsL l, 0, 0) else ([], (badAt l n : Int), 10) := by
  intro l
  induction l with
  | nil => intro out n h; rw [rGoL, badAt, if_pos rfl]; simp [stepsL]
  | cons x l ih =>
    intro out n h
    rw [List.length_cons] at h
    have w : ((n : Int) + 1) = ((n + 1 : Nat) : Int) := by omega
    rw [rGoL, badAt, w]
    by_cases hi : idle x = true
    · have hb : ¬ badLn x = true := by unfold badLn; rw [hi]; simp
      rw [if_pos hi, if_neg hb, ih out (n + 1) (by omega)]
      have : stepsL (x :: l) = stepsL l := by unfold stepsL told; simp [hi]
      rw [this]
    · rw [if_neg hi, if_neg (by omega)]
      have hif : idle x = false := by simpa using hi
      by_cases hp : (sParse x).2.2.2.2.2 = 0
      · have hb : ¬ badLn x = true := by unfold badLn; rw [hp]; simp
        rw [if_pos hp, if_neg hb, ih _ (n + 1) (by simp; omega)]
        have : stepsL (x :: l) = stepOf x :: stepsL l := by unfold stepsL told; simp [hif]
        rw [this, List.append_assoc]
        rfl
      · have hb : badLn x = true := by unfold badLn; rw [hif]; simp [hp]
        rw [if_neg hp, if_pos hb, if_neg (by omega)]
        rcases parse_same x with ⟨y, a, b, c, d, e1, e2, e3, e4⟩ | ⟨e1, e2⟩
        · rw [e2] at hp; exact absurd rfl hp
        · rw [e2]
theorem steps_told : ∀ (l : List ByteArray) (n : Nat), badAt l n = 0 → (stepsL l).all ok24 = true ∧ sLinesL (stepsL l) = feedL (l.filter told) := by
  intro l
  induction l with
  | nil => intro n h; exact ⟨rfl, rfl⟩
  | cons x l ih =>
    intro n h
    rw [badAt] at h
    by_cases hb : badLn x = true
    · rw [if_pos hb] at h; omega
    · rw [if_neg hb] at h
      obtain ⟨i1, i2⟩ := ih (n + 1) h
      by_cases hi : idle x = true
      · have t1 : stepsL (x :: l) = stepsL l := by unfold stepsL told; simp [hi]
        have t2 : (x :: l).filter told = l.filter told := by unfold told; simp [hi]
        rw [t1, t2]
        exact ⟨i1, i2⟩
      · have hif : idle x = false := by simpa using hi
        have t1 : stepsL (x :: l) = stepOf x :: stepsL l := by unfold stepsL told; simp [hif]
        have t2 : (x :: l).filter told = x :: l.filter told := by unfold told; simp [hif]
        rcases parse_same x with ⟨y, a, b, c, d, e1, e2, e3, e4⟩ | ⟨e1, e2⟩
        · have hs : stepOf x = ⟨y, a, b, c, d⟩ := by unfold stepOf; rw [e2]
          rw [t1, t2, hs]
          refine ⟨?_, ?_⟩
          · rw [List.all_cons, i1, Bool.and_true]
            exact right_64 e3
          · unfold sLinesL feedL at *
            rw [List.map_cons, List.flatten_cons, List.map_cons, List.flatten_cons, i2, e4]
        · exfalso
          apply hb
          unfold badLn
          rw [hif, e2]
          rfl
theorem linesGo_nil : ∀ (l cur : List UInt8), linesGo cur l = [] → l = [] := by
  intro l
  induction l with
  | nil => intro cur h; rfl
  | cons c r ih =>
    intro cur h
    rw [linesGo] at h
    split at h
    · cases h
    · have := ih _ h
      subst this
      rw [linesGo] at h
      simp at h
/-- A line of which the law goes on is clean. -/
theorem line_clean (x : ByteArray) (hs : x.size ≤ 60) (hl : (lns x.data.toList).length ≤ 1) (hlast : x.size = 0 ∨ bt x ((x.size - 1 : Nat) : Int) ≠ 10) : cleanLn x = true := by
  have e : x.data.toList.length = x.size := Array.length_toList
  unfold cleanLn
  rw [decide_eq_true hs, Bool.true_and]
  rw [Bool.not_eq_true', ← Bool.not_eq_true]
  intro hc
  have hm : (10 : UInt8) ∈ x.data.toList := List.contains_iff_mem.1 hc
  obtain ⟨p, r, hpr, hp⟩ := List.eq_append_cons_of_mem hm
  rw [hpr, lns_cons p r hp, List.length_cons] at hl
  have h0 : (lns r).length = 0 := by omega
  have h1 : linesGo [] r = [] := by unfold lns at h0; rw [List.length_map] at h0; exact List.length_eq_zero_iff.1 h0
  have h2 := linesGo_nil r [] h1
  subst h2
  have hlen := congrArg List.length hpr
  rw [List.length_append, List.length_cons, List.length_nil] at hlen
  have hd : x.data.toList.drop (x.size - 1) = [10] := by
    rw [show x.size - 1 = p.length by omega, hpr, List.drop_left]
  obtain ⟨_, hb⟩ := bt_drop hd
  rcases hlast with h | h
  · omega
  · exact h hb
theorem lines_l0 (ls : List ByteArray) (hl : ls.length ≤ 100) : ∀ (m i K : Nat), i + m = ls.length → (∀ x ∈ ls.take i, cleanLn x = true) → 4 * m + 400 ≤ K →
    hourglasslaw30_ScriptLines.l0 K ls (bOf (feedL (ls.take i))) (bOf (feedL ((ls.take i).filter told))) ((badAt (ls.take i) 0 : Nat) : Int) (i : Int) = some true := by
  intro m
  induction m with
  | zero =>
    intro i K hi hc hK
    obtain ⟨K, rfl⟩ : ∃ m, K = m + 1 := ⟨K - 1, by omega⟩
    rw [List.take_of_length_le (by omega)] at hc ⊢
    have hlen := feed_len ls hc
    rw [hourglasslaw30_ScriptLines.l0, if_neg (by omega), read_f _ (by rw [bOf_size]; omega), bOf_list, lns_feed ls hc]
    have hr := rGoL_lines ls [] 0 (by simpa using (by omega : ls.length ≤ 400))
    have hr' : rGoL ls [] 0 = _ := hr
    rw [hr']
    simp only [Option.bind_some]
    by_cases hb : badAt ls 0 = 0
    · obtain ⟨s1, s2⟩ := steps_told ls 0 hb
      have hsl : (stepsL ls).length ≤ ls.length := by unfold stepsL; rw [List.length_map]; exact List.length_filter_le _ _
      rw [if_pos hb, hb, if_neg (by omega)]
      dsimp only
      rw [if_pos rfl, if_pos rfl, List.nil_append, lines_f _ (by omega) s1, s2]
      simp [awake_true]
    · rw [if_neg hb, if_pos (by omega)]
      simp [awake_true]
  | succ m ih =>
    intro i K hi hc hK
    obtain ⟨K, rfl⟩ : ∃ m, K = m + 3 := ⟨K - 3, by omega⟩
    cases hd : ls.drop i with
    | nil => have := List.drop_eq_nil_iff.1 hd; omega
    | cons x r =>
      obtain ⟨hlt, hx, hr⟩ := rdOf_at hd
      have htk : ls.take (i + 1) = ls.take i ++ [x] := by
        rw [List.take_add_one]
        have : ls[i]? = some x := by
          have h2 := congrArg (fun z => z[0]?) hd
          simpa using h2
        rw [this]
        rfl
      have hflen := feed_len _ hc
      have hfl2 : (feedL ((ls.take i).filter told)).length ≤ 61 * (ls.take i).length := by
        refine Nat.le_trans (feed_len _ (fun y hy => hc y ((List.mem_filter.1 hy).1))) ?_
        exact Nat.mul_le_mul_left _ (List.length_filter_le _ _)
      have htl : (ls.take i).length = i := by rw [List.length_take]; omega
      rw [htl] at hflen hfl2
      have hj1 : ∀ all want wr, hourglasslaw30_ScriptLines.j1 (K + 2) ls all want wr (i : Int) true = some true := by
        intro all want wr
        rw [hourglasslaw30_ScriptLines.j1, if_pos rfl, awake_true]
        rfl
      have hgo : cleanLn x = true → hourglasslaw30_ScriptLines.j1 (K + 2) ls (bOf (feedL (ls.take i))) (bOf (feedL ((ls.take i).filter told))) ((badAt (ls.take i) 0 : Nat) : Int) (i : Int) false = some true := by
        intro hcl
        have hnext := ih (i + 1) K (by omega) (by
          intro y hy
          rw [htk] at hy
          rcases List.mem_append.1 hy with hy | hy
          · exact hc y hy
          · rw [List.mem_singleton] at hy; rw [hy]; exact hcl) (by omega)
        rw [htk, feed_snoc, List.filter_append, badAt_snoc, htl, Nat.zero_add] at hnext
        obtain ⟨c1, c2⟩ := clean_size hcl
        have e10 : (⟨#[10]⟩ : ByteArray) = bOf [10] := rfl
        have ex : x = bOf x.data.toList := (bOf_data x).symm
        have hxl : x.data.toList.length = x.size := Array.length_toList
        have hj2 : ∀ b : Bool, b = idle x → hourglasslaw30_ScriptLines.j2 (K + 1) ls (bOf (feedL (ls.take i) ++ x.data.toList ++ [10])) (bOf (feedL ((ls.take i).filter told))) ((badAt (ls.take i) 0 : Nat) : Int) (i : Int) b = some true := by
          intro b hb
          subst hb
          rw [hourglasslaw30_ScriptLines.j2, wrap_succ i (by omega), hx]
          by_cases hid : idle x = true
          · have t2 : [x].filter told = [] := by unfold told; simp [hid]
            have t3 : ¬ badLn x = true := by unfold badLn; rw [hid]; simp
            rw [t2, List.append_nil, if_neg t3] at hnext
            rw [if_pos hid]
            refine Eq.trans ?_ hnext
            congr 1
            split
            · rename_i h; rw [h]
            · rfl
          · have hif : idle x = false := by simpa using hid
            have t2 : [x].filter told = [x] := by unfold told; simp [hif]
            rw [t2, feed_snoc] at hnext
            have ecat : bOf (feedL ((ls.take i).filter told)) ++ x ++ (⟨#[10]⟩ : ByteArray) = bOf (feedL ((ls.take i).filter told) ++ x.data.toList ++ [10]) := by
              rw [e10, ← bOf_append, ← bOf_append, bOf_data]
            have esz : (bOf (feedL ((ls.take i).filter told)) ++ x).size = (feedL ((ls.take i).filter told)).length + x.size := by
              conv => lhs; rw [ex, bOf_append, bOf_size, List.length_append]
              rw [hxl]
            rw [if_neg hid, if_pos (by omega), if_pos (by omega), bOf_size, if_pos (by omega), esz, if_pos (by omega), ecat, rParse_f x (by omega) K (by omega)]
            simp only [Option.bind_some]
            rcases parse_same x with ⟨y, a, b, c, d, e1, e2, e3, e4⟩ | ⟨e1, e2⟩
            · have t3 : ¬ badLn x = true := by unfold badLn; rw [e2]; simp
              rw [if_neg t3] at hnext
              rw [e1, if_pos rfl]
              refine Eq.trans ?_ hnext
              congr 1
              split
              · rename_i h; rw [h]
              · rfl
            · have t3 : badLn x = true := by unfold badLn; rw [hif, e2]; rfl
              rw [if_pos t3] at hnext
              rw [e1, if_neg (by simp)]
              by_cases hz : badAt (ls.take i) 0 = 0
              · rw [if_pos hz] at hnext
                rw [if_pos (by omega)]
                exact hnext
              · rw [if_neg hz] at hnext
                rw [if_neg (by omega)]
                exact hnext
        have ecat : bOf (feedL (ls.take i)) ++ x ++ (⟨#[10]⟩ : ByteArray) = bOf (feedL (ls.take i) ++ x.data.toList ++ [10]) := by
          rw [e10, ← bOf_append, ← bOf_append, bOf_data]
        have esz : (bOf (feedL (ls.take i)) ++ x).size = (feedL (ls.take i)).length + x.size := by
          conv => lhs; rw [ex, bOf_append, bOf_size, List.length_append]
          rw [hxl]
        rw [hourglasslaw30_ScriptLines.j1, if_neg (by simp), if_pos (by omega), if_pos (by omega), hx, bOf_size, if_pos (by omega), esz, if_pos (by omega), ecat]
        by_cases h0 : x.size = 0
        · rw [if_pos ((bytes_nil x).2 h0)]
          exact hj2 true (by unfold idle; rw [decide_eq_true h0]; rfl)
        · rw [if_neg (fun h => h0 ((bytes_nil x).1 h)), if_pos (by omega)]
          exact hj2 _ (idle_eq x h0)
      rw [hourglasslaw30_ScriptLines.l0, if_pos (by omega), if_pos (by omega), hx]
      by_cases h60 : (x.size : Int) > 60
      · rw [if_pos h60, hj1]
      · rw [if_neg h60, ref_lines_f x (by omega) (K + 2) (by omega)]
        simp only [Option.bind_some]
        by_cases h1 : ((lns x.data.toList).length : Int) > 1
        · rw [if_pos h1, hj1]
        · rw [if_neg h1]
          by_cases h0 : (x.size : Int) > 0
          · rw [if_pos h0, wrap_pred x.size (by omega) (by omega), if_pos (by omega), if_pos (by omega)]
            by_cases h10 : bt x ((x.size - 1 : Nat) : Int) = 10
            · rw [h10]
              exact hj1 _ _ _
            · have : (bt x ((x.size - 1 : Nat) : Int) == 10) = false := beq_eq_false_iff_ne.2 h10
              rw [this]
              exact hgo (line_clean x (by omega) (by omega) (Or.inr h10))
          · rw [if_neg h0]
            exact hgo (line_clean x (by omega) (by omega) (Or.inl (by omega)))
/-- ScriptLines' plain law. -/
theorem lines_law (ls : List ByteArray) : ∃ k, hourglasslaw30_ScriptLines.f k ls = some true := by
  refine ⟨2000, ?_⟩
  unfold hourglasslaw30_ScriptLines.f
  by_cases h : (ls.length : Int) > 100
  · rw [if_pos h, awake_true]
    rfl
  · rw [if_neg h]
    exact lines_l0 ls (by omega) ls.length 0 2000 (by omega) (by intro x hx; simp at hx) (by omega)
end Go.Proofs.YthfjjdkaplibmaaDoor.Pr
