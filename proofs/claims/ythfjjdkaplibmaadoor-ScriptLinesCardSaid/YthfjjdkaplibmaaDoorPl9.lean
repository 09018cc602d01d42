import Derived.Test.YthfjjdkaplibmaaDoorGP
import Derived.Test.YthfjjdkaplibmaaDoorPr12
namespace Go.Proofs.YthfjjdkaplibmaaDoor.Pr
open Go Go.RowKit Go.Proofs.YthfjjdkaplibmaaDoorW.PrintWords Go.Proofs.YthfjjdkaplibmaaDoorW.PrintLast Go.Proofs.YthfjjdkaplibmaaDoorW.PrintMore
set_option linter.unusedVariables false
set_option linter.unusedSimpArgs false

/-! ### Lines -/
def linesGo (cur : List UInt8) : List UInt8 → List (List UInt8)
  | [] => if cur = [] then [] else [cur]
  | c :: r => if c = 10 then cur :: linesGo [] r else linesGo (cur ++ [c]) r
def bOf (l : List UInt8) : ByteArray := ⟨l.toArray⟩
/-- A text's lines, without their line feeds. -/
def lns (L : List UInt8) : List ByteArray := (linesGo [] L).map bOf
theorem bOf_data (b : ByteArray) : bOf b.data.toList = b := bytes_eq rfl
theorem bOf_list (l : List UInt8) : (bOf l).data.toList = l := rfl
theorem linesGo_hit (r : List UInt8) : ∀ (p cur : List UInt8), (10 : UInt8) ∉ p → linesGo cur (p ++ 10 :: r) = (cur ++ p) :: linesGo [] r
  | [], cur, _ => by rw [List.nil_append, linesGo, if_pos rfl, List.append_nil]
  | c :: p, cur, h => by
    rw [List.cons_append, linesGo, if_neg (fun e => h (by rw [e]; exact List.mem_cons_self)), linesGo_hit r p _ (fun hm => h (List.mem_cons_of_mem _ hm)), List.append_assoc]
    rfl
theorem linesGo_miss : ∀ (p cur : List UInt8), (10 : UInt8) ∉ p → linesGo cur p = if cur ++ p = [] then [] else [cur ++ p]
  | [], cur, _ => by rw [linesGo, List.append_nil]
  | c :: p, cur, h => by
    rw [linesGo, if_neg (fun e => h (by rw [e]; exact List.mem_cons_self)), linesGo_miss p _ (fun hm => h (List.mem_cons_of_mem _ hm)), List.append_assoc]
    rfl
/-- The reference's lines. -/
theorem ref_lines (s : ByteArray) (hs : s.size ≤ 1000000) (l : List UInt8) : ∀ (st i K : Nat) (acc : List ByteArray), s.data.toList.drop i = l → st ≤ i → i ≤ s.size → acc.length ≤ i → l.length + 1 ≤ K →
    hourglassref29_Lines.l0 K s acc (st : Int) (i : Int) = some (acc ++ (linesGo ((s.data.toList.drop st).take (i - st)) l).map bOf) := by
  have e : s.data.toList.length = s.size := Array.length_toList
  induction l with
  | nil =>
    intro st i K acc hd hst hi ha hK
    obtain ⟨K, rfl⟩ : ∃ m, K = m + 1 := ⟨K - 1, by omega⟩
    have hz : i = s.size := by have := List.drop_eq_nil_iff.1 hd; omega
    subst hz
    rw [hourglassref29_Lines.l0, if_neg (by omega), linesGo]
    have ht : (s.data.toList.drop st).take (s.size - st) = s.data.toList.drop st := List.take_of_length_le (by rw [List.length_drop]; omega)
    rw [ht]
    by_cases h : st < s.size
    · rw [if_pos (by omega), if_pos (by omega), if_pos (by omega), if_pos (by omega), if_neg (fun hn => by have := List.drop_eq_nil_iff.1 hn; omega)]
      have : s.extract ((st : Int)).toNat s.size = bOf (s.data.toList.drop st) := bytes_eq (by rw [Lib.extract_to_end]; rfl)
      rw [this]
      rfl
    · rw [if_neg (by omega), if_pos (List.drop_eq_nil_iff.2 (by omega))]
      simp
  | cons c r ih =>
    intro st i K acc hd hst hi ha hK
    obtain ⟨K, rfl⟩ : ∃ m, K = m + 1 := ⟨K - 1, by omega⟩
    obtain ⟨hlt, hb⟩ := bt_drop hd
    rw [List.length_cons] at hK
    rw [hourglassref29_Lines.l0, if_pos (by omega), if_pos (by omega), hb, wrap_succ i (by omega), linesGo]
    by_cases hc : c = 10
    · subst hc
      rw [if_pos (by decide), if_pos (by omega), if_pos (by omega), if_pos (by omega), if_pos (by omega), if_pos rfl, ih (i + 1) (i + 1) K _ (drop_next hd) (Nat.le_refl _) hlt (by rw [List.length_append]; simp; omega) (by omega)]
      have : s.extract ((st : Int)).toNat ((i : Int)).toNat = bOf ((s.data.toList.drop st).take (i - st)) := bytes_eq (by rw [Lib.extract_data]; rfl)
      rw [this, Nat.sub_self, List.take_zero, List.map_cons, List.append_assoc]
      rfl
    · have q : ¬ ((c.toNat : Int) = 10) := by
        intro h
        exact hc (UInt8.toNat_inj.1 (by have : c.toNat = 10 := by omega
                                        exact this))
      rw [if_neg q, if_neg hc, ih st (i + 1) K acc (drop_next hd) (by omega) hlt (by omega) (by omega)]
      have : (s.data.toList.drop st).take (i + 1 - st) = (s.data.toList.drop st).take (i - st) ++ [c] := by
        have e1 : i + 1 - st = (i - st) + 1 := by omega
        have e2 : (s.data.toList.drop st)[i - st]? = some c := by
          rw [List.getElem?_drop, show st + (i - st) = i by omega]
          have h3 := congrArg (fun z => z[0]?) hd
          simpa using h3
        rw [e1, List.take_add_one, e2]
        rfl
      rw [this]
theorem ref_lines_f (s : ByteArray) (hs : s.size ≤ 1000000) (K : Nat) (hK : s.size + 1 ≤ K) : hourglassref29_Lines.f K s = some (lns s.data.toList) := by
  have e : s.data.toList.length = s.size := Array.length_toList
  unfold hourglassref29_Lines.f
  have := ref_lines s hs s.data.toList 0 0 K [] rfl (Nat.le_refl _) (Nat.zero_le _) (Nat.zero_le _) (by omega)
  simpa [lns] using this
/-- The program's lines. -/
theorem trimNL_hit (b : ByteArray) (p : List UInt8) (h : b.data.toList = p ++ [10]) : trimNL b = bOf p := by
  refine bytes_eq ?_
  unfold trimNL Lib.trimSuffix Lib.hasSuffix
  rw [h, if_pos (List.isSuffixOf_iff_suffix.2 (List.suffix_append _ _))]
  simp [bOf]
theorem trimNL_miss (b : ByteArray) (h : (10 : UInt8) ∉ b.data.toList) : trimNL b = b := by
  refine bytes_eq ?_
  unfold trimNL Lib.trimSuffix Lib.hasSuffix
  rw [if_neg]
  intro hs
  obtain ⟨t, ht⟩ := List.isSuffixOf_iff_suffix.1 hs
  exact h (by rw [← ht]; simp)
theorem raw_lines : ∀ (K : Nat) (s : ByteArray), s.size < K → (rawB K s).map trimNL = lns s.data.toList := by
  intro K
  induction K with
  | zero => intro s h; omega
  | succ K ih =>
    intro s h
    have e : s.data.toList.length = s.size := Array.length_toList
    rw [rawB]
    by_cases h0 : s.size = 0
    · rw [if_pos h0]
      have : s.data.toList = [] := List.length_eq_zero_iff.1 (by omega)
      rw [this]
      rfl
    · rw [if_neg h0]
      by_cases hm : (10 : UInt8) ∈ s.data.toList
      · obtain ⟨p, r, hpr, hp⟩ := List.eq_append_cons_of_mem hm
        have hi := indexByte_hit 10 r p hp
        rw [← hpr] at hi
        rw [hi, if_pos (by omega), List.map_cons]
        have e1 : (s.extract 0 ((p.length : Int).toNat + 1)).data.toList = p ++ [10] := by
          rw [Lib.extract_from_zero, hpr, Int.toNat_natCast, show p ++ 10 :: r = (p ++ [10]) ++ r by simp, List.take_left' (by simp)]
        have e2 : (s.extract ((p.length : Int).toNat + 1) s.size).data.toList = r := by
          rw [Lib.extract_to_end, hpr, Int.toNat_natCast, ← List.drop_drop, List.drop_left]
          rfl
        have hl : (s.extract ((p.length : Int).toNat + 1) s.size).size < K := by
          have e3 : (s.extract ((p.length : Int).toNat + 1) s.size).data.toList.length = (s.extract ((p.length : Int).toNat + 1) s.size).size := Array.length_toList
          rw [e2] at e3
          have := congrArg List.length hpr
          rw [List.length_append, List.length_cons] at this
          omega
        rw [trimNL_hit _ p e1, ih _ hl, e2, hpr]
        unfold lns
        rw [linesGo_hit r p [] hp]
        rfl
      · have hi := indexByte_miss 10 _ hm
        rw [hi, if_neg (by omega)]
        unfold lns
        rw [linesGo_miss _ _ hm, List.nil_append, if_neg (fun hn => by rw [hn] at e; simp at e; omega), List.map_cons, List.map_nil, List.map_cons, List.map_nil, bOf_data, trimNL_miss _ hm]
def stepOf (x : ByteArray) : S24 := ⟨(sParse x).1, (sParse x).2.1, (sParse x).2.2.1, (sParse x).2.2.2.1, (sParse x).2.2.2.2.1⟩
/-- Reading lines. -/
def rGoL : List ByteArray → List S24 → Int → List S24 × Int × Int
  | [], out, _ => (out, 0, 0)
  | x :: r, out, n =>
    if idle x = true then rGoL r out (n + 1)
    else if 400 ≤ out.length then ([], n + 1, 6)
    else if (sParse x).2.2.2.2.2 = 0 then rGoL r (out ++ [stepOf x]) (n + 1) else ([], n + 1, (sParse x).2.2.2.2.2)
theorem rGo_L : ∀ (l : List ByteArray) (out : List S24) (n : Int), rGo l out n = rGoL (l.map trimNL) out n := by
  intro l
  induction l with
  | nil => intro out n; rfl
  | cons x r ih =>
    intro out n
    rw [rGo, List.map_cons, rGoL, ih]
    split
    · rfl
    · split
      · rfl
      · unfold stepOf
        cases hp : sParse (trimNL x) with
        | mk k p => obtain ⟨a, b, c, d, e⟩ := p; dsimp only; rw [ih]
theorem read_f (s : ByteArray) (hs : s.size ≤ 1000000) : script_Read.f s = some (rGoL (lns s.data.toList) [] 0) := by
  unfold script_Read.f
  rw [if_pos hs, rGo_L, raw_lines (s.size + 1) s (Nat.lt_succ_self _)]
def to28 (x : S24) : S28 := ⟨x.f0, x.f1, x.f2, x.f3, x.f4⟩
theorem bytes_nil (x : ByteArray) : x.toList = ([] : List UInt8) ↔ x.size = 0 := by
  have e : x.data.toList.length = x.size := Array.length_toList
  rw [ByteArray.toList_eq]
  constructor
  · intro h; rw [h] at e; simpa using e.symm
  · intro h; exact List.length_eq_zero_iff.1 (by omega)
/-- A line says nothing: as the laws spell it. -/
theorem idle_eq (x : ByteArray) (h : x.size ≠ 0) : ((bt x 0) == 35) = idle x := by
  have e : x.data.toList.length = x.size := Array.length_toList
  unfold idle
  rw [decide_eq_false h, Bool.false_or]
  cases hl : x.data.toList with
  | nil => rw [hl] at e; simp at e; omega
  | cons c r =>
    obtain ⟨_, hb⟩ := bt_drop (s := x) (i := 0) (c := c) (r := r) (by rw [List.drop_zero]; exact hl)
    have hb' : bt x 0 = (c.toNat : Int) := hb
    rw [hb', List.head?_cons]
    by_cases hc : c = 35
    · subst hc; decide
    · have h1 : ((c.toNat : Int) == 35) = false := by
        rw [beq_eq_false_iff_ne]
        intro h
        exact hc (UInt8.toNat_inj.1 (by have : c.toNat = 35 := by omega
                                        exact this))
      have h2 : (some c == some (35 : UInt8)) = false := by
        rw [beq_eq_false_iff_ne]
        intro h
        injection h with h
        exact hc h
      rw [h1, h2]
theorem rdOf_at {ls : List ByteArray} {i : Nat} {x : ByteArray} {r : List ByteArray} (h : ls.drop i = x :: r) : i < ls.length ∧ rdOf ByteArray.empty ls (i : Int) = x ∧ ls.drop (i + 1) = r := by
  have hl : i < ls.length := by
    apply Classical.byContradiction
    intro hn
    rw [List.drop_eq_nil_iff.2 (by omega)] at h
    cases h
  have h2 := List.drop_eq_getElem_cons hl
  rw [h] at h2
  injection h2 with h3 h4
  refine ⟨hl, ?_, h4.symm⟩
  unfold rdOf
  simp [List.getD, hl, h3]
theorem ref_read (M : Nat) (hM : M ≤ 1000000) (ls : List ByteArray) (hls : ls.length ≤ 10000000) (hsz : ∀ x ∈ ls, x.size ≤ M) : ∀ (m i K : Nat) (out : List S24), i + m = ls.length → out.length ≤ 400 → M + 110 + 2 * m ≤ K →
    hourglassref30_Read.l0 K (out.map to28) ls (i : Int) = some ((rGoL (ls.drop i) out (i : Int)).1.map to28, (rGoL (ls.drop i) out (i : Int)).2.1, (rGoL (ls.drop i) out (i : Int)).2.2) := by
  intro m
  induction m with
  | zero =>
    intro i K out hi ho hK
    obtain ⟨K, rfl⟩ : ∃ m, K = m + 1 := ⟨K - 1, by omega⟩
    rw [hourglassref30_Read.l0, if_neg (by omega), List.drop_eq_nil_iff.2 (by omega), rGoL]
  | succ m ih =>
    intro i K out hi ho hK
    obtain ⟨K, rfl⟩ : ∃ m, K = m + 2 := ⟨K - 2, by omega⟩
    cases hd : ls.drop i with
    | nil => have := List.drop_eq_nil_iff.1 hd; omega
    | cons x r =>
      obtain ⟨hlt, hx, hr⟩ := rdOf_at hd
      have hmem : x ∈ ls := List.mem_of_mem_drop (by rw [hd]; exact List.mem_cons_self)
      have hxs := hsz x hmem
      have hj : ∀ b : Bool, hourglassref30_Read.j1 (K + 1) (out.map to28) ls (i : Int) b = if b = true then hourglassref30_Read.l0 K (out.map to28) ls ((i + 1 : Nat) : Int) else
          (if 400 ≤ out.length then some ([], ((i + 1 : Nat) : Int), 6) else
            (if (sParse x).2.2.2.2.2 = 0 then hourglassref30_Read.l0 K ((out ++ [stepOf x]).map to28) ls ((i + 1 : Nat) : Int) else some ([], ((i + 1 : Nat) : Int), (sParse x).2.2.2.2.2))) := by
        intro b
        rw [hourglassref30_Read.j1, wrap_succ i (by omega), hx, List.length_map]
        cases b with
        | true => rw [if_pos rfl, if_pos rfl]
        | false =>
          rw [if_neg (show ¬ (false = true) by simp), if_neg (show ¬ (false = true) by simp)]
          by_cases h4 : 400 ≤ out.length
          · rw [if_pos (show (out.length : Int) = 400 by omega), if_pos h4]
          · rw [if_neg (show ¬ (out.length : Int) = 400 by omega), if_neg h4, if_pos (by omega), if_pos (by omega), rParse_f x (by omega) K (by omega)]
            simp only [Option.bind_some]
            rcases parse_same x with ⟨y, a, b, c, d, e1, e2, e3, e4⟩ | ⟨e1, e2⟩
            · have hst : stepOf x = ⟨y, a, b, c, d⟩ := by unfold stepOf; rw [e2]
              rw [e1, hst, e2]
              dsimp only
              rw [if_pos rfl, if_pos (by omega), if_pos rfl, List.map_append]
              rfl
            · rw [e1, e2]
              rfl
      rw [hourglassref30_Read.l0, if_pos (by omega), if_pos (by omega), hx, hj, hj, rGoL]
      have hnext : hourglassref30_Read.l0 K (out.map to28) ls ((i + 1 : Nat) : Int) = some ((rGoL r out ((i : Int) + 1)).1.map to28, (rGoL r out ((i : Int) + 1)).2.1, (rGoL r out ((i : Int) + 1)).2.2) := by
        have := ih (i + 1) K out (by omega) ho (by omega)
        rw [hr] at this
        exact this
      by_cases h0 : x.size = 0
      · have hid : idle x = true := by unfold idle; rw [decide_eq_true h0]; rfl
        rw [if_pos ((bytes_nil x).2 h0), if_pos rfl, if_pos hid, hnext]
      · rw [if_neg (fun h => h0 ((bytes_nil x).1 h)), if_pos (by omega), idle_eq x h0]
        by_cases hid : idle x = true
        · rw [if_pos hid, if_pos hid, hnext]
        · rw [if_neg hid, if_neg hid]
          by_cases h4 : 400 ≤ out.length
          · rw [if_pos h4, if_pos h4]
            rfl
          · rw [if_neg h4, if_neg h4]
            by_cases hp : (sParse x).2.2.2.2.2 = 0
            · rw [if_pos hp, if_pos hp]
              have := ih (i + 1) K (out ++ [stepOf x]) (by omega) (by simp; omega) (by omega)
              rw [hr] at this
              exact this
            · rw [if_neg hp, if_neg hp]
              rfl
theorem linesGo_len : ∀ (l cur : List UInt8), (linesGo cur l).length ≤ l.length + 1 ∧ ∀ x ∈ linesGo cur l, x.length ≤ cur.length + l.length := by
  intro l
  induction l with
  | nil =>
    intro cur
    rw [linesGo]
    split
    · simp
    · simp
  | cons c r ih =>
    intro cur
    rw [linesGo]
    split
    · obtain ⟨h1, h2⟩ := ih []
      refine ⟨by simp; omega, ?_⟩
      intro x hx
      rcases List.mem_cons.1 hx with rfl | hx
      · simp
      · have := h2 x hx
        simp at this ⊢
        omega
    · obtain ⟨h1, h2⟩ := ih (cur ++ [c])
      refine ⟨by simp; omega, ?_⟩
      intro x hx
      have := h2 x hx
      simp at this ⊢
      omega
theorem lns_len (s : ByteArray) : (lns s.data.toList).length ≤ s.size + 1 ∧ ∀ x ∈ lns s.data.toList, x.size ≤ s.size := by
  have e : s.data.toList.length = s.size := Array.length_toList
  obtain ⟨h1, h2⟩ := linesGo_len s.data.toList []
  unfold lns
  refine ⟨by rw [List.length_map]; omega, ?_⟩
  intro x hx
  obtain ⟨y, hy, rfl⟩ := List.mem_map.1 hx
  have := h2 y hy
  have e2 : (bOf y).data.toList.length = (bOf y).size := Array.length_toList
  rw [bOf_list] at e2
  simp at this
  omega
theorem ref_read_f (s : ByteArray) (hs : s.size ≤ 1000000) (K : Nat) (hK : 3 * s.size + 120 ≤ K) : hourglassref30_Read.f K s = some ((rGoL (lns s.data.toList) [] 0).1.map to28, (rGoL (lns s.data.toList) [] 0).2.1, (rGoL (lns s.data.toList) [] 0).2.2) := by
  obtain ⟨h1, h2⟩ := lns_len s
  unfold hourglassref30_Read.f
  rw [ref_lines_f s hs K (by omega)]
  simp only [Option.bind_some]
  have := ref_read s.size hs (lns s.data.toList) (by omega) h2 (lns s.data.toList).length 0 K [] (by omega) (by simp) (by omega)
  exact this
theorem rd24_at {l : List S24} {i : Nat} (h : i < l.length) : rd_T24 l (i : Int) = l[i] := by unfold rd_T24; simp [List.getD, h]
theorem rd28_at {l : List S24} {i : Nat} (h : i < l.length) : rd_T28 (l.map to28) (i : Int) = to28 l[i] := by unfold rd_T28; simp [List.getD, h]
theorem same_f (l : List S24) (hl : l.length ≤ 1000000) : ∀ (m i K : Nat), i + m = l.length → m + 1 ≤ K → hourglasslaw30_same.l0 K l (l.map to28) (i : Int) = some true := by
  intro m
  induction m with
  | zero =>
    intro i K hi hK
    obtain ⟨K, rfl⟩ : ∃ m, K = m + 1 := ⟨K - 1, by omega⟩
    rw [hourglasslaw30_same.l0, if_neg (by omega)]
  | succ m ih =>
    intro i K hi hK
    obtain ⟨K, rfl⟩ : ∃ m, K = m + 1 := ⟨K - 1, by omega⟩
    have hlt : i < l.length := by omega
    rw [hourglasslaw30_same.l0, if_pos (by omega), if_pos (by omega)]
    unfold hourglasslaw28_Theirs.f
    simp only [Option.bind_some]
    rw [List.length_map, if_pos (by omega), rd24_at hlt, rd28_at hlt, wrap_succ i (by omega), ih (i + 1) K (by omega) (by omega)]
    simp [to28]
theorem rGoL_len : ∀ (ls : List ByteArray) (out : List S24) (n : Int), (rGoL ls out n).1.length ≤ out.length + ls.length := by
  intro ls
  induction ls with
  | nil => intro out n; rw [rGoL]; simp
  | cons x r ih =>
    intro out n
    rw [rGoL]
    split
    · have := ih out (n + 1); simp; omega
    · split
      · simp
      · split
        · refine Nat.le_trans (ih _ _) ?_
          simp
          omega
        · simp
theorem bOf_append (a b : List UInt8) : bOf a ++ bOf b = bOf (a ++ b) := bytes_eq (by simp [bOf])
theorem bOf_size (a : List UInt8) : (bOf a).size = a.length := by
  have e2 : (bOf a).data.toList.length = (bOf a).size := Array.length_toList
  rw [bOf_list] at e2
  exact e2.symm
theorem lns_cons (p r : List UInt8) (h : (10 : UInt8) ∉ p) : lns (p ++ 10 :: r) = bOf p :: lns r := by
  unfold lns
  rw [linesGo_hit r p [] h]
  rfl
theorem lines_f (l : List S24) (hl : l.length ≤ 1000000) (h : l.all ok24 = true) : script_Lines.f l = some (bOf (sLinesL l)) := by
  unfold script_Lines.f
  rw [if_pos ⟨hl, h⟩]
  rfl
end Go.Proofs.YthfjjdkaplibmaaDoor.Pr
