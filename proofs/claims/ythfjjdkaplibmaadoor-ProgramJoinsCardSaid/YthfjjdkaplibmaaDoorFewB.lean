import Derived.Test.YthfjjdkaplibmaaDoorWWords
namespace Go.Proofs.YthfjjdkaplibmaaDoor.Pr
open Go Go.RowKit Go.Proofs.YthfjjdkaplibmaaDoorW.PrintWords
/-- The block of a row that is not empty. -/
theorem row_block {α : Type} {d : Kd α} {e : Nat} {w : World} {b : Nat} {ok : Nat → Prop} {A : Option Addr} {n c : Nat} {xs : List α} (h : d.R e w b ok (.slice A n c) xs) (h0 : 0 < xs.length) :
    ∃ (g : Nat) (cs : Array Value), A = some ⟨g, 0, none⟩ ∧ w.heap[g]? = some (.cells cs e (0, 0)) := by
  obtain ⟨inner, _, ho⟩ := Kd.R_own h
  rcases ho with ⟨_, hn⟩ | ⟨g, cap, cur, hv, _, hb, _⟩
  · omega
  · injection hv with h1 _ _
    exact ⟨g, cur, h1, hb⟩
/-- A cell of a block that lies in both worlds. -/
theorem cell_same_blk {w1 w2 : World} {g : Nat} {o : Obj} (h1 : w1.heap[g]? = some o) (h2 : w2.heap[g]? = some o) (n : Nat) : w2.cell? ((⟨g, 0, none⟩ : Addr).add n) = w1.cell? ((⟨g, 0, none⟩ : Addr).add n) := by
  have e : ((⟨g, 0, none⟩ : Addr).add n).block = g := by unfold Addr.add; split <;> rfl
  generalize (⟨g, 0, none⟩ : Addr).add n = a at e
  subst e
  unfold World.cell?
  rw [h1, h2]
theorem cell_in_blk {w1 w2 : World} {g : Nat} {o : Obj} (h1 : w1.heap[g]? = some o) (h2 : w2.heap[g]? = some o) {n : Nat} {v : Value} (h : w1.cell? ((⟨g, 0, none⟩ : Addr).add n) = some v) : w2.cell? ⟨g, n, none⟩ = some v := by
  have e : ((⟨g, 0, none⟩ : Addr).add n) = ⟨g, n, none⟩ := by
    unfold Addr.add
    split
    · rename_i hn; rw [hn]
    · simp
  rw [← e, cell_same_blk h1 h2]
  exact h
/-- max and min of two numbers, as the printed texts spell them. -/
def mx (a b : Int) : Int := if a < b then b else a
def mn (a b : Int) : Int := if b < a then b else a
end Go.Proofs.YthfjjdkaplibmaaDoor.Pr
