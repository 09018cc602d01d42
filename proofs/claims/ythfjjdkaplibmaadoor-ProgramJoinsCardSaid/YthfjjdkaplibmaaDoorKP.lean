import Derived.Test.YthfjjdkaplibmaaDoorGB
import Derived.Test.YthfjjdkaplibmaaDoorPS
import Derived.Test.YthfjjdkaplibmaaDoorQ2
namespace Go.Proofs.YthfjjdkaplibmaaDoor
open Go Go.RowKit Go.WideShapes Go.Proofs.YthfjjdkaplibmaaDoor.Pr Go.Proofs.YthfjjdkaplibmaaDoorW.PrintWords
theorem cells51 : Tryd.prog.cellsOf 51 = 3 := by kernel_rfl
theorem cells48 : Tryd.prog.cellsOf 48 = 1 := by kernel_rfl
theorem cells63 : Tryd.prog.cellsOf 63 = 1 := by kernel_rfl
theorem cells65 : Tryd.prog.cellsOf 65 = 14 := by kernel_rfl
set_option maxRecDepth 100000 in
theorem opens51 {w : World} : Opens Tryd.prog w 51 k51 (fun y => wf64 y.f0 ∧ wf64 y.f1 ∧ wf64 y.f2) :=
  opens_iso (f := fun x : S51 => (x.f0, x.f1, x.f2)) (good := fun p => wf64 p.1 ∧ wf64 p.2.1 ∧ wf64 p.2.2) (fun p => ⟨p.1, p.2.1, p.2.2⟩) (fun _ => rfl)
    (opens_struct Tryd.underlying51 cells51 (opensF_cons rfl (opens_int Tryd.underlying3 cells3) (opensF_cons rfl (opens_int Tryd.underlying3 cells3) (opensF_one rfl (opens_int Tryd.underlying3 cells3)))))
theorem all_ok51 {l : List S51} (h : ∀ y ∈ l, wf64 y.f0 ∧ wf64 y.f1 ∧ wf64 y.f2) : l.all ok51 = true := by
  rw [List.all_eq_true]
  intro y hy
  obtain ⟨_, h1, h2⟩ := h y hy
  unfold ok51
  rw [wf_is64 h1, wf_is64 h2]
  rfl
theorem opens48 {w : World} : Opens Tryd.prog w 48 (Kd.slice 51 k51) (fun xs => ∀ y ∈ xs, wf64 y.f0 ∧ wf64 y.f1 ∧ wf64 y.f2) := opens_slice Tryd.underlying48 cells48 opens51
theorem opens63 {w : World} : Opens Tryd.prog w 63 (Kd.slice 48 (Kd.slice 51 k51)) (fun xs => ∀ q ∈ xs, ∀ y ∈ q, wf64 y.f0 ∧ wf64 y.f1 ∧ wf64 y.f2) := opens_slice Tryd.underlying63 cells63 opens48
def k65 : Kd (Int × (Int × (Int × (Int × (Int × (Int × (Int × (Int × (Int × (Int × (Int × (Int × (Int × (List (List S51))))))))))))))) := Kd.pair (Kd.int .i64) (Kd.pair (Kd.int .i64) (Kd.pair (Kd.int .i64) (Kd.pair (Kd.int .i64) (Kd.pair (Kd.int .i64) (Kd.pair (Kd.int .i64) (Kd.pair (Kd.int .i64) (Kd.pair (Kd.int .i64) (Kd.pair (Kd.int .i64) (Kd.pair (Kd.int .i64) (Kd.pair (Kd.int .i64) (Kd.pair (Kd.int .i64) (Kd.pair (Kd.int .i64) (Kd.slice 48 (Kd.slice 51 k51))))))))))))))
set_option maxRecDepth 100000 in
theorem opens65 {w : World} : ∃ good, Opens Tryd.prog w 65 k65 good := ⟨_, opens_struct Tryd.underlying65 cells65 (opensF_cons rfl (opens_int Tryd.underlying3 cells3) (opensF_cons rfl (opens_int Tryd.underlying3 cells3) (opensF_cons rfl (opens_int Tryd.underlying3 cells3) (opensF_cons rfl (opens_int Tryd.underlying3 cells3) (opensF_cons rfl (opens_int Tryd.underlying3 cells3) (opensF_cons rfl (opens_int Tryd.underlying3 cells3) (opensF_cons rfl (opens_int Tryd.underlying3 cells3) (opensF_cons rfl (opens_int Tryd.underlying3 cells3) (opensF_cons rfl (opens_int Tryd.underlying3 cells3) (opensF_cons rfl (opens_int Tryd.underlying3 cells3) (opensF_cons rfl (opens_int Tryd.underlying3 cells3) (opensF_cons rfl (opens_int Tryd.underlying3 cells3) (opensF_cons rfl (opens_int Tryd.underlying3 cells3) (opensF_one rfl opens63))))))))))))))⟩
set_option maxRecDepth 100000 in
theorem open65 {H : Type} {enc : TypeId × Value → H} {w W : World} {r : Reach} {base base' : Nat} {spare : Nat → Bool} {held : Bool} {fuel : Nat} {v : Value} {y : DataW H × List MemPlace} (h0 : Value.okWide Tryd.prog W r base' 65 v) (h : DataW.trod enc Tryd.prog w base spare held fuel 65 v.cells.toList = some y) :
    ∃ (a0 a1 a2 a3 a4 a5 a6 a7 a8 a9 a10 a11 a12 : Int) (A : Option Addr) (c : Nat) (l : List (List S51)), v = .agg #[.int .i64 a0, .int .i64 a1, .int .i64 a2, .int .i64 a3, .int .i64 a4, .int .i64 a5, .int .i64 a6, .int .i64 a7, .int .i64 a8, .int .i64 a9, .int .i64 a10, .int .i64 a11, .int .i64 a12, .slice A l.length c] ∧ l.length ≤ c ∧ Kd.C (Kd.slice 51 k51) w A l.length l := by
  obtain ⟨cs, rfl, hcs⟩ := okWide_struct Tryd.underlying65 h0
  obtain ⟨good, hg⟩ := opens65 (w := w)
  have hc : (Value.agg cs).cells.toList = cs.toList := rfl
  rw [hc] at h
  have hl : cs.toList.length = k65.sz := by rw [Array.length_toList, hcs, cells65]; rfl
  obtain ⟨x, hx, _⟩ := hg.2 H enc base spare held fuel _ y hl h
  obtain ⟨u0, v0, e0, ⟨b0, rfl⟩, hx⟩ := hx
  obtain ⟨u1, v1, e1, ⟨b1, rfl⟩, hx⟩ := hx
  obtain ⟨u2, v2, e2, ⟨b2, rfl⟩, hx⟩ := hx
  obtain ⟨u3, v3, e3, ⟨b3, rfl⟩, hx⟩ := hx
  obtain ⟨u4, v4, e4, ⟨b4, rfl⟩, hx⟩ := hx
  obtain ⟨u5, v5, e5, ⟨b5, rfl⟩, hx⟩ := hx
  obtain ⟨u6, v6, e6, ⟨b6, rfl⟩, hx⟩ := hx
  obtain ⟨u7, v7, e7, ⟨b7, rfl⟩, hx⟩ := hx
  obtain ⟨u8, v8, e8, ⟨b8, rfl⟩, hx⟩ := hx
  obtain ⟨u9, v9, e9, ⟨b9, rfl⟩, hx⟩ := hx
  obtain ⟨u10, v10, e10, ⟨b10, rfl⟩, hx⟩ := hx
  obtain ⟨u11, v11, e11, ⟨b11, rfl⟩, hx⟩ := hx
  obtain ⟨u12, v12, e12, ⟨b12, rfl⟩, hx⟩ := hx
  obtain ⟨A, c, rfl, h1, h2⟩ := hx
  subst e12 e11 e10 e9 e8 e7 e6 e5 e4 e3 e2 e1
  refine ⟨x.1, x.2.1, x.2.2.1, x.2.2.2.1, x.2.2.2.2.1, x.2.2.2.2.2.1, x.2.2.2.2.2.2.1, x.2.2.2.2.2.2.2.1, x.2.2.2.2.2.2.2.2.1, x.2.2.2.2.2.2.2.2.2.1, x.2.2.2.2.2.2.2.2.2.2.1, x.2.2.2.2.2.2.2.2.2.2.2.1, x.2.2.2.2.2.2.2.2.2.2.2.2.1, A, c, x.2.2.2.2.2.2.2.2.2.2.2.2.2, ?_, h1, h2⟩
  congr 1
  apply Array.toList_inj.1
  rw [e0]
  rfl
end Go.Proofs.YthfjjdkaplibmaaDoor
