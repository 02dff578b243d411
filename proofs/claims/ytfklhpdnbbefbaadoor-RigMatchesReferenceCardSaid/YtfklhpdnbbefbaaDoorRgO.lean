/-
  Telescope and Rig as arguments: opened to their cells, and read back in any world.
-/
import Derived.Test.YtfklhpdnbbefbaaDoorProg
import Derived.OpenShut
import Derived.ShutString
import Derived.RowKit
import Derived.Lib.SmallJoins
namespace Go.Proofs.YtfklhpdnbbefbaaDoor.Rg
open Go.Joins Go.ChangeShapes Go.WideShapes Go.RowKit Go.Deep
set_option linter.constructorNameAsVariable false
set_option linter.unusedVariables false
set_option linter.unusedSimpArgs false
variable {H : Type} {enc : TypeId × Value → H} {w : World} {base : Nat} {spare : Nat → Bool} {held : Bool}
theorem c25 : Tryd.prog.cellsOf 25 = 9 := by kernel_rfl
theorem c23 : Tryd.prog.cellsOf 23 = 5 := by kernel_rfl
theorem c27 : Tryd.prog.cellsOf 27 = 3 := by kernel_rfl
theorem c9 : Tryd.prog.cellsOf 9 = 1 := by kernel_rfl
theorem c3 : Tryd.prog.cellsOf 3 = 1 := by kernel_rfl
theorem c4 : Tryd.prog.cellsOf 4 = 1 := by kernel_rfl
theorem tr_str {s : ByteArray} (n : Nat) (h : s.size ≤ maxLen) : DataW.trod enc Tryd.prog w base spare held (n + 1) 9 [.string s] = some (.lit (.string s.data.toList), []) := by
  unfold DataW.trod
  rw [Tryd.underlying9]
  simp [h]
theorem tr_int {x : Int} (n : Nat) (h : (Lit.int .i64 x).wf = true) : DataW.trod enc Tryd.prog w base spare held (n + 1) 3 [.int .i64 x] = some (.lit (.int .i64 x), []) := by
  unfold DataW.trod
  rw [Tryd.underlying3]
  simp [h]
theorem tr_bool {x : Bool} (n : Nat) : DataW.trod enc Tryd.prog w base spare held (n + 1) 4 [.bool x] = some (.lit (.bool x), []) := by
  unfold DataW.trod
  rw [Tryd.underlying4]
def datD (i4 i5 i6 i7 i8 : Int) : DataW H := .agg [.lit (.int .i64 i4), .lit (.int .i64 i5), .lit (.int .i64 i6), .lit (.int .i64 i7), .lit (.int .i64 i8)]
def datT (s : ByteArray) (i1 i2 i3 i4 i5 i6 i7 i8 : Int) : DataW H := .agg [.lit (.string s.data.toList), .lit (.int .i64 i1), .lit (.int .i64 i2), .lit (.int .i64 i3), datD i4 i5 i6 i7 i8]
def datR (x y : Int) (z : Bool) : DataW H := .agg [.lit (.int .i64 x), .lit (.int .i64 y), .lit (.bool z)]
theorem tr_det {i4 i5 i6 i7 i8 : Int} (n : Nat) (h4 : (Lit.int .i64 i4).wf = true) (h5 : (Lit.int .i64 i5).wf = true) (h6 : (Lit.int .i64 i6).wf = true) (h7 : (Lit.int .i64 i7).wf = true) (h8 : (Lit.int .i64 i8).wf = true) :
    DataW.trod enc Tryd.prog w base spare held (n + 2) 23 [.int .i64 i4, .int .i64 i5, .int .i64 i6, .int .i64 i7, .int .i64 i8] = some (datD i4 i5 i6 i7 i8, []) := by
  unfold DataW.trod
  rw [Tryd.underlying23]
  simp [c23, c3, tr_int, h4, h5, h6, h7, h8, datD]
theorem shut_tel {s : ByteArray} {i1 i2 i3 i4 i5 i6 i7 i8 : Int} (hs : s.size ≤ maxLen) (h1 : (Lit.int .i64 i1).wf = true) (h2 : (Lit.int .i64 i2).wf = true) (h3 : (Lit.int .i64 i3).wf = true) (h4 : (Lit.int .i64 i4).wf = true) (h5 : (Lit.int .i64 i5).wf = true) (h6 : (Lit.int .i64 i6).wf = true) (h7 : (Lit.int .i64 i7).wf = true) (h8 : (Lit.int .i64 i8).wf = true) :
    DataW.Trod enc Tryd.prog w base spare held 25 (.agg #[.string s, .int .i64 i1, .int .i64 i2, .int .i64 i3, .int .i64 i4, .int .i64 i5, .int .i64 i6, .int .i64 i7, .int .i64 i8]) (datT s i1 i2 i3 i4 i5 i6 i7 i8) [] := by
  refine ⟨3, ?_⟩
  show DataW.trod enc Tryd.prog w base spare held (2 + 1) 25 [.string s, .int .i64 i1, .int .i64 i2, .int .i64 i3, .int .i64 i4, .int .i64 i5, .int .i64 i6, .int .i64 i7, .int .i64 i8] = _
  unfold DataW.trod
  rw [Tryd.underlying25]
  simp [c25, c23, c9, c3, tr_int, tr_str, tr_det, hs, h1, h2, h3, h4, h5, h6, h7, h8, datT]
theorem shut_rig {x y : Int} {z : Bool} (h1 : (Lit.int .i64 x).wf = true) (h2 : (Lit.int .i64 y).wf = true) :
    DataW.Trod enc Tryd.prog w base spare held 27 (.agg #[.int .i64 x, .int .i64 y, .bool z]) (datR x y z) [] := by
  refine ⟨3, ?_⟩
  show DataW.trod enc Tryd.prog w base spare held (2 + 1) 27 [.int .i64 x, .int .i64 y, .bool z] = _
  unfold DataW.trod
  rw [Tryd.underlying27]
  simp [c27, c3, c4, tr_int, tr_bool, h1, h2, datR]
theorem one_int {n : Nat} {c : Value} {y : DataW H × List MemPlace} (h : DataW.trod enc Tryd.prog w base spare held n 3 [c] = some y) : ∃ x, c = .int .i64 x ∧ y = (.lit (.int .i64 x), []) ∧ (Lit.int .i64 x).wf = true := by
  obtain ⟨x, hc, hy, hw⟩ := DataW.trod_int Tryd.underlying3 h
  exact ⟨x, by simpa using hc, hy, hw⟩
theorem open_det {n : Nat} {k4 k5 k6 k7 k8 : Value} {x : DataW H × List MemPlace} (h : DataW.trod enc Tryd.prog w base spare held n 23 [k4, k5, k6, k7, k8] = some x) :
    ∃ i4 i5 i6 i7 i8 : Int, [k4, k5, k6, k7, k8] = [.int .i64 i4, .int .i64 i5, .int .i64 i6, .int .i64 i7, .int .i64 i8] ∧ x = (datD i4 i5 i6 i7 i8, []) ∧ (Lit.int .i64 i4).wf = true ∧ (Lit.int .i64 i5).wf = true ∧ (Lit.int .i64 i6).wf = true ∧ (Lit.int .i64 i7).wf = true ∧ (Lit.int .i64 i8).wf = true := by
  obtain ⟨xs, m, _, rfl, _, hlen, hf⟩ := DataW.trod_struct Tryd.underlying23 h
  match xs, hlen with
  | [y0, y1, y2, y3, y4], _ =>
    have f0 : DataW.trod enc Tryd.prog w base spare held m 3 [k4] = some y0 := by
      have h := hf 0 _ rfl
      simpa [c3, c4, c9, c23, Value.cells] using h
    have f1 : DataW.trod enc Tryd.prog w base spare held m 3 [k5] = some y1 := by
      have h := hf 1 _ rfl
      simpa [c3, c4, c9, c23, Value.cells] using h
    have f2 : DataW.trod enc Tryd.prog w base spare held m 3 [k6] = some y2 := by
      have h := hf 2 _ rfl
      simpa [c3, c4, c9, c23, Value.cells] using h
    have f3 : DataW.trod enc Tryd.prog w base spare held m 3 [k7] = some y3 := by
      have h := hf 3 _ rfl
      simpa [c3, c4, c9, c23, Value.cells] using h
    have f4 : DataW.trod enc Tryd.prog w base spare held m 3 [k8] = some y4 := by
      have h := hf 4 _ rfl
      simpa [c3, c4, c9, c23, Value.cells] using h
    obtain ⟨a0, rfl, rfl, w0⟩ := one_int f0
    obtain ⟨a1, rfl, rfl, w1⟩ := one_int f1
    obtain ⟨a2, rfl, rfl, w2⟩ := one_int f2
    obtain ⟨a3, rfl, rfl, w3⟩ := one_int f3
    obtain ⟨a4, rfl, rfl, w4⟩ := one_int f4
    exact ⟨a0, a1, a2, a3, a4, rfl, rfl, w0, w1, w2, w3, w4⟩
set_option maxRecDepth 100000 in
theorem open_tel {r : Reach} {b0 : Nat} {v : Value} {d : DataW H} {p : List MemPlace} (hv : Value.okWide Tryd.prog w r b0 25 v) (h : DataW.Trod enc Tryd.prog w base spare held 25 v d p) :
    ∃ (s : ByteArray) (i1 i2 i3 i4 i5 i6 i7 i8 : Int), v = .agg #[.string s, .int .i64 i1, .int .i64 i2, .int .i64 i3, .int .i64 i4, .int .i64 i5, .int .i64 i6, .int .i64 i7, .int .i64 i8] ∧ d = datT s i1 i2 i3 i4 i5 i6 i7 i8 ∧ p = [] ∧ s.size ≤ maxLen ∧
      (Lit.int .i64 i1).wf = true ∧ (Lit.int .i64 i2).wf = true ∧ (Lit.int .i64 i3).wf = true ∧ (Lit.int .i64 i4).wf = true ∧ (Lit.int .i64 i5).wf = true ∧ (Lit.int .i64 i6).wf = true ∧ (Lit.int .i64 i7).wf = true ∧ (Lit.int .i64 i8).wf = true := by
  obtain ⟨cs, rfl, hsz⟩ := okWide_struct Tryd.underlying25 hv
  obtain ⟨l⟩ := cs
  match l, hsz.trans c25 with
  | [c0, c1, c2, c3_, c4_, c5, c6, c7, c8], _ =>
    obtain ⟨fuel, hf0⟩ := h
    obtain ⟨xs, m, _, hx, _, hlen, hf⟩ := DataW.trod_struct Tryd.underlying25 hf0
    match xs, hlen with
    | [y0, y1, y2, y3, y4], _ =>
      have f0 : DataW.trod enc Tryd.prog w base spare held m 9 [c0] = some y0 := by
        have h := hf 0 _ rfl
        simpa [c3, c4, c9, c23, Value.cells] using h
      have f1 : DataW.trod enc Tryd.prog w base spare held m 3 [c1] = some y1 := by
        have h := hf 1 _ rfl
        simpa [c3, c4, c9, c23, Value.cells] using h
      have f2 : DataW.trod enc Tryd.prog w base spare held m 3 [c2] = some y2 := by
        have h := hf 2 _ rfl
        simpa [c3, c4, c9, c23, Value.cells] using h
      have f3 : DataW.trod enc Tryd.prog w base spare held m 3 [c3_] = some y3 := by
        have h := hf 3 _ rfl
        simpa [c3, c4, c9, c23, Value.cells] using h
      have f4 : DataW.trod enc Tryd.prog w base spare held m 23 [c4_, c5, c6, c7, c8] = some y4 := by
        have h := hf 4 _ rfl
        simpa [c3, c4, c9, c23, Value.cells] using h
      obtain ⟨s, hc0, hy0, hs⟩ := DataW.trod_string Tryd.underlying9 f0
      obtain rfl : c0 = .string s := by simpa [Value.cells] using hc0
      obtain rfl : y0 = (.lit (.string s.data.toList), []) := by simpa using hy0
      obtain ⟨a1, rfl, rfl, w1⟩ := one_int f1
      obtain ⟨a2, rfl, rfl, w2⟩ := one_int f2
      obtain ⟨a3, rfl, rfl, w3⟩ := one_int f3
      obtain ⟨a4, a5, a6, a7, a8, hc, rfl, w4, w5, w6, w7, w8⟩ := open_det f4
      simp only [List.cons.injEq, and_true] at hc
      obtain ⟨rfl, rfl, rfl, rfl, rfl⟩ := hc
      simp only [Prod.mk.injEq] at hx
      exact ⟨s, a1, a2, a3, a4, a5, a6, a7, a8, rfl, hx.1, by simpa using hx.2, hs, w1, w2, w3, w4, w5, w6, w7, w8⟩
set_option maxRecDepth 100000 in
theorem open_rig {r : Reach} {b0 : Nat} {v : Value} {d : DataW H} {p : List MemPlace} (hv : Value.okWide Tryd.prog w r b0 27 v) (h : DataW.Trod enc Tryd.prog w base spare held 27 v d p) :
    ∃ (x y : Int) (z : Bool), v = .agg #[.int .i64 x, .int .i64 y, .bool z] ∧ d = datR x y z ∧ p = [] ∧ (Lit.int .i64 x).wf = true ∧ (Lit.int .i64 y).wf = true := by
  obtain ⟨cs, rfl, hsz⟩ := okWide_struct Tryd.underlying27 hv
  obtain ⟨l⟩ := cs
  match l, hsz.trans c27 with
  | [c0, c1, c2], _ =>
    obtain ⟨fuel, hf0⟩ := h
    obtain ⟨xs, m, _, hx, _, hlen, hf⟩ := DataW.trod_struct Tryd.underlying27 hf0
    match xs, hlen with
    | [y0, y1, y2], _ =>
      have f0 : DataW.trod enc Tryd.prog w base spare held m 3 [c0] = some y0 := by
        have h := hf 0 _ rfl
        simpa [c3, c4, c9, c23, Value.cells] using h
      have f1 : DataW.trod enc Tryd.prog w base spare held m 3 [c1] = some y1 := by
        have h := hf 1 _ rfl
        simpa [c3, c4, c9, c23, Value.cells] using h
      have f2 : DataW.trod enc Tryd.prog w base spare held m 4 [c2] = some y2 := by
        have h := hf 2 _ rfl
        simpa [c3, c4, c9, c23, Value.cells] using h
      obtain ⟨a0, rfl, rfl, w0⟩ := one_int f0
      obtain ⟨a1, rfl, rfl, w1⟩ := one_int f1
      obtain ⟨b, hb, hy⟩ := DataW.trod_bool Tryd.underlying4 f2
      obtain rfl : c2 = .bool b := by simpa [Value.cells] using hb
      obtain rfl : y2 = (.lit (.bool b), []) := by simpa using hy
      simp only [Prod.mk.injEq] at hx
      exact ⟨a0, a1, b, rfl, hx.1, by simpa using hx.2, w0, w1⟩
end Go.Proofs.YtfklhpdnbbefbaaDoor.Rg
