/-
  weather's kinds: the map of closures.
-/
import Derived.Test.YtofjhkjahpdkiaaDoorProg
import Derived.Test.YtofjhkjahpdkiaaDoorWWords
import Derived.Below
import Derived.WalkKit
import Derived.OwnWalk
import Derived.Tactics
import Derived.WalkMore
import Derived.KernelRfl
import Derived.MapKept
import Derived.Lib.Hide
namespace Go.Proofs.YtofjhkjahpdkiaaDoor.We
open Go.RowKit Go.MapKept Go.Proofs.YtofjhkjahpdkiaaDoorW.PrintWords
set_option linter.unusedVariables false
set_option linter.unusedSimpArgs false
theorem bel_new {B : Nat} {a w : World} (h : Below B a w) (o : Obj) (hB : B ≤ a.heap.size) : Below B a (w.alloc o) := h.alloc (Nat.le_trans hB h.size) o
def putMap (w : World) (b : Nat) (es : Array MapEntry) (clock : Nat) : World := { w with heap := w.heap.setIfInBounds b (.map es clock) }
theorem putMap_at {w : World} {b : Nat} {es es' : Array MapEntry} {c c' : Nat} (hb : w.heap[b]? = some (.map es c)) : (putMap w b es' c').heap[b]? = some (.map es' c') := (heap_set hb).1
theorem upd_new {w : World} {b : Nat} {es : Array MapEntry} {clock : Nat} {k : Int} {v : Value} (hb : w.heap[b]? = some (.map es clock)) (hks : ∀ x ∈ es.toList, ∃ n, x.key = .int .i64 n ∧ n ≠ k) :
    Sem.run Tryd.prog (Instr.mapUpdate 60 (.map (some b)) (.int .i64 k) v) w = .ok () (putMap w b (es.push ⟨.int .i64 k, v, clock⟩) (clock + 1)) := by
  have hm : Tryd.prog.underlying 60 = some (.map 3 65) := Tryd.underlying60
  have hd := Tryd.underlying3
  have hk : IsKey (.int .i64) (.int .i64 k) := rfl
  have hks' : ∀ x ∈ es.toList, IsKey (.int .i64) x.key := fun x hx => by
    obtain ⟨n, hn, _⟩ := hks x hx
    rw [hn]; rfl
  rcases findNow_spec hk es.toList 0 hks' with ⟨h1, _⟩ | ⟨j, e, h1, h2, h3⟩
  · simp [Instr.mapUpdate, run_underlying hm, Go.MapKept.run_getObj_map hb, Go.MapKept.run_checkKey hd hk, Go.MapKept.run_findKey hd h1, Go.MapKept.run_setObj_map _ hb, Result.andThen, putMap]
  · exfalso
    obtain ⟨n, hn, hne⟩ := hks e (List.mem_of_getElem? h2)
    rw [hn] at h3
    injection h3 with _ h3
    exact hne h3
def kv1 : Value := .agg #[.string ⟨#[99, 108, 111, 117, 100]⟩, .func (.func 45) #[] #[], .func (.func 46) #[] #[]]
def kv2 : Value := .agg #[.string ⟨#[115, 101, 101, 105, 110, 103]⟩, .func (.func 47) #[] #[], .func (.func 48) #[] #[]]
def kv3 : Value := .agg #[.string ⟨#[99, 108, 111, 115, 101, 100]⟩, .func (.func 49) #[] #[], .func (.func 50) #[] #[]]
def kmap : Array MapEntry := #[⟨.int .i64 1, kv1, 0⟩, ⟨.int .i64 2, kv2, 1⟩, ⟨.int .i64 3, kv3, 2⟩]
theorem below_putMap {n b : Nat} {a w : World} {es : Array MapEntry} {c : Nat} (h : Below n a w) (hb : n ≤ b) : Below n a (putMap w b es c) := by
  refine ⟨h.os, h.tape, h.output, by show a.heap.size ≤ (w.heap.setIfInBounds b _).size; rw [Array.size_setIfInBounds]; exact h.size, fun k hk => ?_⟩
  show (w.heap.setIfInBounds b _)[k]? = _
  rw [Array.getElem?_setIfInBounds_ne (by omega)]
  exact h.block k hk
set_option maxHeartbeats 4000000 in
set_option maxRecDepth 1000000 in
theorem kinds_calls (w : World) :
    Calls Tryd.prog 29 #[] w fun e w' => e = .returned (.map (some w.heap.size)) ∧ w'.heap[w.heap.size]? = some (.map kmap 3) ∧ Below w.heap.size w w' := by
  have hmm := @run_makeMap Tryd.prog
  have h0 : (w.alloc (.map #[] 0)).heap[w.heap.size]? = some (.map #[] 0) := blk_new w (.map #[] 0)
  have u1 := upd_new (k := 1) (v := kv1) h0 (by simp)
  have h1 := putMap_at (es' := #[⟨.int .i64 1, kv1, 0⟩]) (c' := 1) h0
  have u2 := upd_new (k := 2) (v := kv2) h1 (by simp)
  have h2 := putMap_at (es' := #[⟨.int .i64 1, kv1, 0⟩, ⟨.int .i64 2, kv2, 1⟩]) (c' := 2) h1
  have u3 := upd_new (k := 3) (v := kv3) h2 (by simp)
  have h3 := putMap_at (es' := kmap) (c' := 3) h2
  have H3 := Lib.hid h3
  unfold kv1 at u1 u2 u3
  unfold kv2 at u2 u3
  unfold kv3 at u3
  clear h0 h1 h2 h3
  go_enter Tryd.func29, Tryd.ntmps29
  go_wp2_with fail
  go_ret
  exact ⟨rfl, H3.out, below_putMap (below_putMap (below_putMap (bel_new (Below.refl _ _) _ (Nat.le_refl _)) (Nat.le_refl _)) (Nat.le_refl _)) (Nat.le_refl _)⟩
end Go.Proofs.YtofjhkjahpdkiaaDoor.We
