/-
  weather's Parse: plain words, what is kept, the closures next and must.
-/
import Derived.Test.YtofjhkjahpdkiaaDoorWeB
import Derived.Test.YtofjhkjahpdkiaaDoorLxL
namespace Go.Proofs.YtofjhkjahpdkiaaDoor.We
open Go.RowKit Go.MapKept Go.Proofs.YtofjhkjahpdkiaaDoorW.PrintWords Go.Proofs.YtofjhkjahpdkiaaDoor.Px
set_option linter.unusedVariables false
set_option linter.unusedSimpArgs false
attribute [local go_sem] run_store_func run_store_nilFunc
abbrev Fail := Int × Int
def pNext (len k : Int) : List STok → Except Fail (STok × List STok)
  | [] => .error (6, len)
  | t :: r => if t.f0 = k then .ok (t, r) else .error (5, t.f3)
def pMust (len k : Int) (s : ByteArray) (l : List STok) : Except Fail (Int × List STok) :=
  match pNext len k l with
  | .error x => .error x
  | .ok (t, r) => if t.f1 = s then .ok (t.f3, r) else .error (5, t.f3)
/-- All blocks but one are as they were. -/
structure But (g : Nat) (w w' : World) : Prop where
  os : w'.os = w.os
  tape : w'.tape = w.tape
  output : w'.output = w.output
  size : w.heap.size ≤ w'.heap.size
  block : ∀ k, k < w.heap.size → k ≠ g → w'.heap[k]? = w.heap[k]?
theorem But.refl (g : Nat) (w : World) : But g w w := ⟨rfl, rfl, rfl, Nat.le_refl _, fun _ _ _ => rfl⟩
theorem But.trans {g : Nat} {a b c : World} (h : But g a b) (k : But g b c) : But g a c :=
  ⟨k.os.trans h.os, k.tape.trans h.tape, k.output.trans h.output, Nat.le_trans h.size k.size, fun i hi hg => (k.block i (Nat.lt_of_lt_of_le hi h.size) hg).trans (h.block i hi hg)⟩
theorem But.of {g : Nat} {a b : World} (h : Below a.heap.size a b) : But g a b := ⟨h.os, h.tape, h.output, h.size, fun k hk _ => h.block k hk⟩
theorem But.below {g : Nat} {a b c : World} (h : But g a b) (k : Below b.heap.size b c) : But g a c := h.trans (.of k)
theorem But.toBelow {g B : Nat} {a b : World} (h : But g a b) (hB : B ≤ g) (hs : B ≤ a.heap.size) : Below B a b := ⟨h.os, h.tape, h.output, h.size, fun k hk => h.block k (Nat.lt_of_lt_of_le hk hs) (by omega)⟩
theorem But.setNew {g : Nat} {a b : World} (h : But g a b) {p : Addr} (hp : a.heap.size ≤ p.block) (u : Value) : But g a (b.setCell p u) :=
  ⟨h.os, h.tape, h.output, by rw [World.size_setCell]; exact h.size, fun k hk hg => (Below.heap_setCell b p u k (by omega)).trans (h.block k hk hg)⟩
theorem But.setAt {g : Nat} {a b : World} (h : But g a b) (j : Nat) (u : Value) : But g a (b.setCell ⟨g, j, none⟩ u) :=
  ⟨h.os, h.tape, h.output, by rw [World.size_setCell]; exact h.size, fun k hk hg => (Below.heap_setCell b _ u k hg).trans (h.block k hk hg)⟩
theorem But.alloc {g : Nat} {a b : World} (h : But g a b) (o : Obj) : But g a (b.alloc o) := h.below (bel_new (Below.refl _ _) o (Nat.le_refl _))
theorem But.drew {g : Nat} {a b : World} (h : But g a b) : But g a b.drew := ⟨h.os, h.tape, h.output, h.size, h.block⟩
theorem C_move {w w' : World} {A : Option Addr} {n : Nat} {l : List STok} (h : Kd.C kTok w A n l) (hm : ∀ ad, A = some ad → w'.heap[ad.block]? = w.heap[ad.block]?) : Kd.C kTok w' A n l :=
  ⟨h.1, h.2.1, fun hn => by
    obtain ⟨ad, e, hc⟩ := h.2.2 hn
    refine ⟨ad, e, fun j p hj => ?_⟩
    obtain ⟨c, hs, hr, hcell⟩ := hc j p hj
    refine ⟨c, hs, ?_, fun i u hu => (World.cell?_of_block (a := ad.add (j * kTok.sz + i)) ?_).trans (hcell i u hu)⟩
    · rw [k50_open hr]; exact k50_mk w' p
    · have : (ad.add (j * kTok.sz + i)).block = ad.block := by unfold Addr.add; split <;> rfl
      rw [this]; exact hm ad e⟩
/-- The tokens that are left, in the cell of block g; their row lies in blocks from lo to g. -/
def Tk (lo g : Nat) (w : World) (l : List STok) : Prop :=
  lo ≤ g ∧ ∃ (A : Option Addr) (c : Nat), w.heap[g]? = some (.cells #[.slice A l.length c] 46 (0, 0)) ∧ l.length ≤ c ∧ Kd.C kTok w A l.length l ∧ ∀ ad, A = some ad → lo ≤ ad.block ∧ ad.block < g
theorem Tk.lt {lo g : Nat} {w : World} {l : List STok} (h : Tk lo g w l) : g < w.heap.size := by
  obtain ⟨_, A, c, h1, _⟩ := h
  exact blk_lt h1
theorem Tk.move {lo g : Nat} {w w' : World} {l : List STok} (h : Tk lo g w l) (hm : ∀ k, lo ≤ k → k ≤ g → w'.heap[k]? = w.heap[k]?) : Tk lo g w' l := by
  obtain ⟨h0, A, c, h1, h2, h3, h4⟩ := h
  exact ⟨h0, A, c, (hm g h0 (Nat.le_refl _)).trans h1, h2, C_move h3 (fun ad e => hm _ (h4 ad e).1 (Nat.le_of_lt (h4 ad e).2)), h4⟩
theorem Tk.below {lo g : Nat} {w w' : World} {l : List STok} (h : Tk lo g w l) (hb : Below w.heap.size w w') : Tk lo g w' l := h.move (fun k _ hk => hb.block k (by have := h.lt; omega))
theorem Tk.setNew {lo g : Nat} {w : World} {l : List STok} (h : Tk lo g w l) {p : Addr} (hp : g < p.block) (u : Value) : Tk lo g (w.setCell p u) l := h.move (fun k _ hk => Below.heap_setCell w p u k (by omega))
def failV (e at_ : Int) : List PanicEntry := [{ v := .iface 56 (.agg #[.int .i64 e, .int .i64 at_]), recovered := false }]
def zTok : Obj := .cells #[.int .i64 0, .string ⟨#[]⟩, .int .i64 0, .int .i64 0] 50
set_option maxHeartbeats 4000000 in
set_option maxRecDepth 1000000 in
theorem next_end (lo b5 b1 : Nat) (k : Int) (txt : ByteArray) (w : World) (hT : Tk lo b5 w []) (h1 : w.heap[b1]? = some (.cells #[.string txt] 9 (0, 0))) :
    Calls Tryd.prog 27 #[.int .i64 k, .pointer (some ⟨b5, 0, none⟩), .pointer (some ⟨b1, 0, none⟩)] w fun e w' => e = .panicked (failV 6 txt.size) ∧ Below w.heap.size w w' := by
  obtain ⟨h0, A, c, h2, h3, h4, h5⟩ := hT
  have h2' := Lib.hid h2
  have h1' := Lib.hid h1
  clear h0 h2 h3 h4 h5 h1
  go_enter Tryd.func27, Tryd.ntmps27
  go_upto_region 1 with (fail)
  have hb : Below w.heap.size w (w.alloc zTok) := bel_new (Below.refl _ _) _ (Nat.le_refl _)
  have c5 : (w.alloc zTok).cell? ⟨b5, 0, none⟩ = some (.slice A 0 c) := (blk_cell (blk_alloc h2'.out _) 0).trans rfl
  have c1 : (w.alloc zTok).cell? ⟨b1, 0, none⟩ = some (.string txt) := (blk_cell (blk_alloc h1'.out _) 0).trans rfl
  unfold zTok at *
  generalize w.alloc _ = w0 at *
  have HB := Lib.hid hb
  clear hb
  go_wp2_with fail
  exact ⟨rfl, rfl, HB.out⟩
theorem C_head {w : World} {A : Option Addr} {t : STok} {l : List STok} (h : Kd.C kTok w A (t :: l).length (t :: l)) : ∃ ad, A = some ad ∧ w.cell? ad = some (.int .i64 t.f0) ∧ w.cell? ⟨ad.block, ad.off + 1, none⟩ = some (.string t.f1) ∧ w.cell? ⟨ad.block, ad.off + 2, none⟩ = some (.int .i64 t.f2) ∧ w.cell? ⟨ad.block, ad.off + 3, none⟩ = some (.int .i64 t.f3) := by
  obtain ⟨ad, e, h1, h2, h3, h4⟩ := at_T50 h 0 (by omega) (by simp)
  have e0 : rd_T50 (t :: l) 0 = t := rfl
  rw [e0] at h1 h2 h3 h4
  exact ⟨ad, e, h1, h2, h3, h4⟩
set_option maxHeartbeats 4000000 in
set_option maxRecDepth 1000000 in
theorem next_bad (lo b5 b1 : Nat) (k : Int) (t : STok) (l : List STok) (hk : t.f0 ≠ k) (w : World) (hT : Tk lo b5 w (t :: l)) :
    Calls Tryd.prog 27 #[.int .i64 k, .pointer (some ⟨b5, 0, none⟩), .pointer (some ⟨b1, 0, none⟩)] w fun e w' => e = .panicked (failV 5 t.f3) ∧ Below w.heap.size w w' := by
  obtain ⟨h0, A, c, h2, h3, h4, h5⟩ := hT
  have h2' := Lib.hid h2
  have hn : ((t.f0 : Int) != k) = true := bne_iff_ne.2 hk
  have hl : ((((t :: l).length : Nat) : Int) == 0) = false := beq_eq_false_iff_ne.2 (by simp only [List.length_cons]; omega)
  have hp : 0 ≤ (0 : Int) ∧ (0 : Int) < (((t :: l).length : Nat) : Int) := ⟨by omega, by simp only [List.length_cons]; omega⟩
  obtain ⟨ad, rfl, d0, d1, d2, d3⟩ := C_head h4
  have D0 := Lib.hid d0
  have D1 := Lib.hid d1
  have D2 := Lib.hid d2
  have D3 := Lib.hid d3
  generalize (t :: l).length = n at *
  clear h0 h2 h3 h4 h5 hk d0 d1 d2 d3
  go_enter Tryd.func27, Tryd.ntmps27
  go_upto_region 1 with (fail)
  have hb : Below w.heap.size w (w.alloc zTok) := bel_new (Below.refl _ _) _ (Nat.le_refl _)
  have c5 : (w.alloc zTok).cell? ⟨b5, 0, none⟩ = some (.slice (some ad) n c) := (blk_cell (blk_alloc h2'.out _) 0).trans rfl
  have d0 := cell_bel D0.out hb
  have d1 := cell_bel D1.out hb
  have d2 := cell_bel D2.out hb
  have d3 := cell_bel D3.out hb
  unfold zTok at *
  generalize w.alloc _ = w0 at *
  have HB := Lib.hid hb
  clear hb
  go_wp2_with fail
  exact ⟨rfl, rfl, bel_new HB.out _ (Nat.le_refl _)⟩
theorem results_c1 {P : Program} {fn : Func} {p : Tmp} {ty : TypeId} (h : fn.results = #[.cell p ty]) (tmps : Array Value) (w : World) (g : Nat) (t : TypeId) (cs : Array Value) (fr : Nat × Nat) (d : TypeDesc)
    (hp : tmps.getD p undef = .pointer (some ⟨g, 0, none⟩)) (hg : w.heap[g]? = some (.cells cs t fr))
    (hu : P.underlying ty = some d) (hd : (match d with | .struct _ | .array _ _ => true | _ => false) = true) (hi : (P.info? ty).map (·.size) = some cs.size) :
    (results fn tmps).run P w = .ok (.agg cs) w := by
  have hp' : tmps[p]?.getD undef = .pointer (some ⟨g, 0, none⟩) := by simpa using hp
  simp [results, h, hp', asAddr, run_loadVar_row w g t ty cs fr d hg hu hd hi]
theorem Tk.put {lo g : Nat} {w : World} {l : List STok} (A' : Option Addr) (c' : Nat) (hlo : lo ≤ g) {u : Value} (hu : w.heap[g]? = some (.cells #[u] 46 (0, 0))) (hl : l.length ≤ c') (hC : Kd.C kTok w A' l.length l) (hA : ∀ ad, A' = some ad → lo ≤ ad.block ∧ ad.block < g) :
    Tk lo g (w.setCell ⟨g, 0, none⟩ (.slice A' l.length c')) l :=
  ⟨hlo, A', c', (blk_set hu 0 _).trans rfl, hl, C_move hC (fun ad e => Below.heap_setCell w _ _ _ (Nat.ne_of_lt (hA ad e).2)), hA⟩
set_option maxHeartbeats 4000000 in
set_option maxRecDepth 1000000 in
theorem next_ok (lo b5 b1 : Nat) (t : STok) (l : List STok) (w : World) (hT : Tk lo b5 w (t :: l)) :
    Calls Tryd.prog 27 #[.int .i64 t.f0, .pointer (some ⟨b5, 0, none⟩), .pointer (some ⟨b1, 0, none⟩)] w fun e w' => e = .returned (.agg #[.int .i64 t.f0, .string t.f1, .int .i64 t.f2, .int .i64 t.f3]) ∧ But b5 w w' ∧ Tk lo b5 w' l := by
  have hT' := Lib.hid hT
  obtain ⟨h0, A, c, h2, h3, h4, h5⟩ := hT
  have h2' := Lib.hid h2
  have hn : ((t.f0 : Int) != t.f0) = false := by simp
  have hl : ((((t :: l).length : Nat) : Int) == 0) = false := beq_eq_false_iff_ne.2 (by simp only [List.length_cons]; omega)
  have hp : 0 ≤ (0 : Int) ∧ (0 : Int) < (((t :: l).length : Nat) : Int) := ⟨by omega, by simp only [List.length_cons]; omega⟩
  obtain ⟨ad, rfl, d0, d1, d2, d3⟩ := C_head h4
  have D0 := Lib.hid d0
  have D1 := Lib.hid d1
  have D2 := Lib.hid d2
  have D3 := Lib.hid d3
  have H3 := Lib.hid h3
  have H4 := Lib.hid h4
  have H5 := Lib.hid h5
  have hN : (t :: l).length = l.length + 1 := rfl
  have HN := Lib.hid hN
  generalize (t :: l).length = n at *
  clear h0 h2 h3 h4 h5 d0 d1 d2 d3 hN
  go_enter Tryd.func27, Tryd.ntmps27
  go_upto_region 1 with (fail)
  have hb : Below w.heap.size w (w.alloc zTok) := bel_new (Below.refl _ _) _ (Nat.le_refl _)
  have c5 : (w.alloc zTok).cell? ⟨b5, 0, none⟩ = some (.slice (some ad) n c) := (blk_cell (blk_alloc h2'.out _) 0).trans rfl
  have n4 := Lib.hid (blk_new w zTok)
  have d0 := cell_bel D0.out hb
  have d1 := cell_bel D1.out hb
  have d2 := cell_bel D2.out hb
  have d3 := cell_bel D3.out hb
  unfold zTok at *
  generalize w.alloc _ = w0 at *
  have HB := Lib.hid hb
  clear hb
  go_upto_region 4 with (fail)
  have n5 := Lib.hid (blk_new w0 (.cells #[.int .i64 t.f0, .string t.f1, .int .i64 t.f2, .int .i64 t.f3] 50))
  have hb2 := bel_new (Below.refl w0.heap.size _) (.cells #[.int .i64 t.f0, .string t.f1, .int .i64 t.f2, .int .i64 t.f3] 50) (Nat.le_refl _)
  have c5 := cell_bel c5 hb2
  have hj := blk_lt n4.out
  have hbw := HB.out.size
  have B2 := Lib.hid (HB.out.trans (hb2.mono hbw))
  have n4 := Lib.hid (blk_alloc n4.out (.cells #[.int .i64 t.f0, .string t.f1, .int .i64 t.f2, .int .i64 t.f3] 50))
  have n2 := Lib.hid (B2.out.block _ (blk_lt h2'.out))
  generalize w0.alloc _ = w2 at *
  have c50 : w2.cell? ⟨w0.heap.size, 0, none⟩ = some (.int .i64 t.f0) := (blk_cell n5.out 0).trans rfl
  have c51 : w2.cell? ⟨w0.heap.size, 1, none⟩ = some (.string t.f1) := (blk_cell n5.out 1).trans rfl
  have c52 : w2.cell? ⟨w0.heap.size, 2, none⟩ = some (.int .i64 t.f2) := (blk_cell n5.out 2).trans rfl
  have c53 : w2.cell? ⟨w0.heap.size, 3, none⟩ = some (.int .i64 t.f3) := (blk_cell n5.out 3).trans rfl
  clear d0 d1 d2 d3 hb2
  generalize w0.heap.size = j5 at *
  have f5 : w2.frozen? ⟨b5, 0, none⟩ = false := blk_frozen (n2.out.trans h2'.out) 0
  have hsl := cut_from (P := Tryd.prog) 46 50 .i64 Tryd.underlying46 (i := (Tryd.prog.info? 50).getD default) (by kernel_rfl) 4 (by kernel_rfl) (some ad) n c 1 (by omega) (by rw [HN.out]; omega)
  have hjj : w.heap.size < j5 := by omega
  go_upto_region 7 with (fail)
  have hn1 : n - 1 = l.length := by have := HN.out; omega
  have hc1 : l.length ≤ c - 1 := by have := H3.out; have := HN.out; omega
  rw [hn1]
  have hC0 : Kd.C kTok w (if c = 1 then some ad else some ⟨ad.block, ad.off + 4, none⟩) l.length l := Kd.C_drop (k := kTok) (m := 1) (c := c) (by have := H4.out; rw [HN.out] at this; exact this) (by simp) (by have := H3.out; rw [HN.out] at this; exact this)
  have hA0 : ∀ x, (if c = 1 then some ad else some ⟨ad.block, ad.off + 4, none⟩) = some x → lo ≤ x.block ∧ x.block < b5 := by
    intro x hx
    have h5 := H5.out ad rfl
    split at hx
    · injection hx with hx; subst hx; exact h5
    · injection hx with hx; subst hx; exact h5
  generalize (if c = 1 then some ad else some ⟨ad.block, ad.off + 4, none⟩) = A' at *
  have hgb := blk_lt h2'.out
  have n4 := Lib.hid (blk_far n4.out (p := ⟨b5, 0, none⟩) (Nat.ne_of_gt hgb) (.slice A' l.length (c - 1)))
  have n5 := Lib.hid (blk_far n5.out (p := ⟨b5, 0, none⟩) (Nat.ne_of_gt (Nat.lt_trans hgb hjj)) (.slice A' l.length (c - 1)))
  have hB3 : But b5 w (w2.setCell ⟨b5, 0, none⟩ (.slice A' l.length (c - 1))) := (But.of B2.out).setAt 0 _
  have hT3 : Tk lo b5 (w2.setCell ⟨b5, 0, none⟩ (.slice A' l.length (c - 1))) l := Tk.put A' (c - 1) hT'.out.1 (n2.out.trans h2'.out) hc1 (C_move hC0 (fun x e => B2.out.block _ (Nat.lt_trans (hA0 x e).2 hgb))) hA0
  generalize w2.setCell ⟨b5, 0, none⟩ _ = w3 at *
  have HB3 := Lib.hid hB3
  have HT3 := Lib.hid hT3
  have HG := Lib.hid hgb
  clear hB3 hT3 hC0 hA0 hl hp hn hsl hn1 hc1 c50 c51 c52 c53 f5 hbw
  have c50 : w3.cell? ⟨j5, 0, none⟩ = some (.int .i64 t.f0) := (blk_cell n5.out 0).trans rfl
  have c51 : w3.cell? ⟨j5, 1, none⟩ = some (.string t.f1) := (blk_cell n5.out 1).trans rfl
  have c52 : w3.cell? ⟨j5, 2, none⟩ = some (.int .i64 t.f2) := (blk_cell n5.out 2).trans rfl
  have c53 : w3.cell? ⟨j5, 3, none⟩ = some (.int .i64 t.f3) := (blk_cell n5.out 3).trans rfl
  have c40 : w3.cell? ⟨w.heap.size, 0, none⟩ = some (.int .i64 0) := (blk_cell n4.out 0).trans rfl
  have c41 : w3.cell? ⟨w.heap.size, 1, none⟩ = some (.string ⟨#[]⟩) := (blk_cell n4.out 1).trans rfl
  have c42 : w3.cell? ⟨w.heap.size, 2, none⟩ = some (.int .i64 0) := (blk_cell n4.out 2).trans rfl
  have c43 : w3.cell? ⟨w.heap.size, 3, none⟩ = some (.int .i64 0) := (blk_cell n4.out 3).trans rfl
  have f40 : w3.frozen? ⟨w.heap.size, 0, none⟩ = false := blk_frozen n4.out 0
  have f41 : w3.frozen? ⟨w.heap.size, 1, none⟩ = false := blk_frozen n4.out 1
  have f42 : w3.frozen? ⟨w.heap.size, 2, none⟩ = false := blk_frozen n4.out 2
  have f43 : w3.frozen? ⟨w.heap.size, 3, none⟩ = false := blk_frozen n4.out 3
  have HS := Lib.hid ((blk_set (blk_set (blk_set (blk_set n4.out 0 (.int .i64 t.f0)) 1 (.string t.f1)) 2 (.int .i64 t.f2)) 3 (.int .i64 t.f3)))
  go_wp2_with fail
  refine bodyPost_ret (results_c1 rfl _ _ w.heap.size 50 #[.int .i64 t.f0, .string t.f1, .int .i64 t.f2, .int .i64 t.f3] (0, 0) _ rfl HS.out Tryd.underlying50 rfl (by kernel_rfl)) rfl ⟨rfl, ?_, ?_⟩
  · exact (((HB3.out.setNew (Nat.le_refl _) _).setNew (Nat.le_refl _) _).setNew (Nat.le_refl _) _).setNew (Nat.le_refl _) _
  · exact (((HT3.out.setNew HG.out _).setNew HG.out _).setNew HG.out _).setNew HG.out _
end Go.Proofs.YtofjhkjahpdkiaaDoor.We
