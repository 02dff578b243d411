/-
  weather's Parse: what its loop keeps.
-/
import Derived.Test.YtofjhkjahpdkiaaDoorWeH
namespace Go.Proofs.YtofjhkjahpdkiaaDoor.We
open Go.RowKit Go.MapKept Go.Proofs.YtofjhkjahpdkiaaDoorW.PrintWords Go.Proofs.YtofjhkjahpdkiaaDoor.Px
set_option linter.unusedVariables false
set_option linter.unusedSimpArgs false
/-- A piece that comes to its normal end alone. -/
def PN (N : Act → World → Prop) : Exit → Act → World → Prop
  | .normal, a, w => N a w
  | _, _, _ => False
theorem PN_then {N : Act → World → Prop} {Q : Exit → Act → World → Prop} {e : Exit} {a : Act} {w : World} (h : PN N e a w) : Exit.then N Q e a w := by
  cases e <;> first | exact h | exact h.elim
/-- What the door asks: the named results' cells. -/
structure DSt (base w : World) : Prop where
  below : Below base.heap.size base w
  o : ∃ v, w.heap[base.heap.size + 1]? = some (.cells #[v] 22 (0, 0))
  e : w.heap[base.heap.size + 1 + 1]? = some (.cells #[.int .i64 0] 27 (0, 0))
  a : w.heap[base.heap.size + 1 + 1 + 1]? = some (.cells #[.int .i64 0] 3 (0, 0))
/-- What the loop keeps: tokens l are left, spells xs are read; the rows of xs lie below n. -/
structure PSt (base : World) (txt : ByteArray) (g n : Nat) (w : World) (l : List STok) (xs : List SSp) : Prop where
  below : Below base.heap.size base w
  hg : base.heap.size + 4 ≤ g
  hn : g + 2 ≤ n
  hnw : n ≤ w.heap.size
  t : w.heap[base.heap.size]? = some (.cells #[.string txt] 9 (0, 0))
  o : ∃ v, w.heap[base.heap.size + 1]? = some (.cells #[v] 22 (0, 0)) ∧ Kd.R kSp 32 w base.heap.size (fun k => g + 1 < k ∧ k < n) v xs
  e : w.heap[base.heap.size + 1 + 1]? = some (.cells #[.int .i64 0] 27 (0, 0))
  a : w.heap[base.heap.size + 1 + 1 + 1]? = some (.cells #[.int .i64 0] 3 (0, 0))
  tk : Tk (base.heap.size + 4) g w l
  nx : w.heap[g + 1]? = some (.cells #[nextV g base.heap.size] 58 (0, 0))
section
variable {base : World} {txt : ByteArray} {g n : Nat} {w w' : World} {l r : List STok} {xs : List SSp}
theorem PSt.but (h : PSt base txt g n w l xs) (hb : But g w w') (hT : Tk (base.heap.size + 4) g w' r) : PSt base txt g n w' r xs := by
  obtain ⟨h1, h2, h3, h4, h5, ⟨v, h6, h7⟩, h8, h9, h10, h11⟩ := h
  have hsz := hb.size
  have key : ∀ {k : Nat} {o : Obj}, w.heap[k]? = some o → k ≠ g → w'.heap[k]? = some o := fun hk hne => (hb.block _ (blk_lt hk) hne).trans hk
  exact ⟨h1.trans (hb.toBelow (by omega) h1.size), h2, h3, by omega, key h5 (by omega), ⟨v, key h6 (by omega), Kd.R_step h7 (fun k hk hlt => hb.block k hlt (by omega))⟩, key h8 (by omega), key h9 (by omega), hT, key h11 (by omega)⟩
theorem PSt.go (h : PSt base txt g n w l xs) (hb : Below w.heap.size w w') : PSt base txt g n w' l xs := h.but (.of hb) (h.tk.below hb)
theorem PSt.setNew (h : PSt base txt g n w l xs) {p : Addr} (hp : n ≤ p.block) (u : Value) : PSt base txt g n (w.setCell p u) l xs := by
  obtain ⟨h1, h2, h3, h4, h5, ⟨v, h6, h7⟩, h8, h9, h10, h11⟩ := h
  exact ⟨h1.setCell (by omega) _, h2, h3, by rw [World.size_setCell]; exact h4, blk_far h5 (by omega) u, ⟨v, blk_far h6 (by omega) u, Kd.R_far h7 (fun k hk => by omega) u⟩, blk_far h8 (by omega) u, blk_far h9 (by omega) u, h10.setNew (by omega) u, blk_far h11 (by omega) u⟩
/-- Another block than those that are kept has been written. -/
theorem PSt.butS {b : Nat} (h : PSt base txt g n w l xs) (hb : But b w w') (hbn : n ≤ b) : PSt base txt g n w' l xs := by
  obtain ⟨h1, h2, h3, h4, h5, ⟨v, h6, h7⟩, h8, h9, h10, h11⟩ := h
  have hsz := hb.size
  have key : ∀ {k : Nat} {o : Obj}, w.heap[k]? = some o → k < n → w'.heap[k]? = some o := fun hk hne => (hb.block _ (blk_lt hk) (by omega)).trans hk
  exact ⟨h1.trans (hb.toBelow (by omega) h1.size), h2, h3, by omega, key h5 (by omega), ⟨v, key h6 (by omega), Kd.R_step h7 (fun k hk hlt => hb.block k hlt (by omega))⟩, key h8 (by omega), key h9 (by omega), h10.move (fun k _ hk => hb.block k (by omega) (by omega)), key h11 (by omega)⟩
theorem PSt.drew (h : PSt base txt g n w l xs) : PSt base txt g n w.drew l xs := h.go (Below.refl _ _).drew
theorem PSt.door (h : PSt base txt g n w l xs) (hb : But g w w') : DSt base w' := by
  obtain ⟨h1, h2, h3, h4, h5, ⟨v, h6, h7⟩, h8, h9, h10, h11⟩ := h
  have key : ∀ {k : Nat} {o : Obj}, w.heap[k]? = some o → k ≠ g → w'.heap[k]? = some o := fun hk hne => (hb.block _ (blk_lt hk) hne).trans hk
  exact ⟨h1.trans (hb.toBelow (by omega) h1.size), ⟨v, key h6 (by omega)⟩, key h8 (by omega), key h9 (by omega)⟩
theorem PSt.door' (h : PSt base txt g n w l xs) : DSt base w := h.door (.refl _ _)
theorem DSt.alloc (h : DSt base w) (o : Obj) : DSt base (w.alloc o) := by
  obtain ⟨h1, ⟨v, h2⟩, h3, h4⟩ := h
  exact ⟨h1.alloc h1.size o, ⟨v, blk_alloc h2 o⟩, blk_alloc h3 o, blk_alloc h4 o⟩
theorem PSt.lower {m : Nat} (h : PSt base txt g n w l xs) (hm : n ≤ m) (hw : m ≤ w.heap.size) : PSt base txt g m w l xs := by
  obtain ⟨h1, h2, h3, h4, h5, ⟨v, h6, h7⟩, h8, h9, h10, h11⟩ := h
  exact ⟨h1, h2, by omega, hw, h5, ⟨v, h6, Kd.R_mono h7 (fun k hk => by omega)⟩, h8, h9, h10, h11⟩
theorem PSt.nxc (h : PSt base txt g n w l xs) : w.cell? ⟨g + 1, 0, none⟩ = some (.func (.func 27) #[] #[.pointer (some ⟨g, 0, none⟩), .pointer (some ⟨base.heap.size, 0, none⟩)]) := (blk_cell h.nx 0).trans rfl
theorem PSt.next_err (h : PSt base txt g n w l xs) (k : Int) (x : Fail) (hx : pNext txt.size k l = .error x) :
    Calls Tryd.prog 27 #[.int .i64 k, .pointer (some ⟨g, 0, none⟩), .pointer (some ⟨base.heap.size, 0, none⟩)] w fun e w' => e = .panicked (failV x.1 x.2) ∧ DSt base w' :=
  (We.next_err (base.heap.size + 4) g base.heap.size k txt l x hx w h.tk h.t).mono (fun e w' hh => ⟨hh.1, h.door hh.2⟩)
theorem PSt.next_go (h : PSt base txt g n w l xs) (k : Int) (t : STok) (r : List STok) (hx : pNext txt.size k l = .ok (t, r)) :
    Calls Tryd.prog 27 #[.int .i64 k, .pointer (some ⟨g, 0, none⟩), .pointer (some ⟨base.heap.size, 0, none⟩)] w fun e w' => e = .returned (.agg #[.int .i64 t.f0, .string t.f1, .int .i64 t.f2, .int .i64 t.f3]) ∧ But g w w' ∧ PSt base txt g n w' r xs :=
  (We.next_go (base.heap.size + 4) g base.heap.size k txt.size l t r hx w h.tk).mono (fun e w' hh => ⟨hh.1, hh.2.1, h.but hh.2.1 hh.2.2⟩)
theorem PSt.must_err (h : PSt base txt g n w l xs) (k : Int) (s : ByteArray) (x : Fail) (hx : pMust txt.size k s l = .error x) :
    Calls Tryd.prog 28 #[.int .i64 k, .string s, .pointer (some ⟨g + 1, 0, none⟩)] w fun e w' => e = .panicked (failV x.1 x.2) ∧ DSt base w' :=
  (We.must_err (base.heap.size + 4) g base.heap.size (g + 1) k s txt l x hx w h.tk h.t h.nx).mono (fun e w' hh => ⟨hh.1, h.door hh.2⟩)
theorem PSt.must_go (h : PSt base txt g n w l xs) (k : Int) (s : ByteArray) (q : Int) (r : List STok) (hx : pMust txt.size k s l = .ok (q, r)) :
    Calls Tryd.prog 28 #[.int .i64 k, .string s, .pointer (some ⟨g + 1, 0, none⟩)] w fun e w' => e = .returned (.int .i64 q) ∧ But g w w' ∧ PSt base txt g n w' r xs :=
  (We.must_go (base.heap.size + 4) g base.heap.size (g + 1) k txt.size s l q r hx w h.tk h.nx).mono (fun e w' hh => ⟨hh.1, hh.2.1, h.but hh.2.1 hh.2.2⟩)
end
theorem look_one {w : World} {b : Nat} (hb : w.heap[b]? = some (.map kmap 3)) (k : Int) (j : Nat) (v : Value) (h : Instr.findNow (.int .i64) (.int .i64 k) kmap.toList 0 = some (some (j, v))) :
    Sem.run Tryd.prog (Instr.lookup 60 (.map (some b)) (.int .i64 k) false) w = .ok v w := by
  have hm : Tryd.prog.underlying 60 = some (.map 3 65) := Tryd.underlying60
  have hd := Tryd.underlying3
  have hk : IsKey (.int .i64) (.int .i64 k) := rfl
  simp [Instr.lookup, run_underlying hm, Go.MapKept.run_getObj_map hb, Go.MapKept.run_checkKey hd hk, Go.MapKept.run_findKey hd h, Result.andThen]
theorem sp_facts {W : World} {b : Nat} {k q n f u : Int} (h : W.heap[b]? = some (.cells #[.int .i64 k, .int .i64 q, .int .i64 n, .int .i64 f, .int .i64 u] 32 (0, 0))) :
    (W.cell? ⟨b, 0, none⟩ = some (.int .i64 k) ∧ W.cell? ⟨b, 1, none⟩ = some (.int .i64 q) ∧ W.cell? ⟨b, 2, none⟩ = some (.int .i64 n) ∧ W.cell? ⟨b, 3, none⟩ = some (.int .i64 f) ∧ W.cell? ⟨b, 4, none⟩ = some (.int .i64 u)) ∧
    W.frozen? ⟨b, 0, none⟩ = false ∧ W.frozen? ⟨b, 1, none⟩ = false ∧ W.frozen? ⟨b, 2, none⟩ = false ∧ W.frozen? ⟨b, 3, none⟩ = false ∧ W.frozen? ⟨b, 4, none⟩ = false :=
  ⟨⟨(blk_cell h 0).trans rfl, (blk_cell h 1).trans rfl, (blk_cell h 2).trans rfl, (blk_cell h 3).trans rfl, (blk_cell h 4).trans rfl⟩, blk_frozen h 0, blk_frozen h 1, blk_frozen h 2, blk_frozen h 3, blk_frozen h 4⟩
theorem but_cell {g : Nat} {a b : World} (h : But g a b) {p : Addr} {v : Value} (hp : a.cell? p = some v) (hne : p.block ≠ g) : b.cell? p = some v :=
  (World.cell?_of_block (h.block p.block (World.block_lt_of_cell? a p hp) hne)).trans hp
theorem sp_flat {W : World} {b : Nat} {k q n f u : Int} (h : W.heap[b]? = some (.cells #[.int .i64 k, .int .i64 q, .int .i64 n, .int .i64 f, .int .i64 u] 32 (0, 0))) :
    W.cell? ⟨b, 0, none⟩ = some (.int .i64 k) ∧ W.cell? ⟨b, 1, none⟩ = some (.int .i64 q) ∧ W.cell? ⟨b, 2, none⟩ = some (.int .i64 n) ∧ W.cell? ⟨b, 3, none⟩ = some (.int .i64 f) ∧ W.cell? ⟨b, 4, none⟩ = some (.int .i64 u) ∧
    W.frozen? ⟨b, 0, none⟩ = false ∧ W.frozen? ⟨b, 1, none⟩ = false ∧ W.frozen? ⟨b, 2, none⟩ = false ∧ W.frozen? ⟨b, 3, none⟩ = false ∧ W.frozen? ⟨b, 4, none⟩ = false := by
  obtain ⟨⟨a0, a1, a2, a3, a4⟩, r⟩ := sp_facts h
  exact ⟨a0, a1, a2, a3, a4, r⟩
set_option maxRecDepth 1000000 in
theorem tok_f2 (a b c : Int) (s : ByteArray) (w : World) : Sem.run Tryd.prog (Instr.field 50 (.agg #[.int .i64 a, .string s, .int .i64 b, .int .i64 c]) 2) w = .ok (.int .i64 b) w := by
  unfold Instr.field
  simp [run_underlying Tryd.underlying50]
  rfl
noncomputable def pNumL : Code := match pNumC with | .seq _ c => c | _ => .skip
end Go.Proofs.YtofjhkjahpdkiaaDoor.We
