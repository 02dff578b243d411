/-
  weather's Parse in plain words; the range over the map of kinds.
-/
import Derived.Test.YtofjhkjahpdkiaaDoorWeF
import Derived.Test.YtofjhkjahpdkiaaDoorWeD
import Derived.Laws.IdiomRangeMap
namespace Go.Proofs.YtofjhkjahpdkiaaDoor.We
open Go.RowKit Go.MapKept Go.Proofs.YtofjhkjahpdkiaaDoorW.PrintWords Go.Proofs.YtofjhkjahpdkiaaDoor.Px
set_option linter.unusedVariables false
set_option linter.unusedSimpArgs false
abbrev SSp := S32
abbrev kSp := k32
def bCloud : ByteArray := ⟨#[99, 108, 111, 117, 100]⟩
def bSeeing : ByteArray := ⟨#[115, 101, 101, 105, 110, 103]⟩
def bClosed : ByteArray := ⟨#[99, 108, 111, 115, 101, 100]⟩
def bFrom : ByteArray := ⟨#[102, 114, 111, 109]⟩
def bUntil : ByteArray := ⟨#[117, 110, 116, 105, 108]⟩
def bSemi : ByteArray := ⟨#[59]⟩
def kindOf (w : ByteArray) : Int := if w = bCloud then 1 else if w = bSeeing then 2 else if w = bClosed then 3 else 0
def pNums (len k : Int) (l : List STok) : Except Fail (Int × Int × List STok) :=
  if k = 1 then
    match pNext len 2 l with
    | .error x => .error x
    | .ok (a, l1) =>
      match pNext len 2 l1 with
      | .error x => .error x
      | .ok (b, l2) => .ok (a.f2, b.f2, l2)
  else if k = 2 then
    match pNext len 2 l with
    | .error x => .error x
    | .ok (a, l1) => .ok (0, a.f2, l1)
  else .ok (0, 0, l)
def pTail (len k q n : Int) (l : List STok) : Except Fail (SSp × Int × List STok) :=
  match pMust len 1 bFrom l with
  | .error x => .error x
  | .ok (_, l1) =>
  match pNext len 2 l1 with
  | .error x => .error x
  | .ok (f, l2) =>
  match pMust len 1 bUntil l2 with
  | .error x => .error x
  | .ok (_, l3) =>
  match pNext len 2 l3 with
  | .error x => .error x
  | .ok (u, l4) =>
  match pMust len 4 bSemi l4 with
  | .error x => .error x
  | .ok (e, l5) => if formB k q n f.f2 u.f2 = true then .ok (⟨k, q, n, f.f2, u.f2⟩, e, l5) else .error (9, e)
def pOne (len : Int) (l : List STok) : Except Fail (SSp × Int × List STok) :=
  match pNext len 1 l with
  | .error x => .error x
  | .ok (wd, l1) =>
  if kindOf wd.f1 = 0 then .error (5, wd.f3) else
  match pNums len (kindOf wd.f1) l1 with
  | .error x => .error x
  | .ok (q, n, l2) => pTail len (kindOf wd.f1) q n l2
def pAll : Nat → Int → List STok → List SSp → Except Fail (List SSp)
  | 0, _, _, xs => .ok xs
  | _ + 1, _, [], xs => .ok xs
  | fuel + 1, len, t :: l, xs =>
    match pOne len (t :: l) with
    | .error x => .error x
    | .ok (s, e, r) => if xs.length = 200 then .error (2, e) else pAll fuel len r (xs ++ [s])
def parseP (text : ByteArray) : List SSp × Int × Int :=
  if (lexP text).2.1 = 0 then
    match pAll ((lexP text).1.length + 1) text.size (lexP text).1 [] with
    | .ok xs => (xs, 0, 0)
    | .error (e, p) => ([], e, p)
  else ([], (lexP text).2.1, (lexP text).2.2)
theorem pNext_lt {len k : Int} {l : List STok} {t : STok} {r : List STok} (h : pNext len k l = .ok (t, r)) : r.length < l.length := by
  cases l with
  | nil => cases h
  | cons t' l =>
    rw [pNext] at h
    split at h
    · injection h with h; injection h with h1 h2; subst h2; simp
    · cases h
theorem pMust_lt {len k : Int} {s : ByteArray} {l : List STok} {q : Int} {r : List STok} (h : pMust len k s l = .ok (q, r)) : r.length < l.length := by
  unfold pMust at h
  split at h
  · cases h
  · rename_i t r' hn
    split at h
    · injection h with h; injection h with h1 h2; subst h2; exact pNext_lt hn
    · cases h
theorem pNums_le {len k : Int} {l : List STok} {q n : Int} {r : List STok} (h : pNums len k l = .ok (q, n, r)) : r.length ≤ l.length := by
  unfold pNums at h
  split at h
  · split at h
    · cases h
    · rename_i hn
      split at h
      · cases h
      · rename_i hn2
        injection h with h; injection h with h1 h2; injection h2 with h2 h3; subst h3
        have := pNext_lt hn; have := pNext_lt hn2; omega
  · split at h
    · split at h
      · cases h
      · rename_i hn
        injection h with h; injection h with h1 h2; injection h2 with h2 h3; subst h3
        have := pNext_lt hn; omega
    · injection h with h; injection h with h1 h2; injection h2 with h2 h3; subst h3; exact Nat.le_refl _
theorem pTail_lt {len k q n : Int} {l : List STok} {s : SSp} {e : Int} {r : List STok} (h : pTail len k q n l = .ok (s, e, r)) : r.length < l.length := by
  unfold pTail at h
  split at h
  · cases h
  · rename_i h1
    split at h
    · cases h
    · rename_i h2
      split at h
      · cases h
      · rename_i h3
        split at h
        · cases h
        · rename_i h4
          split at h
          · cases h
          · rename_i h5
            split at h
            · injection h with h; injection h with _ h; injection h with _ h; subst h
              have := pMust_lt h1; have := pNext_lt h2; have := pMust_lt h3; have := pNext_lt h4; have := pMust_lt h5; omega
            · cases h
theorem pOne_lt {len : Int} {l : List STok} {s : SSp} {e : Int} {r : List STok} (h : pOne len l = .ok (s, e, r)) : r.length < l.length := by
  unfold pOne at h
  split at h
  · cases h
  · rename_i h1
    split at h
    · cases h
    · split at h
      · cases h
      · rename_i h2
        have := pNext_lt h1; have := pNums_le h2; have := pTail_lt h; omega
theorem pAll_fuel (len : Int) (m : Nat) : ∀ (f1 f2 : Nat) (l : List STok) (xs : List SSp), l.length < m → l.length < f1 → l.length < f2 → pAll f1 len l xs = pAll f2 len l xs := by
  induction m with
  | zero => intro f1 f2 l xs h; omega
  | succ m ih =>
    intro f1 f2 l xs h h1 h2
    cases f1 with
    | zero => omega
    | succ f1 =>
      cases f2 with
      | zero => omega
      | succ f2 =>
        cases l with
        | nil => rfl
        | cons t l =>
          simp only [pAll]
          cases ho : pOne len (t :: l) with
          | error x => rfl
          | ok p =>
            obtain ⟨s, e, r⟩ := p
            have := pOne_lt ho
            simp only
            split
            · rfl
            · exact ih f1 f2 r _ (by omega) (by omega) (by omega)
theorem pAll_step {len : Int} {t : STok} {l : List STok} {xs : List SSp} {s : SSp} {e : Int} {r : List STok} (h : pOne len (t :: l) = .ok (s, e, r)) (hx : ¬ xs.length = 200) : pAll ((t :: l).length + 1) len (t :: l) xs = pAll (r.length + 1) len r (xs ++ [s]) := by
  have := pOne_lt h
  rw [pAll, h]
  simp only
  rw [if_neg hx]
  exact pAll_fuel len (r.length + 1) _ _ _ _ (by omega) (by simp only [List.length_cons] at this ⊢; omega) (by omega)
theorem pAll_err {len : Int} {t : STok} {l : List STok} {xs : List SSp} {x : Fail} (h : pOne len (t :: l) = .error x) : pAll ((t :: l).length + 1) len (t :: l) xs = .error x := by
  rw [pAll, h]
theorem pAll_many {len : Int} {t : STok} {l : List STok} {xs : List SSp} {s : SSp} {e : Int} {r : List STok} (h : pOne len (t :: l) = .ok (s, e, r)) (hx : xs.length = 200) : pAll ((t :: l).length + 1) len (t :: l) xs = .error (2, e) := by
  rw [pAll, h]
  simp only
  rw [if_pos hx]
/-! ### the range over the kinds -/
def putIter (w : World) (r b : Nat) (seen : Array Nat) : World := { w with heap := w.heap.setIfInBounds r (.mapIter (some b) 3 seen 3) }
theorem putIter_at {w : World} {r b : Nat} {seen : Array Nat} (h : r < w.heap.size) : (putIter w r b seen).heap[r]? = some (.mapIter (some b) 3 seen 3) := by
  show (w.heap.setIfInBounds r _)[r]? = _
  rw [Array.getElem?_setIfInBounds_self_of_lt h]
theorem putIter_ne {w : World} {r b k : Nat} {seen : Array Nat} (h : k ≠ r) : (putIter w r b seen).heap[k]? = w.heap[k]? := by
  show (w.heap.setIfInBounds r _)[k]? = _
  rw [Array.getElem?_setIfInBounds_ne (by omega)]
theorem putIter_size {w : World} {r b : Nat} {seen : Array Nat} : (putIter w r b seen).heap.size = w.heap.size := by
  show (w.heap.setIfInBounds r _).size = _
  rw [Array.size_setIfInBounds]
theorem below_putIter {n r b : Nat} {a w : World} {seen : Array Nat} (h : Below n a w) (hr : n ≤ r) : Below n a (putIter w r b seen) :=
  ⟨h.os, h.tape, h.output, by rw [putIter_size]; exact h.size, fun k hk => (putIter_ne (by omega)).trans (h.block k hk)⟩
theorem next_kinds {w : World} {r b : Nat} {seen : Array Nat} (hr : w.heap[r]? = some (.mapIter (some b) 3 seen 3)) (hb : w.heap[b]? = some (.map kmap 3)) (ty : TypeId) :
    ((∀ x ∈ kmap.toList, seen.contains x.born = true) ∧ Sem.run Tryd.prog (Instr.next (.pointer (some ⟨r, 0, none⟩)) false ty) w = .ok (.tuple #[.bool false]) w) ∨
    ∃ e ∈ kmap.toList, seen.contains e.born = false ∧ ∃ w1 : World, (w1 = w ∨ w1 = w.drew) ∧ Sem.run Tryd.prog (Instr.next (.pointer (some ⟨r, 0, none⟩)) false ty) w = .ok (.tuple #[.bool true, e.key, e.val]) (putIter w1 r b (seen.push e.born)) := by
  have hold : ∀ x ∈ kmap.toList, x.born < 3 := by
    intro x hx
    have : x = ⟨.int .i64 1, kv1, 0⟩ ∨ x = ⟨.int .i64 2, kv2, 1⟩ ∨ x = ⟨.int .i64 3, kv3, 2⟩ := by simpa [kmap] using hx
    rcases this with rfl | rfl | rfl <;> simp
  simp only [Instr.next, getObj, Sem.run_bind, Sem.run, hr, hb, Result.andThen, next_test_false seen kmap 3 3 hold (Nat.le_refl _), Bool.false_eq_true, if_false]
  have hmem : ∀ x ∈ (Array.filter (fun e => !seen.contains e.born) kmap).toList, x.born < 3 := fun x hx => hold x (by simp at hx ⊢; exact hx.1)
  have hmm : ∀ x ∈ (leftOf kmap seen).toList, x ∈ kmap.toList ∧ seen.contains x.born = false := fun x hx => mem_left hx
  have hall : (leftOf kmap seen).size = 0 → ∀ x ∈ kmap.toList, seen.contains x.born = true := all_seen kmap seen
  unfold leftOf at hmm hall
  generalize Array.filter (fun e => !seen.contains e.born) kmap = L at hmem hmm hall ⊢
  have e1 : L.filter (fun x => decide (x.born < 3)) = L := Array.filter_eq_self.2 (fun x hx => by simpa using hmem x (by simpa using hx))
  have e2 : L.filter (fun x => decide (x.born ≥ 3)) = #[] := by
    rw [Array.filter_eq_empty_iff]
    intro x hx
    have := hmem x (by simpa using hx)
    simp
    omega
  simp only [e1, e2, Array.append_empty]
  by_cases h0 : L.size = 0
  · left
    refine ⟨hall h0, ?_⟩
    have : L = #[] := Array.eq_empty_of_size_eq_zero h0
    subst this
    simp [choose, Sem.run, Question.forced]
  · right
    have hne : L.isEmpty = false := by simp [Array.isEmpty, h0]
    simp only [hne, Bool.false_eq_true, if_false, Array.empty_append, Array.size_map]
    have hch : ∃ (j : Nat) (w1 : World), j < L.size ∧ (w1 = w ∨ w1 = w.drew) ∧ (choose (Question.mapNext L.size)).run Tryd.prog w = .ok j w1 := by
      by_cases hf : L.size ≤ 1
      · exact ⟨0, w, by omega, .inl rfl, by simp [choose, Sem.run, Question.forced, hf]⟩
      · exact ⟨_, w.drew, Nat.mod_lt _ (by omega), .inr rfl, by
          simp only [choose, Sem.run, Question.forced, decide_eq_true_eq, hf, if_false, Question.cut]
          rfl⟩
    obtain ⟨j, w1, hj, hal, hrun⟩ := hch
    have hm := hmm L[j] (by simp)
    refine ⟨L[j], hm.1, hm.2, w1, hal, ?_⟩
    have hr1 : w1.heap[r]? = some (.mapIter (some b) 3 seen 3) := by rcases hal with rfl | rfl <;> exact hr
    have hset : ∀ (o' : Obj), (setObj r o').run Tryd.prog w1 = .ok () { w1 with heap := w1.heap.setIfInBounds r o' } := fun o' => by
      simp only [setObj, Sem.run, hr1]
    simp only [hrun, Array.getElem?_map, Array.getElem?_eq_getElem hj, Option.map_some, Sem.run_bind, hset, Result.andThen]
    rfl
theorem entry_kinds {w : World} {r b : Nat} {seen : Array Nat} {e : MapEntry} (hr : w.heap[r]? = some (.mapIter (some b) 3 (seen.push e.born) 3)) (hb : w.heap[b]? = some (.map kmap 3)) (he : e ∈ kmap.toList) :
    Sem.run Tryd.prog (Instr.entry (.pointer (some ⟨r, 0, none⟩))) w = .ok (.tuple #[e.key, e.val]) w := by
  have hf : kmap.find? (·.born == e.born) = some e := by rw [← Array.find?_toList]; exact find_born e kmap.toList (by decide) he
  simp only [Instr.entry, getObj, Sem.run_bind, Sem.run, hr, hb, Result.andThen, Array.back?_push, bne_self_eq_false, Bool.false_eq_true, if_false, hf]
  rfl
end Go.Proofs.YtofjhkjahpdkiaaDoor.We
