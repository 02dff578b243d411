/-
  weather's Parse: the range over the kinds, as a piece of the round. (printed by wip/gen/gen_weH.py)
-/
import Derived.Test.YtofjhkjahpdkiaaDoorWeG
namespace Go.Proofs.YtofjhkjahpdkiaaDoor.We
open Go.RowKit Go.MapKept Go.Proofs.YtofjhkjahpdkiaaDoorW.PrintWords Go.Proofs.YtofjhkjahpdkiaaDoor.Px
set_option linter.unusedVariables false
set_option linter.unusedSimpArgs false
attribute [local go_sem] run_store_func run_store_nilFunc
noncomputable def pBody : Code := match Tryd.f14.body with | some (.seq _ (.seq _ (.seq _ (.seq _ (.seq _ (.seq _ (.seq (.block _ (.loop (.seq _ (.block _ c)))) _))))))) => c | _ => .skip
noncomputable def pRng : Code := match pBody with | .seq _ (.seq _ (.seq c _)) => c | _ => .skip
noncomputable def pNumC : Code := match pBody with | .seq _ (.seq _ (.seq _ (.seq _ (.seq c _)))) => c | _ => .skip
noncomputable def pTailC : Code := match pBody with | .seq _ (.seq _ (.seq _ (.seq _ (.seq _ c)))) => c | _ => .skip
def kk (seen : Array Nat) (t : ByteArray) : Int := if (decide (kindOf t ≠ 0) && seen.contains (kindOf t - 1).toNat) = true then kindOf t else 0
theorem kindOf_range (t : ByteArray) : 0 ≤ kindOf t ∧ kindOf t ≤ 3 := by
  unfold kindOf
  split
  · omega
  · split
    · omega
    · split <;> omega
theorem kindOf_1 (t : ByteArray) : (bCloud = t) ↔ kindOf t = 1 := by
  unfold kindOf
  constructor
  · intro h; rw [if_pos h.symm]
  · intro h
    split at h
    · rename_i h1; exact h1.symm
    · split at h
      · omega
      · split at h <;> omega
theorem kindOf_2 (t : ByteArray) : (bSeeing = t) ↔ kindOf t = 2 := by
  unfold kindOf
  constructor
  · intro h; rw [if_neg (by rw [← h]; decide), if_pos h.symm]
  · intro h
    split at h
    · omega
    · split at h
      · rename_i h1; exact h1.symm
      · split at h <;> omega
theorem kindOf_3 (t : ByteArray) : (bClosed = t) ↔ kindOf t = 3 := by
  unfold kindOf
  constructor
  · intro h; rw [if_neg (by rw [← h]; decide), if_neg (by rw [← h]; decide), if_pos h.symm]
  · intro h
    split at h
    · omega
    · split at h
      · omega
      · split at h
        · rename_i h1; exact h1.symm
        · omega
theorem kk_none (t : ByteArray) : kk #[] t = 0 := by
  unfold kk
  rw [if_neg]
  simp
theorem kk_push (seen : Array Nat) (t : ByteArray) (k : Int) (h1 : 1 ≤ k) (h : kindOf t = k) : kk (seen.push (k - 1).toNat) t = k := by
  unfold kk
  rw [h, if_pos]
  rw [contains_push, beq_self_eq_true, Bool.or_true, Bool.and_true]
  exact decide_eq_true (by omega)
theorem kk_other (seen : Array Nat) (t : ByteArray) (k : Int) (h1 : 1 ≤ k) (h : ¬ kindOf t = k) : kk (seen.push (k - 1).toNat) t = kk seen t := by
  unfold kk
  rw [contains_push]
  have hr := kindOf_range t
  by_cases h0 : kindOf t = 0
  · rw [decide_eq_false (by omega)]; rfl
  · have : ((kindOf t - 1).toNat == (k - 1).toNat) = false := beq_eq_false_iff_ne.2 (by omega)
    rw [this, Bool.or_false]
theorem kk_all (seen : Array Nat) (t : ByteArray) (h : ∀ x ∈ kmap.toList, seen.contains x.born = true) : kk seen t = kindOf t := by
  unfold kk
  by_cases h0 : kindOf t = 0
  · rw [h0]; rfl
  · rw [if_pos]
    rw [decide_eq_true h0, Bool.true_and]
    have hr := kindOf_range t
    have hk : kindOf t = 1 ∨ kindOf t = 2 ∨ kindOf t = 3 := by omega
    rcases hk with hk | hk | hk <;> rw [hk]
    · exact h ⟨.int .i64 1, kv1, 0⟩ (by simp [kmap])
    · exact h ⟨.int .i64 2, kv2, 1⟩ (by simp [kmap])
    · exact h ⟨.int .i64 3, kv3, 2⟩ (by simp [kmap])
theorem kmap_shape (tx : ByteArray) {e : MapEntry} (he : e ∈ kmap.toList) : ∃ (b : ByteArray) (k : Int) (f1 f2 : FuncId), e.key = .int .i64 k ∧ e.val = .agg #[.string b, .func (.func f1) #[] #[], .func (.func f2) #[] #[]] ∧ 1 ≤ k ∧ e.born = (k - 1).toNat ∧ (b = tx ↔ kindOf tx = k) := by
  have : e = ⟨.int .i64 1, kv1, 0⟩ ∨ e = ⟨.int .i64 2, kv2, 1⟩ ∨ e = ⟨.int .i64 3, kv3, 2⟩ := by simpa [kmap] using he
  rcases this with rfl | rfl | rfl
  · exact ⟨bCloud, 1, _, _, rfl, rfl, by omega, rfl, kindOf_1 tx⟩
  · exact ⟨bSeeing, 2, _, _, rfl, rfl, by omega, rfl, kindOf_2 tx⟩
  · exact ⟨bClosed, 3, _, _, rfl, rfl, by omega, rfl, kindOf_3 tx⟩
theorem But.putIter {g : Nat} {a b : World} (h : But g a b) {r m : Nat} (hr : a.heap.size ≤ r) (seen : Array Nat) : But g a (putIter b r m seen) :=
  ⟨h.os, h.tape, h.output, by rw [putIter_size]; exact h.size, fun k hk hg => (putIter_ne (by omega)).trans (h.block k hk hg)⟩
theorem left_less {seen : Array Nat} {e : MapEntry} (he : e ∈ kmap.toList) (hs : seen.contains e.born = false) : (leftOf kmap (seen.push e.born)).size < (leftOf kmap seen).size :=
  left_shrinks kmap seen e (by
    unfold leftOf
    exact Array.mem_toList_iff.2 (Array.mem_filter.2 ⟨Array.mem_toList_iff.1 he, by rw [hs]; rfl⟩))
def iterLeft (w : World) (r : Nat) : Nat := match w.heap[r]? with | some (.mapIter _ _ s _) => (leftOf kmap s).size | _ => 0
theorem iterLeft_eq {w : World} {r b : Nat} {s : Array Nat} (h : w.heap[r]? = some (.mapIter (some b) 3 s 3)) : iterLeft w r = (leftOf kmap s).size := by
  unfold iterLeft
  rw [h]
set_option maxHeartbeats 8000000 in
set_option maxRecDepth 1000000 in
theorem rng_wp (Q : Exit → Act → World → Prop) (D : List Deferred) (x0 x1 x2 x3 x4 x5 x6 x7 x10 x11 x12 x13 x14 x15 x16 x17 x18 x19 x20 x21 x22 x23 x24 x25 x26 x27 x28 x29 x30 x31 x32 x33 x34 x35 x36 x37 x38 x39 x40 x41 x42 x43 x44 x45 x46 x47 x48 x49 x50 x51 x52 x53 x54 x55 x56 x57 x58 x59 x60 x61 x62 x63 x64 x65 x66 x67 x68 x69 x70 x71 x72 x73 x74 x75 x76 x77 x78 x79 x80 x81 x82 x83 x84 x85 x86 x87 x88 x89 x90 x91 x92 x93 x94 x95 x96 x97 x98 x99 x100 x101 : Value) (bs bw : Nat) (t : STok) (w : World)
    (hs : w.heap[bs]? = some (.cells #[.int .i64 0, .int .i64 0, .int .i64 0, .int .i64 0, .int .i64 0] 32 (0, 0)))
    (hw : w.heap[bw]? = some (.cells #[.int .i64 t.f0, .string t.f1, .int .i64 t.f2, .int .i64 t.f3] 50 (0, 0))) (hne : bw ≠ bs)
    (hQ : ∀ (y10 y11 y33 y34 y35 y36 y37 y38 y39 y40 y41 y42 y43 y44 y45 y46 : Value) (w' : World), But bs w w' → w'.heap[bs]? = some (.cells #[.int .i64 (kindOf t.f1), .int .i64 0, .int .i64 0, .int .i64 0, .int .i64 0] 32 (0, 0)) → Q .normal { tmps := #[x0, x1, x2, x3, x4, x5, x6, x7, .pointer (some ⟨bs, 0, none⟩), .pointer (some ⟨bw, 0, none⟩), y10, y11, x12, x13, x14, x15, x16, x17, x18, x19, x20, x21, x22, x23, x24, x25, x26, x27, x28, x29, x30, x31, x32, y33, y34, y35, y36, y37, y38, y39, y40, y41, y42, y43, y44, y45, y46, x47, x48, x49, x50, x51, x52, x53, x54, x55, x56, x57, x58, x59, x60, x61, x62, x63, x64, x65, x66, x67, x68, x69, x70, x71, x72, x73, x74, x75, x76, x77, x78, x79, x80, x81, x82, x83, x84, x85, x86, x87, x88, x89, x90, x91, x92, x93, x94, x95, x96, x97, x98, x99, x100, x101], defers := D } w') :
    Code.wp Tryd.prog pRng Q { tmps := #[x0, x1, x2, x3, x4, x5, x6, x7, .pointer (some ⟨bs, 0, none⟩), .pointer (some ⟨bw, 0, none⟩), x10, x11, x12, x13, x14, x15, x16, x17, x18, x19, x20, x21, x22, x23, x24, x25, x26, x27, x28, x29, x30, x31, x32, x33, x34, x35, x36, x37, x38, x39, x40, x41, x42, x43, x44, x45, x46, x47, x48, x49, x50, x51, x52, x53, x54, x55, x56, x57, x58, x59, x60, x61, x62, x63, x64, x65, x66, x67, x68, x69, x70, x71, x72, x73, x74, x75, x76, x77, x78, x79, x80, x81, x82, x83, x84, x85, x86, x87, x88, x89, x90, x91, x92, x93, x94, x95, x96, x97, x98, x99, x100, x101], defers := D } w := by
  have HS := Lib.hid hs
  have HW := Lib.hid hw
  have hlt := blk_lt hs
  have hltw := blk_lt hw
  clear hs hw
  show Code.wp Tryd.prog (.seq (.region 10 _ _) _) _ _ _
  go_wp2_with fail
  refine (kinds_calls _).mono ?_
  rintro e w1 ⟨rfl, hm, hb⟩
  have HM := Lib.hid hm
  have HB := Lib.hid (But.of (g := bs) hb)
  have hr := run_range_map (P := Tryd.prog) w1 60 3 65 w.heap.size kmap 3 Tryd.underlying60 hm
  have hsz := hb.size
  have hn1 := Lib.hid ((hb.block bs hlt).trans HS.out)
  have hi := blk_new w1 (.mapIter (some w.heap.size) 3 #[] 3)
  clear hb hm
  go_upto_region 11 with (fail)
  have HB2 := Lib.hid (HB.out.alloc (.mapIter (some w.heap.size) 3 #[] 3))
  have HM2 := Lib.hid (blk_alloc HM.out (.mapIter (some w.heap.size) 3 #[] 3))
  have HS2 := Lib.hid (blk_alloc hn1.out (.mapIter (some w.heap.size) 3 #[] 3))
  have HI2 := Lib.hid hi
  clear hi hn1 HM HB hr
  generalize w1.alloc (.mapIter (some w.heap.size) 3 #[] 3) = w2 at *
  have hw1s : bs < w1.heap.size := by omega
  have hmi : w.heap.size ≠ w1.heap.size := fun h => by have h1 := HM2.out; have h2 := HI2.out; rw [h] at h1; rw [h1] at h2; cases h2
  have HI2n := Lib.hid hsz
  clear hsz
  generalize w1.heap.size = bi at *
  go_loopw [10] (fun _ wr => ∃ seen : Array Nat, Hid (But bs w wr) ∧ Hid (wr.heap[w.heap.size]? = some (.map kmap 3)) ∧ Hid (wr.heap[bi]? = some (.mapIter (some w.heap.size) 3 seen 3)) ∧ Hid (wr.heap[bs]? = some (.cells #[.int .i64 (kk seen t.f1), .int .i64 0, .int .i64 0, .int .i64 0, .int .i64 0] 32 (0, 0)))) (fun _ wr => iterLeft wr bi)
  case atStart => exact ⟨#[], HB2.out, HM2.out, HI2.out, by rw [kk_none]; exact HS2.out⟩
  case round =>
    obtain ⟨seen, HB, HM, HI, HS3⟩ := hrel
    clear HB2 HM2 HI2 HS2
    rcases next_kinds HI.out HM.out 0 with ⟨hall, hrun⟩ | ⟨e, he, hse, w3, hw3, hrun⟩
    · rw [kk_all seen t.f1 hall] at HS3
      clear hall
      go_wp2_with fail
      exact hQ _ _ _ _ _ _ _ _ _ _ _ _ _ _ _ _ _ HB.out HS3.out
    · obtain ⟨b, k, f1, f2, ek, ev, hk1, eb, hbk⟩ := kmap_shape t.f1 he
      have hB3 : But bs w w3 := by
        rcases hw3 with rfl | rfl
        · exact HB.out
        · exact HB.out.drew
      have hh3 : w3.heap = wr.heap := by rcases hw3 with rfl | rfl <;> rfl
      have hbi : bi < w3.heap.size := by rw [hh3]; exact blk_lt HI.out
      have hbil : w.heap.size ≤ bi := by
        rcases Nat.lt_or_ge bi w.heap.size with h | h
        · exfalso
          have h1 := HI2n.out
          omega
        · exact h
      have HB4 := Lib.hid (hB3.putIter (r := bi) (m := w.heap.size) hbil (seen.push e.born))
      have HI4 := Lib.hid (putIter_at (w := w3) (b := w.heap.size) (seen := seen.push e.born) hbi)
      have HM4 := Lib.hid ((putIter_ne (w := w3) (r := bi) (b := w.heap.size) (seen := seen.push e.born) hmi).trans ((congrArg (fun (x : Array Obj) => x[w.heap.size]?) hh3).trans HM.out))
      have HS4 := Lib.hid ((putIter_ne (w := w3) (r := bi) (b := w.heap.size) (k := bs) (seen := seen.push e.born) (by omega)).trans ((congrArg (fun (x : Array Obj) => x[bs]?) hh3).trans HS3.out))
      have hen := entry_kinds HI4.out HM4.out he
      have hmu := left_less he hse
      have HMU := Lib.hid hmu
      have HIL := Lib.hid (iterLeft_eq HI.out)
      rw [ek, ev] at hrun
      rw [ek, ev] at hen
      rw [eb] at hen
      rw [eb] at hrun
      rw [eb] at HB4 HI4 HM4 HS4 HMU
      clear hmu hw3 hse he ek ev eb hh3 hB3 HI HM HS3 HB
      generalize putIter w3 bi w.heap.size (seen.push (k - 1).toNat) = w4 at *
      clear hbi
      go_upto_region 13 with (fail)
      have hkb := blk_new w4 (.cells #[.string b, .func (.func f1) #[] #[], .func (.func f2) #[] #[]] 65 (0, 0))
      have HB5 := Lib.hid (HB4.out.alloc (.cells #[.string b, .func (.func f1) #[] #[], .func (.func f2) #[] #[]] 65))
      have HI5 := Lib.hid (blk_alloc HI4.out (.cells #[.string b, .func (.func f1) #[] #[], .func (.func f2) #[] #[]] 65))
      have HM5 := Lib.hid (blk_alloc HM4.out (.cells #[.string b, .func (.func f1) #[] #[], .func (.func f2) #[] #[]] 65))
      have HS5 := Lib.hid (blk_alloc HS4.out (.cells #[.string b, .func (.func f1) #[] #[], .func (.func f2) #[] #[]] 65))
      generalize w4.alloc (.cells #[.string b, .func (.func f1) #[] #[], .func (.func f2) #[] #[]] 65) = w5 at *
      have HK := Lib.hid hkb
      have hwd := (HB5.out.block bw hltw hne).trans HW.out
      have c0 : w5.cell? ⟨w4.heap.size, 0, none⟩ = some (.string b) := (blk_cell HK.out 0).trans rfl
      have c1 : w5.cell? ⟨bw, 1, none⟩ = some (.string t.f1) := (blk_cell hwd 1).trans rfl
      have c2 : w5.frozen? ⟨bs, 0, none⟩ = false := blk_frozen HS5.out 0
      have c3 : w5.cell? ⟨bs, 0, none⟩ = some (.int .i64 (kk seen t.f1)) := (blk_cell HS5.out 0).trans rfl
      clear hwd hkb HB4 HI4 HM4 HS4 hrun hen
      generalize w4.heap.size = bk at *
      by_cases hb : b = t.f1
      · have hq : (b.toList == t.f1.toList) = true := tl_t hb
        have hkd := hbk.1 hb
        have HKD := Lib.hid hkd
        clear hkd hbk hb
        go_wp2_with fail
        refine ⟨⟨seen.push (k - 1).toNat, HB5.out.setAt 0 _, (Below.heap_setCell w5 _ _ _ (by show w.heap.size ≠ bs; omega)).trans HM5.out, (Below.heap_setCell w5 _ _ _ (by show bi ≠ bs; omega)).trans HI5.out, ?_⟩, ?_⟩
        · rw [kk_push seen t.f1 k hk1 HKD.out]
          exact (blk_set HS5.out 0 _).trans rfl
        · rw [iterLeft_eq ((Below.heap_setCell w5 ⟨bs, 0, none⟩ (.int .i64 k) bi (by show bi ≠ bs; omega)).trans HI5.out), HIL.out]
          exact HMU.out
      · have hq : (b.toList == t.f1.toList) = false := tl_f hb
        have HKD := Lib.hid (fun h => hb (hbk.2 h))
        clear hbk hb
        go_wp2_with fail
        refine ⟨⟨seen.push (k - 1).toNat, HB5.out, HM5.out, HI5.out, ?_⟩, ?_⟩
        · rw [kk_other seen t.f1 k hk1 HKD.out]
          exact HS5.out
        · rw [iterLeft_eq HI5.out, HIL.out]
          exact HMU.out
end Go.Proofs.YtofjhkjahpdkiaaDoor.We
