/-
  The lexer's Lex comes to lexA: the walk, in the print's form.
-/
import Derived.Test.YtofjhkjahpdkiaaDoorLxM
import Derived.Test.YtofjhkjahpdkiaaDoorLxC
import Derived.Test.YtofjhkjahpdkiaaDoorLxK
namespace Go.Proofs.YtofjhkjahpdkiaaDoor.Px
open Go.RowKit Go.Proofs.YtofjhkjahpdkiaaDoorW.PrintWords Go.Proofs.YtofjhkjahpdkiaaDoorW.PrintLast Go.Proofs.YtofjhkjahpdkiaaDoorW.PrintMore Go.Proofs.YtofjhkjahpdkiaaDoor.Lx
set_option linter.unusedVariables false
set_option linter.unusedSimpArgs false
def scanV (s : ByteArray) : List Value := .string s :: clsTab.map (Value.int .i64)
theorem infoTok : (Tryd.prog.info? 50).map (fun i => (i.zero, i.size, i.bytes)) = some (some (.agg #[(.int .i64 0), (.string ⟨#[]⟩), (.int .i64 0), (.int .i64 0)]), 4, 40) := by kernel_rfl
theorem build_eq (s : ByteArray) : Array.foldl (fun (cs : Array Value) x => cs.setIfInBounds (1 + x.snd) x.fst) (Tryd.zeroCells87.setIfInBounds 0 (Value.string s)) (tabV clsTab).zipIdx 0 (tabV clsTab).size = (scanV s).toArray := by kernel_rfl
theorem scan_one (s : ByteArray) : ((scanV s).toArray.all (·.oneCell')) = true := by kernel_rfl
theorem scan_new {w : World} {s : ByteArray} {b : Nat} (h : w.heap[b]? = some (.cells (scanV s).toArray 87 (0, 0))) : IsScan w b s := by
  refine ⟨(blk_cell h 0).trans (by unfold scanV; simp), fun c => (blk_cell h (1 + c.toNat)).trans ?_⟩
  have hb := UInt8.toNat_lt c
  have hl : clsTab.length = 256 := by decide +kernel
  unfold scanV cls
  rw [List.getElem?_toArray, Nat.add_comm, List.getElem?_cons_succ, List.getElem?_map, List.getD_eq_getElem?_getD, List.getElem?_eq_getElem (by omega)]
  rfl
theorem zeroScan_size : Tryd.zeroCells87.size = 257 := by kernel_rfl
theorem there_new (w : World) : (w.alloc (.cells Tryd.zeroCells87 87)).there w.heap.size 0 257 := by
  intro j hj
  have h := blk_new w (.cells Tryd.zeroCells87 87 (0, 0))
  refine ⟨?_, blk_frozen h _⟩
  rw [blk_cell h (0 + j), Array.getElem?_eq_getElem (by rw [zeroScan_size]; omega)]
  rfl
theorem below_setCells {B : Nat} {a : World} {g : Nat} (hg : B ≤ g) : ∀ (l : List Value) (o : Nat) (W : World), Below B a W → Below B a (W.setCells g o l) := by
  intro l
  induction l with
  | nil => intro o W h; exact h
  | cons v r ih => intro o W h; exact ih (o + 1) _ (h.setCell (p := ⟨g, o, none⟩) hg v)
/-- The world behind the scanner's making. -/
theorem scan_made (w : World) (s : ByteArray) : ((w.alloc (.cells Tryd.zeroCells87 87)).setCells w.heap.size 0 (scanV s)).heap[w.heap.size]? = some (.cells (scanV s).toArray 87 (0, 0)) ∧
    Below w.heap.size w ((w.alloc (.cells Tryd.zeroCells87 87)).setCells w.heap.size 0 (scanV s)) := by
  have h0 := blk_new w (.cells Tryd.zeroCells87 87 (0, 0))
  have hl : (scanV s).length = 257 := by simp [scanV, show clsTab.length = 256 from by decide +kernel]
  obtain ⟨cur, h1, h2, h3⟩ := setCells_row (scanV s) 0 _ _ h0 (by rw [zeroScan_size, hl]; exact Nat.le_refl _)
  refine ⟨?_, below_setCells (Nat.le_refl _) _ _ _ (below_new (Below.refl _ _) _ (Nat.le_refl _))⟩
  rw [h1]
  have : cur = (scanV s).toArray := by
    apply Array.ext'
    rw [h3, List.drop_eq_nil_of_le (by rw [Array.length_toList, zeroScan_size, hl]; exact Nat.le_refl _)]
    simp
  rw [this]
theorem gap0 (b : Nat) (s : ByteArray) (w : World) (hs : IsScan w b s) (hb : s.size ≤ maxLen) :
    Calls Tryd.prog 43 #[.pointer (some ⟨b, 0, none⟩), .int .i64 0] w fun e w' => e = .returned (.int .i64 (gapEnd s 0)) ∧ Below w.heap.size w w' :=
  gap_any b s 0 w hs hb (Nat.zero_le _)
theorem IsScan.grown {w w1 : World} {b : Nat} {s : ByteArray} {row : Option Nat} (h : IsScan w b s) (hg : w.grownBy w1 row) (hne : some b ≠ row) : IsScan w1 b s := by
  have e := hg.block b h.lt hne
  obtain ⟨h0, hc⟩ := h
  exact ⟨(World.cell?_of_block (a := ⟨b, 0, none⟩) e).trans h0, fun c => (World.cell?_of_block (a := ⟨b, 1 + c.toNat, none⟩) e).trans (hc c)⟩
set_option maxHeartbeats 4000000 in
set_option maxRecDepth 1000000 in
theorem lexer_Lex.calls (a0 : ByteArray) (r1 : List (STok)) (r2 : Int) (r3 : Int) (w : World) (h : lexer_Lex.f a0 = some (r1, r2, r3)) :
    Calls Tryd.prog 22 #[.string a0] w fun e w' => ∃ v0_ : Value, e = .returned (.tuple #[v0_, .int .i64 r2, .int .i64 r3]) ∧ Kd.R kTok 50 w' w.heap.size (fun _ => True) v0_ r1 ∧ Below w.heap.size w w' := by
  unfold lexer_Lex.f lexP at h
  by_cases hz : 20000 < a0.size
  · rw [if_pos hz] at h
    simp only [Option.some.injEq, Prod.mk.injEq] at h
    obtain ⟨rfl, rfl, rfl⟩ := h
    go_enter Tryd.func22, Tryd.ntmps22
    go_wp2
    go_ret3
    exact ⟨_, rfl, Kd.R_nil _ _ _ _ _, Below.refl _ _⟩
  · rw [if_neg hz] at h
    have h' := Option.some.inj h
    have HF := Lib.hid h'
    clear h h'
    go_enter Tryd.func22, Tryd.ntmps22
    go_wp2_with fail
    refine (classes_calls _).mono ?_
    rintro e w1 ⟨rfl, hb1⟩
    have HB1 := Lib.hid hb1
    clear hb1
    go_wp2_with (refine wpList_store_mid (by rfl) 87 _ _ (by rfl) w1.heap.size 0 (scanV a0).toArray (by rfl) (by exact congrArg Value.agg (build_eq a0)) (by exact there_new w1) (by kernel_rfl) (scan_one a0) ?_)
    obtain ⟨k1, k2⟩ := scan_made w1 a0
    generalize Array.foldl (fun (cs : Array Value) (x : Value × Nat) => cs.setIfInBounds (1 + x.snd) x.fst) (Tryd.zeroCells87.setIfInBounds 0 (Value.string a0)) (tabV clsTab).zipIdx 0 (tabV clsTab).size = x16
    generalize (w1.alloc (.cells Tryd.zeroCells87 87)).setCells w1.heap.size 0 (scanV a0) = w2 at *
    generalize tabV clsTab = x15 at *
    have HS2 := Lib.hid (scan_new k1)
    have HB2 := Lib.hid (below_then HB1.out HB1.out.size k2)
    have hbb : w.heap.size ≤ w1.heap.size := HB1.out.size
    generalize w1.heap.size = b at *
    clear k1 k2 HB1 h
    have hbm : a0.size ≤ maxLen := by unfold maxLen; omega
    refine (gap0 b a0 w2 HS2.out hbm).mono ?_
    rintro e w3 ⟨rfl, hb3⟩
    have HS3 := Lib.hid (HS2.out.below hb3)
    have HB3 := Lib.hid (below_then HB2.out HB2.out.size hb3)
    clear hb3 HS2 HB2
    have HBM := Lib.hid hbm
    clear hbm
    go_wp2_with fail
    have hst : Rst a0 (lexA (a0.size + 1) a0.data.toList 0) (gapEnd a0 0) [] := Rst.start a0
    generalize lexA (a0.size + 1) a0.data.toList 0 = full at *
    have HST := Lib.hid hst
    have hg0 := (gapEnd_le a0 0 (Nat.zero_le _)).2
    clear hst
    go_loopw [6, 7] (fun v x wr => ∃ (i : Nat) (xs : List STok), i ≤ a0.size ∧ x = .int .i64 i ∧ Hid (Rst a0 full i xs) ∧ Hid (Kd.R kTok 50 wr w.heap.size (fun k => k ≠ b) v xs) ∧ Hid (IsScan wr b a0) ∧ Hid (Below w.heap.size w wr)) (fun _ x _ => a0.size - (intOf x).toNat)
    case atStart => exact ⟨gapEnd a0 0, [], hg0, rfl, HST.out, Kd.R_nil _ _ _ _ _, HS3.out, HB3.out⟩
    case round =>
      obtain ⟨i, xs, hi, rfl, HR, HO, HS, HB⟩ := hrel
      clear HS3 HB3 HST hg0
      by_cases hlt : i < a0.size
      · go_wp2_with fail
        refine (next_any b a0 i _ HS.out (by omega) hlt).mono ?_
        rintro e w4 ⟨rfl, hb4⟩
        have HS4 := Lib.hid (HS.out.below hb4)
        have HB4 := Lib.hid (below_then HB.out HB.out.size hb4)
        have HO4 := Lib.hid (Kd.R_below HO.out hb4)
        clear hb4 HS HB HO
        have hbs : w.heap.size ≤ w4.heap.size := HB4.out.size
        have hbl : b < w4.heap.size := HS4.out.lt
        obtain ⟨Ao, co, eo⟩ := Kd.R_slice HO4.out
        subst eo
        generalize hT : tok1 (a0.data.toList.drop i) = tk
        have HT := Lib.hid hT
        clear hT
        cases tk with
        | err e =>
          simp only [nextOf, nextV, noTok, tokV]
          have he := tok1_err HT.out
          have he1 : (e == 0) = false := beq_eq_false_iff_ne.2 (by omega)
          have he2 : (e != 0) = true := bne_iff_ne.2 (by omega)
          have hfin := HR.out.err hlt HT.out
          rw [HF.out] at hfin
          simp only [Prod.mk.injEq] at hfin
          obtain ⟨rfl, rfl, rfl⟩ := hfin
          go_wp2_with fail
          go_ret3
          exact ⟨_, rfl, Kd.R_nil _ _ _ _ _, below_new HB4.out _ (Nat.le_refl _)⟩
        | tok k t n wd =>
          simp only [nextOf, nextV, tokV]
          by_cases hm : xs.length = 5000
          · have hm1 : ((xs.length : Int) == 5000) = true := beq_iff_eq.2 (by omega)
            have hfin := HR.out.many hlt HT.out hm
            rw [HF.out] at hfin
            simp only [Prod.mk.injEq] at hfin
            obtain ⟨rfl, rfl, rfl⟩ := hfin
            clear hm
            go_wp2_with fail
            go_ret3
            exact ⟨_, rfl, Kd.R_nil _ _ _ _ _, below_new HB4.out _ (Nat.le_refl _)⟩
          · have hm1 : ((xs.length : Int) == 5000) = false := beq_eq_false_iff_ne.2 (by omega)
            obtain ⟨q1, q2, q3, q4⟩ := HR.out.step hlt HT.out hm
            have HR4 := Lib.hid q4
            clear q4
            go_wp2_with (at_builtin; refine Kd.R_append kTok (w0 := w) w.heap.size (by rfl) (.tmp 41) (.tmp 43) 46 50 (.agg #[(.int .i64 0), (.string ⟨#[]⟩), (.int .i64 0), (.int .i64 0)]) 40 (by rfl) Tryd.underlying46 infoTok (by rfl) (by decide) (by omega) (.slice Ao xs.length co) xs (⟨k, ⟨t.toArray⟩, n, (i : Int)⟩ : STok) [.int .i64 k, .string ⟨t.toArray⟩, .int .i64 n, .int .i64 i] (fun k => k ≠ b) (fun _ => False) (by rfl) (by first | (go_simp; done) | (go_simp; rfl)) ?aP (fun _ hk => hk.elim) ?aF ?aO ?aB ?aS ?aL ?_; (case aP => exact k50_mkM _ _ _ (⟨k, ⟨t.toArray⟩, n, (i : Int)⟩ : STok)); (case aF => intro k_ hk; have : w4.heap.size ≤ k_ := Nat.le_trans (by simp) hk; omega); (case aO => exact Kd.R_alloc HO4.out _); (case aB => exact below_new HB4.out _ (Nat.le_refl _)); (case aS => simp; omega); (case aL => omega); intro v5 w5 ho5 hb5 hg5 hat5)
            have hs5 : IsScan w5 b a0 := by
              refine IsScan.grown (HS4.out.below (below_new (Below.refl _ _) _ (Nat.le_refl _))) hg5 ?_
              exact Kd.R_away HO4.out (fun _ hk => hk)
            have HS5 := Lib.hid hs5
            have HB5 := Lib.hid hb5
            have HO5 := Lib.hid ho5
            clear hs5 hb5 ho5 hg5 hat5
            rw [show (i : Int) + (wd : Int) = ((i + wd : Nat) : Int) from by omega]
            have hge := gapEnd_le a0 (i + wd) q1
            refine (gap_any b a0 (i + wd) w5 HS5.out HBM.out q1).mono ?_
            rintro e w6 ⟨rfl, hb6⟩
            have HS6 := Lib.hid (HS5.out.below hb6)
            have HB6 := Lib.hid (below_then HB5.out HB5.out.size hb6)
            have HO6 := Lib.hid (Kd.R_below HO5.out hb6)
            clear hb6
            go_wp2_with fail
            go_roundw
            case rel => exact ⟨gapEnd a0 (i + wd), _, hge.2, rfl, HR4.out, HO6.out, HS6.out, HB6.out⟩
            case measure => simp [intOf]; omega
      · obtain rfl : i = a0.size := by omega
        have hfin := HR.out.fin
        rw [HF.out] at hfin
        simp only [Prod.mk.injEq] at hfin
        obtain ⟨rfl, rfl, rfl⟩ := hfin
        go_wp2_with fail
        go_ret3
        exact ⟨_, rfl, Kd.R_mono HO.out (fun _ _ => trivial), HB.out⟩
end Go.Proofs.YtofjhkjahpdkiaaDoor.Px
