/-
  weather's Parse: the rest of a spell, as a piece of the round. (printed by wip/gen/gen_weJ.py)
-/
import Derived.Test.YtofjhkjahpdkiaaDoorWeI0
namespace Go.Proofs.YtofjhkjahpdkiaaDoor.We
open Go.RowKit Go.MapKept Go.Proofs.YtofjhkjahpdkiaaDoorW.PrintWords Go.Proofs.YtofjhkjahpdkiaaDoor.Px
set_option linter.unusedVariables false
set_option linter.unusedSimpArgs false
attribute [local go_sem] run_store_func run_store_nilFunc tok_f2
theorem infoSp : (Tryd.prog.info? 32).map (fun i => (i.zero, i.size, i.bytes)) = some (some (.agg #[(.int .i64 0), (.int .i64 0), (.int .i64 0), (.int .i64 0), (.int .i64 0)]), 5, 40) := by kernel_rfl
theorem PSt.append {base : World} {txt : ByteArray} {g n : Nat} {W w1 : World} {l : List STok} {xs ys : List SSp} {v v1 : Value} (h : PSt base txt g n W l xs)
    (hv : W.heap[base.heap.size + 1]? = some (.cells #[v] 22 (0, 0))) (hr : ∀ k, v.ownBlock = some k → g + 1 < k ∧ k < n)
    (hR : Kd.R kSp 32 w1 base.heap.size (fun k => g + 1 < k) v1 ys) (hb : Below base.heap.size base w1) (hg : W.grownBy w1 v.ownBlock) : PSt base txt g w1.heap.size (w1.setCell ⟨base.heap.size + 1, 0, none⟩ v1) l ys := by
  obtain ⟨h1, h2, h3, h4, h5, ⟨v', h6, h7⟩, h8, h9, h10, h11⟩ := h
  have hsz := hg.size
  have far : ∀ {k : Nat} {o : Obj}, W.heap[k]? = some o → k ≤ g + 1 → w1.heap[k]? = some o := fun hk hne => (hg.block _ (blk_lt hk) (fun e => by have := hr _ e.symm; omega)).trans hk
  refine ⟨hb.setCell (by show base.heap.size ≤ base.heap.size + 1; omega) _, h2, by omega, by rw [World.size_setCell]; exact Nat.le_refl _, ?_, ⟨v1, (blk_set (far hv (by omega)) 0 _).trans rfl, ?_⟩, ?_, ?_, ?_, ?_⟩
  · exact blk_far (far h5 (by omega)) (by show base.heap.size ≠ base.heap.size + 1; omega) _
  · exact Kd.R_mono (Kd.R_bound (Kd.R_far hR (fun k hk => by show k ≠ base.heap.size + 1; omega) v1)) (fun k hk => ⟨hk.1, by have := hk.2.2.1; rw [World.size_setCell] at this; exact this⟩)
  · exact blk_far (far h8 (by omega)) (by show base.heap.size + 1 + 1 ≠ base.heap.size + 1; omega) _
  · exact blk_far (far h9 (by omega)) (by show base.heap.size + 1 + 1 + 1 ≠ base.heap.size + 1; omega) _
  · refine Tk.move (w := W) h10 (fun k hk1 hk2 => ?_)
    rw [Below.heap_setCell w1 _ _ _ (by show k ≠ base.heap.size + 1; omega)]
    exact hg.block k (by omega) (fun e => by have := hr _ e.symm; omega)
  · exact blk_far (far h11 (by omega)) (by show g + 1 ≠ base.heap.size + 1; omega) _
set_option maxHeartbeats 8000000 in
set_option maxRecDepth 1000000 in
theorem tail_wp (Q : Exit → Act → World → Prop) (D : List Deferred) (x0 x1 x3 x4 x5 x9 x10 x11 x12 x13 x14 x15 x16 x17 x18 x19 x20 x21 x22 x23 x24 x25 x26 x27 x28 x29 x30 x31 x32 x33 x34 x35 x36 x37 x38 x39 x40 x41 x42 x43 x44 x45 x46 x47 x48 x49 x50 x51 x52 x53 x54 x55 x56 x57 x58 x59 x60 x61 x62 x63 x64 x65 x66 x67 x68 x69 x70 x71 x72 x73 x74 x75 x76 x77 x78 x79 x80 x81 x82 x83 x84 x85 x86 x87 x88 x89 x90 x91 x92 x93 x94 x95 x96 x97 x98 x99 x100 x101 : Value) (base : World) (txt : ByteArray) (g n bs : Nat) (k q nn : Int) (l : List STok) (xs : List SSp) (w : World)
    (hP : PSt base txt g n w l xs) (hbs : n ≤ bs) (hs : w.heap[bs]? = some (.cells #[.int .i64 k, .int .i64 q, .int .i64 nn, .int .i64 0, .int .i64 0] 32 (0, 0))) (hlen : xs.length ≤ 200)
    (hE : ∀ (x : Fail) (y14 y71 y72 y73 y74 y75 y76 y77 y78 y79 y80 y81 y82 y83 y84 y85 y86 y87 y88 y89 y90 y91 y92 y93 y94 y95 y96 y97 y98 y99 y100 : Value) (w' : World), pTail txt.size k q nn l = .error x → DSt base w' → Q (.panic (failV x.1 x.2)) { tmps := #[x0, x1, .pointer (some ⟨base.heap.size + 1, 0, none⟩), x3, x4, x5, .pointer (some ⟨g + 1, 0, none⟩), .func (.func 28) #[] #[.pointer (some ⟨g + 1, 0, none⟩)], .pointer (some ⟨bs, 0, none⟩), x9, x10, x11, x12, x13, y14, x15, x16, x17, x18, x19, x20, x21, x22, x23, x24, x25, x26, x27, x28, x29, x30, x31, x32, x33, x34, x35, x36, x37, x38, x39, x40, x41, x42, x43, x44, x45, x46, x47, x48, x49, x50, x51, x52, x53, x54, x55, x56, x57, x58, x59, x60, x61, x62, x63, x64, x65, x66, x67, x68, x69, x70, y71, y72, y73, y74, y75, y76, y77, y78, y79, y80, y81, y82, y83, y84, y85, y86, y87, y88, y89, y90, y91, y92, y93, y94, y95, y96, y97, y98, y99, y100, x101], defers := D } w')
    (hL : ∀ (s : SSp) (e : Int) (r : List STok) (y14 y71 y72 y73 y74 y75 y76 y77 y78 y79 y80 y81 y82 y83 y84 y85 y86 y87 y88 y89 y90 y91 y92 y93 y94 y95 y96 y97 y98 y99 y100 : Value) (w' : World), pTail txt.size k q nn l = .ok (s, e, r) → xs.length = 200 → DSt base w' → Q (.panic (failV 2 e)) { tmps := #[x0, x1, .pointer (some ⟨base.heap.size + 1, 0, none⟩), x3, x4, x5, .pointer (some ⟨g + 1, 0, none⟩), .func (.func 28) #[] #[.pointer (some ⟨g + 1, 0, none⟩)], .pointer (some ⟨bs, 0, none⟩), x9, x10, x11, x12, x13, y14, x15, x16, x17, x18, x19, x20, x21, x22, x23, x24, x25, x26, x27, x28, x29, x30, x31, x32, x33, x34, x35, x36, x37, x38, x39, x40, x41, x42, x43, x44, x45, x46, x47, x48, x49, x50, x51, x52, x53, x54, x55, x56, x57, x58, x59, x60, x61, x62, x63, x64, x65, x66, x67, x68, x69, x70, y71, y72, y73, y74, y75, y76, y77, y78, y79, y80, y81, y82, y83, y84, y85, y86, y87, y88, y89, y90, y91, y92, y93, y94, y95, y96, y97, y98, y99, y100, x101], defers := D } w')
    (hQ : ∀ (s : SSp) (e : Int) (r : List STok) (y14 y71 y72 y73 y74 y75 y76 y77 y78 y79 y80 y81 y82 y83 y84 y85 y86 y87 y88 y89 y90 y91 y92 y93 y94 y95 y96 y97 y98 y99 y100 : Value) (m : Nat) (w' : World), pTail txt.size k q nn l = .ok (s, e, r) → ¬ xs.length = 200 → PSt base txt g m w' r (xs ++ [s]) → Q .normal { tmps := #[x0, x1, .pointer (some ⟨base.heap.size + 1, 0, none⟩), x3, x4, x5, .pointer (some ⟨g + 1, 0, none⟩), .func (.func 28) #[] #[.pointer (some ⟨g + 1, 0, none⟩)], .pointer (some ⟨bs, 0, none⟩), x9, x10, x11, x12, x13, y14, x15, x16, x17, x18, x19, x20, x21, x22, x23, x24, x25, x26, x27, x28, x29, x30, x31, x32, x33, x34, x35, x36, x37, x38, x39, x40, x41, x42, x43, x44, x45, x46, x47, x48, x49, x50, x51, x52, x53, x54, x55, x56, x57, x58, x59, x60, x61, x62, x63, x64, x65, x66, x67, x68, x69, x70, y71, y72, y73, y74, y75, y76, y77, y78, y79, y80, y81, y82, y83, y84, y85, y86, y87, y88, y89, y90, y91, y92, y93, y94, y95, y96, y97, y98, y99, y100, x101], defers := D } w') :
    Code.wp Tryd.prog pTailC Q { tmps := #[x0, x1, .pointer (some ⟨base.heap.size + 1, 0, none⟩), x3, x4, x5, .pointer (some ⟨g + 1, 0, none⟩), .func (.func 28) #[] #[.pointer (some ⟨g + 1, 0, none⟩)], .pointer (some ⟨bs, 0, none⟩), x9, x10, x11, x12, x13, x14, x15, x16, x17, x18, x19, x20, x21, x22, x23, x24, x25, x26, x27, x28, x29, x30, x31, x32, x33, x34, x35, x36, x37, x38, x39, x40, x41, x42, x43, x44, x45, x46, x47, x48, x49, x50, x51, x52, x53, x54, x55, x56, x57, x58, x59, x60, x61, x62, x63, x64, x65, x66, x67, x68, x69, x70, x71, x72, x73, x74, x75, x76, x77, x78, x79, x80, x81, x82, x83, x84, x85, x86, x87, x88, x89, x90, x91, x92, x93, x94, x95, x96, x97, x98, x99, x100, x101], defers := D } w := by
  have HP := Lib.hid hP
  have HS := Lib.hid hs
  have HBS := Lib.hid hbs
  have HLEN := Lib.hid hlen
  have hbg : bs ≠ g := by have := hP.hn; omega
  clear hP hs hbs hlen
  show Code.wp Tryd.prog (.seq (.region 22 _ _) _) _ _ _
  have cn := HP.out.nxc
  cases h0 : pMust txt.size 1 bFrom l with
  | error x =>
    have hx : pTail txt.size k q nn l = .error x := by simp [pTail, h0]
    have hc := HP.out.must_err 1 bFrom x h0
    unfold bFrom at hc
    go_wp2_with fail
    refine hc.mono ?_
    rintro e w1 ⟨rfl, hd⟩
    have HD := Lib.hid hd
    clear hd hc
    go_wp2_with fail
    exact hE x _ _ _ _ _ _ _ _ _ _ _ _ _ _ _ _ _ _ _ _ _ _ _ _ _ _ _ _ _ _ _ _ hx HD.out
  | ok p0 =>
  obtain ⟨t0, l0⟩ := p0
  have hc := HP.out.must_go 1 bFrom t0 l0 h0
  unfold bFrom at hc
  go_wp2_with fail
  refine hc.mono ?_
  rintro e w0 ⟨rfl, hb, hP⟩
  have hS := (hb.block bs (blk_lt HS.out) hbg).trans HS.out
  clear HP HS hc cn hb
  have HP := Lib.hid hP
  have HS := Lib.hid hS
  clear hP hS
  have cn := HP.out.nxc
  cases h1 : pNext txt.size 2 l0 with
  | error x =>
    have hx : pTail txt.size k q nn l = .error x := by simp [pTail, h0, h1]
    have hc := HP.out.next_err 2 x h1
    skip
    go_wp2_with fail
    refine hc.mono ?_
    rintro e w1 ⟨rfl, hd⟩
    have HD := Lib.hid hd
    clear hd hc
    go_wp2_with fail
    exact hE x _ _ _ _ _ _ _ _ _ _ _ _ _ _ _ _ _ _ _ _ _ _ _ _ _ _ _ _ _ _ _ _ hx HD.out
  | ok p1 =>
  obtain ⟨t1, l1⟩ := p1
  have hc := HP.out.next_go 2 t1 l1 h1
  skip
  go_wp2_with fail
  refine hc.mono ?_
  rintro e w1 ⟨rfl, hb, hP⟩
  have hS := (hb.block bs (blk_lt HS.out) hbg).trans HS.out
  clear HP HS hc cn hb
  obtain ⟨d0, d1, d2, d3, d4, q0, q1, q2, q3, q4⟩ := sp_flat hS
  have HP' := Lib.hid (hP.setNew (p := ⟨bs, 3, none⟩) HBS.out (.int .i64 t1.f2))
  have HS' := Lib.hid ((blk_set hS 3 (.int .i64 t1.f2)).trans (show _ = some (.cells #[.int .i64 k, .int .i64 q, .int .i64 nn, .int .i64 t1.f2, .int .i64 0] 32 (0, 0)) from rfl))
  clear hP hS
  go_upto_region 24 with (fail)
  generalize World.setCell w1 ⟨bs, 3, none⟩ (.int .i64 t1.f2) = v1 at *
  clear d0 d1 d2 d3 d4 q0 q1 q2 q3 q4
  have HP := HP'
  have HS := HS'
  clear HP' HS'
  have cn := HP.out.nxc
  cases h2 : pMust txt.size 1 bUntil l1 with
  | error x =>
    have hx : pTail txt.size k q nn l = .error x := by simp [pTail, h0, h1, h2]
    have hc := HP.out.must_err 1 bUntil x h2
    unfold bUntil at hc
    go_wp2_with fail
    refine hc.mono ?_
    rintro e w1 ⟨rfl, hd⟩
    have HD := Lib.hid hd
    clear hd hc
    go_wp2_with fail
    exact hE x _ _ _ _ _ _ _ _ _ _ _ _ _ _ _ _ _ _ _ _ _ _ _ _ _ _ _ _ _ _ _ _ hx HD.out
  | ok p2 =>
  obtain ⟨t2, l2⟩ := p2
  have hc := HP.out.must_go 1 bUntil t2 l2 h2
  unfold bUntil at hc
  go_wp2_with fail
  refine hc.mono ?_
  rintro e w2 ⟨rfl, hb, hP⟩
  have hS := (hb.block bs (blk_lt HS.out) hbg).trans HS.out
  clear HP HS hc cn hb
  have HP := Lib.hid hP
  have HS := Lib.hid hS
  clear hP hS
  have cn := HP.out.nxc
  cases h3 : pNext txt.size 2 l2 with
  | error x =>
    have hx : pTail txt.size k q nn l = .error x := by simp [pTail, h0, h1, h2, h3]
    have hc := HP.out.next_err 2 x h3
    skip
    go_wp2_with fail
    refine hc.mono ?_
    rintro e w1 ⟨rfl, hd⟩
    have HD := Lib.hid hd
    clear hd hc
    go_wp2_with fail
    exact hE x _ _ _ _ _ _ _ _ _ _ _ _ _ _ _ _ _ _ _ _ _ _ _ _ _ _ _ _ _ _ _ _ hx HD.out
  | ok p3 =>
  obtain ⟨t3, l3⟩ := p3
  have hc := HP.out.next_go 2 t3 l3 h3
  skip
  go_wp2_with fail
  refine hc.mono ?_
  rintro e w3 ⟨rfl, hb, hP⟩
  have hS := (hb.block bs (blk_lt HS.out) hbg).trans HS.out
  clear HP HS hc cn hb
  obtain ⟨d0, d1, d2, d3, d4, q0, q1, q2, q3, q4⟩ := sp_flat hS
  have HP' := Lib.hid (hP.setNew (p := ⟨bs, 4, none⟩) HBS.out (.int .i64 t3.f2))
  have HS' := Lib.hid ((blk_set hS 4 (.int .i64 t3.f2)).trans (show _ = some (.cells #[.int .i64 k, .int .i64 q, .int .i64 nn, .int .i64 t1.f2, .int .i64 t3.f2] 32 (0, 0)) from rfl))
  clear hP hS
  go_upto_region 26 with (fail)
  generalize World.setCell w3 ⟨bs, 4, none⟩ (.int .i64 t3.f2) = v3 at *
  clear d0 d1 d2 d3 d4 q0 q1 q2 q3 q4
  have HP := HP'
  have HS := HS'
  clear HP' HS'
  have cn := HP.out.nxc
  cases h4 : pMust txt.size 4 bSemi l3 with
  | error x =>
    have hx : pTail txt.size k q nn l = .error x := by simp [pTail, h0, h1, h2, h3, h4]
    have hc := HP.out.must_err 4 bSemi x h4
    unfold bSemi at hc
    go_wp2_with fail
    refine hc.mono ?_
    rintro e w1 ⟨rfl, hd⟩
    have HD := Lib.hid hd
    clear hd hc
    go_wp2_with fail
    exact hE x _ _ _ _ _ _ _ _ _ _ _ _ _ _ _ _ _ _ _ _ _ _ _ _ _ _ _ _ _ _ _ _ hx HD.out
  | ok p4 =>
  obtain ⟨t4, l4⟩ := p4
  have hc := HP.out.must_go 4 bSemi t4 l4 h4
  unfold bSemi at hc
  go_wp2_with fail
  refine hc.mono ?_
  rintro e w4 ⟨rfl, hb, hP⟩
  have hS := (hb.block bs (blk_lt HS.out) hbg).trans HS.out
  clear HP HS hc cn hb
  have HP := Lib.hid hP
  have HS := Lib.hid hS
  clear hP hS
  obtain ⟨d0, d1, d2, d3, d4, q0, q1, q2, q3, q4⟩ := sp_flat HS.out
  have hF := weather_formed.calls k q nn t1.f2 t3.f2 (formB k q nn t1.f2 t3.f2) w4 rfl
  go_wp2_with fail
  refine hF.mono ?_
  rintro e w5 ⟨rfl, hb⟩
  have HP5 := Lib.hid (HP.out.go hb)
  have HS5 := Lib.hid ((hb.block bs (blk_lt HS.out)).trans HS.out)
  clear hb d0 d1 d2 d3 d4 q0 q1 q2 q3 q4 hF HP HS
  generalize hfb : formB k q nn t1.f2 t3.f2 = fb
  have HFB := Lib.hid hfb
  clear hfb
  cases fb with
  | false =>
    have hx : pTail txt.size k q nn l = .error (9, t4) := by simp [pTail, h0, h1, h2, h3, h4, HFB.out]
    go_wp2_with fail
    exact hE _ _ _ _ _ _ _ _ _ _ _ _ _ _ _ _ _ _ _ _ _ _ _ _ _ _ _ _ _ _ _ _ _ hx HP5.out.door'
  | true =>
  have hx : pTail txt.size k q nn l = .ok (⟨k, q, nn, t1.f2, t3.f2⟩, t4, l4) := by simp [pTail, h0, h1, h2, h3, h4, HFB.out]
  have HX := Lib.hid hx
  clear hx h0 h1 h2 h3 h4
  obtain ⟨v, ho, hR⟩ := HP5.out.o
  obtain ⟨Ao, co, rfl⟩ := Kd.R_slice hR
  have HO := Lib.hid ho
  have HR := Lib.hid hR
  have co1 : w5.cell? ⟨base.heap.size + 1, 0, none⟩ = some (.slice Ao xs.length co) := (blk_cell ho 0).trans rfl
  have co2 : w5.frozen? ⟨base.heap.size + 1, 0, none⟩ = false := blk_frozen ho 0
  clear ho hR
  by_cases hm : xs.length = 200
  · have hm1 : ((xs.length : Int) == 200) = true := beq_iff_eq.2 (by omega)
    have HM := Lib.hid hm
    clear hm
    go_wp2_with fail
    exact hL _ _ _ _ _ _ _ _ _ _ _ _ _ _ _ _ _ _ _ _ _ _ _ _ _ _ _ _ _ _ _ _ _ _ _ HX.out HM.out HP5.out.door'
  · have hm1 : ((xs.length : Int) == 200) = false := beq_eq_false_iff_ne.2 (by omega)
    have HM := Lib.hid hm
    clear hm
    obtain ⟨d0, d1, d2, d3, d4, q0, q1, q2, q3, q4⟩ := sp_flat HS5.out
    have hpr : ∀ k_, (Value.slice Ao xs.length co).ownBlock = some k_ → g + 1 < k_ ∧ k_ < n := HR.out.1
    have HPR := Lib.hid hpr
    have hnw := HP5.out.hnw
    have hhn := HP5.out.hn
    have hhg := HP5.out.hg
    clear hpr
    go_upto_region 31 with (fail)
    go_wp2_with (at_builtin; refine Kd.R_append kSp (w0 := base) base.heap.size (by rfl) (.tmp 97) (.tmp 99) 22 32 (.agg #[(.int .i64 0), (.int .i64 0), (.int .i64 0), (.int .i64 0), (.int .i64 0)]) 40 (by rfl) Tryd.underlying22 infoSp (by rfl) (by decide) (by omega) (.slice Ao xs.length co) xs (⟨k, q, nn, t1.f2, t3.f2⟩ : SSp) [.int .i64 k, .int .i64 q, .int .i64 nn, .int .i64 t1.f2, .int .i64 t3.f2] (fun k => g + 1 < k) (fun _ => False) (by rfl) (by first | (go_simp; done) | (go_simp; rfl)) ?aP (fun _ hk => hk.elim) ?aF ?aO ?aB ?aS ?aL ?_; (case aP => exact k32_mkM _ _ _ (⟨k, q, nn, t1.f2, t3.f2⟩ : SSp)); (case aF => intro k_ hk; omega); (case aO => exact Kd.R_mono HR.out (fun _ h => h.1)); (case aB => exact HP5.out.below); (case aS => have := HP5.out.below.size; omega); (case aL => have := HLEN.out; omega); intro v6 w6 ho6 hb6 hg6 hat6; have hh6 := (hg6.block (base.heap.size + 1) (blk_lt HO.out) (fun e => by have := HPR.out _ e.symm; omega)).trans HO.out; have e1 : w6.cell? ⟨base.heap.size + 1, 0, none⟩ = some (.slice Ao xs.length co) := (blk_cell hh6 0).trans rfl; have e2 : w6.frozen? ⟨base.heap.size + 1, 0, none⟩ = false := blk_frozen hh6 0; have HN6 := Lib.hid (HP5.out.append HO.out HPR.out ho6 hb6 hg6); obtain ⟨A6, c6, rfl⟩ := Kd.R_slice ho6; clear ho6 hb6 hg6 hat6 hh6)
    exact hQ _ _ _ _ _ _ _ _ _ _ _ _ _ _ _ _ _ _ _ _ _ _ _ _ _ _ _ _ _ _ _ _ _ _ _ _ HX.out HM.out (by have h := HN6.out; rw [List.length_append] at h; exact h)
end Go.Proofs.YtofjhkjahpdkiaaDoor.We
