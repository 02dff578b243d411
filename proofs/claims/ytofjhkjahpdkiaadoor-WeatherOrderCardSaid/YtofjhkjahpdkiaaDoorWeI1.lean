/-
  weather's Parse: the numbers of kind 1, as a piece of the round. (printed by wip/gen/gen_weI.py)
-/
import Derived.Test.YtofjhkjahpdkiaaDoorWeI0
namespace Go.Proofs.YtofjhkjahpdkiaaDoor.We
open Go.RowKit Go.MapKept Go.Proofs.YtofjhkjahpdkiaaDoorW.PrintWords Go.Proofs.YtofjhkjahpdkiaaDoor.Px
set_option linter.unusedVariables false
set_option linter.unusedSimpArgs false
attribute [local go_sem] run_store_func run_store_nilFunc tok_f2
set_option maxHeartbeats 8000000 in
set_option maxRecDepth 1000000 in
theorem numl1_wp (Q : Exit → Act → World → Prop) (D : List Deferred) (x0 x1 x2 x3 x4 x5 x7 x9 x10 x11 x12 x13 x14 x15 x16 x17 x18 x19 x20 x21 x22 x23 x24 x25 x26 x27 x28 x29 x30 x31 x32 x33 x34 x35 x36 x37 x38 x39 x40 x41 x42 x43 x44 x45 x46 x47 x48 x49 x50 x51 x52 x53 x54 x55 x56 x57 x58 x62 x63 x64 x65 x66 x67 x68 x69 x70 x71 x72 x73 x74 x75 x76 x77 x78 x79 x80 x81 x82 x83 x84 x85 x86 x87 x88 x89 x90 x91 x92 x93 x94 x95 x96 x97 x98 x99 x100 x101 : Value) (base : World) (txt : ByteArray) (g n bs gg c2 : Nat) (l : List STok) (xs : List SSp) (w : World)
    (hP : PSt base txt g n w l xs) (hbs : n ≤ bs) (hs : w.heap[bs]? = some (.cells #[.int .i64 1, .int .i64 0, .int .i64 0, .int .i64 0, .int .i64 0] 32 (0, 0))) (hp1 : w.cell? ⟨gg, 0, none⟩ = some (.pointer (some ⟨bs, 0 + 1, none⟩))) (hp2 : w.cell? ⟨gg, 1, none⟩ = some (.pointer (some ⟨bs, 0 + 2, none⟩))) (hgg : gg ≠ g ∧ gg ≠ bs)
    (hE : ∀ (x : Fail) (y13 y61 y62 y63 y64 y65 y66 y67 y68 y69 y70 : Value) (w' : World), pNums txt.size 1 l = .error x → DSt base w' → Q (.panic (failV x.1 x.2)) { tmps := #[x0, x1, x2, x3, x4, x5, .pointer (some ⟨g + 1, 0, none⟩), x7, .pointer (some ⟨bs, 0, none⟩), x9, x10, x11, x12, y13, x14, x15, x16, x17, x18, x19, x20, x21, x22, x23, x24, x25, x26, x27, x28, x29, x30, x31, x32, x33, x34, x35, x36, x37, x38, x39, x40, x41, x42, x43, x44, x45, x46, x47, x48, x49, x50, x51, x52, x53, x54, x55, x56, x57, x58, .slice (some ⟨gg, 0, none⟩) 2 c2, .int .i64 2, y61, y62, y63, y64, y65, y66, y67, y68, y69, y70, x71, x72, x73, x74, x75, x76, x77, x78, x79, x80, x81, x82, x83, x84, x85, x86, x87, x88, x89, x90, x91, x92, x93, x94, x95, x96, x97, x98, x99, x100, x101], defers := D } w')
    (hQ : ∀ (q nn : Int) (r : List STok) (y13 y61 y62 y63 y64 y65 y66 y67 y68 y69 y70 : Value) (w' : World), pNums txt.size 1 l = .ok (q, nn, r) → PSt base txt g n w' r xs → w'.heap[bs]? = some (.cells #[.int .i64 1, .int .i64 q, .int .i64 nn, .int .i64 0, .int .i64 0] 32 (0, 0)) → Q .normal { tmps := #[x0, x1, x2, x3, x4, x5, .pointer (some ⟨g + 1, 0, none⟩), x7, .pointer (some ⟨bs, 0, none⟩), x9, x10, x11, x12, y13, x14, x15, x16, x17, x18, x19, x20, x21, x22, x23, x24, x25, x26, x27, x28, x29, x30, x31, x32, x33, x34, x35, x36, x37, x38, x39, x40, x41, x42, x43, x44, x45, x46, x47, x48, x49, x50, x51, x52, x53, x54, x55, x56, x57, x58, .slice (some ⟨gg, 0, none⟩) 2 c2, .int .i64 2, y61, y62, y63, y64, y65, y66, y67, y68, y69, y70, x71, x72, x73, x74, x75, x76, x77, x78, x79, x80, x81, x82, x83, x84, x85, x86, x87, x88, x89, x90, x91, x92, x93, x94, x95, x96, x97, x98, x99, x100, x101], defers := D } w') :
    Code.wp Tryd.prog pNumL Q { tmps := #[x0, x1, x2, x3, x4, x5, .pointer (some ⟨g + 1, 0, none⟩), x7, .pointer (some ⟨bs, 0, none⟩), x9, x10, x11, x12, x13, x14, x15, x16, x17, x18, x19, x20, x21, x22, x23, x24, x25, x26, x27, x28, x29, x30, x31, x32, x33, x34, x35, x36, x37, x38, x39, x40, x41, x42, x43, x44, x45, x46, x47, x48, x49, x50, x51, x52, x53, x54, x55, x56, x57, x58, .slice (some ⟨gg, 0, none⟩) 2 c2, .int .i64 2, .int .i64 0, x62, x63, x64, x65, x66, x67, x68, x69, x70, x71, x72, x73, x74, x75, x76, x77, x78, x79, x80, x81, x82, x83, x84, x85, x86, x87, x88, x89, x90, x91, x92, x93, x94, x95, x96, x97, x98, x99, x100, x101], defers := D } w := by
  have HP := Lib.hid hP
  have HS := Lib.hid hs
  have HBS := Lib.hid hbs
  have hbg : bs ≠ g := by have := hP.hn; omega
  clear hP hs hbs
  show Code.wp Tryd.prog (.block _ (.loop _)) _ _ _
  refine wp_block (wp_loop_rounds 3 ?_)
  rw [rounds_succ]
  have cn := HP.out.nxc
  cases h0 : pNext txt.size 2 l with
  | error x =>
    have hx : pNums txt.size 1 l = .error x := by unfold pNums; simp [h0, if_pos]
    have hc := HP.out.next_err 2 x h0
    go_wp2_with fail
    refine hc.mono ?_
    rintro e w1 ⟨rfl, hd⟩
    have HD := Lib.hid hd
    clear hd hc
    go_wp2_with fail
    exact hE x _ _ _ _ _ _ _ _ _ _ _ _ hx HD.out
  | ok p0 =>
  obtain ⟨t0, l1⟩ := p0
  have hc := HP.out.next_go 2 t0 l1 h0
  go_wp2_with fail
  refine hc.mono ?_
  rintro e w1 ⟨rfl, hb, hP⟩
  have hS := (hb.block bs (blk_lt HS.out) hbg).trans HS.out
  obtain ⟨d0, d1, d2, d3, d4, q0, q1, q2, q3, q4⟩ := sp_flat hS
  have m1 := but_cell hb hp1 hgg.1
  have m2 := but_cell hb hp2 hgg.1
  have HP1 := Lib.hid (hP.setNew (p := ⟨bs, 1, none⟩) HBS.out (.int .i64 t0.f2))
  have HS1 := Lib.hid (blk_set hS 1 (.int .i64 t0.f2))
  clear hb hP hS hc cn HP HS
  go_upto_region 21 with (fail)
  replace hp1 := (World.cell?_setCell_other (w := w1) (v := .int .i64 t0.f2) (a := ⟨bs, 1, none⟩) (b := ⟨gg, 0, none⟩) (by first | exact hgg.2 | (intro h; exact hgg.2 (congrArg Addr.block h)) | simp [hgg.2])).trans m1
  clear m1
  replace hp2 := (World.cell?_setCell_other (w := w1) (v := .int .i64 t0.f2) (a := ⟨bs, 1, none⟩) (b := ⟨gg, 1, none⟩) (by first | exact hgg.2 | (intro h; exact hgg.2 (congrArg Addr.block h)) | simp [hgg.2])).trans m2
  clear m2
  generalize World.setCell w1 ⟨bs, 1, none⟩ (.int .i64 t0.f2) = v1 at *
  clear d0 d1 d2 d3 d4 q0 q1 q2 q3 q4
  have HP := HP1
  have HS := HS1
  clear HP1 HS1
  go_wp2_with fail
  rw [rounds_succ]
  have cn := HP.out.nxc
  cases h1 : pNext txt.size 2 l1 with
  | error x =>
    have hx : pNums txt.size 1 l = .error x := by unfold pNums; simp [h0, h1, if_pos]
    have hc := HP.out.next_err 2 x h1
    go_wp2_with fail
    refine hc.mono ?_
    rintro e w1 ⟨rfl, hd⟩
    have HD := Lib.hid hd
    clear hd hc
    go_wp2_with fail
    exact hE x _ _ _ _ _ _ _ _ _ _ _ _ hx HD.out
  | ok p1 =>
  obtain ⟨t1, l2⟩ := p1
  have hc := HP.out.next_go 2 t1 l2 h1
  go_wp2_with fail
  refine hc.mono ?_
  rintro e w2 ⟨rfl, hb, hP⟩
  have hS := (hb.block bs (blk_lt HS.out) hbg).trans HS.out
  obtain ⟨d0, d1, d2, d3, d4, q0, q1, q2, q3, q4⟩ := sp_flat hS
  have m1 := but_cell hb hp1 hgg.1
  have m2 := but_cell hb hp2 hgg.1
  have HP2 := Lib.hid (hP.setNew (p := ⟨bs, 2, none⟩) HBS.out (.int .i64 t1.f2))
  have HS2 := Lib.hid (blk_set hS 2 (.int .i64 t1.f2))
  clear hb hP hS hc cn HP HS
  go_upto_region 21 with (fail)
  replace hp1 := (World.cell?_setCell_other (w := w2) (v := .int .i64 t1.f2) (a := ⟨bs, 2, none⟩) (b := ⟨gg, 0, none⟩) (by first | exact hgg.2 | (intro h; exact hgg.2 (congrArg Addr.block h)) | simp [hgg.2])).trans m1
  clear m1
  replace hp2 := (World.cell?_setCell_other (w := w2) (v := .int .i64 t1.f2) (a := ⟨bs, 2, none⟩) (b := ⟨gg, 1, none⟩) (by first | exact hgg.2 | (intro h; exact hgg.2 (congrArg Addr.block h)) | simp [hgg.2])).trans m2
  clear m2
  generalize World.setCell w2 ⟨bs, 2, none⟩ (.int .i64 t1.f2) = v2 at *
  clear d0 d1 d2 d3 d4 q0 q1 q2 q3 q4
  have HP := HP2
  have HS := HS2
  clear HP2 HS2
  go_wp2_with fail
  rw [rounds_succ]
  have hx : pNums txt.size 1 l = .ok (t0.f2, t1.f2, l2) := by unfold pNums; simp [h0, h1, if_pos]
  go_wp2_with fail
  exact hQ _ _ _ _ _ _ _ _ _ _ _ _ _ _ _ hx HP.out HS.out
set_option maxRecDepth 1000000 in
theorem fld1 (w : World) : Sem.run Tryd.prog (Instr.field 65 (.agg #[.string ⟨#[99, 108, 111, 117, 100]⟩, .func (.func 45) #[] #[], .func (.func 46) #[] #[]]) 1) w = .ok (.func (.func 45) #[] #[]) w := by
  unfold Instr.field
  simp [run_underlying Tryd.underlying65]
  rfl
set_option maxHeartbeats 8000000 in
set_option maxRecDepth 1000000 in
theorem num1_wp (Q : Exit → Act → World → Prop) (D : List Deferred) (x0 x1 x2 x3 x4 x5 x7 x9 x10 x11 x12 x13 x14 x15 x16 x17 x18 x19 x20 x21 x22 x23 x24 x25 x26 x27 x28 x29 x30 x31 x32 x33 x34 x35 x36 x37 x38 x39 x40 x41 x42 x43 x44 x45 x46 x47 x48 x49 x50 x51 x52 x53 x54 x55 x56 x57 x58 x59 x60 x61 x62 x63 x64 x65 x66 x67 x68 x69 x70 x71 x72 x73 x74 x75 x76 x77 x78 x79 x80 x81 x82 x83 x84 x85 x86 x87 x88 x89 x90 x91 x92 x93 x94 x95 x96 x97 x98 x99 x100 x101 : Value) (base : World) (txt : ByteArray) (g n bs : Nat) (l : List STok) (xs : List SSp) (w : World)
    (hP : PSt base txt g n w l xs) (hbs : n ≤ bs) (hs : w.heap[bs]? = some (.cells #[.int .i64 1, .int .i64 0, .int .i64 0, .int .i64 0, .int .i64 0] 32 (0, 0)))
    (hE : ∀ (x : Fail) (y13 y54 y55 y56 y57 y58 y59 y60 y61 y62 y63 y64 y65 y66 y67 y68 y69 y70 : Value) (w' : World), pNums txt.size 1 l = .error x → DSt base w' → Q (.panic (failV x.1 x.2)) { tmps := #[x0, x1, x2, x3, x4, x5, .pointer (some ⟨g + 1, 0, none⟩), x7, .pointer (some ⟨bs, 0, none⟩), x9, x10, x11, x12, y13, x14, x15, x16, x17, x18, x19, x20, x21, x22, x23, x24, x25, x26, x27, x28, x29, x30, x31, x32, x33, x34, x35, x36, x37, x38, x39, x40, x41, x42, x43, x44, x45, x46, x47, x48, x49, x50, x51, x52, x53, y54, y55, y56, y57, y58, y59, y60, y61, y62, y63, y64, y65, y66, y67, y68, y69, y70, x71, x72, x73, x74, x75, x76, x77, x78, x79, x80, x81, x82, x83, x84, x85, x86, x87, x88, x89, x90, x91, x92, x93, x94, x95, x96, x97, x98, x99, x100, x101], defers := D } w')
    (hQ : ∀ (q nn : Int) (r : List STok) (y13 y54 y55 y56 y57 y58 y59 y60 y61 y62 y63 y64 y65 y66 y67 y68 y69 y70 : Value) (w' : World), pNums txt.size 1 l = .ok (q, nn, r) → PSt base txt g n w' r xs → w'.heap[bs]? = some (.cells #[.int .i64 1, .int .i64 q, .int .i64 nn, .int .i64 0, .int .i64 0] 32 (0, 0)) → Q .normal { tmps := #[x0, x1, x2, x3, x4, x5, .pointer (some ⟨g + 1, 0, none⟩), x7, .pointer (some ⟨bs, 0, none⟩), x9, x10, x11, x12, y13, x14, x15, x16, x17, x18, x19, x20, x21, x22, x23, x24, x25, x26, x27, x28, x29, x30, x31, x32, x33, x34, x35, x36, x37, x38, x39, x40, x41, x42, x43, x44, x45, x46, x47, x48, x49, x50, x51, x52, x53, y54, y55, y56, y57, y58, y59, y60, y61, y62, y63, y64, y65, y66, y67, y68, y69, y70, x71, x72, x73, x74, x75, x76, x77, x78, x79, x80, x81, x82, x83, x84, x85, x86, x87, x88, x89, x90, x91, x92, x93, x94, x95, x96, x97, x98, x99, x100, x101], defers := D } w') :
    Code.wp Tryd.prog pNumC Q { tmps := #[x0, x1, x2, x3, x4, x5, .pointer (some ⟨g + 1, 0, none⟩), x7, .pointer (some ⟨bs, 0, none⟩), x9, x10, x11, x12, x13, x14, x15, x16, x17, x18, x19, x20, x21, x22, x23, x24, x25, x26, x27, x28, x29, x30, x31, x32, x33, x34, x35, x36, x37, x38, x39, x40, x41, x42, x43, x44, x45, x46, x47, x48, x49, x50, x51, x52, x53, x54, x55, x56, x57, x58, x59, x60, x61, x62, x63, x64, x65, x66, x67, x68, x69, x70, x71, x72, x73, x74, x75, x76, x77, x78, x79, x80, x81, x82, x83, x84, x85, x86, x87, x88, x89, x90, x91, x92, x93, x94, x95, x96, x97, x98, x99, x100, x101], defers := D } w := by
  have HP := Lib.hid hP
  have HS := Lib.hid hs
  have HBS := Lib.hid hbs
  have c0 : w.cell? ⟨bs, 0, none⟩ = some (.int .i64 1) := (blk_cell hs 0).trans rfl
  have hbg : bs ≠ g := by have := hP.hn; omega
  clear hP hs hbs
  have hfl := fld1
  show Code.wp Tryd.prog (.seq _ pNumL) _ _ _
  refine wp_seq (wp_mono (Q := PN (pNumL.wp Tryd.prog Q)) ?_ (fun e a' w' h => PN_then h))
  show Code.wp Tryd.prog (.region 17 _ _) _ _ _
  go_wp2_with fail
  go_region_with (first | (go_at_call 29; refine (kinds_calls _).mono ?_; rintro e w1 ⟨rfl, hm, hb⟩; have hm' : w1.heap[w.heap.size]? = some (.map kmap 3) := hm; have hl := look_one hm' 1 0 kv1 find1; have cc : w1.cell? ⟨bs, 0, none⟩ = some (.int .i64 1) := (by first | exact cell_bel (v := .int .i64 1) (a := ⟨bs, 0, none⟩) c0 hb | exact cell_bel (w1 := World.drew w) (v := .int .i64 1) (a := ⟨bs, 0, none⟩) c0 hb); unfold kv1 at hl; have hb' : Below w.heap.size w w1 := (by first | exact hb | exact (Below.refl _ _).drew.trans hb); have HB := Lib.hid hb'; clear hb hb' hm hm') | (go_at_call 45; refine (nums1 _ _).mono ?_; rintro e w2 ⟨gg, c2, rfl, hp1, hp2, hg2, hb2⟩; have HB2 := Lib.hid hb2; clear hb2))
  all_goals (
    show Code.wp Tryd.prog pNumL Q { tmps := #[_, _, _, _, _, _, _, _, _, _, _, _, _, _, _, _, _, _, _, _, _, _, _, _, _, _, _, _, _, _, _, _, _, _, _, _, _, _, _, _, _, _, _, _, _, _, _, _, _, _, _, _, _, _, _, _, _, _, _, _, _, _, _, _, _, _, _, _, _, _, _, _, _, _, _, _, _, _, _, _, _, _, _, _, _, _, _, _, _, _, _, _, _, _, _, _, _, _, _, _, _, _], defers := _ } _
    have hB : Below w.heap.size w w2 := by first | exact HB.out.trans (HB2.out.mono HB.out.size) | exact HB.out
    have hsz := hB.size
    refine numl1_wp Q D _ _ _ _ _ _ _ _ _ _ _ _ _ _ _ _ _ _ _ _ _ _ _ _ _ _ _ _ _ _ _ _ _ _ _ _ _ _ _ _ _ _ _ _ _ _ _ _ _ _ _ _ _ _ _ _ _ _ _ _ _ _ _ _ _ _ _ _ _ _ _ _ _ _ _ _ _ _ _ _ _ _ _ _ _ _ _ _ _ _ _ _ _ _ _ _ _ base txt g n bs gg c2 l xs w2 (HP.out.go hB) HBS.out ((hB.block bs (blk_lt HS.out)).trans HS.out) hp1 hp2 (by have := HP.out.hn; have := HP.out.hnw; have := blk_lt HS.out; have := HB.out.size; omega) (fun x z13 z61 z62 z63 z64 z65 z66 z67 z68 z69 z70 w' h1 h2 => hE x z13 _ _ _ _ _ _ _ z61 z62 z63 z64 z65 z66 z67 z68 z69 z70 w' h1 h2) (fun q nn r z13 z61 z62 z63 z64 z65 z66 z67 z68 z69 z70 w' h1 h2 h3 => hQ q nn r z13 _ _ _ _ _ _ _ z61 z62 z63 z64 z65 z66 z67 z68 z69 z70 w' h1 h2 h3))
end Go.Proofs.YtofjhkjahpdkiaaDoor.We
