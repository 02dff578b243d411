/-
  weather's Parse: the numbers of kind 3, as a piece of the round. (printed by wip/gen/gen_weI.py)
-/
import Derived.Test.YtofjhkjahpdkiaaDoorWeI0
namespace Go.Proofs.YtofjhkjahpdkiaaDoor.We
open Go.RowKit Go.MapKept Go.Proofs.YtofjhkjahpdkiaaDoorW.PrintWords Go.Proofs.YtofjhkjahpdkiaaDoor.Px
set_option linter.unusedVariables false
set_option linter.unusedSimpArgs false
attribute [local go_sem] run_store_func run_store_nilFunc tok_f2
set_option maxHeartbeats 8000000 in
set_option maxRecDepth 1000000 in
theorem numl3_wp (Q : Exit → Act → World → Prop) (D : List Deferred) (x0 x1 x2 x3 x4 x5 x7 x9 x10 x11 x12 x13 x14 x15 x16 x17 x18 x19 x20 x21 x22 x23 x24 x25 x26 x27 x28 x29 x30 x31 x32 x33 x34 x35 x36 x37 x38 x39 x40 x41 x42 x43 x44 x45 x46 x47 x48 x49 x50 x51 x52 x53 x54 x55 x56 x57 x58 x62 x63 x64 x65 x66 x67 x68 x69 x70 x71 x72 x73 x74 x75 x76 x77 x78 x79 x80 x81 x82 x83 x84 x85 x86 x87 x88 x89 x90 x91 x92 x93 x94 x95 x96 x97 x98 x99 x100 x101 : Value) (base : World) (txt : ByteArray) (g n bs gg c2 : Nat) (l : List STok) (xs : List SSp) (w : World)
    (hP : PSt base txt g n w l xs) (hbs : n ≤ bs) (hs : w.heap[bs]? = some (.cells #[.int .i64 3, .int .i64 0, .int .i64 0, .int .i64 0, .int .i64 0] 32 (0, 0))) 
    (hE : ∀ (x : Fail) (y13 y61 y62 y63 y64 y65 y66 y67 y68 y69 y70 : Value) (w' : World), pNums txt.size 3 l = .error x → DSt base w' → Q (.panic (failV x.1 x.2)) { tmps := #[x0, x1, x2, x3, x4, x5, .pointer (some ⟨g + 1, 0, none⟩), x7, .pointer (some ⟨bs, 0, none⟩), x9, x10, x11, x12, y13, x14, x15, x16, x17, x18, x19, x20, x21, x22, x23, x24, x25, x26, x27, x28, x29, x30, x31, x32, x33, x34, x35, x36, x37, x38, x39, x40, x41, x42, x43, x44, x45, x46, x47, x48, x49, x50, x51, x52, x53, x54, x55, x56, x57, x58, .slice none 0 0, .int .i64 0, y61, y62, y63, y64, y65, y66, y67, y68, y69, y70, x71, x72, x73, x74, x75, x76, x77, x78, x79, x80, x81, x82, x83, x84, x85, x86, x87, x88, x89, x90, x91, x92, x93, x94, x95, x96, x97, x98, x99, x100, x101], defers := D } w')
    (hQ : ∀ (q nn : Int) (r : List STok) (y13 y61 y62 y63 y64 y65 y66 y67 y68 y69 y70 : Value) (w' : World), pNums txt.size 3 l = .ok (q, nn, r) → PSt base txt g n w' r xs → w'.heap[bs]? = some (.cells #[.int .i64 3, .int .i64 q, .int .i64 nn, .int .i64 0, .int .i64 0] 32 (0, 0)) → Q .normal { tmps := #[x0, x1, x2, x3, x4, x5, .pointer (some ⟨g + 1, 0, none⟩), x7, .pointer (some ⟨bs, 0, none⟩), x9, x10, x11, x12, y13, x14, x15, x16, x17, x18, x19, x20, x21, x22, x23, x24, x25, x26, x27, x28, x29, x30, x31, x32, x33, x34, x35, x36, x37, x38, x39, x40, x41, x42, x43, x44, x45, x46, x47, x48, x49, x50, x51, x52, x53, x54, x55, x56, x57, x58, .slice none 0 0, .int .i64 0, y61, y62, y63, y64, y65, y66, y67, y68, y69, y70, x71, x72, x73, x74, x75, x76, x77, x78, x79, x80, x81, x82, x83, x84, x85, x86, x87, x88, x89, x90, x91, x92, x93, x94, x95, x96, x97, x98, x99, x100, x101], defers := D } w') :
    Code.wp Tryd.prog pNumL Q { tmps := #[x0, x1, x2, x3, x4, x5, .pointer (some ⟨g + 1, 0, none⟩), x7, .pointer (some ⟨bs, 0, none⟩), x9, x10, x11, x12, x13, x14, x15, x16, x17, x18, x19, x20, x21, x22, x23, x24, x25, x26, x27, x28, x29, x30, x31, x32, x33, x34, x35, x36, x37, x38, x39, x40, x41, x42, x43, x44, x45, x46, x47, x48, x49, x50, x51, x52, x53, x54, x55, x56, x57, x58, .slice none 0 0, .int .i64 0, .int .i64 0, x62, x63, x64, x65, x66, x67, x68, x69, x70, x71, x72, x73, x74, x75, x76, x77, x78, x79, x80, x81, x82, x83, x84, x85, x86, x87, x88, x89, x90, x91, x92, x93, x94, x95, x96, x97, x98, x99, x100, x101], defers := D } w := by
  have HP := Lib.hid hP
  have HS := Lib.hid hs
  have HBS := Lib.hid hbs
  have hbg : bs ≠ g := by have := hP.hn; omega
  clear hP hs hbs
  show Code.wp Tryd.prog (.block _ (.loop _)) _ _ _
  refine wp_block (wp_loop_rounds 1 ?_)
  rw [rounds_succ]
  have hx : pNums txt.size 3 l = .ok (0, 0, l) := by unfold pNums; simp
  go_wp2_with fail
  exact hQ _ _ _ _ _ _ _ _ _ _ _ _ _ _ _ hx HP.out HS.out
set_option maxRecDepth 1000000 in
theorem fld3 (w : World) : Sem.run Tryd.prog (Instr.field 65 (.agg #[.string ⟨#[99, 108, 111, 115, 101, 100]⟩, .func (.func 49) #[] #[], .func (.func 50) #[] #[]]) 1) w = .ok (.func (.func 49) #[] #[]) w := by
  unfold Instr.field
  simp [run_underlying Tryd.underlying65]
  rfl
set_option maxHeartbeats 8000000 in
set_option maxRecDepth 1000000 in
theorem num3_wp (Q : Exit → Act → World → Prop) (D : List Deferred) (x0 x1 x2 x3 x4 x5 x7 x9 x10 x11 x12 x13 x14 x15 x16 x17 x18 x19 x20 x21 x22 x23 x24 x25 x26 x27 x28 x29 x30 x31 x32 x33 x34 x35 x36 x37 x38 x39 x40 x41 x42 x43 x44 x45 x46 x47 x48 x49 x50 x51 x52 x53 x54 x55 x56 x57 x58 x59 x60 x61 x62 x63 x64 x65 x66 x67 x68 x69 x70 x71 x72 x73 x74 x75 x76 x77 x78 x79 x80 x81 x82 x83 x84 x85 x86 x87 x88 x89 x90 x91 x92 x93 x94 x95 x96 x97 x98 x99 x100 x101 : Value) (base : World) (txt : ByteArray) (g n bs : Nat) (l : List STok) (xs : List SSp) (w : World)
    (hP : PSt base txt g n w l xs) (hbs : n ≤ bs) (hs : w.heap[bs]? = some (.cells #[.int .i64 3, .int .i64 0, .int .i64 0, .int .i64 0, .int .i64 0] 32 (0, 0)))
    (hE : ∀ (x : Fail) (y13 y54 y55 y56 y57 y58 y59 y60 y61 y62 y63 y64 y65 y66 y67 y68 y69 y70 : Value) (w' : World), pNums txt.size 3 l = .error x → DSt base w' → Q (.panic (failV x.1 x.2)) { tmps := #[x0, x1, x2, x3, x4, x5, .pointer (some ⟨g + 1, 0, none⟩), x7, .pointer (some ⟨bs, 0, none⟩), x9, x10, x11, x12, y13, x14, x15, x16, x17, x18, x19, x20, x21, x22, x23, x24, x25, x26, x27, x28, x29, x30, x31, x32, x33, x34, x35, x36, x37, x38, x39, x40, x41, x42, x43, x44, x45, x46, x47, x48, x49, x50, x51, x52, x53, y54, y55, y56, y57, y58, y59, y60, y61, y62, y63, y64, y65, y66, y67, y68, y69, y70, x71, x72, x73, x74, x75, x76, x77, x78, x79, x80, x81, x82, x83, x84, x85, x86, x87, x88, x89, x90, x91, x92, x93, x94, x95, x96, x97, x98, x99, x100, x101], defers := D } w')
    (hQ : ∀ (q nn : Int) (r : List STok) (y13 y54 y55 y56 y57 y58 y59 y60 y61 y62 y63 y64 y65 y66 y67 y68 y69 y70 : Value) (w' : World), pNums txt.size 3 l = .ok (q, nn, r) → PSt base txt g n w' r xs → w'.heap[bs]? = some (.cells #[.int .i64 3, .int .i64 q, .int .i64 nn, .int .i64 0, .int .i64 0] 32 (0, 0)) → Q .normal { tmps := #[x0, x1, x2, x3, x4, x5, .pointer (some ⟨g + 1, 0, none⟩), x7, .pointer (some ⟨bs, 0, none⟩), x9, x10, x11, x12, y13, x14, x15, x16, x17, x18, x19, x20, x21, x22, x23, x24, x25, x26, x27, x28, x29, x30, x31, x32, x33, x34, x35, x36, x37, x38, x39, x40, x41, x42, x43, x44, x45, x46, x47, x48, x49, x50, x51, x52, x53, y54, y55, y56, y57, y58, y59, y60, y61, y62, y63, y64, y65, y66, y67, y68, y69, y70, x71, x72, x73, x74, x75, x76, x77, x78, x79, x80, x81, x82, x83, x84, x85, x86, x87, x88, x89, x90, x91, x92, x93, x94, x95, x96, x97, x98, x99, x100, x101], defers := D } w') :
    Code.wp Tryd.prog pNumC Q { tmps := #[x0, x1, x2, x3, x4, x5, .pointer (some ⟨g + 1, 0, none⟩), x7, .pointer (some ⟨bs, 0, none⟩), x9, x10, x11, x12, x13, x14, x15, x16, x17, x18, x19, x20, x21, x22, x23, x24, x25, x26, x27, x28, x29, x30, x31, x32, x33, x34, x35, x36, x37, x38, x39, x40, x41, x42, x43, x44, x45, x46, x47, x48, x49, x50, x51, x52, x53, x54, x55, x56, x57, x58, x59, x60, x61, x62, x63, x64, x65, x66, x67, x68, x69, x70, x71, x72, x73, x74, x75, x76, x77, x78, x79, x80, x81, x82, x83, x84, x85, x86, x87, x88, x89, x90, x91, x92, x93, x94, x95, x96, x97, x98, x99, x100, x101], defers := D } w := by
  have HP := Lib.hid hP
  have HS := Lib.hid hs
  have HBS := Lib.hid hbs
  have c0 : w.cell? ⟨bs, 0, none⟩ = some (.int .i64 3) := (blk_cell hs 0).trans rfl
  have hbg : bs ≠ g := by have := hP.hn; omega
  clear hP hs hbs
  have hfl := fld3
  show Code.wp Tryd.prog (.seq _ pNumL) _ _ _
  refine wp_seq (wp_mono (Q := PN (pNumL.wp Tryd.prog Q)) ?_ (fun e a' w' h => PN_then h))
  show Code.wp Tryd.prog (.region 17 _ _) _ _ _
  go_wp2_with fail
  go_region_with (first | (go_at_call 29; refine (kinds_calls _).mono ?_; rintro e w1 ⟨rfl, hm, hb⟩; have hm' : w1.heap[w.heap.size]? = some (.map kmap 3) := hm; have hl := look_one hm' 3 2 kv3 find3; have cc : w1.cell? ⟨bs, 0, none⟩ = some (.int .i64 3) := (by first | exact cell_bel (v := .int .i64 3) (a := ⟨bs, 0, none⟩) c0 hb | exact cell_bel (w1 := World.drew w) (v := .int .i64 3) (a := ⟨bs, 0, none⟩) c0 hb); unfold kv3 at hl; have hb' : Below w.heap.size w w1 := (by first | exact hb | exact (Below.refl _ _).drew.trans hb); have HB := Lib.hid hb'; clear hb hb' hm hm') | (go_at_call 49; refine (nums3 _ _).mono ?_; rintro e w2 ⟨rfl, rfl⟩))
  all_goals (
    show Code.wp Tryd.prog pNumL Q { tmps := #[_, _, _, _, _, _, _, _, _, _, _, _, _, _, _, _, _, _, _, _, _, _, _, _, _, _, _, _, _, _, _, _, _, _, _, _, _, _, _, _, _, _, _, _, _, _, _, _, _, _, _, _, _, _, _, _, _, _, _, _, _, _, _, _, _, _, _, _, _, _, _, _, _, _, _, _, _, _, _, _, _, _, _, _, _, _, _, _, _, _, _, _, _, _, _, _, _, _, _, _, _, _], defers := _ } _
    have hB : Below w.heap.size w w2 := by first | exact HB.out.trans (HB2.out.mono HB.out.size) | exact HB.out
    have hsz := hB.size
    refine numl3_wp Q D _ _ _ _ _ _ _ _ _ _ _ _ _ _ _ _ _ _ _ _ _ _ _ _ _ _ _ _ _ _ _ _ _ _ _ _ _ _ _ _ _ _ _ _ _ _ _ _ _ _ _ _ _ _ _ _ _ _ _ _ _ _ _ _ _ _ _ _ _ _ _ _ _ _ _ _ _ _ _ _ _ _ _ _ _ _ _ _ _ _ _ _ _ _ _ _ _ base txt g n bs 0 0 l xs w2 (HP.out.go hB) HBS.out ((hB.block bs (blk_lt HS.out)).trans HS.out)  (fun x z13 z61 z62 z63 z64 z65 z66 z67 z68 z69 z70 w' h1 h2 => hE x z13 _ _ _ _ _ _ _ z61 z62 z63 z64 z65 z66 z67 z68 z69 z70 w' h1 h2) (fun q nn r z13 z61 z62 z63 z64 z65 z66 z67 z68 z69 z70 w' h1 h2 h3 => hQ q nn r z13 _ _ _ _ _ _ _ z61 z62 z63 z64 z65 z66 z67 z68 z69 z70 w' h1 h2 h3))
end Go.Proofs.YtofjhkjahpdkiaaDoor.We
