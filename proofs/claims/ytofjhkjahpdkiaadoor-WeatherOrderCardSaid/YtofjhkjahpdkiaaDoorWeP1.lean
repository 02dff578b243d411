/-
  WeatherOrder behind the first comparison: the exchange of two neighbours. (printed by wip/gen/gen_weP1.py)
-/
import Derived.Test.YtofjhkjahpdkiaaDoorWeP0
import Derived.Test.YtofjhkjahpdkiaaDoorWeN
import Derived.Test.YtofjhkjahpdkiaaDoorWeJ
import Derived.Test.YtofjhkjahpdkiaaDoorWeR
namespace Go.Proofs.YtofjhkjahpdkiaaDoor.We
open Go.RowKit Go.MapKept Go.Proofs.YtofjhkjahpdkiaaDoorW.PrintWords Go.Proofs.YtofjhkjahpdkiaaDoor.Px
set_option linter.unusedVariables false
set_option linter.unusedSimpArgs false
attribute [local go_sem high] eqCd
abbrev cO (c : Cd) : Obj := .cells #[.int .i64 c.c0, .int .i64 c.c1, .int .i64 c.c2, .int .i64 c.c3, .int .i64 c.s, .bool c.o] 26
noncomputable def ordRest : Code := match Tryd.f3.body with | some (.seq _ (.seq _ (.seq _ (.seq _ (.seq _ (.seq _ (.seq _ (.seq _ (.seq _ c))))))))) => c | _ => .skip
abbrev ordPost (w : World) : Exit → Act → World → Prop := bodyPost Tryd.prog Tryd.f3 fun e w' => e = .returned (.bool true) ∧ Below w.heap.size w w'
theorem cell5_bel {W w1 : World} {a : Addr} {s : SSp} (h : W.cell? a = some (.int .i64 s.f0) ∧ W.cell? ⟨a.block, a.off + 1, none⟩ = some (.int .i64 s.f1) ∧ W.cell? ⟨a.block, a.off + 2, none⟩ = some (.int .i64 s.f2) ∧ W.cell? ⟨a.block, a.off + 3, none⟩ = some (.int .i64 s.f3) ∧ W.cell? ⟨a.block, a.off + 4, none⟩ = some (.int .i64 s.f4)) (hb : Below W.heap.size W w1) :
    w1.cell? a = some (.int .i64 s.f0) ∧ w1.cell? ⟨a.block, a.off + 1, none⟩ = some (.int .i64 s.f1) ∧ w1.cell? ⟨a.block, a.off + 2, none⟩ = some (.int .i64 s.f2) ∧ w1.cell? ⟨a.block, a.off + 3, none⟩ = some (.int .i64 s.f3) ∧ w1.cell? ⟨a.block, a.off + 4, none⟩ = some (.int .i64 s.f4) :=
  ⟨cell_bel h.1 hb, cell_bel h.2.1 hb, cell_bel h.2.2.1 hb, cell_bel h.2.2.2.1 hb, cell_bel h.2.2.2.2 hb⟩
theorem own_empty (W : World) : Kd.R kSp 32 (W.alloc (.cells #[] 32)) W.heap.size (fun _ => True) (.slice (some ⟨W.heap.size, 0, none⟩) 0 0) [] := by
  refine ⟨fun _ _ => trivial, [], ⟨?_, .inr ⟨W.heap.size, 0, #[], rfl, Nat.le_refl _, blk_new W _, Nat.le_refl _, by simp [maxLen], by simp, by simp⟩⟩, ?_⟩
  · rfl
  · exact ⟨rfl, fun j p h => by simp at h⟩
theorem at_callsN (A0 : Option Addr) (c0 : Nat) (l : List SSp) (n : Nat) (m : Int) (c : Cd) (x : Int) (w : World) (hn : l.length = n) (h : atP l m = (c, x)) (hr0 : Kd.C kSp w A0 n l) (hc0 : n ≤ c0) :
    Calls Tryd.prog 9 #[.slice A0 n c0, .int .i64 m] w fun e w' => e = .returned (.tuple #[.agg #[.int .i64 c.c0, .int .i64 c.c1, .int .i64 c.c2, .int .i64 c.c3, .int .i64 c.s, .bool c.o], .int .i64 x]) ∧ Below w.heap.size w w' := by
  subst hn
  exact at_calls' A0 c0 l m c x w h hr0 hc0
noncomputable def ordTurn : Code := match ordRest with | .seq _ (.seq _ (.seq _ c)) => c | _ => .skip
set_option maxHeartbeats 16000000 in
set_option maxRecDepth 1000000 in
theorem order_turn (x2 x3 x4 x5 x6 x7 x8 x11 x12 x13 x14 x15 x17 x18 x19 x20 x21 x22 x23 x24 x25 x26 x27 x28 x29 x30 x31 x32 x33 x34 x35 x36 x37 x38 x39 x40 x41 x42 x43 x44 x45 x46 x47 x48 x49 x50 x51 x52 x53 x54 x55 x56 x57 x58 x59 x60 x61 x62 x63 x64 x65 x66 x67 x68 x69 x70 x71 x72 x73 x74 x75 x76 x77 x78 x79 x80 x81 x82 x83 x84 x85 x86 x87 x88 x89 x90 x91 x92 x93 x94 x95 x96 x97 x98 x99 x100 x101 x102 x103 x104 x105 x106 x107 x108 x109 x110 x111 x112 x113 x114 x115 x116 x117 x118 x119 x120 x121 x122 x123 x124 x125 x126 x127 x128 x129 x130 x131 x132 x133 x134 x135 x136 x137 x138 x139 x140 x141 x142 x143 : Value) (ad : Addr) (c : Nat) (l : List SSp) (m : Int) (w W : World) (b1 : Nat) (ca : Cd) (x : Int) (s t : SSp) (hr0 : Kd.C kSp w (some ad) l.length l) (hc0 : l.length ≤ c) (hlen : l.length ≤ 20) (hB : Below w.heap.size w W) (hA : CB W b1 ca) (hb1 : w.heap.size ≤ b1)
    (hx0 : 0 ≤ x) (hx1 : x < (l.length : Int) - 1) (htu : turnL l x.toNat = (l.set x.toNat t).set (x + 1).toNat s) (hat : atP (turnL l x.toNat) m = (ca, 0)) (SF : W.cell? (ad.add (x.toNat * 5)) = some (.int .i64 s.f0) ∧ W.cell? ⟨(ad.add (x.toNat * 5)).block, (ad.add (x.toNat * 5)).off + 1, none⟩ = some (.int .i64 s.f1) ∧ W.cell? ⟨(ad.add (x.toNat * 5)).block, (ad.add (x.toNat * 5)).off + 2, none⟩ = some (.int .i64 s.f2) ∧ W.cell? ⟨(ad.add (x.toNat * 5)).block, (ad.add (x.toNat * 5)).off + 3, none⟩ = some (.int .i64 s.f3) ∧ W.cell? ⟨(ad.add (x.toNat * 5)).block, (ad.add (x.toNat * 5)).off + 4, none⟩ = some (.int .i64 s.f4)) (TF : W.cell? (ad.add ((x + 1).toNat * 5)) = some (.int .i64 t.f0) ∧ W.cell? ⟨(ad.add ((x + 1).toNat * 5)).block, (ad.add ((x + 1).toNat * 5)).off + 1, none⟩ = some (.int .i64 t.f1) ∧ W.cell? ⟨(ad.add ((x + 1).toNat * 5)).block, (ad.add ((x + 1).toNat * 5)).off + 2, none⟩ = some (.int .i64 t.f2) ∧ W.cell? ⟨(ad.add ((x + 1).toNat * 5)).block, (ad.add ((x + 1).toNat * 5)).off + 3, none⟩ = some (.int .i64 t.f3) ∧ W.cell? ⟨(ad.add ((x + 1).toNat * 5)).block, (ad.add ((x + 1).toNat * 5)).off + 4, none⟩ = some (.int .i64 t.f4)) :
    Code.wp Tryd.prog ordTurn (ordPost w) { tmps := #[.slice (some ad) l.length c, .int .i64 m, x2, x3, x4, x5, x6, x7, x8, .bool true, .pointer (some ⟨b1, 0, none⟩), x11, x12, x13, x14, x15, .int .i64 x, x17, x18, x19, x20, x21, x22, x23, x24, x25, x26, x27, x28, x29, x30, x31, x32, x33, x34, x35, x36, x37, x38, x39, x40, x41, x42, x43, x44, x45, x46, x47, x48, x49, x50, x51, x52, x53, x54, x55, x56, x57, x58, x59, x60, x61, x62, x63, x64, x65, x66, x67, x68, x69, x70, x71, x72, x73, x74, x75, x76, x77, x78, x79, x80, x81, x82, x83, x84, x85, x86, x87, x88, x89, x90, x91, x92, x93, x94, x95, x96, x97, x98, x99, x100, x101, x102, x103, x104, x105, x106, x107, x108, x109, x110, x111, x112, x113, x114, x115, x116, x117, x118, x119, x120, x121, x122, x123, x124, x125, x126, x127, x128, x129, x130, x131, x132, x133, x134, x135, x136, x137, x138, x139, x140, x141, x142, x143], defers := [] } W := by
  have HR0 := Lib.hid hr0
  have HC0 := Lib.hid hc0
  have HLEN := Lib.hid hlen
  have HAT := Lib.hid hat
  have HTU := Lib.hid htu
  have HB := Lib.hid hB
  have HA := Lib.hid hA
  have HX0 := Lib.hid hx0
  have HX1 := Lib.hid hx1
  have HSF := Lib.hid SF
  have HTF := Lib.hid TF
  clear hr0 hc0 hlen hat htu hB hA hx0 hx1 SF TF
  show Code.wp Tryd.prog (.seq (.region 20 _ _) _) _ _ _
  have HR1 := Lib.hid (Kd.C_below (Kd.C_below HR0.out HB.out) (below_alloc (Below.refl _ _) (.cells #[] 32)))
  have HO1 := Lib.hid (own_empty W)
  have hl20 := HLEN.out
  go_wp2_with (at_builtin; refine Kd.R_append_rows kSp (Rr := kSp.K (W.alloc (.cells #[] 32))) (w0 := W) W.heap.size (by rfl) (.tmp 109) (.tmp 110) 22 32 (.agg #[(.int .i64 0), (.int .i64 0), (.int .i64 0), (.int .i64 0), (.int .i64 0)]) 40 (by rfl) Tryd.underlying22 infoSp (by rfl) (by decide) (by omega) (.slice (some ⟨W.heap.size, 0, none⟩) 0 0) [] l (some ad) l.length c (fun _ => True) (fun _ => False) (by rfl) (by rfl) HO1.out HR1.out (fun y cs h => by rw [k32_open h]; exact k32_mkM _ _ _ y) (fun _ h => h.elim) (fun _ _ => trivial) (below_alloc (Below.refl _ _) _) (by simp) (by simp only [List.length_nil]; omega) ?_; intro v1 w1 hr1 hb1' hg1 hat1)
  rw [List.nil_append] at hr1
  have hx0 := HX0.out
  have hx1 := HX1.out
  have hsf := (cell5_bel HSF.out hb1')
  have htf := (cell5_bel HTF.out hb1')
  have hlta : (ad.add (x.toNat * 5)).block < W.heap.size := World.block_lt_of_cell? W _ HSF.out.1
  have hltt : (ad.add ((x + 1).toNat * 5)).block < W.heap.size := World.block_lt_of_cell? W _ HTF.out.1
  have hA1 := Lib.hid (blk_below HA.out hb1')
  have hB1 := Lib.hid (HB.out.trans (hb1'.mono HB.out.size))
  obtain ⟨A1, c1, e1, hlc, hC1⟩ := Kd.R_reads hr1
  subst e1
  obtain ⟨_, inner, hown, _⟩ := hr1
  obtain ⟨g, hg0, hgt, cur, hgc⟩ : ∃ g, A1 = some ⟨g, 0, none⟩ ∧ W.heap.size ≤ g ∧ ∃ cur, w1.heap[g]? = some (.cells cur 32 (0, 0)) := by
    rcases hown.2 with ⟨hv, h0⟩ | ⟨g, cap, cur, hv, hbg, hg, _⟩
    · exfalso; omega
    · injection hv with hv _ _
      exact ⟨g, hv, hbg, cur, hg⟩
  subst hg0
  obtain ⟨ad1, e1, y0, y1, y2, y3, y4⟩ := at_T32 hC1 x hx0 (by omega)
  injection e1 with e1
  subst e1
  obtain ⟨ad2, e2, u0, u1, u2, u3, u4⟩ := at_T32 hC1 (x + 1) (by omega) (by omega)
  injection e2 with e2
  subst e2
  have hfz : ∀ o, w1.frozen? ⟨g, o, none⟩ = false := fun o => blk_frozen hgc o
  have p := eq_true hx0
  have q := eq_true (show x < (l.length : Int) by omega)
  have p' := eq_true (show 0 ≤ x + 1 by omega)
  have q' := eq_true (show x + 1 < (l.length : Int) by omega)
  have hw : wrap64 (x + 1) = x + 1 := wrap_small (by omega) (by omega)
  have hG := Lib.hid hgt
  have n1 : ¬ (ad.add (x.toNat * 5)).block = g := by omega
  have n2 : ¬ (ad.add ((x + 1).toNat * 5)).block = g := by omega
  have hgl : g < w1.heap.size := blk_lt hgc
  have HC1 := Lib.hid hC1
  have HLC := Lib.hid hlc
  have HGC := Lib.hid hgc
  clear hb1' hg1 hat1 HR1 HO1 hl20 hx0 hx1 hown hgc hgt hlta hltt hC1 hlc hgl
  obtain ⟨a0, a1, a2, a3, a4⟩ := hsf
  obtain ⟨t0, t1, t2, t3, t4⟩ := htf
  have hxy : ∃ y : Int, x + 1 = y := ⟨_, rfl⟩
  obtain ⟨y, hy⟩ := hxy
  have hwy : IntKind.i64.wrap y = y := by rw [← hy]; exact (Go.Proofs.YtofjhkjahpdkiaaDoorW.PrintLast.i64_w _).trans hw
  have hwz : wrap64 y = y := by rw [← hy]; exact hw
  have hx0 := HX0.out
  have N0 : (x.toNat = y.toNat) = False := eq_false (by omega)
  have N00 : (x.toNat * 5 = y.toNat * 5) = False := eq_false (by omega)
  have N01 : (x.toNat * 5 = y.toNat * 5 + 1) = False := eq_false (by omega)
  have N02 : (x.toNat * 5 = y.toNat * 5 + 2) = False := eq_false (by omega)
  have N03 : (x.toNat * 5 = y.toNat * 5 + 3) = False := eq_false (by omega)
  have N04 : (x.toNat * 5 = y.toNat * 5 + 4) = False := eq_false (by omega)
  have N10 : (x.toNat * 5 + 1 = y.toNat * 5) = False := eq_false (by omega)
  have N11 : (x.toNat * 5 + 1 = y.toNat * 5 + 1) = False := eq_false (by omega)
  have N12 : (x.toNat * 5 + 1 = y.toNat * 5 + 2) = False := eq_false (by omega)
  have N13 : (x.toNat * 5 + 1 = y.toNat * 5 + 3) = False := eq_false (by omega)
  have N14 : (x.toNat * 5 + 1 = y.toNat * 5 + 4) = False := eq_false (by omega)
  have N20 : (x.toNat * 5 + 2 = y.toNat * 5) = False := eq_false (by omega)
  have N21 : (x.toNat * 5 + 2 = y.toNat * 5 + 1) = False := eq_false (by omega)
  have N22 : (x.toNat * 5 + 2 = y.toNat * 5 + 2) = False := eq_false (by omega)
  have N23 : (x.toNat * 5 + 2 = y.toNat * 5 + 3) = False := eq_false (by omega)
  have N24 : (x.toNat * 5 + 2 = y.toNat * 5 + 4) = False := eq_false (by omega)
  have N30 : (x.toNat * 5 + 3 = y.toNat * 5) = False := eq_false (by omega)
  have N31 : (x.toNat * 5 + 3 = y.toNat * 5 + 1) = False := eq_false (by omega)
  have N32 : (x.toNat * 5 + 3 = y.toNat * 5 + 2) = False := eq_false (by omega)
  have N33 : (x.toNat * 5 + 3 = y.toNat * 5 + 3) = False := eq_false (by omega)
  have N34 : (x.toNat * 5 + 3 = y.toNat * 5 + 4) = False := eq_false (by omega)
  have N40 : (x.toNat * 5 + 4 = y.toNat * 5) = False := eq_false (by omega)
  have N41 : (x.toNat * 5 + 4 = y.toNat * 5 + 1) = False := eq_false (by omega)
  have N42 : (x.toNat * 5 + 4 = y.toNat * 5 + 2) = False := eq_false (by omega)
  have N43 : (x.toNat * 5 + 4 = y.toNat * 5 + 3) = False := eq_false (by omega)
  have N44 : (x.toNat * 5 + 4 = y.toNat * 5 + 4) = False := eq_false (by omega)
  rw [hy] at t0 t1 t2 t3 t4 u0 u1 u2 u3 u4 n2 p' q'
  clear hw hx0
  replace y0 : w1.cell? ⟨g, x.toNat * 5, none⟩ = some (.int .i64 (rd_T32 l x).f0) := by rw [addg] at y0; exact y0
  replace u0 : w1.cell? ⟨g, y.toNat * 5, none⟩ = some (.int .i64 (rd_T32 l y).f0) := by rw [addg] at u0; exact u0
  replace y1 : w1.cell? ⟨g, x.toNat * 5 + 1, none⟩ = some (.int .i64 (rd_T32 l x).f1) := by rw [addg] at y1; exact y1
  replace u1 : w1.cell? ⟨g, y.toNat * 5 + 1, none⟩ = some (.int .i64 (rd_T32 l y).f1) := by rw [addg] at u1; exact u1
  replace y2 : w1.cell? ⟨g, x.toNat * 5 + 2, none⟩ = some (.int .i64 (rd_T32 l x).f2) := by rw [addg] at y2; exact y2
  replace u2 : w1.cell? ⟨g, y.toNat * 5 + 2, none⟩ = some (.int .i64 (rd_T32 l y).f2) := by rw [addg] at u2; exact u2
  replace y3 : w1.cell? ⟨g, x.toNat * 5 + 3, none⟩ = some (.int .i64 (rd_T32 l x).f3) := by rw [addg] at y3; exact y3
  replace u3 : w1.cell? ⟨g, y.toNat * 5 + 3, none⟩ = some (.int .i64 (rd_T32 l y).f3) := by rw [addg] at u3; exact u3
  replace y4 : w1.cell? ⟨g, x.toNat * 5 + 4, none⟩ = some (.int .i64 (rd_T32 l x).f4) := by rw [addg] at y4; exact y4
  replace u4 : w1.cell? ⟨g, y.toNat * 5 + 4, none⟩ = some (.int .i64 (rd_T32 l y).f4) := by rw [addg] at u4; exact u4
  go_region
  have hlx : x.toNat < l.length := by have := HX0.out; have := HX1.out; omega
  have hly : y.toNat < l.length := by have := HX0.out; have := HX1.out; omega
  have hC2 := C_put (s := t) HC1.out hlx
  have hC3 := C_put (s := s) hC2 hly
  have hbz : Below w.heap.size w (putSp (putSp w1 g (x.toNat * 5) t) g (y.toNat * 5) s) := putSp_below (putSp_below hB1.out (Nat.le_trans HB.out.size hG.out)) (Nat.le_trans HB.out.size hG.out)
  have hne : b1 ≠ g := by have := blk_lt HA.out; have := hG.out; omega
  have hAz : CB (putSp (putSp w1 g (x.toNat * 5) t) g (y.toNat * 5) s) b1 ca := putSp_far (putSp_far hA1.out hne) hne
  have htl : ((l.set x.toNat t).set y.toNat s) = turnL l x.toNat := by rw [HTU.out, hy]
  rw [htl] at hC3
  unfold putSp at hC3 hbz hAz
  have HCZ := Lib.hid (Kd.C_below hC3 (below_drew1 (Below.refl _ _)))
  have HBZ := Lib.hid (below_drew1 hbz)
  have HAZ := Lib.hid (CB_drew hAz)
  clear hC2 hC3 hbz hAz htl hne hlx hly y0 y1 y2 y3 y4 u0 u1 u2 u3 u4 a0 a1 a2 a3 a4 t0 t1 t2 t3 t4 hfz
  generalize World.drew _ = wz at *
  clear n1 n2 p q p' q' hy hwy hwz N0 N00 N01 N02 N03 N04 N10 N11 N12 N13 N14 N20 N21 N22 N23 N24 N30 N31 N32 N33 N34 N40 N41 N42 N43 N44 HC1 HGC hA1 hB1
  go_wp2_with fail
  refine (at_callsN (some ⟨g, 0, none⟩) c1 (turnL l x.toNat) l.length m ca 0 _ (turn_length _ _) HAT.out HCZ.out HLC.out).mono ?_
  rintro e w2 ⟨rfl, hb⟩
  have HB2 := Lib.hid (below_alloc (below_step HBZ.out hb) (cO ca))
  have HA2 := Lib.hid (blk_alloc (blk_below HAZ.out hb) (cO ca))
  have HD2 := Lib.hid (blk_new w2 (cO ca))
  clear hb HBZ HAZ HCZ HAT HLC
  go_upto_region 23 with (fail)
  generalize w2.alloc _ = v2 at *
  generalize w2.heap.size = b2 at *
  obtain ⟨f0, f1, f2, f3, f4, f5⟩ := cd_flat HA2.out
  obtain ⟨g0, g1, g2, g3, g4, g5⟩ := cd_flat HD2.out
  go_wp2_with fail
  show bodyPost _ _ _ _ _ _
  go_ret
  exact ⟨rfl, HB2.out⟩
set_option maxHeartbeats 16000000 in
set_option maxRecDepth 1000000 in
theorem order_rest (x4 x5 x6 x7 x8 x11 x12 x13 x14 x15 x16 x17 x18 x19 x20 x21 x22 x23 x24 x25 x26 x27 x28 x29 x30 x31 x32 x33 x34 x35 x36 x37 x38 x39 x40 x41 x42 x43 x44 x45 x46 x47 x48 x49 x50 x51 x52 x53 x54 x55 x56 x57 x58 x59 x60 x61 x62 x63 x64 x65 x66 x67 x68 x69 x70 x71 x72 x73 x74 x75 x76 x77 x78 x79 x80 x81 x82 x83 x84 x85 x86 x87 x88 x89 x90 x91 x92 x93 x94 x95 x96 x97 x98 x99 x100 x101 x102 x103 x104 x105 x106 x107 x108 x109 x110 x111 x112 x113 x114 x115 x116 x117 x118 x119 x120 x121 x122 x123 x124 x125 x126 x127 x128 x129 x130 x131 x132 x133 x134 x135 x136 x137 x138 x139 x140 x141 x142 x143 : Value) (A : Option Addr) (c : Nat) (l : List SSp) (m n raw : Int) (w W : World) (b1 : Nat) (ca : Cd) (hr0 : Kd.C kSp w A l.length l) (hc0 : l.length ≤ c) (hraw : 0 ≤ raw ∧ raw ≤ 255) (hlen : l.length ≤ 20) (hpa : atP l m = (ca, 0)) (hB : Below w.heap.size w W) (hA : CB W b1 ca) (hb1 : w.heap.size ≤ b1) :
    Code.wp Tryd.prog ordRest (ordPost w) { tmps := #[.slice A l.length c, .int .i64 m, .int .i64 n, .int .u8 raw, x4, x5, x6, x7, x8, .bool true, .pointer (some ⟨b1, 0, none⟩), x11, x12, x13, x14, x15, x16, x17, x18, x19, x20, x21, x22, x23, x24, x25, x26, x27, x28, x29, x30, x31, x32, x33, x34, x35, x36, x37, x38, x39, x40, x41, x42, x43, x44, x45, x46, x47, x48, x49, x50, x51, x52, x53, x54, x55, x56, x57, x58, x59, x60, x61, x62, x63, x64, x65, x66, x67, x68, x69, x70, x71, x72, x73, x74, x75, x76, x77, x78, x79, x80, x81, x82, x83, x84, x85, x86, x87, x88, x89, x90, x91, x92, x93, x94, x95, x96, x97, x98, x99, x100, x101, x102, x103, x104, x105, x106, x107, x108, x109, x110, x111, x112, x113, x114, x115, x116, x117, x118, x119, x120, x121, x122, x123, x124, x125, x126, x127, x128, x129, x130, x131, x132, x133, x134, x135, x136, x137, x138, x139, x140, x141, x142, x143], defers := [] } W := by
  have HR0 := Lib.hid hr0
  have HC0 := Lib.hid hc0
  have HLEN := Lib.hid hlen
  have HPA := Lib.hid hpa
  have HB := Lib.hid hB
  have HA := Lib.hid hA
  have HRAW := Lib.hid hraw
  clear hr0 hc0 hlen hpa hB hA hraw
  show Code.wp Tryd.prog (.seq (.seq (.region 15 _ _) _) _) _ _ _
  by_cases h2 : l.length < 2
  · have e1 : decide (l.length < 2) = true := decide_eq_true h2
    have e2 : decide ((l.length : Int) < 2) = true := decide_eq_true (by omega)
    clear h2
    go_wp2_with fail
    go_ret
    exact ⟨rfl, HB.out⟩
  · have e1 : decide (l.length < 2) = false := decide_eq_false h2
    have e2 : decide ((l.length : Int) < 2) = false := decide_eq_false (by omega)
    have hraw := HRAW.out
    have hl1 : 0 ≤ (l.length : Int) - 1 := by omega
    have hl20 := HLEN.out
    have hl2 : (l.length : Int) ≤ 20 := by omega
    have hw : wrap64 ((l.length : Int) - 1) = (l.length : Int) - 1 := wrap_small (by omega) (by omega)
    have hne : ¬ (l.length : Int) - 1 = 0 := by omega
    obtain ⟨hraw0, hraw1⟩ := hraw
    go_upto_region 18 with (fail)
    have hx0 : 0 ≤ raw % ((l.length : Int) - 1) := Int.emod_nonneg _ (by omega)
    have hx1 : raw % ((l.length : Int) - 1) < (l.length : Int) - 1 := Int.emod_lt_of_pos _ (by omega)
    clear e1 e2 hraw0 hraw1 hne hw hl1
    generalize raw % ((l.length : Int) - 1) = x at *
    have hw : wrap64 (x + 1) = x + 1 := wrap_small (by omega) (by omega)
    have HX0 := Lib.hid hx0
    have HX1 := Lib.hid hx1
    have hC := Kd.C_below HR0.out HB.out
    obtain ⟨ad, e1, d0, d1, d2, d3, d4⟩ := at_T32 hC x hx0 (by omega)
    obtain ⟨ad', e2, g0, g1, g2, g3, g4⟩ := at_T32 hC (x + 1) (by omega) (by omega)
    subst e1
    injection e2 with e2
    subst e2
    have p := eq_true hx0
    have q := eq_true (show x < (l.length : Int) by omega)
    have p' := eq_true (show 0 ≤ x + 1 by omega)
    have q' := eq_true (show x + 1 < (l.length : Int) by omega)
    have HT : Hid (¬ ((rd_T32 l x).f3 ≤ (rd_T32 l (x + 1)).f4 ∧ (rd_T32 l (x + 1)).f3 ≤ (rd_T32 l x).f4) → atP (turnL l x.toNat) m = (ca, 0)) := Lib.hid (fun hn => by
      have e1 : x = ((x.toNat : Nat) : Int) := by omega
      have e2 : x + 1 = ((x.toNat + 1 : Nat) : Int) := by omega
      rw [e1, show ((x.toNat : Nat) : Int) + 1 = ((x.toNat + 1 : Nat) : Int) from by omega] at hn
      rw [at_turn (by omega) hn]
      exact HPA.out)
    have HTU : Hid (turnL l x.toNat = (l.set x.toNat (rd_T32 l (x + 1))).set (x + 1).toNat (rd_T32 l x)) := Lib.hid (by
      unfold turnL
      rw [show (x + 1).toNat = x.toNat + 1 by omega, show ((x.toNat + 1 : Nat) : Int) = x + 1 by omega, show ((x.toNat : Nat) : Int) = x by omega])
    clear hC hx0 hx1 h2 hl20 hl2
    generalize rd_T32 l x = s at *
    generalize rd_T32 l (x + 1) = t at *
    by_cases c1 : s.f3 ≤ t.f4
    · by_cases c2 : t.f3 ≤ s.f4
      · have z1 : decide (s.f3 ≤ t.f4) = true := decide_eq_true c1
        have z2 : decide (t.f3 ≤ s.f4) = true := decide_eq_true c2
        clear c1 c2
        go_quiet (fail)
        go_wp2_with fail
        show bodyPost _ _ _ _ _ _
        go_ret
        exact ⟨rfl, pw_below_drewN HB.out _⟩
      · have z1 : decide (s.f3 ≤ t.f4) = true := decide_eq_true c1
        have z2 : decide (t.f3 ≤ s.f4) = false := decide_eq_false c2
        have HT2 := Lib.hid (HT.out (fun h => c2 h.2))
        clear c1 c2
        go_quiet (fail)
        rename_i Kr hKr Kc hKc
        have HKR := Lib.hid hKr
        clear hKr
        go_wp2_with fail
        refine HKR.out _ _ ?_
        refine order_turn _ _ _ _ _ _ _ _ _ _ _ _ _ _ _ _ _ _ _ _ _ _ _ _ _ _ _ _ _ _ _ _ _ _ _ _ _ _ _ _ _ _ _ _ _ _ _ _ _ _ _ _ _ _ _ _ _ _ _ _ _ _ _ _ _ _ _ _ _ _ _ _ _ _ _ _ _ _ _ _ _ _ _ _ _ _ _ _ _ _ _ _ _ _ _ _ _ _ _ _ _ _ _ _ _ _ _ _ _ _ _ _ _ _ _ _ _ _ _ _ _ _ _ _ _ _ _ _ _ _ _ _ _ _ _ _ _ _ _ _ c l m w _ b1 ca x s t HR0.out HC0.out HLEN.out (pw_below_drewN HB.out _) HA.out hb1 HX0.out HX1.out HTU.out HT2.out (SF := by exact ⟨d0, d1, d2, d3, d4⟩) (TF := by exact ⟨g0, g1, g2, g3, g4⟩)
    · have z1 : decide (s.f3 ≤ t.f4) = false := decide_eq_false c1
      have HT2 := Lib.hid (HT.out (fun h => c1 h.1))
      clear c1
      go_quiet (fail)
      rename_i Kr hKr Kc hKc
      have HKR := Lib.hid hKr
      clear hKr
      go_wp2_with fail
      refine HKR.out _ _ ?_
      refine order_turn _ _ _ _ _ _ _ _ _ _ _ _ _ _ _ _ _ _ _ _ _ _ _ _ _ _ _ _ _ _ _ _ _ _ _ _ _ _ _ _ _ _ _ _ _ _ _ _ _ _ _ _ _ _ _ _ _ _ _ _ _ _ _ _ _ _ _ _ _ _ _ _ _ _ _ _ _ _ _ _ _ _ _ _ _ _ _ _ _ _ _ _ _ _ _ _ _ _ _ _ _ _ _ _ _ _ _ _ _ _ _ _ _ _ _ _ _ _ _ _ _ _ _ _ _ _ _ _ _ _ _ _ _ _ _ _ _ _ _ _ c l m w _ b1 ca x s t HR0.out HC0.out HLEN.out (pw_below_drewN HB.out _) HA.out hb1 HX0.out HX1.out HTU.out HT2.out (SF := by exact ⟨d0, d1, d2, d3, d4⟩) (TF := by exact ⟨g0, g1, g2, g3, g4⟩)
end Go.Proofs.YtofjhkjahpdkiaaDoor.We
