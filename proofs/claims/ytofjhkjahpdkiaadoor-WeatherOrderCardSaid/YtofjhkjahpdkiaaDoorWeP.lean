/-
  WeatherOrder walked: it returns true.
-/
import Derived.Test.YtofjhkjahpdkiaaDoorWeP1
namespace Go.Proofs.YtofjhkjahpdkiaaDoor.We
open Go.RowKit Go.MapKept Go.Proofs.YtofjhkjahpdkiaaDoorW.PrintWords Go.Proofs.YtofjhkjahpdkiaaDoor.Px
set_option linter.unusedVariables false
set_option linter.unusedSimpArgs false
attribute [local go_sem high] eqCd
set_option maxHeartbeats 16000000 in
set_option maxRecDepth 1000000 in
theorem order_calls (A : Option Addr) (c : Nat) (l : List SSp) (m n raw : Int) (w : World) (hr0 : Kd.C kSp w A l.length l) (hc0 : l.length ≤ c) (hraw : 0 ≤ raw ∧ raw ≤ 255) :
    Calls Tryd.prog 3 #[.slice A l.length c, .int .i64 m, .int .i64 n, .int .u8 raw] w fun e w' => e = .returned (.bool true) ∧ Below w.heap.size w w' := by
  have HR0 := Lib.hid hr0
  have HC0 := Lib.hid hc0
  have HRAW := Lib.hid hraw
  clear hr0 hc0 hraw
  go_enter Tryd.func3, Tryd.ntmps3
  go_wp2_with fail
  refine (head_calls _).mono ?_
  rintro e w1 ⟨rfl, hb⟩
  have HB1 := Lib.hid hb
  clear hb
  by_cases hlen : 20 < l.length
  · have h1 : decide (20 < l.length) = true := decide_eq_true hlen
    have h2 : decide (20 < (l.length : Int)) = true := decide_eq_true (by omega)
    clear hlen
    go_wp2_with fail
    go_ret
    exact ⟨rfl, HB1.out⟩
  · have h1 : decide (20 < l.length) = false := decide_eq_false hlen
    have h2 : decide (20 < (l.length : Int)) = false := decide_eq_false (by omega)
    have HLEN : Hid (l.length ≤ 20) := Lib.hid (by omega)
    clear hlen
    cases hpa : atP l m with
    | mk ca xa =>
    cases hpb : atP l n with
    | mk cb xb =>
    have HPA := Lib.hid hpa
    have HPB := Lib.hid hpb
    clear hpa hpb
    go_wp2_with fail
    refine (at_calls' A c l m ca xa _ HPA.out (Kd.C_below HR0.out HB1.out) HC0.out).mono ?_
    rintro e w2 ⟨rfl, hb⟩
    have HB2 := Lib.hid (below_alloc (below_step HB1.out hb) (cO ca))
    have HSZ := Lib.hid (below_step HB1.out hb).size
    have HA2 : Hid (CB (w2.alloc (cO ca)) w2.heap.size ca) := Lib.hid (blk_new w2 (cO ca))
    clear hb HB1
    go_upto_region 5 with (fail)
    generalize w2.alloc (.cells #[.int .i64 ca.c0, .int .i64 ca.c1, .int .i64 ca.c2, .int .i64 ca.c3, .int .i64 ca.s, .bool ca.o] 26) = w3 at *
    generalize w2.heap.size = b1 at *
    go_wp2_with fail
    refine (at_calls' A c l n cb xb _ HPB.out (Kd.C_below HR0.out HB2.out) HC0.out).mono ?_
    rintro e w4 ⟨rfl, hb⟩
    have HB4 := Lib.hid (below_alloc (below_step HB2.out hb) (cO cb))
    have HA4 : Hid (CB (w4.alloc (cO cb)) b1 ca) := Lib.hid (blk_alloc (blk_below HA2.out hb) (cO cb))
    have HD4 : Hid (CB (w4.alloc (cO cb)) w4.heap.size cb) := Lib.hid (blk_new w4 (cO cb))
    clear hb HB2 HA2
    go_upto_region 6 with (fail)
    generalize w4.alloc (.cells #[.int .i64 cb.c0, .int .i64 cb.c1, .int .i64 cb.c2, .int .i64 cb.c3, .int .i64 cb.s, .bool cb.o] 26) = w5 at *
    generalize w4.heap.size = b2 at *
    by_cases hxa : xa = 0
    · subst hxa
      by_cases hxb : xb = 0
      · subst hxb
        go_wp2_with fail
        have HST : Hid ((l.take (0 : Int).toNat).all (eqF m n) = true) := Lib.hid rfl
        go_loopw [14, 15] (fun v14 v15 wr => ∃ (x : Int), 0 ≤ x ∧ x ≤ l.length ∧ v15 = .int .i64 x ∧ v14 = .bool ((l.take x.toNat).all (eqF m n)) ∧ Hid (Below w.heap.size w wr) ∧ Hid (CB wr b1 ca) ∧ Hid (CB wr b2 cb)) (fun _ v15 _ => l.length - (intOf v15).toNat)
        case atStart => exact ⟨0, by omega, by omega, rfl, rfl, HB4.out, HA4.out, HD4.out⟩
        case round =>
          obtain ⟨x, hx0, hxl, rfl, rfl, HB, HA, HD⟩ := hrel
          clear HB4 HA4 HD4 HST
          have hl20 := HLEN.out
          have hw : wrap64 (x + 1) = x + 1 := wrap_small (by omega) (by omega)
          by_cases hlt : x < (l.length : Int)
          · have HT : Hid ((l.take (x + 1).toNat).all (eqF m n) = ((l.take x.toNat).all (eqF m n) && eqF m n (rd_T32 l x))) := Lib.hid (by rw [take_rd hx0 hlt, List.all_append]; simp)
            have HMU : Hid (l.length - (x + 1).toNat < l.length - x.toNat) := Lib.hid (by omega)
            have HX1 : Hid (0 ≤ x + 1 ∧ x + 1 ≤ (l.length : Int)) := Lib.hid (by omega)
            have c3 : decide (x < (l.length : Int)) = true := decide_eq_true hlt
            obtain ⟨ad, e1, d0, d1, d2, d3, d4⟩ := at_T32 (Kd.C_below HR0.out HB.out) x hx0 hlt
            subst e1
            have p := eq_true hx0
            have q := eq_true hlt
            have HW := Lib.hid hw
            clear hx0 hlt hxl hl20 hw
            generalize hal : (l.take x.toNat).all (eqF m n) = al at *
            clear hal
            generalize rd_T32 l x = s at *
            cases al with
            | false =>
              rw [Bool.false_and] at HT
              clear d0 d1 d2 d3 d4
              go_upto_region 12 with (fail)
              go_region
              go_wp2_with fail
              refine ⟨⟨x + 1, HX1.out.1, HX1.out.2, by rw [HW.out], by rw [HT.out], below_drew1 HB.out, CB_drew HA.out, CB_drew HD.out⟩, ?_⟩
              rw [HW.out]
              exact HMU.out
            | true =>
              rw [Bool.true_and] at HT
              go_upto_region 12 with (fail)
              go_region_held3 (fun w' => w'.cell? (ad.add (x.toNat * 5)) = some (.int .i64 s.f0) ∧ w'.cell? ⟨(ad.add (x.toNat * 5)).block, (ad.add (x.toNat * 5)).off + 1, none⟩ = some (.int .i64 s.f1) ∧ w'.cell? ⟨(ad.add (x.toNat * 5)).block, (ad.add (x.toNat * 5)).off + 2, none⟩ = some (.int .i64 s.f2) ∧ w'.cell? ⟨(ad.add (x.toNat * 5)).block, (ad.add (x.toNat * 5)).off + 3, none⟩ = some (.int .i64 s.f3) ∧ w'.cell? ⟨(ad.add (x.toNat * 5)).block, (ad.add (x.toNat * 5)).off + 4, none⟩ = some (.int .i64 s.f4)) (go_keep) ((go_at_call 10; first | ((with_reducible refine (inF_calls m s _).mono ?_); rintro e w' ⟨rfl, rfl⟩) | ((with_reducible refine (inF_calls n s _).mono ?_); rintro e w' ⟨rfl, rfl⟩)))
              all_goals (
                go_wp2_with fail
                refine ⟨⟨x + 1, HX1.out.1, HX1.out.2, by rw [HW.out], by rw [HT.out]; rfl, ?_, ?_, ?_⟩, ?_⟩
                · exact Lib.hid (below_drew1 (below_alloc (below_alloc HB.out _) _))
                · exact Lib.hid (CB_drew (blk_alloc (blk_alloc HA.out _) _))
                · exact Lib.hid (CB_drew (blk_alloc (blk_alloc HD.out _) _))
                · rw [HW.out]
                  exact HMU.out)
          · have hx : x = (l.length : Int) := by omega
            subst hx
            have c3 : decide ((l.length : Int) < (l.length : Int)) = false := decide_eq_false (by omega)
            rw [show ((l.length : Int).toNat) = l.length from Int.toNat_natCast _, List.take_length]
            have HE : Hid (l.all (eqF m n) = true → ca = cb) := Lib.hid (fun h => by
              have h1 := HPA.out
              have h2 := HPB.out
              have h3 := at_same (l := l) (m := m) (n := n) (fun s hs => by
                have := List.all_eq_true.1 h s hs
                exact eq_of_beq this) (at_ok h1 rfl) (at_ok h2 rfl)
              rw [h1, h2] at h3
              injection h3)
            clear hx0 hxl hlt hl20 hw
            generalize l.all (eqF m n) = al at *
            cases al with
            | true =>
              have he := HE.out rfl
              subst he
              obtain ⟨f0, f1, f2, f3, f4, f5⟩ := cd_flat HA.out
              obtain ⟨g0, g1, g2, g3, g4, g5⟩ := cd_flat HD.out
              go_upto_region 13 with (fail)
              rename_i Kr hKr Kc hKc
              have HKR := Lib.hid hKr
              clear hKr
              go_wp2_with fail
              refine HKR.out _ _ ?_
              refine order_rest _ _ _ _ _ _ _ _ _ _ _ _ _ _ _ _ _ _ _ _ _ _ _ _ _ _ _ _ _ _ _ _ _ _ _ _ _ _ _ _ _ _ _ _ _ _ _ _ _ _ _ _ _ _ _ _ _ _ _ _ _ _ _ _ _ _ _ _ _ _ _ _ _ _ _ _ _ _ _ _ _ _ _ _ _ _ _ _ _ _ _ _ _ _ _ _ _ _ _ _ _ _ _ _ _ _ _ _ _ _ _ _ _ _ _ _ _ _ _ _ _ _ _ _ _ _ _ _ _ _ _ _ _ _ _ _ _ _ A c l m n raw w _ b1 ca HR0.out HC0.out HRAW.out HLEN.out HPA.out HB.out HA.out HSZ.out
            | false =>
              go_upto_region 13 with (fail)
              rename_i Kr hKr Kc hKc
              have HKR := Lib.hid hKr
              clear hKr
              go_wp2_with fail
              refine HKR.out _ _ ?_
              refine order_rest _ _ _ _ _ _ _ _ _ _ _ _ _ _ _ _ _ _ _ _ _ _ _ _ _ _ _ _ _ _ _ _ _ _ _ _ _ _ _ _ _ _ _ _ _ _ _ _ _ _ _ _ _ _ _ _ _ _ _ _ _ _ _ _ _ _ _ _ _ _ _ _ _ _ _ _ _ _ _ _ _ _ _ _ _ _ _ _ _ _ _ _ _ _ _ _ _ _ _ _ _ _ _ _ _ _ _ _ _ _ _ _ _ _ _ _ _ _ _ _ _ _ _ _ _ _ _ _ _ _ _ _ _ _ _ _ _ _ A c l m n raw w _ b1 ca HR0.out HC0.out HRAW.out HLEN.out HPA.out HB.out HA.out HSZ.out
      · have hxb1 := at_no HPB.out hxb
        subst hxb1
        go_wp2_with fail
        go_ret
        exact ⟨rfl, HB4.out⟩
    · have hxa1 := at_no HPA.out hxa
      subst hxa1
      go_wp2_with fail
      go_ret
      exact ⟨rfl, HB4.out⟩
end Go.Proofs.YtofjhkjahpdkiaaDoor.We
