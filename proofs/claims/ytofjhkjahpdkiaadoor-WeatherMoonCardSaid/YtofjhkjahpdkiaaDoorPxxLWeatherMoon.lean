-- Written by wip/myprint.py (the kit's print, with contracts of my own for some functions).
import Derived.Test.YtofjhkjahpdkiaaDoorPxx0
import Derived.Test.YtofjhkjahpdkiaaDoorPxx1
import Derived.Test.YtofjhkjahpdkiaaDoorPxxA
import Derived.Test.YtofjhkjahpdkiaaDoorWeN
namespace Go.Proofs.YtofjhkjahpdkiaaDoor.Px
open Go.RowKit Go.Proofs.YtofjhkjahpdkiaaDoorW.PrintWords Go.Proofs.YtofjhkjahpdkiaaDoorW.PrintLast Go.Proofs.YtofjhkjahpdkiaaDoorW.PrintMore
attribute [local go_sem] max2_int min2_int max_two min_two max_three min_three max_four min_four   -- for this text's walks alone
set_option linter.unusedVariables false
set_option linter.unusedSimpArgs false

/-! ### observatorylaw12_WeatherMoon: function 4 -/
mutual
def observatorylaw12_WeatherMoon.j0 : Nat → Int → Int → Int → Int → Bool → Int → Int → Int → Int → Int → Bool → Option (Bool)
  | 0, _, _, _, _, _, _, _, _, _, _, _ => none
  | k + 1, x0, x1, x2, x3, x9, x10, x11, x13, x16, x18, x60 => if x60 = true then (if x9 = true then (if x0 < 0 then (some true) else (if x0 ≥ 400 then (some true) else (if x1 < 0 then (some true) else (if x1 ≥ 400 then (some true) else (if x2 < 0 then (some true) else (if x2 ≥ 512 then (some true) else (if x3 < 0 then (some true) else (some (decide (x3 ≥ 512)))))))))) else (some false)) else (if x10 < 0 then (observatorylaw12_WeatherMoon.j1 k x2 x3 x9 x10 x11 x16 x18 true) else (if x10 > 1000 then (observatorylaw12_WeatherMoon.j1 k x2 x3 x9 x10 x11 x16 x18 true) else (if (Int.tmod (wrap64 (x0 + x1)) 30) = 0 then (if x10 = x13 then (if x11 < 0 then (observatorylaw12_WeatherMoon.j1 k x2 x3 x9 x10 x11 x16 x18 true) else (observatorylaw12_WeatherMoon.j1 k x2 x3 x9 x10 x11 x16 x18 (decide (x11 ≥ 32)))) else (observatorylaw12_WeatherMoon.j1 k x2 x3 x9 x10 x11 x16 x18 true)) else (if x11 < 0 then (observatorylaw12_WeatherMoon.j1 k x2 x3 x9 x10 x11 x16 x18 true) else (observatorylaw12_WeatherMoon.j1 k x2 x3 x9 x10 x11 x16 x18 (decide (x11 ≥ 32)))))))
def observatorylaw12_WeatherMoon.j1 : Nat → Int → Int → Bool → Int → Int → Int → Int → Bool → Option (Bool)
  | 0, _, _, _, _, _, _, _, _ => none
  | k + 1, x2, x3, x9, x10, x11, x16, x18, x119 => if x119 = true then (some false) else (if (Int.tmod (wrap64 ((wrap64 ((Int.tmod x2 32) - x11)) + 32)) 32) = 0 then (if x16 = (wrap64 (Int.tdiv x10 100)) then (if (Int.tmod (wrap64 ((wrap64 ((Int.tmod x2 32) - x11)) + 32)) 32) = 16 then (if x16 = 0 then (if x16 < 0 then (some false) else (if x16 > (wrap64 (Int.tdiv x10 100)) then (some false) else (if x9 = true then (if (Int.tmod (wrap64 ((Int.tmod (wrap64 ((wrap64 ((Int.tmod x2 32) - x11)) + 32)) 32) + (Int.tmod (wrap64 ((wrap64 ((Int.tmod x3 32) - x11)) + 32)) 32))) 32) = 0 then (some (x16 == x18)) else (if (Int.tmod (wrap64 ((wrap64 ((Int.tmod x2 32) - x11)) + 32)) 32) = (Int.tmod (wrap64 ((wrap64 ((Int.tmod x3 32) - x11)) + 32)) 32) then (some (x16 == x18)) else (some true))) else (some false)))) else (some false)) else (if x16 < 0 then (some false) else (if x16 > (wrap64 (Int.tdiv x10 100)) then (some false) else (if x9 = true then (if (Int.tmod (wrap64 ((Int.tmod (wrap64 ((wrap64 ((Int.tmod x2 32) - x11)) + 32)) 32) + (Int.tmod (wrap64 ((wrap64 ((Int.tmod x3 32) - x11)) + 32)) 32))) 32) = 0 then (some (x16 == x18)) else (if (Int.tmod (wrap64 ((wrap64 ((Int.tmod x2 32) - x11)) + 32)) 32) = (Int.tmod (wrap64 ((wrap64 ((Int.tmod x3 32) - x11)) + 32)) 32) then (some (x16 == x18)) else (some true))) else (some false))))) else (some false)) else (if (Int.tmod (wrap64 ((wrap64 ((Int.tmod x2 32) - x11)) + 32)) 32) = 16 then (if x16 = 0 then (if x16 < 0 then (some false) else (if x16 > (wrap64 (Int.tdiv x10 100)) then (some false) else (if x9 = true then (if (Int.tmod (wrap64 ((Int.tmod (wrap64 ((wrap64 ((Int.tmod x2 32) - x11)) + 32)) 32) + (Int.tmod (wrap64 ((wrap64 ((Int.tmod x3 32) - x11)) + 32)) 32))) 32) = 0 then (some (x16 == x18)) else (if (Int.tmod (wrap64 ((wrap64 ((Int.tmod x2 32) - x11)) + 32)) 32) = (Int.tmod (wrap64 ((wrap64 ((Int.tmod x3 32) - x11)) + 32)) 32) then (some (x16 == x18)) else (some true))) else (some false)))) else (some false)) else (if x16 < 0 then (some false) else (if x16 > (wrap64 (Int.tdiv x10 100)) then (some false) else (if x9 = true then (if (Int.tmod (wrap64 ((Int.tmod (wrap64 ((wrap64 ((Int.tmod x2 32) - x11)) + 32)) 32) + (Int.tmod (wrap64 ((wrap64 ((Int.tmod x3 32) - x11)) + 32)) 32))) 32) = 0 then (some (x16 == x18)) else (if (Int.tmod (wrap64 ((wrap64 ((Int.tmod x2 32) - x11)) + 32)) 32) = (Int.tmod (wrap64 ((wrap64 ((Int.tmod x3 32) - x11)) + 32)) 32) then (some (x16 == x18)) else (some true))) else (some false))))))
end
def observatorylaw12_WeatherMoon.f (k : Nat) (a0 : Int) (a1 : Int) (a2 : Int) (a3 : Int) : Option (Bool) := (observatorylaw12_head.f).bind fun t165 => ((weather_Moon.f a0).bind fun bt166 => ((weather_Moon.f a1).bind fun bt169 => ((weather_Background.f a0 a2).bind fun bt172 => ((weather_Background.f a0 a3).bind fun bt174 => (if bt166.2.2 = 0 then (if bt169.2.2 = 0 then (if bt172.2 = 0 then (observatorylaw12_WeatherMoon.j0 k a0 a1 a2 a3 t165 bt166.1 bt166.2.1 bt169.1 bt172.1 bt174.1 (bt174.2 != 0)) else (observatorylaw12_WeatherMoon.j0 k a0 a1 a2 a3 t165 bt166.1 bt166.2.1 bt169.1 bt172.1 bt174.1 true)) else (observatorylaw12_WeatherMoon.j0 k a0 a1 a2 a3 t165 bt166.1 bt166.2.1 bt169.1 bt172.1 bt174.1 true)) else (observatorylaw12_WeatherMoon.j0 k a0 a1 a2 a3 t165 bt166.1 bt166.2.1 bt169.1 bt172.1 bt174.1 true))))))
theorem observatorylaw12_WeatherMoon.mono_l : ∀ k, (∀ y0 y1 y2 y3 y4 y5 y6 y7 y8 y9 y10, LeO (observatorylaw12_WeatherMoon.j0 k y0 y1 y2 y3 y4 y5 y6 y7 y8 y9 y10) (observatorylaw12_WeatherMoon.j0 (k + 1) y0 y1 y2 y3 y4 y5 y6 y7 y8 y9 y10)) ∧ (∀ y0 y1 y2 y3 y4 y5 y6 y7, LeO (observatorylaw12_WeatherMoon.j1 k y0 y1 y2 y3 y4 y5 y6 y7) (observatorylaw12_WeatherMoon.j1 (k + 1) y0 y1 y2 y3 y4 y5 y6 y7))
  | 0 => ⟨fun _ _ _ _ _ _ _ _ _ _ _ r h => by simp [observatorylaw12_WeatherMoon.j0] at h, fun _ _ _ _ _ _ _ _ r h => by simp [observatorylaw12_WeatherMoon.j1] at h⟩
  | k + 1 => by
    obtain ⟨ih0, ih1⟩ := observatorylaw12_WeatherMoon.mono_l k
    refine ⟨?_, ?_⟩
    · intro y0 y1 y2 y3 y4 y5 y6 y7 y8 y9 y10
      unfold observatorylaw12_WeatherMoon.j0
      repeat' first
      | (with_reducible exact ih0 _ _ _ _ _ _ _ _ _ _ _)
      | (with_reducible exact ih1 _ _ _ _ _ _ _ _)
      | (with_reducible exact LeO.refl _)
      | (with_reducible exact LeO.none _)
      | (with_reducible refine LeO.ite ?_ ?_)
      | (with_reducible refine LeO.bind ?_ (fun _ => ?_))
      | exact ih0 _ _ _ _ _ _ _ _ _ _ _
      | exact ih1 _ _ _ _ _ _ _ _
      | exact LeO.none _
      | refine LeO.ite ?_ ?_
      | refine LeO.bind ?_ (fun _ => ?_)
    · intro y0 y1 y2 y3 y4 y5 y6 y7
      unfold observatorylaw12_WeatherMoon.j1
      repeat' first
      | (with_reducible exact ih0 _ _ _ _ _ _ _ _ _ _ _)
      | (with_reducible exact ih1 _ _ _ _ _ _ _ _)
      | (with_reducible exact LeO.refl _)
      | (with_reducible exact LeO.none _)
      | (with_reducible refine LeO.ite ?_ ?_)
      | (with_reducible refine LeO.bind ?_ (fun _ => ?_))
      | exact ih0 _ _ _ _ _ _ _ _ _ _ _
      | exact ih1 _ _ _ _ _ _ _ _
      | exact LeO.none _
      | refine LeO.ite ?_ ?_
      | refine LeO.bind ?_ (fun _ => ?_)
theorem observatorylaw12_WeatherMoon.mono : ∀ a0 a1 a2 a3 k, LeO (observatorylaw12_WeatherMoon.f k a0 a1 a2 a3) (observatorylaw12_WeatherMoon.f (k + 1) a0 a1 a2 a3) := by
  intro a0 a1 a2 a3 k
  obtain ⟨ih0, ih1⟩ := observatorylaw12_WeatherMoon.mono_l k
  unfold observatorylaw12_WeatherMoon.f
  repeat' first
      | (with_reducible exact ih0 _ _ _ _ _ _ _ _ _ _ _)
      | (with_reducible exact ih1 _ _ _ _ _ _ _ _)
      | (with_reducible exact LeO.refl _)
      | (with_reducible exact LeO.none _)
      | (with_reducible refine LeO.ite ?_ ?_)
      | (with_reducible refine LeO.bind ?_ (fun _ => ?_))
      | exact ih0 _ _ _ _ _ _ _ _ _ _ _
      | exact ih1 _ _ _ _ _ _ _ _
      | exact LeO.none _
      | refine LeO.ite ?_ ?_
      | refine LeO.bind ?_ (fun _ => ?_)
set_option maxHeartbeats 8000000 in
set_option maxRecDepth 100000 in
theorem observatorylaw12_WeatherMoon.calls (k : Nat) (a0 : Int) (a1 : Int) (a2 : Int) (a3 : Int) (r : Bool) (w : World) (h : observatorylaw12_WeatherMoon.f k a0 a1 a2 a3 = some r) :
    Calls Tryd.prog 4 #[.int .i64 a0, .int .i64 a1, .int .i64 a2, .int .i64 a3] w fun e w' => e = .returned (.bool r) ∧ Below w.heap.size w w' := by
  have HB := Aside0.mk (Below.refl w.heap.size w)
  have H : ((observatorylaw12_head.f).bind fun t165 => ((weather_Moon.f a0).bind fun bt166 => ((weather_Moon.f a1).bind fun bt169 => ((weather_Background.f a0 a2).bind fun bt172 => ((weather_Background.f a0 a3).bind fun bt174 => (if bt166.2.2 = 0 then (if bt169.2.2 = 0 then (if bt172.2 = 0 then (observatorylaw12_WeatherMoon.j0 k a0 a1 a2 a3 t165 bt166.1 bt166.2.1 bt169.1 bt172.1 bt174.1 (bt174.2 != 0)) else (observatorylaw12_WeatherMoon.j0 k a0 a1 a2 a3 t165 bt166.1 bt166.2.1 bt169.1 bt172.1 bt174.1 true)) else (observatorylaw12_WeatherMoon.j0 k a0 a1 a2 a3 t165 bt166.1 bt166.2.1 bt169.1 bt172.1 bt174.1 true)) else (observatorylaw12_WeatherMoon.j0 k a0 a1 a2 a3 t165 bt166.1 bt166.2.1 bt169.1 bt172.1 bt174.1 true))))))) = some r := h
  clear h
  replace H := Option.bind_eq_some_iff.mp H
  obtain ⟨t165, A50, H⟩ := H
  replace H : ((weather_Moon.f a0).bind fun bt166 => ((weather_Moon.f a1).bind fun bt169 => ((weather_Background.f a0 a2).bind fun bt172 => ((weather_Background.f a0 a3).bind fun bt174 => (if bt166.2.2 = 0 then (if bt169.2.2 = 0 then (if bt172.2 = 0 then (observatorylaw12_WeatherMoon.j0 k a0 a1 a2 a3 t165 bt166.1 bt166.2.1 bt169.1 bt172.1 bt174.1 (bt174.2 != 0)) else (observatorylaw12_WeatherMoon.j0 k a0 a1 a2 a3 t165 bt166.1 bt166.2.1 bt169.1 bt172.1 bt174.1 true)) else (observatorylaw12_WeatherMoon.j0 k a0 a1 a2 a3 t165 bt166.1 bt166.2.1 bt169.1 bt172.1 bt174.1 true)) else (observatorylaw12_WeatherMoon.j0 k a0 a1 a2 a3 t165 bt166.1 bt166.2.1 bt169.1 bt172.1 bt174.1 true)))))) = some r := H
  have A5 := Aside0.mk A50
  clear A50
  replace H := Option.bind_eq_some_iff.mp H
  obtain ⟨⟨t166, t167, t168⟩, A60, H⟩ := H
  replace H : ((weather_Moon.f a1).bind fun bt169 => ((weather_Background.f a0 a2).bind fun bt172 => ((weather_Background.f a0 a3).bind fun bt174 => (if t168 = 0 then (if bt169.2.2 = 0 then (if bt172.2 = 0 then (observatorylaw12_WeatherMoon.j0 k a0 a1 a2 a3 t165 t166 t167 bt169.1 bt172.1 bt174.1 (bt174.2 != 0)) else (observatorylaw12_WeatherMoon.j0 k a0 a1 a2 a3 t165 t166 t167 bt169.1 bt172.1 bt174.1 true)) else (observatorylaw12_WeatherMoon.j0 k a0 a1 a2 a3 t165 t166 t167 bt169.1 bt172.1 bt174.1 true)) else (observatorylaw12_WeatherMoon.j0 k a0 a1 a2 a3 t165 t166 t167 bt169.1 bt172.1 bt174.1 true))))) = some r := H
  have A6 := Aside0.mk A60
  clear A60
  replace H := Option.bind_eq_some_iff.mp H
  obtain ⟨⟨t169, t170, t171⟩, A70, H⟩ := H
  replace H : ((weather_Background.f a0 a2).bind fun bt172 => ((weather_Background.f a0 a3).bind fun bt174 => (if t168 = 0 then (if t171 = 0 then (if bt172.2 = 0 then (observatorylaw12_WeatherMoon.j0 k a0 a1 a2 a3 t165 t166 t167 t169 bt172.1 bt174.1 (bt174.2 != 0)) else (observatorylaw12_WeatherMoon.j0 k a0 a1 a2 a3 t165 t166 t167 t169 bt172.1 bt174.1 true)) else (observatorylaw12_WeatherMoon.j0 k a0 a1 a2 a3 t165 t166 t167 t169 bt172.1 bt174.1 true)) else (observatorylaw12_WeatherMoon.j0 k a0 a1 a2 a3 t165 t166 t167 t169 bt172.1 bt174.1 true)))) = some r := H
  have A7 := Aside0.mk A70
  clear A70
  replace H := Option.bind_eq_some_iff.mp H
  obtain ⟨⟨t172, t173⟩, A80, H⟩ := H
  replace H : ((weather_Background.f a0 a3).bind fun bt174 => (if t168 = 0 then (if t171 = 0 then (if t173 = 0 then (observatorylaw12_WeatherMoon.j0 k a0 a1 a2 a3 t165 t166 t167 t169 t172 bt174.1 (bt174.2 != 0)) else (observatorylaw12_WeatherMoon.j0 k a0 a1 a2 a3 t165 t166 t167 t169 t172 bt174.1 true)) else (observatorylaw12_WeatherMoon.j0 k a0 a1 a2 a3 t165 t166 t167 t169 t172 bt174.1 true)) else (observatorylaw12_WeatherMoon.j0 k a0 a1 a2 a3 t165 t166 t167 t169 t172 bt174.1 true))) = some r := H
  have A8 := Aside0.mk A80
  clear A80
  replace H := Option.bind_eq_some_iff.mp H
  obtain ⟨⟨t174, t175⟩, A90, H⟩ := H
  replace H : (if t168 = 0 then (if t171 = 0 then (if t173 = 0 then (observatorylaw12_WeatherMoon.j0 k a0 a1 a2 a3 t165 t166 t167 t169 t172 t174 (t175 != 0)) else (observatorylaw12_WeatherMoon.j0 k a0 a1 a2 a3 t165 t166 t167 t169 t172 t174 true)) else (observatorylaw12_WeatherMoon.j0 k a0 a1 a2 a3 t165 t166 t167 t169 t172 t174 true)) else (observatorylaw12_WeatherMoon.j0 k a0 a1 a2 a3 t165 t166 t167 t169 t172 t174 true)) = some r := H
  have A9 := Aside0.mk A90
  clear A90
  have HC10 := Aside0.mk H
  clear H
  go_enter Tryd.func4, Tryd.ntmps4
  go_upto_region 6 with (first | ((with_reducible refine gate_callee (f := 8) rfl ?_); refine goesL_ (some 22) rfl rfl Tryd.func8 (by kernel_rfl) rfl #[] rfl (by (try simp only [List.map_toArray, List.map_cons, List.map_nil]); first | done | rfl | (simp only [List.length_drop, List.length_take]; rfl)) ?_; (with_reducible refine (observatorylaw12_head.calls  t165 _ A5.out).mono ?_); rintro e w11 ⟨rfl, hb⟩; refine ⟨_, rfl, ?_⟩; have n0_ := Aside0.mk (below_step (by repeat (first | (with_reducible first | exact HB.out | apply below_alloc | apply pw_below_drewN | apply below_drew1) | exact HB.out)) hb); clear HB; have HB := n0_; clear n0_; (try clear hb); (try clear hb2); (try clear hk); (try clear hi)) | ((with_reducible refine gate_callee (f := 11) rfl ?_); refine goesL_ (some 25) rfl rfl Tryd.func11 (by kernel_rfl) rfl #[.int .i64 a0] rfl (by (try simp only [List.map_toArray, List.map_cons, List.map_nil]); first | done | rfl | (simp only [List.length_drop, List.length_take]; rfl)) ?_; (with_reducible refine (weather_Moon.calls a0 t166 t167 t168 _ A6.out).mono ?_); rintro e w12 ⟨rfl, hb⟩; refine ⟨_, rfl, ?_⟩; have n0_ := Aside0.mk (below_step (by repeat (first | (with_reducible first | exact HB.out | apply below_alloc | apply pw_below_drewN | apply below_drew1) | exact HB.out)) hb); clear HB; have HB := n0_; clear n0_; (try clear hb); (try clear hb2); (try clear hk); (try clear hi)) | ((with_reducible refine gate_callee (f := 11) rfl ?_); refine goesL_ (some 31) rfl rfl Tryd.func11 (by kernel_rfl) rfl #[.int .i64 a1] rfl (by (try simp only [List.map_toArray, List.map_cons, List.map_nil]); first | done | rfl | (simp only [List.length_drop, List.length_take]; rfl)) ?_; (with_reducible refine (weather_Moon.calls a1 t169 t170 t171 _ A7.out).mono ?_); rintro e w13 ⟨rfl, hb⟩; refine ⟨_, rfl, ?_⟩; have n0_ := Aside0.mk (below_step (by repeat (first | (with_reducible first | exact HB.out | apply below_alloc | apply pw_below_drewN | apply below_drew1) | exact HB.out)) hb); clear HB; have HB := n0_; clear n0_; (try clear hb); (try clear hb2); (try clear hk); (try clear hi)) | ((with_reducible refine gate_callee (f := 12) rfl ?_); refine goesL_ (some 38) rfl rfl Tryd.func12 (by kernel_rfl) rfl #[.int .i64 a0, .int .i64 a2] rfl (by (try simp only [List.map_toArray, List.map_cons, List.map_nil]); first | done | rfl | (simp only [List.length_drop, List.length_take]; rfl)) ?_; (with_reducible refine (weather_Background.calls a0 a2 t172 t173 _ A8.out).mono ?_); rintro e w14 ⟨rfl, hb⟩; refine ⟨_, rfl, ?_⟩; have n0_ := Aside0.mk (below_step (by repeat (first | (with_reducible first | exact HB.out | apply below_alloc | apply pw_below_drewN | apply below_drew1) | exact HB.out)) hb); clear HB; have HB := n0_; clear n0_; (try clear hb); (try clear hb2); (try clear hk); (try clear hi)) | ((with_reducible refine gate_callee (f := 12) rfl ?_); refine goesL_ (some 44) rfl rfl Tryd.func12 (by kernel_rfl) rfl #[.int .i64 a0, .int .i64 a3] rfl (by (try simp only [List.map_toArray, List.map_cons, List.map_nil]); first | done | rfl | (simp only [List.length_drop, List.length_take]; rfl)) ?_; (with_reducible refine (weather_Background.calls a0 a3 t174 t175 _ A9.out).mono ?_); rintro e w15 ⟨rfl, hb⟩; refine ⟨_, rfl, ?_⟩; have n0_ := Aside0.mk (below_step (by repeat (first | (with_reducible first | exact HB.out | apply below_alloc | apply pw_below_drewN | apply below_drew1) | exact HB.out)) hb); clear HB; have HB := n0_; clear n0_; (try clear hb); (try clear hb2); (try clear hk); (try clear hi)))
  (try simp only [Act.put, List.setIfInBounds_toArray, List.set_cons_zero, List.set_cons_succ])
  go_cut [60] (fun v60 wc => ∃ (kq : Nat) (x60_9 : Bool), v60 = .bool x60_9 ∧ Aside0 (observatorylaw12_WeatherMoon.j0 kq a0 a1 a2 a3 t165 t166 t167 t169 t172 t174 x60_9 = some r) ∧ Aside0 (kq ≤ k) ∧ Aside0 (Below w.heap.size w wc))
  case first =>
    have H := HC10.out
    clear HC10
    by_cases c16 : t168 = 0
    · rw [if_pos c16] at H
      have c16b0 : (t168 == 0) = true := beq_iff_eq.mpr c16
      have c16b1 : (t168 != 0) = false := bne_eq_false_iff_eq.mpr c16
      clear c16
      (first | rw [c16b0] | (simp only [i64_w, i32_w]; rw [c16b0]) | skip)
      by_cases c17 : t171 = 0
      · rw [if_pos c17] at H
        have c17b0 : (t171 == 0) = true := beq_iff_eq.mpr c17
        have c17b1 : (t171 != 0) = false := bne_eq_false_iff_eq.mpr c17
        clear c17
        by_cases c18 : t173 = 0
        · rw [if_pos c18] at H
          have c18b0 : (t173 == 0) = true := beq_iff_eq.mpr c18
          have c18b1 : (t173 != 0) = false := bne_eq_false_iff_eq.mpr c18
          clear c18
          have H' := Aside0.mk H
          clear H
          go_wp2
          go_meet
          case rel => exact ⟨_, ((t175 != 0)), (by first | rfl | (simp; done) | (simp [*]; done)), H', ⟨by first | omega | exact Nat.le_refl _⟩, ⟨by repeat (first | (with_reducible first | exact HB.out | apply below_alloc | apply pw_below_drewN | apply below_drew1) | exact HB.out)⟩⟩
        · rw [if_neg c18] at H
          have c18b0 : (t173 == 0) = false := beq_eq_false_iff_ne.mpr c18
          have c18b1 : (t173 != 0) = true := bne_iff_ne.mpr c18
          have H' := Aside0.mk H
          clear H
          go_wp2
          go_meet
          case rel => exact ⟨_, (true), (by first | rfl | (simp; done) | (simp [*]; done)), H', ⟨by first | omega | exact Nat.le_refl _⟩, ⟨by repeat (first | (with_reducible first | exact HB.out | apply below_alloc | apply pw_below_drewN | apply below_drew1) | exact HB.out)⟩⟩
      · rw [if_neg c17] at H
        have c17b0 : (t171 == 0) = false := beq_eq_false_iff_ne.mpr c17
        have c17b1 : (t171 != 0) = true := bne_iff_ne.mpr c17
        have H' := Aside0.mk H
        clear H
        go_wp2
        go_meet
        case rel => exact ⟨_, (true), (by first | rfl | (simp; done) | (simp [*]; done)), H', ⟨by first | omega | exact Nat.le_refl _⟩, ⟨by repeat (first | (with_reducible first | exact HB.out | apply below_alloc | apply pw_below_drewN | apply below_drew1) | exact HB.out)⟩⟩
    · rw [if_neg c16] at H
      have c16b0 : (t168 == 0) = false := beq_eq_false_iff_ne.mpr c16
      have c16b1 : (t168 != 0) = true := bne_iff_ne.mpr c16
      (first | rw [c16b0] | (simp only [i64_w, i32_w]; rw [c16b0]) | skip)
      have H' := Aside0.mk H
      clear H
      go_wp2
      go_meet
      case rel => exact ⟨_, (true), (by first | rfl | (simp; done) | (simp [*]; done)), H', ⟨by first | omega | exact Nat.le_refl _⟩, ⟨by repeat (first | (with_reducible first | exact HB.out | apply below_alloc | apply pw_below_drewN | apply below_drew1) | exact HB.out)⟩⟩
  case rest =>
    clear HC10
    try clear c1
    try clear p2
    try clear c4
    try clear c8
    try clear c11
    try clear c12
    try clear c16
    try clear c16b0
    try clear c16b1
    try clear c17
    try clear c17b0
    try clear c17b1
    try clear c18
    try clear c18b0
    try clear c18b1
    obtain ⟨kq, x60_9, rfl, HA, HJ9, HB⟩ := hcut
    cases kq with
    | zero => exact absurd HA.out (by simp [observatorylaw12_WeatherMoon.j0])
    | succ kj9 =>
      have H := HA.out
      clear HA
      simp only [observatorylaw12_WeatherMoon.j0] at H
      by_cases c19 : x60_9 = true
      · subst c19
        have H1 : (if t165 = true then (if a0 < 0 then (some true) else (if a0 ≥ 400 then (some true) else (if a1 < 0 then (some true) else (if a1 ≥ 400 then (some true) else (if a2 < 0 then (some true) else (if a2 ≥ 512 then (some true) else (if a3 < 0 then (some true) else (some (decide (a3 ≥ 512)))))))))) else (some false)) = some r := by rw [if_pos rfl] at H; exact H
        clear H
        have H := H1
        clear H1
        by_cases c20 : t165 = true
        · subst c20
          have H1 : (if a0 < 0 then (some true) else (if a0 ≥ 400 then (some true) else (if a1 < 0 then (some true) else (if a1 ≥ 400 then (some true) else (if a2 < 0 then (some true) else (if a2 ≥ 512 then (some true) else (if a3 < 0 then (some true) else (some (decide (a3 ≥ 512)))))))))) = some r := by rw [if_pos rfl] at H; exact H
          clear H
          have H := H1
          clear H1
          by_cases c21 : a0 < 0
          · rw [if_pos c21] at H
            have c21b0 : decide (a0 < 0) = true := decide_eq_true c21
            clear c21
            obtain rfl := Option.some.inj H
            go_wp2
            go_ret
            exact ⟨by first | rfl | (simp [errW_none, errW_some] <;> rfl) | (simp [*, errW_none, errW_some] <;> rfl), by repeat (first | (with_reducible first | exact HB.out | apply below_alloc | apply pw_below_drewN | apply below_drew1) | exact HB.out)⟩
          · rw [if_neg c21] at H
            have c21b0 : decide (a0 < 0) = false := decide_eq_false c21
            clear c21
            by_cases c22 : a0 ≥ 400
            · rw [if_pos c22] at H
              have c22b0 : decide (400 ≤ a0) = true := decide_eq_true c22
              clear c22
              obtain rfl := Option.some.inj H
              go_wp2
              go_ret
              exact ⟨by first | rfl | (simp [errW_none, errW_some] <;> rfl) | (simp [*, errW_none, errW_some] <;> rfl), by repeat (first | (with_reducible first | exact HB.out | apply below_alloc | apply pw_below_drewN | apply below_drew1) | exact HB.out)⟩
            · rw [if_neg c22] at H
              have c22b0 : decide (400 ≤ a0) = false := decide_eq_false c22
              clear c22
              by_cases c23 : a1 < 0
              · rw [if_pos c23] at H
                have c23b0 : decide (a1 < 0) = true := decide_eq_true c23
                clear c23
                obtain rfl := Option.some.inj H
                go_wp2
                go_ret
                exact ⟨by first | rfl | (simp [errW_none, errW_some] <;> rfl) | (simp [*, errW_none, errW_some] <;> rfl), by repeat (first | (with_reducible first | exact HB.out | apply below_alloc | apply pw_below_drewN | apply below_drew1) | exact HB.out)⟩
              · rw [if_neg c23] at H
                have c23b0 : decide (a1 < 0) = false := decide_eq_false c23
                clear c23
                by_cases c24 : a1 ≥ 400
                · rw [if_pos c24] at H
                  have c24b0 : decide (400 ≤ a1) = true := decide_eq_true c24
                  clear c24
                  obtain rfl := Option.some.inj H
                  go_wp2
                  go_ret
                  exact ⟨by first | rfl | (simp [errW_none, errW_some] <;> rfl) | (simp [*, errW_none, errW_some] <;> rfl), by repeat (first | (with_reducible first | exact HB.out | apply below_alloc | apply pw_below_drewN | apply below_drew1) | exact HB.out)⟩
                · rw [if_neg c24] at H
                  have c24b0 : decide (400 ≤ a1) = false := decide_eq_false c24
                  clear c24
                  by_cases c25 : a2 < 0
                  · rw [if_pos c25] at H
                    have c25b0 : decide (a2 < 0) = true := decide_eq_true c25
                    clear c25
                    obtain rfl := Option.some.inj H
                    go_wp2
                    go_ret
                    exact ⟨by first | rfl | (simp [errW_none, errW_some] <;> rfl) | (simp [*, errW_none, errW_some] <;> rfl), by repeat (first | (with_reducible first | exact HB.out | apply below_alloc | apply pw_below_drewN | apply below_drew1) | exact HB.out)⟩
                  · rw [if_neg c25] at H
                    have c25b0 : decide (a2 < 0) = false := decide_eq_false c25
                    clear c25
                    by_cases c26 : a2 ≥ 512
                    · rw [if_pos c26] at H
                      have c26b0 : decide (512 ≤ a2) = true := decide_eq_true c26
                      clear c26
                      obtain rfl := Option.some.inj H
                      go_wp2
                      go_ret
                      exact ⟨by first | rfl | (simp [errW_none, errW_some] <;> rfl) | (simp [*, errW_none, errW_some] <;> rfl), by repeat (first | (with_reducible first | exact HB.out | apply below_alloc | apply pw_below_drewN | apply below_drew1) | exact HB.out)⟩
                    · rw [if_neg c26] at H
                      have c26b0 : decide (512 ≤ a2) = false := decide_eq_false c26
                      clear c26
                      by_cases c27 : a3 < 0
                      · rw [if_pos c27] at H
                        have c27b0 : decide (a3 < 0) = true := decide_eq_true c27
                        clear c27
                        obtain rfl := Option.some.inj H
                        go_wp2
                        go_ret
                        exact ⟨by first | rfl | (simp [errW_none, errW_some] <;> rfl) | (simp [*, errW_none, errW_some] <;> rfl), by repeat (first | (with_reducible first | exact HB.out | apply below_alloc | apply pw_below_drewN | apply below_drew1) | exact HB.out)⟩
                      · rw [if_neg c27] at H
                        have c27b0 : decide (a3 < 0) = false := decide_eq_false c27
                        clear c27
                        obtain rfl := Option.some.inj H
                        go_wp2
                        go_ret
                        exact ⟨by first | rfl | (simp [errW_none, errW_some] <;> rfl) | (simp [*, errW_none, errW_some] <;> rfl), by repeat (first | (with_reducible first | exact HB.out | apply below_alloc | apply pw_below_drewN | apply below_drew1) | exact HB.out)⟩
        · replace c20 := Bool.eq_false_iff.mpr c20
          subst c20
          have H1 : (some false) = some r := by rw [if_neg (show ¬ (false = true) by decide)] at H; exact H
          clear H
          have H := H1
          clear H1
          obtain rfl := Option.some.inj H
          go_wp2
          go_ret
          exact ⟨by first | rfl | (simp [errW_none, errW_some] <;> rfl) | (simp [*, errW_none, errW_some] <;> rfl), by repeat (first | (with_reducible first | exact HB.out | apply below_alloc | apply pw_below_drewN | apply below_drew1) | exact HB.out)⟩
      · replace c19 := Bool.eq_false_iff.mpr c19
        subst c19
        have H1 : (if t166 < 0 then (observatorylaw12_WeatherMoon.j1 kj9 a2 a3 t165 t166 t167 t172 t174 true) else (if t166 > 1000 then (observatorylaw12_WeatherMoon.j1 kj9 a2 a3 t165 t166 t167 t172 t174 true) else (if (Int.tmod (wrap64 (a0 + a1)) 30) = 0 then (if t166 = t169 then (if t167 < 0 then (observatorylaw12_WeatherMoon.j1 kj9 a2 a3 t165 t166 t167 t172 t174 true) else (observatorylaw12_WeatherMoon.j1 kj9 a2 a3 t165 t166 t167 t172 t174 (decide (t167 ≥ 32)))) else (observatorylaw12_WeatherMoon.j1 kj9 a2 a3 t165 t166 t167 t172 t174 true)) else (if t167 < 0 then (observatorylaw12_WeatherMoon.j1 kj9 a2 a3 t165 t166 t167 t172 t174 true) else (observatorylaw12_WeatherMoon.j1 kj9 a2 a3 t165 t166 t167 t172 t174 (decide (t167 ≥ 32))))))) = some r := by rw [if_neg (show ¬ (false = true) by decide)] at H; exact H
        clear H
        have H := H1
        clear H1
        have HC28 := Aside0.mk H
        clear H
        go_upto_region 8 with (fail)
        go_cut [119] (fun v119 wc => ∃ (kq : Nat) (x119_27 : Bool), v119 = .bool x119_27 ∧ Aside0 (observatorylaw12_WeatherMoon.j1 kq a2 a3 t165 t166 t167 t172 t174 x119_27 = some r) ∧ Aside0 (kq ≤ kj9) ∧ Aside0 (Below w.heap.size w wc))
        case first =>
          have H := HC28.out
          clear HC28
          by_cases c29 : t166 < 0
          · rw [if_pos c29] at H
            have c29b0 : decide (t166 < 0) = true := decide_eq_true c29
            clear c29
            (first | rw [c29b0] | (simp only [i64_w, i32_w]; rw [c29b0]) | skip)
            have H' := Aside0.mk H
            clear H
            go_wp2
            go_meet
            case rel => exact ⟨_, (true), (by first | rfl | (simp; done) | (simp [*]; done)), H', ⟨by have := HJ9.out; first | omega | exact Nat.le_refl _⟩, ⟨by repeat (first | (with_reducible first | exact HB.out | apply below_alloc | apply pw_below_drewN | apply below_drew1) | exact HB.out)⟩⟩
          · rw [if_neg c29] at H
            have c29b0 : decide (t166 < 0) = false := decide_eq_false c29
            clear c29
            (first | rw [c29b0] | (simp only [i64_w, i32_w]; rw [c29b0]) | skip)
            by_cases c30 : t166 > 1000
            · rw [if_pos c30] at H
              have c30b0 : decide (1000 < t166) = true := decide_eq_true c30
              clear c30
              have H' := Aside0.mk H
              clear H
              go_wp2
              go_meet
              case rel => exact ⟨_, (true), (by first | rfl | (simp; done) | (simp [*]; done)), H', ⟨by have := HJ9.out; first | omega | exact Nat.le_refl _⟩, ⟨by repeat (first | (with_reducible first | exact HB.out | apply below_alloc | apply pw_below_drewN | apply below_drew1) | exact HB.out)⟩⟩
            · rw [if_neg c30] at H
              have c30b0 : decide (1000 < t166) = false := decide_eq_false c30
              clear c30
              by_cases c31 : (Int.tmod (wrap64 (a0 + a1)) 30) = 0
              · rw [if_pos c31] at H
                have c31b0 : ((Int.tmod (wrap64 (a0 + a1)) 30) == 0) = true := beq_iff_eq.mpr c31
                have c31b1 : ((Int.tmod (wrap64 (a0 + a1)) 30) != 0) = false := bne_eq_false_iff_eq.mpr c31
                clear c31
                by_cases c32 : t166 = t169
                · rw [if_pos c32] at H
                  have c32b0 : (t166 == t169) = true := beq_iff_eq.mpr c32
                  have c32b1 : (t166 != t169) = false := bne_eq_false_iff_eq.mpr c32
                  clear c32
                  by_cases c33 : t167 < 0
                  · rw [if_pos c33] at H
                    have c33b0 : decide (t167 < 0) = true := decide_eq_true c33
                    clear c33
                    have H' := Aside0.mk H
                    clear H
                    go_wp2
                    go_meet
                    case rel => exact ⟨_, (true), (by first | rfl | (simp; done) | (simp [*]; done)), H', ⟨by have := HJ9.out; first | omega | exact Nat.le_refl _⟩, ⟨by repeat (first | (with_reducible first | exact HB.out | apply below_alloc | apply pw_below_drewN | apply below_drew1) | exact HB.out)⟩⟩
                  · rw [if_neg c33] at H
                    have c33b0 : decide (t167 < 0) = false := decide_eq_false c33
                    clear c33
                    have H' := Aside0.mk H
                    clear H
                    go_wp2
                    go_meet
                    case rel => exact ⟨_, (decide (t167 ≥ 32)), (by first | rfl | (simp; done) | (simp [*]; done)), H', ⟨by have := HJ9.out; first | omega | exact Nat.le_refl _⟩, ⟨by repeat (first | (with_reducible first | exact HB.out | apply below_alloc | apply pw_below_drewN | apply below_drew1) | exact HB.out)⟩⟩
                · rw [if_neg c32] at H
                  have c32b0 : (t166 == t169) = false := beq_eq_false_iff_ne.mpr c32
                  have c32b1 : (t166 != t169) = true := bne_iff_ne.mpr c32
                  have H' := Aside0.mk H
                  clear H
                  go_wp2
                  go_meet
                  case rel => exact ⟨_, (true), (by first | rfl | (simp; done) | (simp [*]; done)), H', ⟨by have := HJ9.out; first | omega | exact Nat.le_refl _⟩, ⟨by repeat (first | (with_reducible first | exact HB.out | apply below_alloc | apply pw_below_drewN | apply below_drew1) | exact HB.out)⟩⟩
              · rw [if_neg c31] at H
                have c31b0 : ((Int.tmod (wrap64 (a0 + a1)) 30) == 0) = false := beq_eq_false_iff_ne.mpr c31
                have c31b1 : ((Int.tmod (wrap64 (a0 + a1)) 30) != 0) = true := bne_iff_ne.mpr c31
                by_cases c34 : t167 < 0
                · rw [if_pos c34] at H
                  have c34b0 : decide (t167 < 0) = true := decide_eq_true c34
                  clear c34
                  have H' := Aside0.mk H
                  clear H
                  go_wp2
                  go_meet
                  case rel => exact ⟨_, (true), (by first | rfl | (simp; done) | (simp [*]; done)), H', ⟨by have := HJ9.out; first | omega | exact Nat.le_refl _⟩, ⟨by repeat (first | (with_reducible first | exact HB.out | apply below_alloc | apply pw_below_drewN | apply below_drew1) | exact HB.out)⟩⟩
                · rw [if_neg c34] at H
                  have c34b0 : decide (t167 < 0) = false := decide_eq_false c34
                  clear c34
                  have H' := Aside0.mk H
                  clear H
                  go_wp2
                  go_meet
                  case rel => exact ⟨_, (decide (t167 ≥ 32)), (by first | rfl | (simp; done) | (simp [*]; done)), H', ⟨by have := HJ9.out; first | omega | exact Nat.le_refl _⟩, ⟨by repeat (first | (with_reducible first | exact HB.out | apply below_alloc | apply pw_below_drewN | apply below_drew1) | exact HB.out)⟩⟩
        case rest =>
          clear HC28
          try clear c1
          try clear c2
          try clear p2
          try clear c3
          try clear c4
          try clear p6
          try clear c8
          try clear c11
          try clear c12
          try clear c16
          try clear c16b0
          try clear c16b1
          try clear c17
          try clear c17b0
          try clear c17b1
          try clear c18
          try clear c18b0
          try clear c18b1
          try clear c19
          try clear c20
          try clear c21
          try clear c21b0
          try clear c22
          try clear c22b0
          try clear c23
          try clear c23b0
          try clear c24
          try clear c24b0
          try clear c25
          try clear c25b0
          try clear c26
          try clear c26b0
          try clear c27
          try clear c27b0
          try clear c29
          try clear c29b0
          try clear c30
          try clear c30b0
          try clear c31
          try clear c31b0
          try clear c31b1
          try clear c32
          try clear c32b0
          try clear c32b1
          try clear c33
          try clear c33b0
          try clear c34
          try clear c34b0
          try clear p2
          obtain ⟨kq, x119_27, rfl, HA, HJ27, HB⟩ := hcut
          cases kq with
          | zero => exact absurd HA.out (by simp [observatorylaw12_WeatherMoon.j1])
          | succ kj27 =>
            have H := HA.out
            clear HA
            simp only [observatorylaw12_WeatherMoon.j1] at H
            by_cases c35 : x119_27 = true
            · subst c35
              have H1 : (some false) = some r := by rw [if_pos rfl] at H; exact H
              clear H
              have H := H1
              clear H1
              obtain rfl := Option.some.inj H
              go_wp2
              go_ret
              exact ⟨by first | rfl | (simp [errW_none, errW_some] <;> rfl) | (simp [*, errW_none, errW_some] <;> rfl), by repeat (first | (with_reducible first | exact HB.out | apply below_alloc | apply pw_below_drewN | apply below_drew1) | exact HB.out)⟩
            · replace c35 := Bool.eq_false_iff.mpr c35
              subst c35
              have H1 : (if (Int.tmod (wrap64 ((wrap64 ((Int.tmod a2 32) - t167)) + 32)) 32) = 0 then (if t172 = (wrap64 (Int.tdiv t166 100)) then (if (Int.tmod (wrap64 ((wrap64 ((Int.tmod a2 32) - t167)) + 32)) 32) = 16 then (if t172 = 0 then (if t172 < 0 then (some false) else (if t172 > (wrap64 (Int.tdiv t166 100)) then (some false) else (if t165 = true then (if (Int.tmod (wrap64 ((Int.tmod (wrap64 ((wrap64 ((Int.tmod a2 32) - t167)) + 32)) 32) + (Int.tmod (wrap64 ((wrap64 ((Int.tmod a3 32) - t167)) + 32)) 32))) 32) = 0 then (some (t172 == t174)) else (if (Int.tmod (wrap64 ((wrap64 ((Int.tmod a2 32) - t167)) + 32)) 32) = (Int.tmod (wrap64 ((wrap64 ((Int.tmod a3 32) - t167)) + 32)) 32) then (some (t172 == t174)) else (some true))) else (some false)))) else (some false)) else (if t172 < 0 then (some false) else (if t172 > (wrap64 (Int.tdiv t166 100)) then (some false) else (if t165 = true then (if (Int.tmod (wrap64 ((Int.tmod (wrap64 ((wrap64 ((Int.tmod a2 32) - t167)) + 32)) 32) + (Int.tmod (wrap64 ((wrap64 ((Int.tmod a3 32) - t167)) + 32)) 32))) 32) = 0 then (some (t172 == t174)) else (if (Int.tmod (wrap64 ((wrap64 ((Int.tmod a2 32) - t167)) + 32)) 32) = (Int.tmod (wrap64 ((wrap64 ((Int.tmod a3 32) - t167)) + 32)) 32) then (some (t172 == t174)) else (some true))) else (some false))))) else (some false)) else (if (Int.tmod (wrap64 ((wrap64 ((Int.tmod a2 32) - t167)) + 32)) 32) = 16 then (if t172 = 0 then (if t172 < 0 then (some false) else (if t172 > (wrap64 (Int.tdiv t166 100)) then (some false) else (if t165 = true then (if (Int.tmod (wrap64 ((Int.tmod (wrap64 ((wrap64 ((Int.tmod a2 32) - t167)) + 32)) 32) + (Int.tmod (wrap64 ((wrap64 ((Int.tmod a3 32) - t167)) + 32)) 32))) 32) = 0 then (some (t172 == t174)) else (if (Int.tmod (wrap64 ((wrap64 ((Int.tmod a2 32) - t167)) + 32)) 32) = (Int.tmod (wrap64 ((wrap64 ((Int.tmod a3 32) - t167)) + 32)) 32) then (some (t172 == t174)) else (some true))) else (some false)))) else (some false)) else (if t172 < 0 then (some false) else (if t172 > (wrap64 (Int.tdiv t166 100)) then (some false) else (if t165 = true then (if (Int.tmod (wrap64 ((Int.tmod (wrap64 ((wrap64 ((Int.tmod a2 32) - t167)) + 32)) 32) + (Int.tmod (wrap64 ((wrap64 ((Int.tmod a3 32) - t167)) + 32)) 32))) 32) = 0 then (some (t172 == t174)) else (if (Int.tmod (wrap64 ((wrap64 ((Int.tmod a2 32) - t167)) + 32)) 32) = (Int.tmod (wrap64 ((wrap64 ((Int.tmod a3 32) - t167)) + 32)) 32) then (some (t172 == t174)) else (some true))) else (some false)))))) = some r := by rw [if_neg (show ¬ (false = true) by decide)] at H; exact H
              clear H
              have H := H1
              clear H1
              by_cases c36 : (Int.tmod (wrap64 ((wrap64 ((Int.tmod a2 32) - t167)) + 32)) 32) = 0
              · rw [if_pos c36] at H
                have c36b0 : ((Int.tmod (wrap64 ((wrap64 ((Int.tmod a2 32) - t167)) + 32)) 32) == 0) = true := beq_iff_eq.mpr c36
                have c36b1 : ((Int.tmod (wrap64 ((wrap64 ((Int.tmod a2 32) - t167)) + 32)) 32) != 0) = false := bne_eq_false_iff_eq.mpr c36
                clear c36
                by_cases c37 : t172 = (wrap64 (Int.tdiv t166 100))
                · rw [if_pos c37] at H
                  have c37b0 : (t172 == (wrap64 (Int.tdiv t166 100))) = true := beq_iff_eq.mpr c37
                  have c37b1 : (t172 != (wrap64 (Int.tdiv t166 100))) = false := bne_eq_false_iff_eq.mpr c37
                  clear c37
                  by_cases c38 : (Int.tmod (wrap64 ((wrap64 ((Int.tmod a2 32) - t167)) + 32)) 32) = 16
                  · rw [if_pos c38] at H
                    have c38b0 : ((Int.tmod (wrap64 ((wrap64 ((Int.tmod a2 32) - t167)) + 32)) 32) == 16) = true := beq_iff_eq.mpr c38
                    have c38b1 : ((Int.tmod (wrap64 ((wrap64 ((Int.tmod a2 32) - t167)) + 32)) 32) != 16) = false := bne_eq_false_iff_eq.mpr c38
                    clear c38
                    by_cases c39 : t172 = 0
                    · rw [if_pos c39] at H
                      have c39b0 : (t172 == 0) = true := beq_iff_eq.mpr c39
                      have c39b1 : (t172 != 0) = false := bne_eq_false_iff_eq.mpr c39
                      clear c39
                      by_cases c40 : t172 < 0
                      · rw [if_pos c40] at H
                        have c40b0 : decide (t172 < 0) = true := decide_eq_true c40
                        clear c40
                        obtain rfl := Option.some.inj H
                        go_wp2
                        go_ret
                        exact ⟨by first | rfl | (simp [errW_none, errW_some] <;> rfl) | (simp [*, errW_none, errW_some] <;> rfl), by repeat (first | (with_reducible first | exact HB.out | apply below_alloc | apply pw_below_drewN | apply below_drew1) | exact HB.out)⟩
                      · rw [if_neg c40] at H
                        have c40b0 : decide (t172 < 0) = false := decide_eq_false c40
                        clear c40
                        by_cases c41 : t172 > (wrap64 (Int.tdiv t166 100))
                        · rw [if_pos c41] at H
                          have c41b0 : decide ((wrap64 (Int.tdiv t166 100)) < t172) = true := decide_eq_true c41
                          clear c41
                          obtain rfl := Option.some.inj H
                          go_wp2
                          go_ret
                          exact ⟨by first | rfl | (simp [errW_none, errW_some] <;> rfl) | (simp [*, errW_none, errW_some] <;> rfl), by repeat (first | (with_reducible first | exact HB.out | apply below_alloc | apply pw_below_drewN | apply below_drew1) | exact HB.out)⟩
                        · rw [if_neg c41] at H
                          have c41b0 : decide ((wrap64 (Int.tdiv t166 100)) < t172) = false := decide_eq_false c41
                          clear c41
                          by_cases c42 : t165 = true
                          · subst c42
                            have H1 : (if (Int.tmod (wrap64 ((Int.tmod (wrap64 ((wrap64 ((Int.tmod a2 32) - t167)) + 32)) 32) + (Int.tmod (wrap64 ((wrap64 ((Int.tmod a3 32) - t167)) + 32)) 32))) 32) = 0 then (some (t172 == t174)) else (if (Int.tmod (wrap64 ((wrap64 ((Int.tmod a2 32) - t167)) + 32)) 32) = (Int.tmod (wrap64 ((wrap64 ((Int.tmod a3 32) - t167)) + 32)) 32) then (some (t172 == t174)) else (some true))) = some r := by rw [if_pos rfl] at H; exact H
                            clear H
                            have H := H1
                            clear H1
                            by_cases c43 : (Int.tmod (wrap64 ((Int.tmod (wrap64 ((wrap64 ((Int.tmod a2 32) - t167)) + 32)) 32) + (Int.tmod (wrap64 ((wrap64 ((Int.tmod a3 32) - t167)) + 32)) 32))) 32) = 0
                            · rw [if_pos c43] at H
                              have c43b0 : ((Int.tmod (wrap64 ((Int.tmod (wrap64 ((wrap64 ((Int.tmod a2 32) - t167)) + 32)) 32) + (Int.tmod (wrap64 ((wrap64 ((Int.tmod a3 32) - t167)) + 32)) 32))) 32) == 0) = true := beq_iff_eq.mpr c43
                              have c43b1 : ((Int.tmod (wrap64 ((Int.tmod (wrap64 ((wrap64 ((Int.tmod a2 32) - t167)) + 32)) 32) + (Int.tmod (wrap64 ((wrap64 ((Int.tmod a3 32) - t167)) + 32)) 32))) 32) != 0) = false := bne_eq_false_iff_eq.mpr c43
                              clear c43
                              obtain rfl := Option.some.inj H
                              go_wp2
                              go_ret
                              exact ⟨by first | rfl | (simp [errW_none, errW_some] <;> rfl) | (simp [*, errW_none, errW_some] <;> rfl), by repeat (first | (with_reducible first | exact HB.out | apply below_alloc | apply pw_below_drewN | apply below_drew1) | exact HB.out)⟩
                            · rw [if_neg c43] at H
                              have c43b0 : ((Int.tmod (wrap64 ((Int.tmod (wrap64 ((wrap64 ((Int.tmod a2 32) - t167)) + 32)) 32) + (Int.tmod (wrap64 ((wrap64 ((Int.tmod a3 32) - t167)) + 32)) 32))) 32) == 0) = false := beq_eq_false_iff_ne.mpr c43
                              have c43b1 : ((Int.tmod (wrap64 ((Int.tmod (wrap64 ((wrap64 ((Int.tmod a2 32) - t167)) + 32)) 32) + (Int.tmod (wrap64 ((wrap64 ((Int.tmod a3 32) - t167)) + 32)) 32))) 32) != 0) = true := bne_iff_ne.mpr c43
                              by_cases c44 : (Int.tmod (wrap64 ((wrap64 ((Int.tmod a2 32) - t167)) + 32)) 32) = (Int.tmod (wrap64 ((wrap64 ((Int.tmod a3 32) - t167)) + 32)) 32)
                              · rw [if_pos c44] at H
                                have c44b0 : ((Int.tmod (wrap64 ((wrap64 ((Int.tmod a2 32) - t167)) + 32)) 32) == (Int.tmod (wrap64 ((wrap64 ((Int.tmod a3 32) - t167)) + 32)) 32)) = true := beq_iff_eq.mpr c44
                                have c44b1 : ((Int.tmod (wrap64 ((wrap64 ((Int.tmod a2 32) - t167)) + 32)) 32) != (Int.tmod (wrap64 ((wrap64 ((Int.tmod a3 32) - t167)) + 32)) 32)) = false := bne_eq_false_iff_eq.mpr c44
                                clear c44
                                obtain rfl := Option.some.inj H
                                go_wp2
                                go_ret
                                exact ⟨by first | rfl | (simp [errW_none, errW_some] <;> rfl) | (simp [*, errW_none, errW_some] <;> rfl), by repeat (first | (with_reducible first | exact HB.out | apply below_alloc | apply pw_below_drewN | apply below_drew1) | exact HB.out)⟩
                              · rw [if_neg c44] at H
                                have c44b0 : ((Int.tmod (wrap64 ((wrap64 ((Int.tmod a2 32) - t167)) + 32)) 32) == (Int.tmod (wrap64 ((wrap64 ((Int.tmod a3 32) - t167)) + 32)) 32)) = false := beq_eq_false_iff_ne.mpr c44
                                have c44b1 : ((Int.tmod (wrap64 ((wrap64 ((Int.tmod a2 32) - t167)) + 32)) 32) != (Int.tmod (wrap64 ((wrap64 ((Int.tmod a3 32) - t167)) + 32)) 32)) = true := bne_iff_ne.mpr c44
                                obtain rfl := Option.some.inj H
                                go_wp2
                                go_ret
                                exact ⟨by first | rfl | (simp [errW_none, errW_some] <;> rfl) | (simp [*, errW_none, errW_some] <;> rfl), by repeat (first | (with_reducible first | exact HB.out | apply below_alloc | apply pw_below_drewN | apply below_drew1) | exact HB.out)⟩
                          · replace c42 := Bool.eq_false_iff.mpr c42
                            subst c42
                            have H1 : (some false) = some r := by rw [if_neg (show ¬ (false = true) by decide)] at H; exact H
                            clear H
                            have H := H1
                            clear H1
                            obtain rfl := Option.some.inj H
                            go_wp2
                            go_ret
                            exact ⟨by first | rfl | (simp [errW_none, errW_some] <;> rfl) | (simp [*, errW_none, errW_some] <;> rfl), by repeat (first | (with_reducible first | exact HB.out | apply below_alloc | apply pw_below_drewN | apply below_drew1) | exact HB.out)⟩
                    · rw [if_neg c39] at H
                      have c39b0 : (t172 == 0) = false := beq_eq_false_iff_ne.mpr c39
                      have c39b1 : (t172 != 0) = true := bne_iff_ne.mpr c39
                      obtain rfl := Option.some.inj H
                      go_wp2
                      go_ret
                      exact ⟨by first | rfl | (simp [errW_none, errW_some] <;> rfl) | (simp [*, errW_none, errW_some] <;> rfl), by repeat (first | (with_reducible first | exact HB.out | apply below_alloc | apply pw_below_drewN | apply below_drew1) | exact HB.out)⟩
                  · rw [if_neg c38] at H
                    have c38b0 : ((Int.tmod (wrap64 ((wrap64 ((Int.tmod a2 32) - t167)) + 32)) 32) == 16) = false := beq_eq_false_iff_ne.mpr c38
                    have c38b1 : ((Int.tmod (wrap64 ((wrap64 ((Int.tmod a2 32) - t167)) + 32)) 32) != 16) = true := bne_iff_ne.mpr c38
                    by_cases c45 : t172 < 0
                    · rw [if_pos c45] at H
                      have c45b0 : decide (t172 < 0) = true := decide_eq_true c45
                      clear c45
                      obtain rfl := Option.some.inj H
                      go_wp2
                      go_ret
                      exact ⟨by first | rfl | (simp [errW_none, errW_some] <;> rfl) | (simp [*, errW_none, errW_some] <;> rfl), by repeat (first | (with_reducible first | exact HB.out | apply below_alloc | apply pw_below_drewN | apply below_drew1) | exact HB.out)⟩
                    · rw [if_neg c45] at H
                      have c45b0 : decide (t172 < 0) = false := decide_eq_false c45
                      clear c45
                      by_cases c46 : t172 > (wrap64 (Int.tdiv t166 100))
                      · rw [if_pos c46] at H
                        have c46b0 : decide ((wrap64 (Int.tdiv t166 100)) < t172) = true := decide_eq_true c46
                        clear c46
                        obtain rfl := Option.some.inj H
                        go_wp2
                        go_ret
                        exact ⟨by first | rfl | (simp [errW_none, errW_some] <;> rfl) | (simp [*, errW_none, errW_some] <;> rfl), by repeat (first | (with_reducible first | exact HB.out | apply below_alloc | apply pw_below_drewN | apply below_drew1) | exact HB.out)⟩
                      · rw [if_neg c46] at H
                        have c46b0 : decide ((wrap64 (Int.tdiv t166 100)) < t172) = false := decide_eq_false c46
                        clear c46
                        by_cases c47 : t165 = true
                        · subst c47
                          have H1 : (if (Int.tmod (wrap64 ((Int.tmod (wrap64 ((wrap64 ((Int.tmod a2 32) - t167)) + 32)) 32) + (Int.tmod (wrap64 ((wrap64 ((Int.tmod a3 32) - t167)) + 32)) 32))) 32) = 0 then (some (t172 == t174)) else (if (Int.tmod (wrap64 ((wrap64 ((Int.tmod a2 32) - t167)) + 32)) 32) = (Int.tmod (wrap64 ((wrap64 ((Int.tmod a3 32) - t167)) + 32)) 32) then (some (t172 == t174)) else (some true))) = some r := by rw [if_pos rfl] at H; exact H
                          clear H
                          have H := H1
                          clear H1
                          by_cases c48 : (Int.tmod (wrap64 ((Int.tmod (wrap64 ((wrap64 ((Int.tmod a2 32) - t167)) + 32)) 32) + (Int.tmod (wrap64 ((wrap64 ((Int.tmod a3 32) - t167)) + 32)) 32))) 32) = 0
                          · rw [if_pos c48] at H
                            have c48b0 : ((Int.tmod (wrap64 ((Int.tmod (wrap64 ((wrap64 ((Int.tmod a2 32) - t167)) + 32)) 32) + (Int.tmod (wrap64 ((wrap64 ((Int.tmod a3 32) - t167)) + 32)) 32))) 32) == 0) = true := beq_iff_eq.mpr c48
                            have c48b1 : ((Int.tmod (wrap64 ((Int.tmod (wrap64 ((wrap64 ((Int.tmod a2 32) - t167)) + 32)) 32) + (Int.tmod (wrap64 ((wrap64 ((Int.tmod a3 32) - t167)) + 32)) 32))) 32) != 0) = false := bne_eq_false_iff_eq.mpr c48
                            clear c48
                            obtain rfl := Option.some.inj H
                            go_wp2
                            go_ret
                            exact ⟨by first | rfl | (simp [errW_none, errW_some] <;> rfl) | (simp [*, errW_none, errW_some] <;> rfl), by repeat (first | (with_reducible first | exact HB.out | apply below_alloc | apply pw_below_drewN | apply below_drew1) | exact HB.out)⟩
                          · rw [if_neg c48] at H
                            have c48b0 : ((Int.tmod (wrap64 ((Int.tmod (wrap64 ((wrap64 ((Int.tmod a2 32) - t167)) + 32)) 32) + (Int.tmod (wrap64 ((wrap64 ((Int.tmod a3 32) - t167)) + 32)) 32))) 32) == 0) = false := beq_eq_false_iff_ne.mpr c48
                            have c48b1 : ((Int.tmod (wrap64 ((Int.tmod (wrap64 ((wrap64 ((Int.tmod a2 32) - t167)) + 32)) 32) + (Int.tmod (wrap64 ((wrap64 ((Int.tmod a3 32) - t167)) + 32)) 32))) 32) != 0) = true := bne_iff_ne.mpr c48
                            by_cases c49 : (Int.tmod (wrap64 ((wrap64 ((Int.tmod a2 32) - t167)) + 32)) 32) = (Int.tmod (wrap64 ((wrap64 ((Int.tmod a3 32) - t167)) + 32)) 32)
                            · rw [if_pos c49] at H
                              have c49b0 : ((Int.tmod (wrap64 ((wrap64 ((Int.tmod a2 32) - t167)) + 32)) 32) == (Int.tmod (wrap64 ((wrap64 ((Int.tmod a3 32) - t167)) + 32)) 32)) = true := beq_iff_eq.mpr c49
                              have c49b1 : ((Int.tmod (wrap64 ((wrap64 ((Int.tmod a2 32) - t167)) + 32)) 32) != (Int.tmod (wrap64 ((wrap64 ((Int.tmod a3 32) - t167)) + 32)) 32)) = false := bne_eq_false_iff_eq.mpr c49
                              clear c49
                              obtain rfl := Option.some.inj H
                              go_wp2
                              go_ret
                              exact ⟨by first | rfl | (simp [errW_none, errW_some] <;> rfl) | (simp [*, errW_none, errW_some] <;> rfl), by repeat (first | (with_reducible first | exact HB.out | apply below_alloc | apply pw_below_drewN | apply below_drew1) | exact HB.out)⟩
                            · rw [if_neg c49] at H
                              have c49b0 : ((Int.tmod (wrap64 ((wrap64 ((Int.tmod a2 32) - t167)) + 32)) 32) == (Int.tmod (wrap64 ((wrap64 ((Int.tmod a3 32) - t167)) + 32)) 32)) = false := beq_eq_false_iff_ne.mpr c49
                              have c49b1 : ((Int.tmod (wrap64 ((wrap64 ((Int.tmod a2 32) - t167)) + 32)) 32) != (Int.tmod (wrap64 ((wrap64 ((Int.tmod a3 32) - t167)) + 32)) 32)) = true := bne_iff_ne.mpr c49
                              obtain rfl := Option.some.inj H
                              go_wp2
                              go_ret
                              exact ⟨by first | rfl | (simp [errW_none, errW_some] <;> rfl) | (simp [*, errW_none, errW_some] <;> rfl), by repeat (first | (with_reducible first | exact HB.out | apply below_alloc | apply pw_below_drewN | apply below_drew1) | exact HB.out)⟩
                        · replace c47 := Bool.eq_false_iff.mpr c47
                          subst c47
                          have H1 : (some false) = some r := by rw [if_neg (show ¬ (false = true) by decide)] at H; exact H
                          clear H
                          have H := H1
                          clear H1
                          obtain rfl := Option.some.inj H
                          go_wp2
                          go_ret
                          exact ⟨by first | rfl | (simp [errW_none, errW_some] <;> rfl) | (simp [*, errW_none, errW_some] <;> rfl), by repeat (first | (with_reducible first | exact HB.out | apply below_alloc | apply pw_below_drewN | apply below_drew1) | exact HB.out)⟩
                · rw [if_neg c37] at H
                  have c37b0 : (t172 == (wrap64 (Int.tdiv t166 100))) = false := beq_eq_false_iff_ne.mpr c37
                  have c37b1 : (t172 != (wrap64 (Int.tdiv t166 100))) = true := bne_iff_ne.mpr c37
                  obtain rfl := Option.some.inj H
                  go_wp2
                  go_ret
                  exact ⟨by first | rfl | (simp [errW_none, errW_some] <;> rfl) | (simp [*, errW_none, errW_some] <;> rfl), by repeat (first | (with_reducible first | exact HB.out | apply below_alloc | apply pw_below_drewN | apply below_drew1) | exact HB.out)⟩
              · rw [if_neg c36] at H
                have c36b0 : ((Int.tmod (wrap64 ((wrap64 ((Int.tmod a2 32) - t167)) + 32)) 32) == 0) = false := beq_eq_false_iff_ne.mpr c36
                have c36b1 : ((Int.tmod (wrap64 ((wrap64 ((Int.tmod a2 32) - t167)) + 32)) 32) != 0) = true := bne_iff_ne.mpr c36
                by_cases c50 : (Int.tmod (wrap64 ((wrap64 ((Int.tmod a2 32) - t167)) + 32)) 32) = 16
                · rw [if_pos c50] at H
                  have c50b0 : ((Int.tmod (wrap64 ((wrap64 ((Int.tmod a2 32) - t167)) + 32)) 32) == 16) = true := beq_iff_eq.mpr c50
                  have c50b1 : ((Int.tmod (wrap64 ((wrap64 ((Int.tmod a2 32) - t167)) + 32)) 32) != 16) = false := bne_eq_false_iff_eq.mpr c50
                  clear c50
                  by_cases c51 : t172 = 0
                  · rw [if_pos c51] at H
                    have c51b0 : (t172 == 0) = true := beq_iff_eq.mpr c51
                    have c51b1 : (t172 != 0) = false := bne_eq_false_iff_eq.mpr c51
                    clear c51
                    by_cases c52 : t172 < 0
                    · rw [if_pos c52] at H
                      have c52b0 : decide (t172 < 0) = true := decide_eq_true c52
                      clear c52
                      obtain rfl := Option.some.inj H
                      go_wp2
                      go_ret
                      exact ⟨by first | rfl | (simp [errW_none, errW_some] <;> rfl) | (simp [*, errW_none, errW_some] <;> rfl), by repeat (first | (with_reducible first | exact HB.out | apply below_alloc | apply pw_below_drewN | apply below_drew1) | exact HB.out)⟩
                    · rw [if_neg c52] at H
                      have c52b0 : decide (t172 < 0) = false := decide_eq_false c52
                      clear c52
                      by_cases c53 : t172 > (wrap64 (Int.tdiv t166 100))
                      · rw [if_pos c53] at H
                        have c53b0 : decide ((wrap64 (Int.tdiv t166 100)) < t172) = true := decide_eq_true c53
                        clear c53
                        obtain rfl := Option.some.inj H
                        go_wp2
                        go_ret
                        exact ⟨by first | rfl | (simp [errW_none, errW_some] <;> rfl) | (simp [*, errW_none, errW_some] <;> rfl), by repeat (first | (with_reducible first | exact HB.out | apply below_alloc | apply pw_below_drewN | apply below_drew1) | exact HB.out)⟩
                      · rw [if_neg c53] at H
                        have c53b0 : decide ((wrap64 (Int.tdiv t166 100)) < t172) = false := decide_eq_false c53
                        clear c53
                        by_cases c54 : t165 = true
                        · subst c54
                          have H1 : (if (Int.tmod (wrap64 ((Int.tmod (wrap64 ((wrap64 ((Int.tmod a2 32) - t167)) + 32)) 32) + (Int.tmod (wrap64 ((wrap64 ((Int.tmod a3 32) - t167)) + 32)) 32))) 32) = 0 then (some (t172 == t174)) else (if (Int.tmod (wrap64 ((wrap64 ((Int.tmod a2 32) - t167)) + 32)) 32) = (Int.tmod (wrap64 ((wrap64 ((Int.tmod a3 32) - t167)) + 32)) 32) then (some (t172 == t174)) else (some true))) = some r := by rw [if_pos rfl] at H; exact H
                          clear H
                          have H := H1
                          clear H1
                          by_cases c55 : (Int.tmod (wrap64 ((Int.tmod (wrap64 ((wrap64 ((Int.tmod a2 32) - t167)) + 32)) 32) + (Int.tmod (wrap64 ((wrap64 ((Int.tmod a3 32) - t167)) + 32)) 32))) 32) = 0
                          · rw [if_pos c55] at H
                            have c55b0 : ((Int.tmod (wrap64 ((Int.tmod (wrap64 ((wrap64 ((Int.tmod a2 32) - t167)) + 32)) 32) + (Int.tmod (wrap64 ((wrap64 ((Int.tmod a3 32) - t167)) + 32)) 32))) 32) == 0) = true := beq_iff_eq.mpr c55
                            have c55b1 : ((Int.tmod (wrap64 ((Int.tmod (wrap64 ((wrap64 ((Int.tmod a2 32) - t167)) + 32)) 32) + (Int.tmod (wrap64 ((wrap64 ((Int.tmod a3 32) - t167)) + 32)) 32))) 32) != 0) = false := bne_eq_false_iff_eq.mpr c55
                            clear c55
                            obtain rfl := Option.some.inj H
                            go_wp2
                            go_ret
                            exact ⟨by first | rfl | (simp [errW_none, errW_some] <;> rfl) | (simp [*, errW_none, errW_some] <;> rfl), by repeat (first | (with_reducible first | exact HB.out | apply below_alloc | apply pw_below_drewN | apply below_drew1) | exact HB.out)⟩
                          · rw [if_neg c55] at H
                            have c55b0 : ((Int.tmod (wrap64 ((Int.tmod (wrap64 ((wrap64 ((Int.tmod a2 32) - t167)) + 32)) 32) + (Int.tmod (wrap64 ((wrap64 ((Int.tmod a3 32) - t167)) + 32)) 32))) 32) == 0) = false := beq_eq_false_iff_ne.mpr c55
                            have c55b1 : ((Int.tmod (wrap64 ((Int.tmod (wrap64 ((wrap64 ((Int.tmod a2 32) - t167)) + 32)) 32) + (Int.tmod (wrap64 ((wrap64 ((Int.tmod a3 32) - t167)) + 32)) 32))) 32) != 0) = true := bne_iff_ne.mpr c55
                            by_cases c56 : (Int.tmod (wrap64 ((wrap64 ((Int.tmod a2 32) - t167)) + 32)) 32) = (Int.tmod (wrap64 ((wrap64 ((Int.tmod a3 32) - t167)) + 32)) 32)
                            · rw [if_pos c56] at H
                              have c56b0 : ((Int.tmod (wrap64 ((wrap64 ((Int.tmod a2 32) - t167)) + 32)) 32) == (Int.tmod (wrap64 ((wrap64 ((Int.tmod a3 32) - t167)) + 32)) 32)) = true := beq_iff_eq.mpr c56
                              have c56b1 : ((Int.tmod (wrap64 ((wrap64 ((Int.tmod a2 32) - t167)) + 32)) 32) != (Int.tmod (wrap64 ((wrap64 ((Int.tmod a3 32) - t167)) + 32)) 32)) = false := bne_eq_false_iff_eq.mpr c56
                              clear c56
                              obtain rfl := Option.some.inj H
                              go_wp2
                              go_ret
                              exact ⟨by first | rfl | (simp [errW_none, errW_some] <;> rfl) | (simp [*, errW_none, errW_some] <;> rfl), by repeat (first | (with_reducible first | exact HB.out | apply below_alloc | apply pw_below_drewN | apply below_drew1) | exact HB.out)⟩
                            · rw [if_neg c56] at H
                              have c56b0 : ((Int.tmod (wrap64 ((wrap64 ((Int.tmod a2 32) - t167)) + 32)) 32) == (Int.tmod (wrap64 ((wrap64 ((Int.tmod a3 32) - t167)) + 32)) 32)) = false := beq_eq_false_iff_ne.mpr c56
                              have c56b1 : ((Int.tmod (wrap64 ((wrap64 ((Int.tmod a2 32) - t167)) + 32)) 32) != (Int.tmod (wrap64 ((wrap64 ((Int.tmod a3 32) - t167)) + 32)) 32)) = true := bne_iff_ne.mpr c56
                              obtain rfl := Option.some.inj H
                              go_wp2
                              go_ret
                              exact ⟨by first | rfl | (simp [errW_none, errW_some] <;> rfl) | (simp [*, errW_none, errW_some] <;> rfl), by repeat (first | (with_reducible first | exact HB.out | apply below_alloc | apply pw_below_drewN | apply below_drew1) | exact HB.out)⟩
                        · replace c54 := Bool.eq_false_iff.mpr c54
                          subst c54
                          have H1 : (some false) = some r := by rw [if_neg (show ¬ (false = true) by decide)] at H; exact H
                          clear H
                          have H := H1
                          clear H1
                          obtain rfl := Option.some.inj H
                          go_wp2
                          go_ret
                          exact ⟨by first | rfl | (simp [errW_none, errW_some] <;> rfl) | (simp [*, errW_none, errW_some] <;> rfl), by repeat (first | (with_reducible first | exact HB.out | apply below_alloc | apply pw_below_drewN | apply below_drew1) | exact HB.out)⟩
                  · rw [if_neg c51] at H
                    have c51b0 : (t172 == 0) = false := beq_eq_false_iff_ne.mpr c51
                    have c51b1 : (t172 != 0) = true := bne_iff_ne.mpr c51
                    obtain rfl := Option.some.inj H
                    go_wp2
                    go_ret
                    exact ⟨by first | rfl | (simp [errW_none, errW_some] <;> rfl) | (simp [*, errW_none, errW_some] <;> rfl), by repeat (first | (with_reducible first | exact HB.out | apply below_alloc | apply pw_below_drewN | apply below_drew1) | exact HB.out)⟩
                · rw [if_neg c50] at H
                  have c50b0 : ((Int.tmod (wrap64 ((wrap64 ((Int.tmod a2 32) - t167)) + 32)) 32) == 16) = false := beq_eq_false_iff_ne.mpr c50
                  have c50b1 : ((Int.tmod (wrap64 ((wrap64 ((Int.tmod a2 32) - t167)) + 32)) 32) != 16) = true := bne_iff_ne.mpr c50
                  by_cases c57 : t172 < 0
                  · rw [if_pos c57] at H
                    have c57b0 : decide (t172 < 0) = true := decide_eq_true c57
                    clear c57
                    obtain rfl := Option.some.inj H
                    go_wp2
                    go_ret
                    exact ⟨by first | rfl | (simp [errW_none, errW_some] <;> rfl) | (simp [*, errW_none, errW_some] <;> rfl), by repeat (first | (with_reducible first | exact HB.out | apply below_alloc | apply pw_below_drewN | apply below_drew1) | exact HB.out)⟩
                  · rw [if_neg c57] at H
                    have c57b0 : decide (t172 < 0) = false := decide_eq_false c57
                    clear c57
                    by_cases c58 : t172 > (wrap64 (Int.tdiv t166 100))
                    · rw [if_pos c58] at H
                      have c58b0 : decide ((wrap64 (Int.tdiv t166 100)) < t172) = true := decide_eq_true c58
                      clear c58
                      obtain rfl := Option.some.inj H
                      go_wp2
                      go_ret
                      exact ⟨by first | rfl | (simp [errW_none, errW_some] <;> rfl) | (simp [*, errW_none, errW_some] <;> rfl), by repeat (first | (with_reducible first | exact HB.out | apply below_alloc | apply pw_below_drewN | apply below_drew1) | exact HB.out)⟩
                    · rw [if_neg c58] at H
                      have c58b0 : decide ((wrap64 (Int.tdiv t166 100)) < t172) = false := decide_eq_false c58
                      clear c58
                      by_cases c59 : t165 = true
                      · subst c59
                        have H1 : (if (Int.tmod (wrap64 ((Int.tmod (wrap64 ((wrap64 ((Int.tmod a2 32) - t167)) + 32)) 32) + (Int.tmod (wrap64 ((wrap64 ((Int.tmod a3 32) - t167)) + 32)) 32))) 32) = 0 then (some (t172 == t174)) else (if (Int.tmod (wrap64 ((wrap64 ((Int.tmod a2 32) - t167)) + 32)) 32) = (Int.tmod (wrap64 ((wrap64 ((Int.tmod a3 32) - t167)) + 32)) 32) then (some (t172 == t174)) else (some true))) = some r := by rw [if_pos rfl] at H; exact H
                        clear H
                        have H := H1
                        clear H1
                        by_cases c60 : (Int.tmod (wrap64 ((Int.tmod (wrap64 ((wrap64 ((Int.tmod a2 32) - t167)) + 32)) 32) + (Int.tmod (wrap64 ((wrap64 ((Int.tmod a3 32) - t167)) + 32)) 32))) 32) = 0
                        · rw [if_pos c60] at H
                          have c60b0 : ((Int.tmod (wrap64 ((Int.tmod (wrap64 ((wrap64 ((Int.tmod a2 32) - t167)) + 32)) 32) + (Int.tmod (wrap64 ((wrap64 ((Int.tmod a3 32) - t167)) + 32)) 32))) 32) == 0) = true := beq_iff_eq.mpr c60
                          have c60b1 : ((Int.tmod (wrap64 ((Int.tmod (wrap64 ((wrap64 ((Int.tmod a2 32) - t167)) + 32)) 32) + (Int.tmod (wrap64 ((wrap64 ((Int.tmod a3 32) - t167)) + 32)) 32))) 32) != 0) = false := bne_eq_false_iff_eq.mpr c60
                          clear c60
                          obtain rfl := Option.some.inj H
                          go_wp2
                          go_ret
                          exact ⟨by first | rfl | (simp [errW_none, errW_some] <;> rfl) | (simp [*, errW_none, errW_some] <;> rfl), by repeat (first | (with_reducible first | exact HB.out | apply below_alloc | apply pw_below_drewN | apply below_drew1) | exact HB.out)⟩
                        · rw [if_neg c60] at H
                          have c60b0 : ((Int.tmod (wrap64 ((Int.tmod (wrap64 ((wrap64 ((Int.tmod a2 32) - t167)) + 32)) 32) + (Int.tmod (wrap64 ((wrap64 ((Int.tmod a3 32) - t167)) + 32)) 32))) 32) == 0) = false := beq_eq_false_iff_ne.mpr c60
                          have c60b1 : ((Int.tmod (wrap64 ((Int.tmod (wrap64 ((wrap64 ((Int.tmod a2 32) - t167)) + 32)) 32) + (Int.tmod (wrap64 ((wrap64 ((Int.tmod a3 32) - t167)) + 32)) 32))) 32) != 0) = true := bne_iff_ne.mpr c60
                          by_cases c61 : (Int.tmod (wrap64 ((wrap64 ((Int.tmod a2 32) - t167)) + 32)) 32) = (Int.tmod (wrap64 ((wrap64 ((Int.tmod a3 32) - t167)) + 32)) 32)
                          · rw [if_pos c61] at H
                            have c61b0 : ((Int.tmod (wrap64 ((wrap64 ((Int.tmod a2 32) - t167)) + 32)) 32) == (Int.tmod (wrap64 ((wrap64 ((Int.tmod a3 32) - t167)) + 32)) 32)) = true := beq_iff_eq.mpr c61
                            have c61b1 : ((Int.tmod (wrap64 ((wrap64 ((Int.tmod a2 32) - t167)) + 32)) 32) != (Int.tmod (wrap64 ((wrap64 ((Int.tmod a3 32) - t167)) + 32)) 32)) = false := bne_eq_false_iff_eq.mpr c61
                            clear c61
                            obtain rfl := Option.some.inj H
                            go_wp2
                            go_ret
                            exact ⟨by first | rfl | (simp [errW_none, errW_some] <;> rfl) | (simp [*, errW_none, errW_some] <;> rfl), by repeat (first | (with_reducible first | exact HB.out | apply below_alloc | apply pw_below_drewN | apply below_drew1) | exact HB.out)⟩
                          · rw [if_neg c61] at H
                            have c61b0 : ((Int.tmod (wrap64 ((wrap64 ((Int.tmod a2 32) - t167)) + 32)) 32) == (Int.tmod (wrap64 ((wrap64 ((Int.tmod a3 32) - t167)) + 32)) 32)) = false := beq_eq_false_iff_ne.mpr c61
                            have c61b1 : ((Int.tmod (wrap64 ((wrap64 ((Int.tmod a2 32) - t167)) + 32)) 32) != (Int.tmod (wrap64 ((wrap64 ((Int.tmod a3 32) - t167)) + 32)) 32)) = true := bne_iff_ne.mpr c61
                            obtain rfl := Option.some.inj H
                            go_wp2
                            go_ret
                            exact ⟨by first | rfl | (simp [errW_none, errW_some] <;> rfl) | (simp [*, errW_none, errW_some] <;> rfl), by repeat (first | (with_reducible first | exact HB.out | apply below_alloc | apply pw_below_drewN | apply below_drew1) | exact HB.out)⟩
                      · replace c59 := Bool.eq_false_iff.mpr c59
                        subst c59
                        have H1 : (some false) = some r := by rw [if_neg (show ¬ (false = true) by decide)] at H; exact H
                        clear H
                        have H := H1
                        clear H1
                        obtain rfl := Option.some.inj H
                        go_wp2
                        go_ret
                        exact ⟨by first | rfl | (simp [errW_none, errW_some] <;> rfl) | (simp [*, errW_none, errW_some] <;> rfl), by repeat (first | (with_reducible first | exact HB.out | apply below_alloc | apply pw_below_drewN | apply below_drew1) | exact HB.out)⟩

/-- THE ONE PURE STATEMENT of observatorylaw12_WeatherMoon: yours. -/
def observatorylaw12_WeatherMoon.Pure : Prop := ∀ (a0 : Int) (a1 : Int) (a2 : Int) (a3 : Int), (Lit.int .i64 a0).wf = true → (Lit.int .i64 a1).wf = true → (Lit.int .i64 a2).wf = true → (Lit.int .i64 a3).wf = true → ∃ k, observatorylaw12_WeatherMoon.f k a0 a1 a2 a3 = some true
theorem observatorylaw12_WeatherMoon.walk (P : observatorylaw12_WeatherMoon.Pure) (a0 : Int) (a1 : Int) (a2 : Int) (a3 : Int) (w : World) (w0 : (Lit.int .i64 a0).wf = true) (w1 : (Lit.int .i64 a1).wf = true) (w2 : (Lit.int .i64 a2).wf = true) (w3 : (Lit.int .i64 a3).wf = true) :
    Calls Tryd.prog 4 #[.int .i64 a0, .int .i64 a1, .int .i64 a2, .int .i64 a3] w fun e w' => e = .returned (.bool true) ∧ Below w.heap.size w w' := by
  obtain ⟨k, h⟩ := P a0 a1 a2 a3 w0 w1 w2 w3
  refine (observatorylaw12_WeatherMoon.calls k a0 a1 a2 a3 true w h).mono ?_
  rintro e w' ⟨rfl, hd⟩
  exact ⟨rfl, hd⟩

end Go.Proofs.YtofjhkjahpdkiaaDoor.Px
