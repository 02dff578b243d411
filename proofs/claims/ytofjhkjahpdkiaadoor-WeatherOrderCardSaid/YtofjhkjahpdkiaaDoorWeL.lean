/-
  weather's Parse: the walk, in the print's form.
-/
import Derived.Test.YtofjhkjahpdkiaaDoorWeI1
import Derived.Test.YtofjhkjahpdkiaaDoorWeI2
import Derived.Test.YtofjhkjahpdkiaaDoorWeI3
import Derived.Test.YtofjhkjahpdkiaaDoorWeJ
import Derived.Test.YtofjhkjahpdkiaaDoorWeK
namespace Go.Proofs.YtofjhkjahpdkiaaDoor.We
open Go.RowKit Go.MapKept Go.Proofs.YtofjhkjahpdkiaaDoorW.PrintWords Go.Proofs.YtofjhkjahpdkiaaDoor.Px Go.Proofs.YtofjhkjahpdkiaaDoor.Lx
set_option linter.unusedVariables false
set_option linter.unusedSimpArgs false
attribute [local go_sem] run_store_func run_store_nilFunc tok_f2
theorem lexA_err (f : Nat) : ∀ (l : List UInt8) (p : Nat) (e : Int) (q : Nat), (lexA f l p).2 = some (e, q) → e ≠ 0 := by
  induction f with
  | zero => intro l p e q h; cases h
  | succ f ih =>
    intro l p e q h
    simp only [lexA] at h
    split at h
    · cases h
    · split at h
      · rename_i e' he
        simp only [Option.some.injEq, Prod.mk.injEq] at h
        have := tok1_err he
        omega
      · exact ih _ _ _ _ h
theorem lexP_ok {s : ByteArray} (h : (lexP s).2.1 = 0) : (lexP s).2.2 = 0 := by
  unfold lexP at h ⊢
  split at h
  · cases h
  · rename_i hs
    rw [if_neg hs]
    unfold lexR at h ⊢
    split at h
    · cases h
    · rename_i hl
      rw [if_neg hl]
      cases hx : (lexA (s.size + 1) s.data.toList 0).2 with
      | none => rfl
      | some p =>
        obtain ⟨e, q⟩ := p
        rw [hx] at h
        exact absurd h (lexA_err _ _ _ _ _ hx)
def tkLen (w : World) (g : Nat) : Nat := match w.cell? ⟨g, 0, none⟩ with | some (.slice _ n _) => n | _ => 0
theorem tkLen_eq {lo g : Nat} {w : World} {l : List STok} (h : Tk lo g w l) : tkLen w g = l.length := by
  obtain ⟨_, A, c, h1, _⟩ := h
  unfold tkLen
  rw [(blk_cell h1 0).trans (show _ = some (Value.slice A l.length c) from rfl)]
theorem OSt.start (w : World) (a0 : ByteArray) :
    OSt w (.slice none 0 0) 0 0 ((((w.alloc (.cells #[.string a0] 9)).alloc (.cells #[.slice none 0 0] 22)).alloc (.cells #[.int .i64 0] 27)).alloc (.cells #[.int .i64 0] 3)) ∧
    ((((w.alloc (.cells #[.string a0] 9)).alloc (.cells #[.slice none 0 0] 22)).alloc (.cells #[.int .i64 0] 27)).alloc (.cells #[.int .i64 0] 3)).heap[w.heap.size]? = some (.cells #[.string a0] 9 (0, 0)) ∧
    ((((w.alloc (.cells #[.string a0] 9)).alloc (.cells #[.slice none 0 0] 22)).alloc (.cells #[.int .i64 0] 27)).alloc (.cells #[.int .i64 0] 3)).heap.size = w.heap.size + 4 := by
  have s1 : (w.alloc (.cells #[.string a0] 9)).heap.size = w.heap.size + 1 := by simp
  have s2 : ((w.alloc (.cells #[.string a0] 9)).alloc (.cells #[.slice none 0 0] 22)).heap.size = w.heap.size + 1 + 1 := by simp
  have s3 : (((w.alloc (.cells #[.string a0] 9)).alloc (.cells #[.slice none 0 0] 22)).alloc (.cells #[.int .i64 0] 27)).heap.size = w.heap.size + 1 + 1 + 1 := by simp
  have h0 := blk_new w (.cells #[.string a0] 9 (0, 0))
  have h1 := blk_new (w.alloc (.cells #[.string a0] 9)) (.cells #[.slice none 0 0] 22 (0, 0))
  rw [s1] at h1
  have h2 := blk_new ((w.alloc (.cells #[.string a0] 9)).alloc (.cells #[.slice none 0 0] 22)) (.cells #[.int .i64 0] 27 (0, 0))
  rw [s2] at h2
  have h3 := blk_new (((w.alloc (.cells #[.string a0] 9)).alloc (.cells #[.slice none 0 0] 22)).alloc (.cells #[.int .i64 0] 27)) (.cells #[.int .i64 0] 3 (0, 0))
  rw [s3] at h3
  exact ⟨⟨below_alloc (below_alloc (below_alloc (below_alloc (Below.refl _ _) _) _) _) _, blk_alloc (blk_alloc h1 _) _, blk_alloc h2 _, h3⟩, blk_alloc (blk_alloc (blk_alloc h0 _) _) _, by simp⟩
theorem OSt.go {base : World} {v : Value} {x y : Int} {w w' : World} (h : OSt base v x y w) (hb : Below w.heap.size w w') : OSt base v x y w' :=
  ⟨below_then h.below h.below.size hb, blk_below h.o hb, blk_below h.e hb, blk_below h.a hb⟩
theorem OSt.ea {base : World} {v : Value} {x y x' y' : Int} {w : World} (h : OSt base v x y w) : OSt base v x' y' ((w.setCell ⟨base.heap.size + 1 + 1, 0, none⟩ (.int .i64 x')).setCell ⟨base.heap.size + 1 + 1 + 1, 0, none⟩ (.int .i64 y')) :=
  ⟨(h.below.setCell (by show base.heap.size ≤ base.heap.size + 1 + 1; omega) _).setCell (by show base.heap.size ≤ base.heap.size + 1 + 1 + 1; omega) _,
   blk_far (blk_far h.o (by show base.heap.size + 1 ≠ base.heap.size + 1 + 1; omega) _) (by show base.heap.size + 1 ≠ base.heap.size + 1 + 1 + 1; omega) _,
   blk_far ((blk_set h.e 0 _).trans rfl) (by show base.heap.size + 1 + 1 ≠ base.heap.size + 1 + 1 + 1; omega) _,
   (blk_set (blk_far h.a (by show base.heap.size + 1 + 1 + 1 ≠ base.heap.size + 1 + 1; omega) _) 0 _).trans rfl⟩
theorem OSt.facts {base : World} {v : Value} {x y : Int} {w : World} (h : OSt base v x y w) :
    w.cell? ⟨base.heap.size + 1, 0, none⟩ = some v ∧ w.cell? ⟨base.heap.size + 1 + 1, 0, none⟩ = some (.int .i64 x) ∧ w.cell? ⟨base.heap.size + 1 + 1 + 1, 0, none⟩ = some (.int .i64 y) ∧
    w.frozen? ⟨base.heap.size + 1, 0, none⟩ = false ∧ w.frozen? ⟨base.heap.size + 1 + 1, 0, none⟩ = false ∧ w.frozen? ⟨base.heap.size + 1 + 1 + 1, 0, none⟩ = false :=
  ⟨(blk_cell h.o 0).trans rfl, (blk_cell h.e 0).trans rfl, (blk_cell h.a 0).trans rfl, blk_frozen h.o 0, blk_frozen h.e 0, blk_frozen h.a 0⟩
theorem out_res {base : World} {A : Option Addr} {n c : Nat} {x y : Int} {w : World} (h : OSt base (.slice A n c) x y w) (tmps : Array Value)
    (h2 : tmps[2]?.getD undef = .pointer (some ⟨base.heap.size + 1, 0, none⟩)) (h3 : tmps[3]?.getD undef = .pointer (some ⟨base.heap.size + 1 + 1, 0, none⟩)) (h4 : tmps[4]?.getD undef = .pointer (some ⟨base.heap.size + 1 + 1 + 1, 0, none⟩)) :
    (results Tryd.f14 tmps).run Tryd.prog w = .ok (.tuple #[.slice A n c, .int .i64 x, .int .i64 y]) w := by
  obtain ⟨g0, g1, g2, g3, g4, g5⟩ := h.facts
  simp [results, Tryd.results14, h2, h3, h4, go_sem, g0, g1, g2]
def pEnd : Except Fail (List SSp) → List SSp × Int × Int
  | .ok xs => (xs, 0, 0)
  | .error x => ([], x.1, x.2)
theorem parse_end {a0 : ByteArray} (he : (lexP a0).2.1 = 0) : parseP a0 = pEnd (pAll ((lexP a0).1.length + 1) a0.size (lexP a0).1 []) := by
  unfold parseP
  rw [if_pos he]
  cases pAll ((lexP a0).1.length + 1) a0.size (lexP a0).1 [] <;> rfl
def dfr (base : World) : Deferred := { target := .fn (.func 26) #[.pointer (some ⟨base.heap.size + 1, 0, none⟩), .pointer (some ⟨base.heap.size + 1 + 1, 0, none⟩), .pointer (some ⟨base.heap.size + 1 + 1 + 1, 0, none⟩)], args := #[] }
def parsePost (base : World) (r1 : List SSp) (r2 r3 : Int) (e : Ending) (w' : World) : Prop :=
  ∃ v0_ : Value, e = .returned (.tuple #[v0_, .int .i64 r2, .int .i64 r3]) ∧ Kd.R kSp 32 w' base.heap.size (fun _ => True) v0_ r1 ∧ Below base.heap.size base w'
theorem door_panic {base w' : World} (x : Fail) (tmps : Array Value) (hD : DSt base w')
    (h2 : tmps[2]?.getD undef = .pointer (some ⟨base.heap.size + 1, 0, none⟩)) (h3 : tmps[3]?.getD undef = .pointer (some ⟨base.heap.size + 1 + 1, 0, none⟩)) (h4 : tmps[4]?.getD undef = .pointer (some ⟨base.heap.size + 1 + 1 + 1, 0, none⟩)) :
    bodyPostD Tryd.prog Tryd.f14 (parsePost base [] x.1 x.2) (.panic (failV x.1 x.2)) { tmps := tmps, defers := [dfr base] } w' := by
  refine leaves_cons (f := 26) (args := #[.pointer (some ⟨base.heap.size + 1, 0, none⟩), .pointer (some ⟨base.heap.size + 1 + 1, 0, none⟩), .pointer (some ⟨base.heap.size + 1 + 1 + 1, 0, none⟩)]) (by simp) (by simp [go_sem]) ?_
  refine (catch_fail base x.1 x.2 _ hD).mono ?_
  rintro e u' w'' ⟨rfl, rfl, hO⟩
  exact ⟨_, out_res hO _ h2 h3 h4, _, rfl, Kd.R_nil _ _ _ _ _, hO.below⟩
theorem door_ret {base w' : World} {xs : List SSp} {A : Option Addr} {n c : Nat} (tmps : Array Value) (hO : OSt base (.slice A n c) 0 0 w') (hR : Kd.R kSp 32 w' base.heap.size (fun _ => True) (.slice A n c) xs)
    (h2 : tmps[2]?.getD undef = .pointer (some ⟨base.heap.size + 1, 0, none⟩)) (h3 : tmps[3]?.getD undef = .pointer (some ⟨base.heap.size + 1 + 1, 0, none⟩)) (h4 : tmps[4]?.getD undef = .pointer (some ⟨base.heap.size + 1 + 1 + 1, 0, none⟩)) :
    bodyPostD Tryd.prog Tryd.f14 (parsePost base xs 0 0) .ret { tmps := tmps, defers := [dfr base] } w' := by
  refine leaves_cons (f := 26) (args := #[.pointer (some ⟨base.heap.size + 1, 0, none⟩), .pointer (some ⟨base.heap.size + 1 + 1, 0, none⟩), .pointer (some ⟨base.heap.size + 1 + 1 + 1, 0, none⟩)]) (by simp) (by simp [go_sem]) ?_
  refine (catch_idle base _ _ hO).mono ?_
  rintro e u' w'' ⟨rfl, rfl, rfl⟩
  exact ⟨_, out_res (hO.alloc _) _ h2 h3 h4, _, rfl, Kd.R_alloc hR _, (hO.alloc _).below⟩
set_option maxHeartbeats 8000000 in
set_option maxRecDepth 1000000 in
theorem parse_calls (a0 : ByteArray) (r1 : List SSp) (r2 r3 : Int) (w : World) (h : parseP a0 = (r1, r2, r3)) :
    Calls Tryd.prog 14 #[.string a0] w (parsePost w r1 r2 r3) := by
  have HP := Lib.hid h
  clear h
  have hmf : ∀ (fn : Fn) (first cap : Array Value) (w : World), (Instr.makeFunc fn first cap).run Tryd.prog w = .ok (.func fn first cap) w := fun _ _ _ _ => rfl
  go_enter_defers Tryd.func14, Tryd.ntmps14
  go_upto_region 1 with (fail)
  obtain ⟨hO, hT, hz⟩ := OSt.start w a0
  have hb0 := hO.below
  generalize ((((w.alloc (.cells #[.string a0] 9)).alloc (.cells #[.slice none 0 0] 22)).alloc (.cells #[.int .i64 0] 27)).alloc (.cells #[.int .i64 0] 3)) = wA at *
  have HO := Lib.hid hO
  have HT := Lib.hid hT
  have HZ := Lib.hid hz
  have ct : wA.cell? ⟨w.heap.size, 0, none⟩ = some (.string a0) := (blk_cell hT 0).trans rfl
  have hL := lexer_Lex.calls a0 (lexP a0).1 (lexP a0).2.1 (lexP a0).2.2 wA rfl
  clear hO hT hz hb0
  go_wp2_with fail
  refine hL.mono ?_
  rintro e w1 ⟨vt, rfl, hR, hb⟩
  have hO1 := HO.out.go hb
  have HT1 := Lib.hid (blk_below HT.out hb)
  have HO1 := Lib.hid hO1
  have HR := Lib.hid hR
  have hsz1 := hb.size
  rw [HZ.out] at hsz1 
  clear hb hL hR ct HO HT hO1
  obtain ⟨g0, g1, g2, g3, g4, g5⟩ := (HO1.out.alloc (.cells #[vt] 46)).facts
  have hsv : ∃ A c, vt = .slice A (lexP a0).1.length c := Kd.R_slice HR.out
  obtain ⟨At, ct, rfl⟩ := hsv
  go_upto_if 22 with (fail)
  clear g0 g1 g2 g3 g4 g5
  have HO2 := Lib.hid ((HO1.out.alloc (.cells #[.slice At (lexP a0).1.length ct] 46)).ea (x' := (lexP a0).2.1) (y' := (lexP a0).2.2))
  have HT2 := Lib.hid (blk_far (p := ⟨w.heap.size + 1 + 1 + 1, 0, none⟩) (blk_far (p := ⟨w.heap.size + 1 + 1, 0, none⟩) (blk_alloc HT1.out (.cells #[.slice At (lexP a0).1.length ct] 46)) (by show w.heap.size ≠ w.heap.size + 1 + 1; omega) (.int .i64 (lexP a0).2.1)) (by show w.heap.size ≠ w.heap.size + 1 + 1 + 1; omega) (.int .i64 (lexP a0).2.2))
  have HK2 := Lib.hid (blk_far (p := ⟨w.heap.size + 1 + 1 + 1, 0, none⟩) (blk_far (p := ⟨w.heap.size + 1 + 1, 0, none⟩) (blk_new w1 (.cells #[.slice At (lexP a0).1.length ct] 46 (0, 0))) (by show w1.heap.size ≠ w.heap.size + 1 + 1; omega) (.int .i64 (lexP a0).2.1)) (by show w1.heap.size ≠ w.heap.size + 1 + 1 + 1; omega) (.int .i64 (lexP a0).2.2))
  have HR2 := Lib.hid (Kd.R_far (p := ⟨w.heap.size + 1 + 1 + 1, 0, none⟩) (Kd.R_far (p := ⟨w.heap.size + 1 + 1, 0, none⟩) (Kd.R_mono (Kd.R_bound (Kd.R_alloc (Kd.R_mono (Kd.R_bound HR.out) (fun k (hk : _ ∧ wA.heap.size ≤ k ∧ k < w1.heap.size ∧ _) => (⟨hk.2.1, hk.2.2.1⟩ : wA.heap.size ≤ k ∧ k < w1.heap.size))) (.cells #[.slice At (lexP a0).1.length ct] 46))) (fun k hk => hk.1)) (fun k hk => by have := hk.1; have := HZ.out; show k ≠ w.heap.size + 1 + 1; omega) (.int .i64 (lexP a0).2.1)) (fun k hk => by have := hk.1; have := HZ.out; show k ≠ w.heap.size + 1 + 1 + 1; omega) (.int .i64 (lexP a0).2.2))
  have HS2 := Lib.hid (show (((w1.alloc (.cells #[.slice At (lexP a0).1.length ct] 46)).setCell ⟨w.heap.size + 1 + 1, 0, none⟩ (.int .i64 (lexP a0).2.1)).setCell ⟨w.heap.size + 1 + 1 + 1, 0, none⟩ (.int .i64 (lexP a0).2.2)).heap.size = w1.heap.size + 1 by rw [World.size_setCell, World.size_setCell]; simp)
  clear HO1 HT1 HR
  generalize ((w1.alloc (.cells #[.slice At (lexP a0).1.length ct] 46)).setCell ⟨w.heap.size + 1 + 1, 0, none⟩ (.int .i64 (lexP a0).2.1)).setCell ⟨w.heap.size + 1 + 1 + 1, 0, none⟩ (.int .i64 (lexP a0).2.2) = w2 at *
  rw [HZ.out] at HR2
  clear HZ
  generalize w1.heap.size = g at *
  by_cases he : (lexP a0).2.1 = 0
  · have hn : ((lexP a0).2.1 != 0) = false := by rw [he]; rfl
    have ha := lexP_ok he
    have hTk : ∀ o, Tk (w.heap.size + 4) g (w2.alloc o) (lexP a0).1 := by
      intro o
      obtain ⟨A, c, e1, e2, e3⟩ := Kd.R_reads HR2.out
      injection e1 with e4 e5 e6
      subst e4
      subst e6
      refine ⟨hsz1, _, _, blk_alloc HK2.out o, e2, Kd.C_below e3 (below_alloc (Below.refl _ _) o), fun ad hA => ?_⟩
      exact HR2.out.1 ad.block (by rw [hA]; rfl)
    have hO2 := HO2.out
    rw [he, ha] at hO2
    have hP : PSt w a0 g (g + 2) (w2.alloc (.cells #[nextV g w.heap.size] 58)) (lexP a0).1 [] := by
      have hs2 := HS2.out
      refine ⟨hO2.below.alloc hO2.below.size _, hsz1, Nat.le_refl _, by simp; omega, blk_alloc HT2.out _, ⟨_, blk_alloc hO2.o _, Kd.R_nil _ _ _ _ _⟩, blk_alloc hO2.e _, blk_alloc hO2.a _, hTk _, ?_⟩
      have h := blk_new w2 (.cells #[nextV g w.heap.size] 58 (0, 0))
      rw [hs2] at h
      exact h
    unfold nextV at hP
    have HPS := Lib.hid hP
    have hF := (parse_end he).symm.trans HP.out
    generalize hpa : pAll ((lexP a0).1.length + 1) a0.size (lexP a0).1 [] = F at hF
    have HPA := Lib.hid hpa
    have HF := Lib.hid hF
    clear hpa hF
    clear hP hTk hO2 HO2 HT2 HK2 HR2 ha
    go_upto_region 6 with (fail)
    generalize w2.alloc (.cells #[.func (.func 27) #[] #[.pointer (some ⟨g, 0, none⟩), .pointer (some ⟨w.heap.size, 0, none⟩)]] 58) = w3 at *
    generalize w2.heap.size = q at *
    obtain rfl := HS2.out
    generalize (lexP a0).1 = l0 at *
    clear HS2 he hn HP
    go_wp2_with fail
    go_loopw [14] (fun _ wr => ∃ (l : List STok) (xs : List SSp) (n : Nat), xs.length ≤ 200 ∧ Hid (PSt w a0 g n wr l xs) ∧ Hid (pAll (l.length + 1) a0.size l xs = F)) (fun _ wr => tkLen wr g)
    case atStart => exact ⟨l0, [], _, by simp, HPS.out, HPA.out⟩
    case round =>
      obtain ⟨l, xs, n, hx0, HS, HA⟩ := hrel
      clear HPS HPA
      have htk := tkLen_eq HS.out.tk
      have HTK := Lib.hid htk
      clear htk
      obtain ⟨_, At', ct', hc0, _⟩ := HS.out.tk
      have c5 : wr.cell? ⟨g, 0, none⟩ = some (.slice At' l.length ct') := (blk_cell hc0 0).trans rfl
      clear hc0
      cases l with
      | nil =>
        have hA := HA.out
        rw [show pAll (([] : List STok).length + 1) a0.size [] xs = .ok xs from rfl] at hA
        subst hA
        have hF := HF.out
        simp only [pEnd, Prod.mk.injEq] at hF
        obtain ⟨rfl, rfl, rfl⟩ := hF
        obtain ⟨v, ho, hR⟩ := HS.out.o
        obtain ⟨Ao, co, rfl⟩ := Kd.R_slice hR
        have hO := OSt.mk HS.out.below ho HS.out.e HS.out.a
        obtain ⟨g0, g1, g2, g3, g4, g5⟩ := hO.facts
        have HO := Lib.hid hO
        have HR := Lib.hid hR
        clear ho hR hO
        have hhg := HS.out.hg
        have hR3 : Kd.R kSp 32 (((wr.setCell ⟨w.heap.size + 1, 0, none⟩ (.slice Ao xs.length co)).setCell ⟨w.heap.size + 1 + 1, 0, none⟩ (.int .i64 0)).setCell ⟨w.heap.size + 1 + 1 + 1, 0, none⟩ (.int .i64 0)) w.heap.size (fun _ => True) (.slice Ao xs.length co) xs :=
          Kd.R_mono (Kd.R_far (p := ⟨w.heap.size + 1 + 1 + 1, 0, none⟩) (Kd.R_far (p := ⟨w.heap.size + 1 + 1, 0, none⟩) (Kd.R_far (p := ⟨w.heap.size + 1, 0, none⟩) HR.out (fun k hk => by show k ≠ w.heap.size + 1; omega) _) (fun k hk => by show k ≠ w.heap.size + 1 + 1; omega) _) (fun k hk => by show k ≠ w.heap.size + 1 + 1 + 1; omega) _) (fun _ _ => trivial)
        have HR3 := Lib.hid hR3
        clear hR3
        go_wp2_with fail
        exact door_ret _ HO.out.sets HR3.out rfl rfl rfl
      | cons t l =>
        have hpos : decide (0 < (t :: l).length) = true := by simp
        have hnw := HS.out.hnw
        have hhn := HS.out.hn
        have hhg := HS.out.hg
        have HS0 := Lib.hid ((HS.out.lower hnw (Nat.le_refl _)).go (below_alloc (Below.refl _ _) (.cells #[.int .i64 0, .int .i64 0, .int .i64 0, .int .i64 0, .int .i64 0] 32)))
        have HB0 := Lib.hid (blk_new wr (.cells #[.int .i64 0, .int .i64 0, .int .i64 0, .int .i64 0, .int .i64 0] 32 (0, 0)))
        go_upto_region 9 with (fail)
        rename_i K9 hK9
        have HK9 := Lib.hid hK9
        clear hK9
        generalize wr.alloc (.cells #[.int .i64 0, .int .i64 0, .int .i64 0, .int .i64 0, .int .i64 0] 32) = v0 at *
        clear HS c5 hpos hhn
        have hbs : wr.heap.size ≤ wr.heap.size := Nat.le_refl _
        generalize wr.heap.size = bs at *
        have cn := HS0.out.nxc
        cases h0 : pNext a0.size 1 (t :: l) with
        | error x =>
          have hx : pOne a0.size (t :: l) = .error x := by simp [pOne, h0]
          have hA := (pAll_err hx).symm.trans HA.out
          subst hA
          have hF := HF.out
          simp only [pEnd, Prod.mk.injEq] at hF
          obtain ⟨rfl, rfl, rfl⟩ := hF
          have hc := HS0.out.next_err 1 x h0
          clear HA HF h0 hx
          go_wp2_with fail
          refine hc.mono ?_
          rintro e w1 ⟨rfl, hd⟩
          have HD := Lib.hid hd
          clear hd hc
          go_wp2_with fail
          exact door_panic x _ HD.out rfl rfl rfl
        | ok p0 =>
          obtain ⟨wd, l1⟩ := p0
          have hc := HS0.out.next_go 1 wd l1 h0
          have hbg : bs ≠ g := by have := HS0.out.hn; omega
          go_wp2_with fail
          refine hc.mono ?_
          rintro e w1 ⟨rfl, hb, hP⟩
          have hB1 := (hb.block bs (blk_lt HB0.out) hbg).trans HB0.out
          have HB2 := Lib.hid (blk_alloc hB1 (.cells #[.int .i64 wd.f0, .string wd.f1, .int .i64 wd.f2, .int .i64 wd.f3] 50))
          have HP2 := Lib.hid (hP.go (below_alloc (Below.refl _ _) (.cells #[.int .i64 wd.f0, .string wd.f1, .int .i64 wd.f2, .int .i64 wd.f3] 50)))
          have HW2 := Lib.hid (blk_new w1 (.cells #[.int .i64 wd.f0, .string wd.f1, .int .i64 wd.f2, .int .i64 wd.f3] 50 (0, 0)))
          have hne : w1.heap.size ≠ bs := by have := blk_lt hB1; omega
          clear hc hb hP hB1 HB0 HS0 cn
          go_wp2_with fail
          refine HK9.out _ _ ?_
          clear HK9
          refine wp_seq (rng_wp _ _ _ _ _ _ _ _ _ _ _ _ _ _ _ _ _ _ _ _ _ _ _ _ _ _ _ _ _ _ _ _ _ _ _ _ _ _ _ _ _ _ _ _ _ _ _ _ _ _ _ _ _ _ _ _ _ _ _ _ _ _ _ _ _ _ _ _ _ _ _ _ _ _ _ _ _ _ _ _ _ _ _ _ _ _ _ _ _ _ _ _ _ _ _ _ _ _ _ _ _ _ _ _ _ _ HB2.out HW2.out hne ?_)
          intro z10 z11 z33 z34 z35 z36 z37 z38 z39 z40 z41 z42 z43 z44 z45 z46 w4 hb4 hs4
          have HP4 := Lib.hid (HP2.out.butS hb4 hbs)
          have HS4 := Lib.hid hs4
          have HW4 := Lib.hid ((hb4.block _ (blk_lt HW2.out) hne).trans HW2.out)
          clear hb4 hs4 HP2 HW2 HB2
          show Code.wp Tryd.prog (.seq (.seq (.region 15 _ _) _) _) _ _ _
          refine wp_seq_k ?_
          intro K15 hK15
          have HK15 := Lib.hid hK15
          clear hK15
          have hbn := blk_lt HS4.out
          generalize w1.heap.size = bw at *
          have c8 : w4.cell? ⟨bs, 0, none⟩ = some (.int .i64 (kindOf wd.f1)) := (blk_cell HS4.out 0).trans rfl
          have c9 : w4.cell? ⟨bw, 3, none⟩ = some (.int .i64 wd.f3) := (blk_cell HW4.out 3).trans rfl
          by_cases hk0 : kindOf wd.f1 = 0
          · have hx : pOne a0.size (t :: l) = .error (5, wd.f3) := by simp [pOne, h0, hk0]
            have hA := (pAll_err hx).symm.trans HA.out
            subst hA
            have hF := HF.out
            simp only [pEnd, Prod.mk.injEq] at hF
            obtain ⟨rfl, rfl, rfl⟩ := hF
            have hk1 : ((kindOf wd.f1 : Int) == 0) = true := beq_iff_eq.2 hk0
            have HD := Lib.hid HP4.out.door'
            clear HA HF h0 hx hk0
            go_wp2_with fail
            exact door_panic (5, wd.f3) _ HD.out rfl rfl rfl
          · have hk1 : ((kindOf wd.f1 : Int) == 0) = false := beq_eq_false_iff_ne.2 hk0
            go_wp2_with fail
            refine HK15.out _ _ ?_
            clear HK15 c8 c9 HW4 hk1
            refine wp_seq_k ?_
            intro K17 hK17
            have HK17 := Lib.hid hK17
            clear hK17
            have hE : ∀ (x : Fail) (tmps : Array Value) (w' : World), pOne a0.size (t :: l) = .error x → DSt w w' → tmps[2]?.getD undef = .pointer (some ⟨w.heap.size + 1, 0, none⟩) → tmps[3]?.getD undef = .pointer (some ⟨w.heap.size + 1 + 1, 0, none⟩) → tmps[4]?.getD undef = .pointer (some ⟨w.heap.size + 1 + 1 + 1, 0, none⟩) →
                bodyPostD Tryd.prog Tryd.f14 (parsePost w r1 r2 r3) (.panic (failV x.1 x.2)) { tmps := tmps, defers := [dfr w] } w' := by
              intro x tmps w' hx hd e2 e3 e4
              have hA := (pAll_err hx).symm.trans HA.out
              subst hA
              have hF := HF.out
              simp only [pEnd, Prod.mk.injEq] at hF
              obtain ⟨rfl, rfl, rfl⟩ := hF
              exact door_panic x tmps hd e2 e3 e4
            have hL : ∀ (s : SSp) (e : Int) (r : List STok) (tmps : Array Value) (w' : World), pOne a0.size (t :: l) = .ok (s, e, r) → xs.length = 200 → DSt w w' → tmps[2]?.getD undef = .pointer (some ⟨w.heap.size + 1, 0, none⟩) → tmps[3]?.getD undef = .pointer (some ⟨w.heap.size + 1 + 1, 0, none⟩) → tmps[4]?.getD undef = .pointer (some ⟨w.heap.size + 1 + 1 + 1, 0, none⟩) →
                bodyPostD Tryd.prog Tryd.f14 (parsePost w r1 r2 r3) (.panic (failV 2 e)) { tmps := tmps, defers := [dfr w] } w' := by
              intro s e r tmps w' hx hm hd e2 e3 e4
              have hA := (pAll_many (xs := xs) hx hm).symm.trans HA.out
              subst hA
              have hF := HF.out
              simp only [pEnd, Prod.mk.injEq] at hF
              obtain ⟨rfl, rfl, rfl⟩ := hF
              exact door_panic (2, e) tmps hd e2 e3 e4
            have HE := Lib.hid hE
            have HL := Lib.hid hL
            clear hE hL
            have hone : ∀ (x : Fail), pNums a0.size (kindOf wd.f1) l1 = .error x → pOne a0.size (t :: l) = .error x := fun x hx => by simp [pOne, h0, hk0, hx]
            have htwo : ∀ (q nn : Int) (r : List STok), pNums a0.size (kindOf wd.f1) l1 = .ok (q, nn, r) → pOne a0.size (t :: l) = pTail a0.size (kindOf wd.f1) q nn r := fun q nn r hx => by simp [pOne, h0, hk0, hx]
            have HONE := Lib.hid hone
            have HTWO := Lib.hid htwo
            clear hone htwo h0
            have hr := kindOf_range wd.f1
            have hk : kindOf wd.f1 = 1 ∨ kindOf wd.f1 = 2 ∨ kindOf wd.f1 = 3 := by omega
            clear hr hk0
            generalize kindOf wd.f1 = kd at *
            clear hmf
            rcases hk with rfl | rfl | rfl
            · refine num1_wp _ _ _ _ _ _ _ _ _ _ _ _ _ _ _ _ _ _ _ _ _ _ _ _ _ _ _ _ _ _ _ _ _ _ _ _ _ _ _ _ _ _ _ _ _ _ _ _ _ _ _ _ _ _ _ _ _ _ _ _ _ _ _ _ _ _ _ _ _ _ _ _ _ _ _ _ _ _ _ _ _ _ _ _ _ _ _ _ _ _ _ _ _ _ _ _ _ _ _ _ _ _ _ _ _ _ _ _ _ _ HP4.out hbs HS4.out (fun x n13 n54 n55 n56 n57 n58 n59 n60 n61 n62 n63 n64 n65 n66 n67 n68 n69 n70 w5 hx hd => HE.out x _ w5 (HONE.out x hx) hd rfl rfl rfl) ?_
              intro q nn r n13 n54 n55 n56 n57 n58 n59 n60 n61 n62 n63 n64 n65 n66 n67 n68 n69 n70 w5 hx hP5 hs5
              refine HK17.out _ _ ?_
              refine tail_wp _ _ _ _ _ _ _ _ _ _ _ _ _ _ _ _ _ _ _ _ _ _ _ _ _ _ _ _ _ _ _ _ _ _ _ _ _ _ _ _ _ _ _ _ _ _ _ _ _ _ _ _ _ _ _ _ _ _ _ _ _ _ _ _ _ _ _ _ _ _ _ _ _ _ _ _ _ _ _ _ _ _ _ _ _ _ _ _ _ _ _ _ _ _ _ _ _ _ _ _ _ _ _ _ _ _ _ _ _ _ _ hP5 hbs hs5 hx0 (fun x t14 t71 t72 t73 t74 t75 t76 t77 t78 t79 t80 t81 t82 t83 t84 t85 t86 t87 t88 t89 t90 t91 t92 t93 t94 t95 t96 t97 t98 t99 t100 w6 hy hd => HE.out x _ w6 ((HTWO.out q nn r hx).trans hy) hd rfl rfl rfl) (fun s e r' t14 t71 t72 t73 t74 t75 t76 t77 t78 t79 t80 t81 t82 t83 t84 t85 t86 t87 t88 t89 t90 t91 t92 t93 t94 t95 t96 t97 t98 t99 t100 w6 hy hm hd => HL.out s e r' _ w6 ((HTWO.out q nn r hx).trans hy) hm hd rfl rfl rfl) ?_
              intro s e r' t14 t71 t72 t73 t74 t75 t76 t77 t78 t79 t80 t81 t82 t83 t84 t85 t86 t87 t88 t89 t90 t91 t92 t93 t94 t95 t96 t97 t98 t99 t100 m w6 hy hm hP6
              have hr := pOne_lt ((HTWO.out q nn r hx).trans hy)
              have hA := (pAll_step (xs := xs) ((HTWO.out q nn r hx).trans hy) hm).symm.trans HA.out
              have ht := tkLen_eq hP6.tk
              have hx1 : (xs ++ [s]).length ≤ 200 := by rw [List.length_append]; simp; omega
              have HR := Lib.hid (⟨r', xs ++ [s], m, hx1, Lib.hid hP6, Lib.hid hA⟩ : ∃ (l : List STok) (xs : List SSp) (n : Nat), xs.length ≤ 200 ∧ Hid (PSt w a0 g n w6 l xs) ∧ Hid (pAll (l.length + 1) a0.size l xs = F))
              have HM : Hid (tkLen w6 g < tkLen wr g) := Lib.hid (by rw [ht, HTK.out]; exact hr)
              clear hy hm hP6 hx hP5 hs5 hA ht hx1 hr
              simp only [Exit.inBlock]
              refine And.intro ?_ HM.out
              (repeat apply Exists.intro)
              exact ⟨HR.out, rfl⟩
            · refine num2_wp _ _ _ _ _ _ _ _ _ _ _ _ _ _ _ _ _ _ _ _ _ _ _ _ _ _ _ _ _ _ _ _ _ _ _ _ _ _ _ _ _ _ _ _ _ _ _ _ _ _ _ _ _ _ _ _ _ _ _ _ _ _ _ _ _ _ _ _ _ _ _ _ _ _ _ _ _ _ _ _ _ _ _ _ _ _ _ _ _ _ _ _ _ _ _ _ _ _ _ _ _ _ _ _ _ _ _ _ _ _ HP4.out hbs HS4.out (fun x n13 n54 n55 n56 n57 n58 n59 n60 n61 n62 n63 n64 n65 n66 n67 n68 n69 n70 w5 hx hd => HE.out x _ w5 (HONE.out x hx) hd rfl rfl rfl) ?_
              intro q nn r n13 n54 n55 n56 n57 n58 n59 n60 n61 n62 n63 n64 n65 n66 n67 n68 n69 n70 w5 hx hP5 hs5
              refine HK17.out _ _ ?_
              refine tail_wp _ _ _ _ _ _ _ _ _ _ _ _ _ _ _ _ _ _ _ _ _ _ _ _ _ _ _ _ _ _ _ _ _ _ _ _ _ _ _ _ _ _ _ _ _ _ _ _ _ _ _ _ _ _ _ _ _ _ _ _ _ _ _ _ _ _ _ _ _ _ _ _ _ _ _ _ _ _ _ _ _ _ _ _ _ _ _ _ _ _ _ _ _ _ _ _ _ _ _ _ _ _ _ _ _ _ _ _ _ _ _ hP5 hbs hs5 hx0 (fun x t14 t71 t72 t73 t74 t75 t76 t77 t78 t79 t80 t81 t82 t83 t84 t85 t86 t87 t88 t89 t90 t91 t92 t93 t94 t95 t96 t97 t98 t99 t100 w6 hy hd => HE.out x _ w6 ((HTWO.out q nn r hx).trans hy) hd rfl rfl rfl) (fun s e r' t14 t71 t72 t73 t74 t75 t76 t77 t78 t79 t80 t81 t82 t83 t84 t85 t86 t87 t88 t89 t90 t91 t92 t93 t94 t95 t96 t97 t98 t99 t100 w6 hy hm hd => HL.out s e r' _ w6 ((HTWO.out q nn r hx).trans hy) hm hd rfl rfl rfl) ?_
              intro s e r' t14 t71 t72 t73 t74 t75 t76 t77 t78 t79 t80 t81 t82 t83 t84 t85 t86 t87 t88 t89 t90 t91 t92 t93 t94 t95 t96 t97 t98 t99 t100 m w6 hy hm hP6
              have hr := pOne_lt ((HTWO.out q nn r hx).trans hy)
              have hA := (pAll_step (xs := xs) ((HTWO.out q nn r hx).trans hy) hm).symm.trans HA.out
              have ht := tkLen_eq hP6.tk
              have hx1 : (xs ++ [s]).length ≤ 200 := by rw [List.length_append]; simp; omega
              have HR := Lib.hid (⟨r', xs ++ [s], m, hx1, Lib.hid hP6, Lib.hid hA⟩ : ∃ (l : List STok) (xs : List SSp) (n : Nat), xs.length ≤ 200 ∧ Hid (PSt w a0 g n w6 l xs) ∧ Hid (pAll (l.length + 1) a0.size l xs = F))
              have HM : Hid (tkLen w6 g < tkLen wr g) := Lib.hid (by rw [ht, HTK.out]; exact hr)
              clear hy hm hP6 hx hP5 hs5 hA ht hx1 hr
              simp only [Exit.inBlock]
              refine And.intro ?_ HM.out
              (repeat apply Exists.intro)
              exact ⟨HR.out, rfl⟩
            · refine num3_wp _ _ _ _ _ _ _ _ _ _ _ _ _ _ _ _ _ _ _ _ _ _ _ _ _ _ _ _ _ _ _ _ _ _ _ _ _ _ _ _ _ _ _ _ _ _ _ _ _ _ _ _ _ _ _ _ _ _ _ _ _ _ _ _ _ _ _ _ _ _ _ _ _ _ _ _ _ _ _ _ _ _ _ _ _ _ _ _ _ _ _ _ _ _ _ _ _ _ _ _ _ _ _ _ _ _ _ _ _ _ HP4.out hbs HS4.out (fun x n13 n54 n55 n56 n57 n58 n59 n60 n61 n62 n63 n64 n65 n66 n67 n68 n69 n70 w5 hx hd => HE.out x _ w5 (HONE.out x hx) hd rfl rfl rfl) ?_
              intro q nn r n13 n54 n55 n56 n57 n58 n59 n60 n61 n62 n63 n64 n65 n66 n67 n68 n69 n70 w5 hx hP5 hs5
              refine HK17.out _ _ ?_
              refine tail_wp _ _ _ _ _ _ _ _ _ _ _ _ _ _ _ _ _ _ _ _ _ _ _ _ _ _ _ _ _ _ _ _ _ _ _ _ _ _ _ _ _ _ _ _ _ _ _ _ _ _ _ _ _ _ _ _ _ _ _ _ _ _ _ _ _ _ _ _ _ _ _ _ _ _ _ _ _ _ _ _ _ _ _ _ _ _ _ _ _ _ _ _ _ _ _ _ _ _ _ _ _ _ _ _ _ _ _ _ _ _ _ hP5 hbs hs5 hx0 (fun x t14 t71 t72 t73 t74 t75 t76 t77 t78 t79 t80 t81 t82 t83 t84 t85 t86 t87 t88 t89 t90 t91 t92 t93 t94 t95 t96 t97 t98 t99 t100 w6 hy hd => HE.out x _ w6 ((HTWO.out q nn r hx).trans hy) hd rfl rfl rfl) (fun s e r' t14 t71 t72 t73 t74 t75 t76 t77 t78 t79 t80 t81 t82 t83 t84 t85 t86 t87 t88 t89 t90 t91 t92 t93 t94 t95 t96 t97 t98 t99 t100 w6 hy hm hd => HL.out s e r' _ w6 ((HTWO.out q nn r hx).trans hy) hm hd rfl rfl rfl) ?_
              intro s e r' t14 t71 t72 t73 t74 t75 t76 t77 t78 t79 t80 t81 t82 t83 t84 t85 t86 t87 t88 t89 t90 t91 t92 t93 t94 t95 t96 t97 t98 t99 t100 m w6 hy hm hP6
              have hr := pOne_lt ((HTWO.out q nn r hx).trans hy)
              have hA := (pAll_step (xs := xs) ((HTWO.out q nn r hx).trans hy) hm).symm.trans HA.out
              have ht := tkLen_eq hP6.tk
              have hx1 : (xs ++ [s]).length ≤ 200 := by rw [List.length_append]; simp; omega
              have HR := Lib.hid (⟨r', xs ++ [s], m, hx1, Lib.hid hP6, Lib.hid hA⟩ : ∃ (l : List STok) (xs : List SSp) (n : Nat), xs.length ≤ 200 ∧ Hid (PSt w a0 g n w6 l xs) ∧ Hid (pAll (l.length + 1) a0.size l xs = F))
              have HM : Hid (tkLen w6 g < tkLen wr g) := Lib.hid (by rw [ht, HTK.out]; exact hr)
              clear hy hm hP6 hx hP5 hs5 hA ht hx1 hr
              simp only [Exit.inBlock]
              refine And.intro ?_ HM.out
              (repeat apply Exists.intro)
              exact ⟨HR.out, rfl⟩
  · have hp : parseP a0 = ([], (lexP a0).2.1, (lexP a0).2.2) := by unfold parseP; rw [if_neg he]
    have hn : ((lexP a0).2.1 != 0) = true := bne_iff_ne.2 he
    obtain ⟨g0, g1, g2, g3, g4, g5⟩ := HO2.out.facts
    rw [HP.out] at hp
    simp only [Prod.mk.injEq] at hp
    obtain ⟨rfl, rfl, rfl⟩ := hp
    clear he
    go_wp2_with fail
    go_region
    have hs := HO2.out.sets (v' := .slice none 0 0) (x' := (lexP a0).2.1) (y' := (lexP a0).2.2)
    all_goals
      go_wp2_with fail
      first
      | exact ⟨_, out_res hs.drew _ rfl rfl rfl, _, rfl, Kd.R_nil _ _ _ _ _, hs.drew.below⟩
      | exact ⟨_, out_res hs _ rfl rfl rfl, _, rfl, Kd.R_nil _ _ _ _ _, hs.below⟩
end Go.Proofs.YtofjhkjahpdkiaaDoor.We
namespace Go.Proofs.YtofjhkjahpdkiaaDoor.Px
open Go.RowKit Go.Proofs.YtofjhkjahpdkiaaDoorW.PrintWords
def weather_Parse.f (a0 : ByteArray) : Option (List S32 × Int × Int) := some (We.parseP a0)
theorem weather_Parse.calls (a0 : ByteArray) (r1 : List S32) (r2 : Int) (r3 : Int) (w : World) (h : weather_Parse.f a0 = some (r1, r2, r3)) :
    Calls Tryd.prog 14 #[.string a0] w fun e w' => ∃ v0_ : Value, e = .returned (.tuple #[v0_, .int .i64 r2, .int .i64 r3]) ∧ Kd.R k32 32 w' w.heap.size (fun _ => True) v0_ r1 ∧ Below w.heap.size w w' :=
  We.parse_calls a0 r1 r2 r3 w (Option.some.inj h)
#print axioms weather_Parse.calls
end Go.Proofs.YtofjhkjahpdkiaaDoor.Px
