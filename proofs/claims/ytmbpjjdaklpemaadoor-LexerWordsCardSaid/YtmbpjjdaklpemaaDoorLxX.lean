/-
  Bytes as lists, and what the printed Alike comes to.
-/
import Derived.Test.YtmbpjjdaklpemaaDoorPxx6
import Derived.Test.YtmbpjjdaklpemaaDoorLxV
namespace Go.Proofs.YtmbpjjdaklpemaaDoor.Px
open Go.RowKit Go.Proofs.YtmbpjjdaklpemaaDoorW.PrintWords Go.Proofs.YtmbpjjdaklpemaaDoorW.PrintLast Go.Proofs.YtmbpjjdaklpemaaDoorW.PrintMore Go.Proofs.YtmbpjjdaklpemaaDoor.Lx
set_option linter.unusedVariables false
theorem ba_app (a b : List UInt8) : ((⟨a.toArray⟩ : ByteArray) ++ ⟨b.toArray⟩) = ⟨(a ++ b).toArray⟩ := by
  apply ByteArray.ext
  rw [ByteArray.data_append]; simp
theorem ba_of (s : ByteArray) : (⟨s.data.toList.toArray⟩ : ByteArray) = s := by
  apply ByteArray.ext; simp
theorem core_get {ts us : List Tok} (h : us.map core = ts.map core) {j : Nat} {x : Tok} (hx : ts[j]? = some x) : ∃ y, us[j]? = some y ∧ (toS y).f0 = (toS x).f0 ∧ (toS y).f1 = (toS x).f1 ∧ (toS y).f2 = (toS x).f2 := by
  have h1 : (us.map core)[j]? = (ts.map core)[j]? := by rw [h]
  rw [List.getElem?_map, List.getElem?_map, hx] at h1
  cases hy : us[j]? with
  | none => rw [hy] at h1; simp at h1
  | some y =>
    rw [hy] at h1
    simp only [Option.map_some, Option.some.injEq, core, Prod.mk.injEq] at h1
    exact ⟨y, rfl, h1.1, by show (⟨y.text.toArray⟩ : ByteArray) = ⟨x.text.toArray⟩; rw [h1.2.1], h1.2.2⟩
theorem alike_loop {ts us : List Tok} (h : us.map core = ts.map core) (hl : ts.length ≤ 100000) (d : Nat) : ∀ (j : Nat), ts.length ≤ j + d → j ≤ ts.length →
    Ev (fun k => observatoryref08_Alike.l0 k (ts.map toS) (us.map toS) (j : Int)) true := by
  have hlen : us.length = ts.length := by have := congrArg List.length h; simpa using this
  induction d with
  | zero =>
    intro j hj hj2
    refine Ev.step (f := fun _ => some true) (fun k => ?_) (Ev.now true)
    simp only [observatoryref08_Alike.l0]
    rw [if_neg (by rw [List.length_map]; omega)]
  | succ d ih =>
    intro j hj hj2
    by_cases hlt : j < ts.length
    · obtain ⟨x, hx⟩ : ∃ t, ts[j]? = some t := ⟨_, List.getElem?_eq_getElem hlt⟩
      obtain ⟨y, hy, e0, e1, e2⟩ := core_get h hx
      have r1 := rd_toS hx
      have r2 := rd_toS hy
      have hw1 : wrap64 ((j : Int) + 1) = ((j + 1 : Nat) : Int) := by rw [w64s (by omega) (by omega)]; omega
      refine Ev.step (f := fun k => observatoryref08_Alike.l0 k (ts.map toS) (us.map toS) ((j + 1 : Nat) : Int)) (fun k => ?_) (ih (j + 1) (by omega) (by omega))
      simp only [observatoryref08_Alike.l0]
      rw [if_pos (by rw [List.length_map]; clear hw1; omega), if_pos (Int.natCast_nonneg _), if_pos (by rw [List.length_map]; clear hw1; omega), r1, r2, if_pos e0.symm, if_pos (by rw [e1]), if_pos e2.symm, hw1]
    · refine Ev.step (f := fun _ => some true) (fun k => ?_) (Ev.now true)
      simp only [observatoryref08_Alike.l0]
      rw [if_neg (by rw [List.length_map]; omega)]
theorem alike_ev {ts us : List Tok} (h : us.map core = ts.map core) (hl : ts.length ≤ 100000) : Ev (fun k => observatoryref08_Alike.f k (ts.map toS) (us.map toS)) true := by
  have hlen : us.length = ts.length := by have := congrArg List.length h; simpa using this
  refine Ev.congr (f := fun k => observatoryref08_Alike.l0 k (ts.map toS) (us.map toS) ((0 : Nat) : Int)) (fun k => ?_) (alike_loop h hl ts.length 0 (by omega) (by omega))
  unfold observatoryref08_Alike.f
  rw [if_pos (by rw [List.length_map, List.length_map, hlen])]
  rfl
end Go.Proofs.YtmbpjjdaklpemaaDoor.Px
