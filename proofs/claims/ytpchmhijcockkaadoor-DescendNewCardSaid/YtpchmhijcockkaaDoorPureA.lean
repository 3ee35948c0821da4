/- The plain laws of the descend statements: what the printed functions compute answers true. -/
import Derived.Test.YtpchmhijcockkaaDoorPrint7
namespace Go.Proofs.YtpchmhijcockkaaDoor.Print
open Go.RowKit Go.Proofs.YtpchmhijcockkaaDoorW.PrintWords Go.Proofs.YtpchmhijcockkaaDoorW.PrintLast Go.Proofs.YtpchmhijcockkaaDoorW.PrintMore

theorem known29 : bandplanlaw29_known.f = some true := by decide +kernel

theorem valid_total (a b c : Int) : ∃ v, descend_Valid.f a b c = some v ∧ bandplanref29_Valid.f a b c = some v ∧ (v = true → 1 ≤ a ∧ a ≤ 1000000000 ∧ 0 ≤ b ∧ b ≤ a ∧ 0 ≤ c ∧ c ≤ 1000000) := by
  have h : descend_Valid.f a b c = bandplanref29_Valid.f a b c := rfl
  have h2 : ∃ v, descend_Valid.f a b c = some v := by
    unfold descend_Valid.f
    repeat' split
    all_goals exact ⟨_, rfl⟩
  obtain ⟨v, hv⟩ := h2
  refine ⟨v, hv, h ▸ hv, fun e => ?_⟩
  subst e
  exact valid_of hv

theorem pure_DescendValid (a b c : Int) : bandplanlaw29_DescendValid.f a b c = some true := by
  obtain ⟨v, h1, h2, _⟩ := valid_total a b c
  unfold bandplanlaw29_DescendValid.f
  rw [h1, h2, known29]
  simp

theorem ref_falls (op b : Int) (h0 : 0 ≤ b) (h1 : b ≤ op) (h2 : op ≤ 1000000000) : bandplanref29_Falls.f 1 op b = some (fallV op b) := by
  unfold bandplanref29_Falls.f
  have e1 : wrap64 (b * 5) = b * 5 := by unfold wrap64; omega
  have e2 : Int.tdiv (b * 5) 100 = b * 5 / 100 := Int.tdiv_eq_ediv_of_nonneg (by omega)
  have e3 : Int.tdiv op 100 = op / 100 := Int.tdiv_eq_ediv_of_nonneg (by omega)
  have e4 : wrap64 (b * 5 / 100) = b * 5 / 100 := by unfold wrap64; omega
  have e5 : wrap64 (op / 100) = op / 100 := by unfold wrap64; omega
  simp only [bandplanref29_Falls.j0, e1, e2, e3, e4, e5]
  unfold fallV mn mx
  repeat' split
  all_goals first
    | rfl
    | (exfalso; omega)
    | (congr 1; omega)

theorem pure_DescendNext (a b c : Int) : ∃ k, bandplanlaw29_DescendNext.f k a b c = some true := by
  obtain ⟨v, h1, h2, h3⟩ := valid_total a b c
  refine ⟨1, ?_⟩
  unfold bandplanlaw29_DescendNext.f descend_Decrement.f bandplanref29_Decrement.f descend_Next.f bandplanref29_Next.f
  rw [h1, h2, known29]
  cases v with
  | false =>
    unfold descend_after.f
    simp
  | true =>
    obtain ⟨c0, c1, c2, c3, c4, c5⟩ := h3 rfl
    have hb := fallV_bd a b c2 c3 c1
    have e1 : wrap64 (b - fallV a b) = b - fallV a b := by unfold wrap64; omega
    have e2 : wrap64 (c + 1) = c + 1 := by unfold wrap64; omega
    rw [falls_eq a b c c2 c3 c1, ref_falls a b c2 c3 c1]
    unfold descend_after.f
    by_cases hz : b = 0
    · subst hz
      simp [c0, c1, c3, c4, c5]
    · have hp : 0 < b := by omega
      by_cases hm : c = 1000000
      · subst hm
        simp [c0, c1, c2, c3, hz, hp]
      · simp [c0, c1, c2, c3, c4, c5, hz, hp, hm, e1, e2]

theorem pure_DescendNew (a : Int) : ∃ k, bandplanlaw29_DescendNew.f k a = some true := by
  refine ⟨1, ?_⟩
  unfold bandplanlaw29_DescendNew.f descend_New.f
  simp only [bandplanlaw29_DescendNew.j0]
  rw [known29]
  by_cases h0 : a < 1
  · have hv : descend_Valid.f a a 0 = some false := by unfold descend_Valid.f; rw [if_neg (by omega)]
    simp [hv, h0]
  · by_cases h1 : a ≤ 1000000000
    · have hv : descend_Valid.f a a 0 = some true := valid_true a a 0 (by omega) h1 (by omega) (by omega) (by omega) (by omega)
      have h2 : ¬ 1000000000 < a := by omega
      simp [hv, h0, h2]
    · have hv : descend_Valid.f a a 0 = some false := by unfold descend_Valid.f; rw [if_pos (by omega), if_neg h1]
      have h2 : 1000000000 < a := by omega
      simp [hv, h0, h2]

end Go.Proofs.YtpchmhijcockkaaDoor.Print
