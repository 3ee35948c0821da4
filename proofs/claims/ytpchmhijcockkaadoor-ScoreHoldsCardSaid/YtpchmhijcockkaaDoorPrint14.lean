-- Written by a program of this session (a turned copy of the kit's printer). Lean checks it.
import Derived.Test.YtpchmhijcockkaaDoorPrint0
import Derived.Test.YtpchmhijcockkaaDoorPrint8
import Derived.Test.YtpchmhijcockkaaDoorPrint9
import Derived.Test.YtpchmhijcockkaaDoorExtA
import Derived.Test.YtpchmhijcockkaaDoorLaid
namespace Go.Proofs.YtpchmhijcockkaaDoor.Print
open Go.RowKit Go.Proofs.YtpchmhijcockkaaDoorW.PrintWords Go.Proofs.YtpchmhijcockkaaDoorW.PrintLast Go.Proofs.YtpchmhijcockkaaDoorW.PrintMore
attribute [local go_sem] max2_int min2_int max_two min_two max_three min_three max_four min_four   -- for this text's walks alone
set_option linter.unusedVariables false
set_option linter.unusedSimpArgs false

/-! ### bandplanlaw28_ScoreHolds: function 11 -/
mutual
def bandplanlaw28_ScoreHolds.j0 : Nat → List (S40) → Int → Int → Int → List (S52) → Int → Bool → Option (Bool)
  | 0, _, _, _, _, _, _, _ => none
  | k + 1, x0, x1, x2, x3, x9, x10, x43 => if x43 = true then (if x10 = 2 then (if (x9.length : Int) = 0 then ((bandplanlaw28_known.f k).bind fun t325 => (some t325)) else (none)) else (none)) else (bandplanlaw28_ScoreHolds.l0 k x0 x1 x2 x3 x9 0 0)
def bandplanlaw28_ScoreHolds.l0 : Nat → List (S40) → Int → Int → Int → List (S52) → Int → Int → Option (Bool)
  | 0, _, _, _, _, _, _, _ => none
  | k + 1, x0, x1, x2, x3, x9, x11, x12 => if x12 < (x9.length : Int) then (if 0 ≤ x12 then (if ((rd_T52 x9 x12).f1) < 1 then (bandplanlaw28_ScoreHolds.j2 k x0 x1 x2 x3 x9 (mx x11 ((rd_T52 x9 x12).f1)) x12 true) else (bandplanlaw28_ScoreHolds.j2 k x0 x1 x2 x3 x9 (mx x11 ((rd_T52 x9 x12).f1)) x12 (decide (((rd_T52 x9 x12).f1) > 1000000)))) else (none)) else (if (x9.length : Int) > 0 then (bandplanlaw28_ScoreHolds.j4 k x1 x2 x3 x9 (x11 != 1000000)) else (bandplanlaw28_ScoreHolds.j4 k x1 x2 x3 x9 false))
def bandplanlaw28_ScoreHolds.j2 : Nat → List (S40) → Int → Int → Int → List (S52) → Int → Int → Bool → Option (Bool)
  | 0, _, _, _, _, _, _, _, _ => none
  | k + 1, x0, x1, x2, x3, x9, x11, x12, x80 => if x80 = true then (none) else (if 0 ≤ x12 then (if x12 < (x0.length : Int) then ((score_Raw.f k ((rd_T40 x0 x12).f0) ((rd_T40 x0 x12).f1) ((rd_T40 x0 x12).f2)).bind fun bt330 => (bandplanlaw28_ScoreHolds.l1 k x0 x1 x2 x3 x9 x11 x12 bt330.1 bt330.2 0)) else (none)) else (none))
def bandplanlaw28_ScoreHolds.l1 : Nat → List (S40) → Int → Int → Int → List (S52) → Int → Int → Int → Int → Int → Option (Bool)
  | 0, _, _, _, _, _, _, _, _, _, _ => none
  | k + 1, x0, x1, x2, x3, x9, x11, x12, x13, x14, x15 => if x15 < (x9.length : Int) then (if 0 ≤ x15 then (if x15 < (x0.length : Int) then ((score_Raw.f k ((rd_T40 x0 x15).f0) ((rd_T40 x0 x15).f1) ((rd_T40 x0 x15).f2)).bind fun bt333 => (if x14 = 0 then (if bt333.2 = 0 then (if x13 > bt333.1 then (if 0 ≤ x12 then (if x12 < (x9.length : Int) then (if ((rd_T52 x9 x12).f1) < ((rd_T52 x9 x15).f1) then (none) else (if x13 = bt333.1 then (if ((rd_T52 x9 x12).f1) = ((rd_T52 x9 x15).f1) then (bandplanlaw28_ScoreHolds.l1 k x0 x1 x2 x3 x9 x11 x12 x13 x14 (wrap64 (x15 + 1))) else (none)) else (bandplanlaw28_ScoreHolds.l1 k x0 x1 x2 x3 x9 x11 x12 x13 x14 (wrap64 (x15 + 1))))) else (none)) else (none)) else (if x13 = bt333.1 then (if 0 ≤ x12 then (if x12 < (x9.length : Int) then (if ((rd_T52 x9 x12).f1) = ((rd_T52 x9 x15).f1) then (bandplanlaw28_ScoreHolds.l1 k x0 x1 x2 x3 x9 x11 x12 x13 x14 (wrap64 (x15 + 1))) else (none)) else (none)) else (none)) else (bandplanlaw28_ScoreHolds.l1 k x0 x1 x2 x3 x9 x11 x12 x13 x14 (wrap64 (x15 + 1))))) else (none)) else (none))) else (none)) else (none)) else (bandplanlaw28_ScoreHolds.l0 k x0 x1 x2 x3 x9 x11 (wrap64 (x12 + 1)))
def bandplanlaw28_ScoreHolds.j4 : Nat → Int → Int → Int → List (S52) → Bool → Option (Bool)
  | 0, _, _, _, _, _ => none
  | k + 1, x1, x2, x3, x9, x151 => if x151 = true then (none) else (if x1 < 0 then (bandplanlaw28_ScoreHolds.j5 k x1 x2 x3 x9 true) else (if x2 < x1 then (bandplanlaw28_ScoreHolds.j5 k x1 x2 x3 x9 true) else (if x2 > 1000000000 then (bandplanlaw28_ScoreHolds.j5 k x1 x2 x3 x9 true) else (if x3 < 1 then (bandplanlaw28_ScoreHolds.j5 k x1 x2 x3 x9 true) else (bandplanlaw28_ScoreHolds.j5 k x1 x2 x3 x9 (decide (x3 > 3)))))))
def bandplanlaw28_ScoreHolds.j5 : Nat → Int → Int → Int → List (S52) → Bool → Option (Bool)
  | 0, _, _, _, _, _ => none
  | k + 1, x1, x2, x3, x9, x170 => if x170 = true then ((bandplanlaw28_known.f k).bind fun t341 => (some t341)) else (bandplanlaw28_ScoreHolds.l2 k x1 x2 x3 x9 0)
def bandplanlaw28_ScoreHolds.l2 : Nat → Int → Int → Int → List (S52) → Int → Option (Bool)
  | 0, _, _, _, _, _ => none
  | k + 1, x1, x2, x3, x9, x18 => if x18 < (x9.length : Int) then (if 0 ≤ x18 then ((score_Offers.f ((rd_T52 x9 x18).f1) x1 x3).bind fun bt344 => ((score_Offers.f ((rd_T52 x9 x18).f1) x2 x3).bind fun bt349 => ((score_Offers.f 1000000 x1 x3).bind fun bt353 => (if bt344.2 = 0 then (if bt349.2 = 0 then (if bt353.2 = 0 then (if (bt344.1.length : Int) = (wrap64 (x3 + 1)) then (if (bt349.1.length : Int) = (wrap64 (x3 + 1)) then (if (bt353.1.length : Int) = (wrap64 (x3 + 1)) then (if 0 ≤ x3 then (if x3 < (bt344.1.length : Int) then (bandplanlaw28_ScoreHolds.j7 k x1 x2 x3 x9 x18 bt344.1 bt349.1 bt353.1 ((rd bt344.1 x3) != 0)) else (none)) else (none)) else (bandplanlaw28_ScoreHolds.j7 k x1 x2 x3 x9 x18 bt344.1 bt349.1 bt353.1 true)) else (bandplanlaw28_ScoreHolds.j7 k x1 x2 x3 x9 x18 bt344.1 bt349.1 bt353.1 true)) else (bandplanlaw28_ScoreHolds.j7 k x1 x2 x3 x9 x18 bt344.1 bt349.1 bt353.1 true)) else (bandplanlaw28_ScoreHolds.j7 k x1 x2 x3 x9 x18 bt344.1 bt349.1 bt353.1 true)) else (bandplanlaw28_ScoreHolds.j7 k x1 x2 x3 x9 x18 bt344.1 bt349.1 bt353.1 true)) else (bandplanlaw28_ScoreHolds.j7 k x1 x2 x3 x9 x18 bt344.1 bt349.1 bt353.1 true))))) else (none)) else ((bandplanlaw28_known.f k).bind fun t342 => (some t342))
def bandplanlaw28_ScoreHolds.j7 : Nat → Int → Int → Int → List (S52) → Int → List Int → List Int → List Int → Bool → Option (Bool)
  | 0, _, _, _, _, _, _, _, _, _ => none
  | k + 1, x1, x2, x3, x9, x18, x19, x21, x23, x243 => if x243 = true then (none) else (bandplanlaw28_ScoreHolds.l3 k x1 x2 x3 x9 x18 x19 x21 x23 0)
def bandplanlaw28_ScoreHolds.l3 : Nat → Int → Int → Int → List (S52) → Int → List Int → List Int → List Int → Int → Option (Bool)
  | 0, _, _, _, _, _, _, _, _, _ => none
  | k + 1, x1, x2, x3, x9, x18, x19, x21, x23, x25 => if x25 ≤ x3 then (if 0 ≤ x25 then (if x25 < (x19.length : Int) then (if (rd x19 x25) < 0 then (none) else (if (rd x19 x25) > x1 then (none) else (if x25 < (x21.length : Int) then (if (rd x19 x25) > (rd x21 x25) then (none) else (if x25 < (x23.length : Int) then (if (rd x19 x25) > (rd x23 x25) then (none) else (if x25 > 0 then (if 0 ≤ (wrap64 (x25 - 1)) then (if (wrap64 (x25 - 1)) < (x19.length : Int) then (if (rd x19 x25) > (rd x19 (wrap64 (x25 - 1))) then (none) else (bandplanlaw28_ScoreHolds.l3 k x1 x2 x3 x9 x18 x19 x21 x23 (wrap64 (x25 + 1)))) else (none)) else (none)) else (bandplanlaw28_ScoreHolds.l3 k x1 x2 x3 x9 x18 x19 x21 x23 (wrap64 (x25 + 1))))) else (none))) else (none)))) else (none)) else (none)) else (bandplanlaw28_ScoreHolds.l2 k x1 x2 x3 x9 (wrap64 (x18 + 1)))
end
def bandplanlaw28_ScoreHolds.f (k : Nat) (l0 : List (S40)) (a1 : Int) (a2 : Int) (a3 : Int) : Option (Bool) := if (l0.length : Int) > 40 then ((bandplanlaw28_known.f k).bind fun t320 => (some t320)) else ((score_Volumes.f k l0).bind fun bt321 => (if bt321.2 = 0 then (bandplanlaw28_ScoreHolds.j0 k l0 a1 a2 a3 bt321.1 bt321.2 ((bt321.1.length : Int) != (l0.length : Int))) else (bandplanlaw28_ScoreHolds.j0 k l0 a1 a2 a3 bt321.1 bt321.2 true)))
theorem bandplanlaw28_ScoreHolds.mono_l : ∀ k, (∀ y0 y1 y2 y3 y4 y5 y6, LeO (bandplanlaw28_ScoreHolds.j0 k y0 y1 y2 y3 y4 y5 y6) (bandplanlaw28_ScoreHolds.j0 (k + 1) y0 y1 y2 y3 y4 y5 y6)) ∧ (∀ y0 y1 y2 y3 y4 y5 y6, LeO (bandplanlaw28_ScoreHolds.l0 k y0 y1 y2 y3 y4 y5 y6) (bandplanlaw28_ScoreHolds.l0 (k + 1) y0 y1 y2 y3 y4 y5 y6)) ∧ (∀ y0 y1 y2 y3 y4 y5 y6 y7, LeO (bandplanlaw28_ScoreHolds.j2 k y0 y1 y2 y3 y4 y5 y6 y7) (bandplanlaw28_ScoreHolds.j2 (k + 1) y0 y1 y2 y3 y4 y5 y6 y7)) ∧ (∀ y0 y1 y2 y3 y4 y5 y6 y7 y8 y9, LeO (bandplanlaw28_ScoreHolds.l1 k y0 y1 y2 y3 y4 y5 y6 y7 y8 y9) (bandplanlaw28_ScoreHolds.l1 (k + 1) y0 y1 y2 y3 y4 y5 y6 y7 y8 y9)) ∧ (∀ y0 y1 y2 y3 y4, LeO (bandplanlaw28_ScoreHolds.j4 k y0 y1 y2 y3 y4) (bandplanlaw28_ScoreHolds.j4 (k + 1) y0 y1 y2 y3 y4)) ∧ (∀ y0 y1 y2 y3 y4, LeO (bandplanlaw28_ScoreHolds.j5 k y0 y1 y2 y3 y4) (bandplanlaw28_ScoreHolds.j5 (k + 1) y0 y1 y2 y3 y4)) ∧ (∀ y0 y1 y2 y3 y4, LeO (bandplanlaw28_ScoreHolds.l2 k y0 y1 y2 y3 y4) (bandplanlaw28_ScoreHolds.l2 (k + 1) y0 y1 y2 y3 y4)) ∧ (∀ y0 y1 y2 y3 y4 y5 y6 y7 y8, LeO (bandplanlaw28_ScoreHolds.j7 k y0 y1 y2 y3 y4 y5 y6 y7 y8) (bandplanlaw28_ScoreHolds.j7 (k + 1) y0 y1 y2 y3 y4 y5 y6 y7 y8)) ∧ (∀ y0 y1 y2 y3 y4 y5 y6 y7 y8, LeO (bandplanlaw28_ScoreHolds.l3 k y0 y1 y2 y3 y4 y5 y6 y7 y8) (bandplanlaw28_ScoreHolds.l3 (k + 1) y0 y1 y2 y3 y4 y5 y6 y7 y8))
  | 0 => ⟨fun _ _ _ _ _ _ _ r h => by simp [bandplanlaw28_ScoreHolds.j0] at h, fun _ _ _ _ _ _ _ r h => by simp [bandplanlaw28_ScoreHolds.l0] at h, fun _ _ _ _ _ _ _ _ r h => by simp [bandplanlaw28_ScoreHolds.j2] at h, fun _ _ _ _ _ _ _ _ _ _ r h => by simp [bandplanlaw28_ScoreHolds.l1] at h, fun _ _ _ _ _ r h => by simp [bandplanlaw28_ScoreHolds.j4] at h, fun _ _ _ _ _ r h => by simp [bandplanlaw28_ScoreHolds.j5] at h, fun _ _ _ _ _ r h => by simp [bandplanlaw28_ScoreHolds.l2] at h, fun _ _ _ _ _ _ _ _ _ r h => by simp [bandplanlaw28_ScoreHolds.j7] at h, fun _ _ _ _ _ _ _ _ _ r h => by simp [bandplanlaw28_ScoreHolds.l3] at h⟩
  | k + 1 => by
    obtain ⟨ih0, ih1, ih2, ih3, ih4, ih5, ih6, ih7, ih8⟩ := bandplanlaw28_ScoreHolds.mono_l k
    refine ⟨?_, ?_, ?_, ?_, ?_, ?_, ?_, ?_, ?_⟩
    · intro y0 y1 y2 y3 y4 y5 y6
      unfold bandplanlaw28_ScoreHolds.j0
      repeat' first
      | (with_reducible exact ih0 _ _ _ _ _ _ _)
      | (with_reducible exact ih1 _ _ _ _ _ _ _)
      | (with_reducible exact ih2 _ _ _ _ _ _ _ _)
      | (with_reducible exact ih3 _ _ _ _ _ _ _ _ _ _)
      | (with_reducible exact ih4 _ _ _ _ _)
      | (with_reducible exact ih5 _ _ _ _ _)
      | (with_reducible exact ih6 _ _ _ _ _)
      | (with_reducible exact ih7 _ _ _ _ _ _ _ _ _)
      | (with_reducible exact ih8 _ _ _ _ _ _ _ _ _)
      | (with_reducible exact bandplanlaw28_known.mono _)
      | (with_reducible exact score_Raw.mono _ _ _ _)
      | (with_reducible exact score_Volumes.mono _ _)
      | (with_reducible exact LeO.refl _)
      | (with_reducible exact LeO.none _)
      | (with_reducible refine LeO.ite ?_ ?_)
      | (with_reducible refine LeO.bind ?_ (fun _ => ?_))
      | exact ih0 _ _ _ _ _ _ _
      | exact ih1 _ _ _ _ _ _ _
      | exact ih2 _ _ _ _ _ _ _ _
      | exact ih3 _ _ _ _ _ _ _ _ _ _
      | exact ih4 _ _ _ _ _
      | exact ih5 _ _ _ _ _
      | exact ih6 _ _ _ _ _
      | exact ih7 _ _ _ _ _ _ _ _ _
      | exact ih8 _ _ _ _ _ _ _ _ _
      | exact bandplanlaw28_known.mono _
      | exact score_Raw.mono _ _ _ _
      | exact score_Volumes.mono _ _
      | exact LeO.none _
      | refine LeO.ite ?_ ?_
      | refine LeO.bind ?_ (fun _ => ?_)
    · intro y0 y1 y2 y3 y4 y5 y6
      unfold bandplanlaw28_ScoreHolds.l0
      repeat' first
      | (with_reducible exact ih0 _ _ _ _ _ _ _)
      | (with_reducible exact ih1 _ _ _ _ _ _ _)
      | (with_reducible exact ih2 _ _ _ _ _ _ _ _)
      | (with_reducible exact ih3 _ _ _ _ _ _ _ _ _ _)
      | (with_reducible exact ih4 _ _ _ _ _)
      | (with_reducible exact ih5 _ _ _ _ _)
      | (with_reducible exact ih6 _ _ _ _ _)
      | (with_reducible exact ih7 _ _ _ _ _ _ _ _ _)
      | (with_reducible exact ih8 _ _ _ _ _ _ _ _ _)
      | (with_reducible exact bandplanlaw28_known.mono _)
      | (with_reducible exact score_Raw.mono _ _ _ _)
      | (with_reducible exact score_Volumes.mono _ _)
      | (with_reducible exact LeO.refl _)
      | (with_reducible exact LeO.none _)
      | (with_reducible refine LeO.ite ?_ ?_)
      | (with_reducible refine LeO.bind ?_ (fun _ => ?_))
      | exact ih0 _ _ _ _ _ _ _
      | exact ih1 _ _ _ _ _ _ _
      | exact ih2 _ _ _ _ _ _ _ _
      | exact ih3 _ _ _ _ _ _ _ _ _ _
      | exact ih4 _ _ _ _ _
      | exact ih5 _ _ _ _ _
      | exact ih6 _ _ _ _ _
      | exact ih7 _ _ _ _ _ _ _ _ _
      | exact ih8 _ _ _ _ _ _ _ _ _
      | exact bandplanlaw28_known.mono _
      | exact score_Raw.mono _ _ _ _
      | exact score_Volumes.mono _ _
      | exact LeO.none _
      | refine LeO.ite ?_ ?_
      | refine LeO.bind ?_ (fun _ => ?_)
    · intro y0 y1 y2 y3 y4 y5 y6 y7
      unfold bandplanlaw28_ScoreHolds.j2
      repeat' first
      | (with_reducible exact ih0 _ _ _ _ _ _ _)
      | (with_reducible exact ih1 _ _ _ _ _ _ _)
      | (with_reducible exact ih2 _ _ _ _ _ _ _ _)
      | (with_reducible exact ih3 _ _ _ _ _ _ _ _ _ _)
      | (with_reducible exact ih4 _ _ _ _ _)
      | (with_reducible exact ih5 _ _ _ _ _)
      | (with_reducible exact ih6 _ _ _ _ _)
      | (with_reducible exact ih7 _ _ _ _ _ _ _ _ _)
      | (with_reducible exact ih8 _ _ _ _ _ _ _ _ _)
      | (with_reducible exact bandplanlaw28_known.mono _)
      | (with_reducible exact score_Raw.mono _ _ _ _)
      | (with_reducible exact score_Volumes.mono _ _)
      | (with_reducible exact LeO.refl _)
      | (with_reducible exact LeO.none _)
      | (with_reducible refine LeO.ite ?_ ?_)
      | (with_reducible refine LeO.bind ?_ (fun _ => ?_))
      | exact ih0 _ _ _ _ _ _ _
      | exact ih1 _ _ _ _ _ _ _
      | exact ih2 _ _ _ _ _ _ _ _
      | exact ih3 _ _ _ _ _ _ _ _ _ _
      | exact ih4 _ _ _ _ _
      | exact ih5 _ _ _ _ _
      | exact ih6 _ _ _ _ _
      | exact ih7 _ _ _ _ _ _ _ _ _
      | exact ih8 _ _ _ _ _ _ _ _ _
      | exact bandplanlaw28_known.mono _
      | exact score_Raw.mono _ _ _ _
      | exact score_Volumes.mono _ _
      | exact LeO.none _
      | refine LeO.ite ?_ ?_
      | refine LeO.bind ?_ (fun _ => ?_)
    · intro y0 y1 y2 y3 y4 y5 y6 y7 y8 y9
      unfold bandplanlaw28_ScoreHolds.l1
      repeat' first
      | (with_reducible exact ih0 _ _ _ _ _ _ _)
      | (with_reducible exact ih1 _ _ _ _ _ _ _)
      | (with_reducible exact ih2 _ _ _ _ _ _ _ _)
      | (with_reducible exact ih3 _ _ _ _ _ _ _ _ _ _)
      | (with_reducible exact ih4 _ _ _ _ _)
      | (with_reducible exact ih5 _ _ _ _ _)
      | (with_reducible exact ih6 _ _ _ _ _)
      | (with_reducible exact ih7 _ _ _ _ _ _ _ _ _)
      | (with_reducible exact ih8 _ _ _ _ _ _ _ _ _)
      | (with_reducible exact bandplanlaw28_known.mono _)
      | (with_reducible exact score_Raw.mono _ _ _ _)
      | (with_reducible exact score_Volumes.mono _ _)
      | (with_reducible exact LeO.refl _)
      | (with_reducible exact LeO.none _)
      | (with_reducible refine LeO.ite ?_ ?_)
      | (with_reducible refine LeO.bind ?_ (fun _ => ?_))
      | exact ih0 _ _ _ _ _ _ _
      | exact ih1 _ _ _ _ _ _ _
      | exact ih2 _ _ _ _ _ _ _ _
      | exact ih3 _ _ _ _ _ _ _ _ _ _
      | exact ih4 _ _ _ _ _
      | exact ih5 _ _ _ _ _
      | exact ih6 _ _ _ _ _
      | exact ih7 _ _ _ _ _ _ _ _ _
      | exact ih8 _ _ _ _ _ _ _ _ _
      | exact bandplanlaw28_known.mono _
      | exact score_Raw.mono _ _ _ _
      | exact score_Volumes.mono _ _
      | exact LeO.none _
      | refine LeO.ite ?_ ?_
      | refine LeO.bind ?_ (fun _ => ?_)
    · intro y0 y1 y2 y3 y4
      unfold bandplanlaw28_ScoreHolds.j4
      repeat' first
      | (with_reducible exact ih0 _ _ _ _ _ _ _)
      | (with_reducible exact ih1 _ _ _ _ _ _ _)
      | (with_reducible exact ih2 _ _ _ _ _ _ _ _)
      | (with_reducible exact ih3 _ _ _ _ _ _ _ _ _ _)
      | (with_reducible exact ih4 _ _ _ _ _)
      | (with_reducible exact ih5 _ _ _ _ _)
      | (with_reducible exact ih6 _ _ _ _ _)
      | (with_reducible exact ih7 _ _ _ _ _ _ _ _ _)
      | (with_reducible exact ih8 _ _ _ _ _ _ _ _ _)
      | (with_reducible exact bandplanlaw28_known.mono _)
      | (with_reducible exact score_Raw.mono _ _ _ _)
      | (with_reducible exact score_Volumes.mono _ _)
      | (with_reducible exact LeO.refl _)
      | (with_reducible exact LeO.none _)
      | (with_reducible refine LeO.ite ?_ ?_)
      | (with_reducible refine LeO.bind ?_ (fun _ => ?_))
      | exact ih0 _ _ _ _ _ _ _
      | exact ih1 _ _ _ _ _ _ _
      | exact ih2 _ _ _ _ _ _ _ _
      | exact ih3 _ _ _ _ _ _ _ _ _ _
      | exact ih4 _ _ _ _ _
      | exact ih5 _ _ _ _ _
      | exact ih6 _ _ _ _ _
      | exact ih7 _ _ _ _ _ _ _ _ _
      | exact ih8 _ _ _ _ _ _ _ _ _
      | exact bandplanlaw28_known.mono _
      | exact score_Raw.mono _ _ _ _
      | exact score_Volumes.mono _ _
      | exact LeO.none _
      | refine LeO.ite ?_ ?_
      | refine LeO.bind ?_ (fun _ => ?_)
    · intro y0 y1 y2 y3 y4
      unfold bandplanlaw28_ScoreHolds.j5
      repeat' first
      | (with_reducible exact ih0 _ _ _ _ _ _ _)
      | (with_reducible exact ih1 _ _ _ _ _ _ _)
      | (with_reducible exact ih2 _ _ _ _ _ _ _ _)
      | (with_reducible exact ih3 _ _ _ _ _ _ _ _ _ _)
      | (with_reducible exact ih4 _ _ _ _ _)
      | (with_reducible exact ih5 _ _ _ _ _)
      | (with_reducible exact ih6 _ _ _ _ _)
      | (with_reducible exact ih7 _ _ _ _ _ _ _ _ _)
      | (with_reducible exact ih8 _ _ _ _ _ _ _ _ _)
      | (with_reducible exact bandplanlaw28_known.mono _)
      | (with_reducible exact score_Raw.mono _ _ _ _)
      | (with_reducible exact score_Volumes.mono _ _)
      | (with_reducible exact LeO.refl _)
      | (with_reducible exact LeO.none _)
      | (with_reducible refine LeO.ite ?_ ?_)
      | (with_reducible refine LeO.bind ?_ (fun _ => ?_))
      | exact ih0 _ _ _ _ _ _ _
      | exact ih1 _ _ _ _ _ _ _
      | exact ih2 _ _ _ _ _ _ _ _
      | exact ih3 _ _ _ _ _ _ _ _ _ _
      | exact ih4 _ _ _ _ _
      | exact ih5 _ _ _ _ _
      | exact ih6 _ _ _ _ _
      | exact ih7 _ _ _ _ _ _ _ _ _
      | exact ih8 _ _ _ _ _ _ _ _ _
      | exact bandplanlaw28_known.mono _
      | exact score_Raw.mono _ _ _ _
      | exact score_Volumes.mono _ _
      | exact LeO.none _
      | refine LeO.ite ?_ ?_
      | refine LeO.bind ?_ (fun _ => ?_)
    · intro y0 y1 y2 y3 y4
      unfold bandplanlaw28_ScoreHolds.l2
      repeat' first
      | (with_reducible exact ih0 _ _ _ _ _ _ _)
      | (with_reducible exact ih1 _ _ _ _ _ _ _)
      | (with_reducible exact ih2 _ _ _ _ _ _ _ _)
      | (with_reducible exact ih3 _ _ _ _ _ _ _ _ _ _)
      | (with_reducible exact ih4 _ _ _ _ _)
      | (with_reducible exact ih5 _ _ _ _ _)
      | (with_reducible exact ih6 _ _ _ _ _)
      | (with_reducible exact ih7 _ _ _ _ _ _ _ _ _)
      | (with_reducible exact ih8 _ _ _ _ _ _ _ _ _)
      | (with_reducible exact bandplanlaw28_known.mono _)
      | (with_reducible exact score_Raw.mono _ _ _ _)
      | (with_reducible exact score_Volumes.mono _ _)
      | (with_reducible exact LeO.refl _)
      | (with_reducible exact LeO.none _)
      | (with_reducible refine LeO.ite ?_ ?_)
      | (with_reducible refine LeO.bind ?_ (fun _ => ?_))
      | exact ih0 _ _ _ _ _ _ _
      | exact ih1 _ _ _ _ _ _ _
      | exact ih2 _ _ _ _ _ _ _ _
      | exact ih3 _ _ _ _ _ _ _ _ _ _
      | exact ih4 _ _ _ _ _
      | exact ih5 _ _ _ _ _
      | exact ih6 _ _ _ _ _
      | exact ih7 _ _ _ _ _ _ _ _ _
      | exact ih8 _ _ _ _ _ _ _ _ _
      | exact bandplanlaw28_known.mono _
      | exact score_Raw.mono _ _ _ _
      | exact score_Volumes.mono _ _
      | exact LeO.none _
      | refine LeO.ite ?_ ?_
      | refine LeO.bind ?_ (fun _ => ?_)
    · intro y0 y1 y2 y3 y4 y5 y6 y7 y8
      unfold bandplanlaw28_ScoreHolds.j7
      repeat' first
      | (with_reducible exact ih0 _ _ _ _ _ _ _)
      | (with_reducible exact ih1 _ _ _ _ _ _ _)
      | (with_reducible exact ih2 _ _ _ _ _ _ _ _)
      | (with_reducible exact ih3 _ _ _ _ _ _ _ _ _ _)
      | (with_reducible exact ih4 _ _ _ _ _)
      | (with_reducible exact ih5 _ _ _ _ _)
      | (with_reducible exact ih6 _ _ _ _ _)
      | (with_reducible exact ih7 _ _ _ _ _ _ _ _ _)
      | (with_reducible exact ih8 _ _ _ _ _ _ _ _ _)
      | (with_reducible exact bandplanlaw28_known.mono _)
      | (with_reducible exact score_Raw.mono _ _ _ _)
      | (with_reducible exact score_Volumes.mono _ _)
      | (with_reducible exact LeO.refl _)
      | (with_reducible exact LeO.none _)
      | (with_reducible refine LeO.ite ?_ ?_)
      | (with_reducible refine LeO.bind ?_ (fun _ => ?_))
      | exact ih0 _ _ _ _ _ _ _
      | exact ih1 _ _ _ _ _ _ _
      | exact ih2 _ _ _ _ _ _ _ _
      | exact ih3 _ _ _ _ _ _ _ _ _ _
      | exact ih4 _ _ _ _ _
      | exact ih5 _ _ _ _ _
      | exact ih6 _ _ _ _ _
      | exact ih7 _ _ _ _ _ _ _ _ _
      | exact ih8 _ _ _ _ _ _ _ _ _
      | exact bandplanlaw28_known.mono _
      | exact score_Raw.mono _ _ _ _
      | exact score_Volumes.mono _ _
      | exact LeO.none _
      | refine LeO.ite ?_ ?_
      | refine LeO.bind ?_ (fun _ => ?_)
    · intro y0 y1 y2 y3 y4 y5 y6 y7 y8
      unfold bandplanlaw28_ScoreHolds.l3
      repeat' first
      | (with_reducible exact ih0 _ _ _ _ _ _ _)
      | (with_reducible exact ih1 _ _ _ _ _ _ _)
      | (with_reducible exact ih2 _ _ _ _ _ _ _ _)
      | (with_reducible exact ih3 _ _ _ _ _ _ _ _ _ _)
      | (with_reducible exact ih4 _ _ _ _ _)
      | (with_reducible exact ih5 _ _ _ _ _)
      | (with_reducible exact ih6 _ _ _ _ _)
      | (with_reducible exact ih7 _ _ _ _ _ _ _ _ _)
      | (with_reducible exact ih8 _ _ _ _ _ _ _ _ _)
      | (with_reducible exact bandplanlaw28_known.mono _)
      | (with_reducible exact score_Raw.mono _ _ _ _)
      | (with_reducible exact score_Volumes.mono _ _)
      | (with_reducible exact LeO.refl _)
      | (with_reducible exact LeO.none _)
      | (with_reducible refine LeO.ite ?_ ?_)
      | (with_reducible refine LeO.bind ?_ (fun _ => ?_))
      | exact ih0 _ _ _ _ _ _ _
      | exact ih1 _ _ _ _ _ _ _
      | exact ih2 _ _ _ _ _ _ _ _
      | exact ih3 _ _ _ _ _ _ _ _ _ _
      | exact ih4 _ _ _ _ _
      | exact ih5 _ _ _ _ _
      | exact ih6 _ _ _ _ _
      | exact ih7 _ _ _ _ _ _ _ _ _
      | exact ih8 _ _ _ _ _ _ _ _ _
      | exact bandplanlaw28_known.mono _
      | exact score_Raw.mono _ _ _ _
      | exact score_Volumes.mono _ _
      | exact LeO.none _
      | refine LeO.ite ?_ ?_
      | refine LeO.bind ?_ (fun _ => ?_)
theorem bandplanlaw28_ScoreHolds.mono : ∀ a0 a1 a2 a3 k, LeO (bandplanlaw28_ScoreHolds.f k a0 a1 a2 a3) (bandplanlaw28_ScoreHolds.f (k + 1) a0 a1 a2 a3) := by
  intro a0 a1 a2 a3 k
  obtain ⟨ih0, ih1, ih2, ih3, ih4, ih5, ih6, ih7, ih8⟩ := bandplanlaw28_ScoreHolds.mono_l k
  unfold bandplanlaw28_ScoreHolds.f
  repeat' first
      | (with_reducible exact ih0 _ _ _ _ _ _ _)
      | (with_reducible exact ih1 _ _ _ _ _ _ _)
      | (with_reducible exact ih2 _ _ _ _ _ _ _ _)
      | (with_reducible exact ih3 _ _ _ _ _ _ _ _ _ _)
      | (with_reducible exact ih4 _ _ _ _ _)
      | (with_reducible exact ih5 _ _ _ _ _)
      | (with_reducible exact ih6 _ _ _ _ _)
      | (with_reducible exact ih7 _ _ _ _ _ _ _ _ _)
      | (with_reducible exact ih8 _ _ _ _ _ _ _ _ _)
      | (with_reducible exact bandplanlaw28_known.mono _)
      | (with_reducible exact score_Raw.mono _ _ _ _)
      | (with_reducible exact score_Volumes.mono _ _)
      | (with_reducible exact LeO.refl _)
      | (with_reducible exact LeO.none _)
      | (with_reducible refine LeO.ite ?_ ?_)
      | (with_reducible refine LeO.bind ?_ (fun _ => ?_))
      | exact ih0 _ _ _ _ _ _ _
      | exact ih1 _ _ _ _ _ _ _
      | exact ih2 _ _ _ _ _ _ _ _
      | exact ih3 _ _ _ _ _ _ _ _ _ _
      | exact ih4 _ _ _ _ _
      | exact ih5 _ _ _ _ _
      | exact ih6 _ _ _ _ _
      | exact ih7 _ _ _ _ _ _ _ _ _
      | exact ih8 _ _ _ _ _ _ _ _ _
      | exact bandplanlaw28_known.mono _
      | exact score_Raw.mono _ _ _ _
      | exact score_Volumes.mono _ _
      | exact LeO.none _
      | refine LeO.ite ?_ ?_
      | refine LeO.bind ?_ (fun _ => ?_)
set_option maxHeartbeats 8000000 in
set_option maxRecDepth 100000 in
theorem bandplanlaw28_ScoreHolds.calls (k : Nat) (A0 : Option Addr) (c0 : Nat) (l0 : List (S40)) (a1 : Int) (a2 : Int) (a3 : Int) (r : Bool) (w : World) (hr0 : Kd.C k40 w A0 l0.length l0) (hc0 : l0.length ≤ c0) (hgl : Laid w) (h : bandplanlaw28_ScoreHolds.f k l0 a1 a2 a3 = some r) :
    Calls Tryd.prog 11 #[.slice A0 l0.length c0, .int .i64 a1, .int .i64 a2, .int .i64 a3] w fun e w' => e = .returned (.bool r) ∧ Below w.heap.size w w' := by
  have hu40 := Tryd.underlying40
  have HGL := Aside0.mk hgl
  clear hgl
  have HR0 := Aside0.mk hr0
  have HC0 := Aside0.mk hc0
  clear hr0 hc0
  have HB := Aside0.mk (Below.refl w.heap.size w)
  have H : (if (l0.length : Int) > 40 then ((bandplanlaw28_known.f k).bind fun t320 => (some t320)) else ((score_Volumes.f k l0).bind fun bt321 => (if bt321.2 = 0 then (bandplanlaw28_ScoreHolds.j0 k l0 a1 a2 a3 bt321.1 bt321.2 ((bt321.1.length : Int) != (l0.length : Int))) else (bandplanlaw28_ScoreHolds.j0 k l0 a1 a2 a3 bt321.1 bt321.2 true)))) = some r := h
  clear h
  by_cases c5 : (l0.length : Int) > 40
  · rw [if_pos c5] at H
    have c5b0 : decide (40 < (l0.length : Int)) = true := decide_eq_true c5
    have c5b1 : decide (40 < l0.length) = true := decide_eq_true (by omega)
    clear c5
    replace H := Option.bind_eq_some_iff.mp H
    obtain ⟨t320, A60, H⟩ := H
    replace H : (some t320) = some r := H
    have A6 := Aside0.mk A60
    clear A60
    as_aux_lemma =>
      obtain rfl := Option.some.inj H
      go_enter Tryd.func11, Tryd.ntmps11
      go_wp2_with (first | (go_at_call 21; (with_reducible refine (bandplanlaw28_known.calls k  t320 _ ?side1 A6.out).mono ?_); (case side1 => exact laid_below HGL.out (by repeat (first | (with_reducible first | exact HB.out | apply below_alloc | apply pw_below_drewN | apply below_drew1) | exact HB.out))); rintro e w7 ⟨rfl, hb⟩; have n0_ := Aside0.mk (below_step (by repeat (first | (with_reducible first | exact HB.out | apply below_alloc | apply pw_below_drewN | apply below_drew1) | exact HB.out)) hb); clear HB; have HB := n0_; clear n0_; (try clear hb); (try clear hb2); (try clear hk); (try clear hi)))
      repeat (go_quiet (first | (go_at_call 21; (with_reducible refine (bandplanlaw28_known.calls k  t320 _ ?side1 A6.out).mono ?_); (case side1 => exact laid_below HGL.out (by repeat (first | (with_reducible first | exact HB.out | apply below_alloc | apply pw_below_drewN | apply below_drew1) | exact HB.out))); rintro e w7 ⟨rfl, hb⟩; have n0_ := Aside0.mk (below_step (by repeat (first | (with_reducible first | exact HB.out | apply below_alloc | apply pw_below_drewN | apply below_drew1) | exact HB.out)) hb); clear HB; have HB := n0_; clear n0_; (try clear hb); (try clear hb2); (try clear hk); (try clear hi))); try go_wp2_with (first | (go_at_call 21; (with_reducible refine (bandplanlaw28_known.calls k  t320 _ ?side1 A6.out).mono ?_); (case side1 => exact laid_below HGL.out (by repeat (first | (with_reducible first | exact HB.out | apply below_alloc | apply pw_below_drewN | apply below_drew1) | exact HB.out))); rintro e w7 ⟨rfl, hb⟩; have n0_ := Aside0.mk (below_step (by repeat (first | (with_reducible first | exact HB.out | apply below_alloc | apply pw_below_drewN | apply below_drew1) | exact HB.out)) hb); clear HB; have HB := n0_; clear n0_; (try clear hb); (try clear hb2); (try clear hk); (try clear hi))))
      go_ret
      exact ⟨by first | rfl | (simp [errW_none, errW_some] <;> rfl) | (simp [*, errW_none, errW_some] <;> rfl), by repeat (first | (with_reducible first | exact HB.out | apply below_alloc | apply pw_below_drewN | apply below_drew1) | exact HB.out)⟩
  · rw [if_neg c5] at H
    have c5b0 : decide (40 < (l0.length : Int)) = false := decide_eq_false c5
    have c5b1 : decide (40 < l0.length) = false := decide_eq_false (by omega)
    clear c5
    replace H := Option.bind_eq_some_iff.mp H
    obtain ⟨⟨t321, t322⟩, A80, H⟩ := H
    replace H : (if t322 = 0 then (bandplanlaw28_ScoreHolds.j0 k l0 a1 a2 a3 t321 t322 ((t321.length : Int) != (l0.length : Int))) else (bandplanlaw28_ScoreHolds.j0 k l0 a1 a2 a3 t321 t322 true)) = some r := H
    have A8 := Aside0.mk A80
    clear A80
    have HC9 := Aside0.mk H
    clear H
    go_enter Tryd.func11, Tryd.ntmps11
    go_upto_region 4 with (first | (go_at_call 25; (with_reducible refine (score_Volumes.calls k _ _ l0 t321 t322 _ ?side1 ?side2 A8.out).mono ?_); (case side1 => repeat (first | exact HR0.out | (with_reducible refine Kd.C_alloc ?_ _) | (with_reducible refine Kd.C_drewN ?_ _) | (with_reducible refine Kd.C_drew ?_))); (case side2 => exact HC0.out); rintro e w10 ⟨v323, rfl, ho0, hb⟩; have n0_ := Aside0.mk (Kd.R_lower ho0 (below_size (by repeat (first | (with_reducible first | exact HB.out | apply below_alloc | apply pw_below_drewN | apply below_drew1) | exact HB.out)))); have n1_ := Aside0.mk (below_step (by repeat (first | (with_reducible first | exact HB.out | apply below_alloc | apply pw_below_drewN | apply below_drew1) | exact HB.out)) hb); clear HB; have HO324 := n0_; have HB := n1_; clear n0_ n1_; (try clear hb); (try clear hb2); (try clear hk); (try clear hi); (try clear ho0)))
    repeat (go_quiet (first | (go_at_call 25; (with_reducible refine (score_Volumes.calls k _ _ l0 t321 t322 _ ?side1 ?side2 A8.out).mono ?_); (case side1 => repeat (first | exact HR0.out | (with_reducible refine Kd.C_alloc ?_ _) | (with_reducible refine Kd.C_drewN ?_ _) | (with_reducible refine Kd.C_drew ?_))); (case side2 => exact HC0.out); rintro e w10 ⟨v323, rfl, ho0, hb⟩; have n0_ := Aside0.mk (Kd.R_lower ho0 (below_size (by repeat (first | (with_reducible first | exact HB.out | apply below_alloc | apply pw_below_drewN | apply below_drew1) | exact HB.out)))); have n1_ := Aside0.mk (below_step (by repeat (first | (with_reducible first | exact HB.out | apply below_alloc | apply pw_below_drewN | apply below_drew1) | exact HB.out)) hb); clear HB; have HO324 := n0_; have HB := n1_; clear n0_ n1_; (try clear hb); (try clear hb2); (try clear hk); (try clear hi); (try clear ho0))); go_upto_region 4 with (first | (go_at_call 25; (with_reducible refine (score_Volumes.calls k _ _ l0 t321 t322 _ ?side1 ?side2 A8.out).mono ?_); (case side1 => repeat (first | exact HR0.out | (with_reducible refine Kd.C_alloc ?_ _) | (with_reducible refine Kd.C_drewN ?_ _) | (with_reducible refine Kd.C_drew ?_))); (case side2 => exact HC0.out); rintro e w10 ⟨v323, rfl, ho0, hb⟩; have n0_ := Aside0.mk (Kd.R_lower ho0 (below_size (by repeat (first | (with_reducible first | exact HB.out | apply below_alloc | apply pw_below_drewN | apply below_drew1) | exact HB.out)))); have n1_ := Aside0.mk (below_step (by repeat (first | (with_reducible first | exact HB.out | apply below_alloc | apply pw_below_drewN | apply below_drew1) | exact HB.out)) hb); clear HB; have HO324 := n0_; have HB := n1_; clear n0_ n1_; (try clear hb); (try clear hb2); (try clear hk); (try clear hi); (try clear ho0))))
    (try simp only [Act.put, List.setIfInBounds_toArray, List.set_cons_zero, List.set_cons_succ])
    go_cut [43] (fun v43 wc => ∃ (kq : Nat) (x43_8 : Bool), v43 = .bool x43_8 ∧ Aside0 (bandplanlaw28_ScoreHolds.j0 kq l0 a1 a2 a3 t321 t322 x43_8 = some r) ∧ Aside0 (kq ≤ k) ∧ Aside0 (Kd.R k52 52 wc w.heap.size (fun _ => True) v323 t321) ∧ Aside0 (Below w.heap.size w wc))
    case first => as_aux_lemma =>
      have H := HC9.out
      clear HC9
      by_cases c11 : t322 = 0
      · rw [if_pos c11] at H
        have c11b0 : (t322 == 0) = true := beq_iff_eq.mpr c11
        have c11b1 : (t322 != 0) = false := bne_eq_false_iff_eq.mpr c11
        clear c11
        (first | rw [c11b0] | (simp only [i64_w, i32_w]; rw [c11b0]) | skip)
        as_aux_lemma =>
          have H' := Aside0.mk H
          clear H
          obtain ⟨Ao12, co12, eo12⟩ := Kd.R_slice HO324.out
          subst eo12
          go_wp2
          repeat (go_quiet (fail); try go_wp2)
          go_meet
          case rel => exact ⟨_, (((t321.length : Int) != (l0.length : Int))), (by first | rfl | (simp; done) | (simp [*]; done)), H', ⟨by first | omega | exact Nat.le_refl _⟩, ⟨by (with_reducible repeat (first | apply Kd.R_alloc | apply Kd.R_drewN | apply Kd.R_drew)); exact HO324.out⟩, ⟨by repeat (first | (with_reducible first | exact HB.out | apply below_alloc | apply pw_below_drewN | apply below_drew1) | exact HB.out)⟩⟩
      · rw [if_neg c11] at H
        have c11b0 : (t322 == 0) = false := beq_eq_false_iff_ne.mpr c11
        have c11b1 : (t322 != 0) = true := bne_iff_ne.mpr c11
        (first | rw [c11b0] | (simp only [i64_w, i32_w]; rw [c11b0]) | skip)
        as_aux_lemma =>
          have H' := Aside0.mk H
          clear H
          go_wp2
          repeat (go_quiet (fail); try go_wp2)
          go_meet
          case rel => exact ⟨_, (true), (by first | rfl | (simp; done) | (simp [*]; done)), H', ⟨by first | omega | exact Nat.le_refl _⟩, ⟨by (with_reducible repeat (first | apply Kd.R_alloc | apply Kd.R_drewN | apply Kd.R_drew)); exact HO324.out⟩, ⟨by repeat (first | (with_reducible first | exact HB.out | apply below_alloc | apply pw_below_drewN | apply below_drew1) | exact HB.out)⟩⟩
    case rest => as_aux_lemma =>
      clear HC9
      try clear c1
      try clear p2
      try clear c5
      try clear c5b0
      try clear c5b1
      try clear c11
      try clear c11b0
      try clear c11b1
      obtain ⟨kq, x43_8, rfl, HA, HJ8, HO_9, HB⟩ := hcut
      cases kq with
      | zero => exact absurd HA.out (by simp [bandplanlaw28_ScoreHolds.j0])
      | succ kj8 =>
        have H := HA.out
        clear HA
        simp only [bandplanlaw28_ScoreHolds.j0] at H
        by_cases c13 : x43_8 = true
        · subst c13
          have H1 : (if t322 = 2 then (if (t321.length : Int) = 0 then ((bandplanlaw28_known.f kj8).bind fun t325 => (some t325)) else (none)) else (none)) = some r := by rw [if_pos rfl] at H; exact H
          clear H
          have H := H1
          clear H1
          by_cases c14 : t322 = 2
          · rw [if_pos c14] at H
            have c14b0 : (t322 == 2) = true := beq_iff_eq.mpr c14
            have c14b1 : (t322 != 2) = false := bne_eq_false_iff_eq.mpr c14
            clear c14
            by_cases c15 : (t321.length : Int) = 0
            · rw [if_pos c15] at H
              have c15b0 : ((t321.length : Int) == 0) = true := beq_iff_eq.mpr c15
              have c15b1 : ((t321.length : Int) != 0) = false := bne_eq_false_iff_eq.mpr c15
              clear c15
              replace H := Option.bind_eq_some_iff.mp H
              obtain ⟨t325, A160, H⟩ := H
              replace H : (some t325) = some r := H
              have A16 := Aside0.mk A160
              clear A160
              as_aux_lemma =>
                obtain rfl := Option.some.inj H
                obtain ⟨Ao17, co17, eo17⟩ := Kd.R_slice HO_9.out
                subst eo17
                go_wp2_with (first | (go_at_call 21; (with_reducible refine (bandplanlaw28_known.calls kj8  t325 _ ?side1 A16.out).mono ?_); (case side1 => exact laid_below HGL.out (by repeat (first | (with_reducible first | exact HB.out | apply below_alloc | apply pw_below_drewN | apply below_drew1) | exact HB.out))); rintro e w18 ⟨rfl, hb⟩; have n0_ := Aside0.mk (Kd.R_below (by (with_reducible repeat (first | apply Kd.R_alloc | apply Kd.R_drewN | apply Kd.R_drew)); exact HO_9.out) hb); have n1_ := Aside0.mk (below_step (by repeat (first | (with_reducible first | exact HB.out | apply below_alloc | apply pw_below_drewN | apply below_drew1) | exact HB.out)) hb); clear HO_9; clear HB; have HO_9 := n0_; have HB := n1_; clear n0_ n1_; (try clear hb); (try clear hb2); (try clear hk); (try clear hi)))
                repeat (go_quiet (first | (go_at_call 21; (with_reducible refine (bandplanlaw28_known.calls kj8  t325 _ ?side1 A16.out).mono ?_); (case side1 => exact laid_below HGL.out (by repeat (first | (with_reducible first | exact HB.out | apply below_alloc | apply pw_below_drewN | apply below_drew1) | exact HB.out))); rintro e w18 ⟨rfl, hb⟩; have n0_ := Aside0.mk (Kd.R_below (by (with_reducible repeat (first | apply Kd.R_alloc | apply Kd.R_drewN | apply Kd.R_drew)); exact HO_9.out) hb); have n1_ := Aside0.mk (below_step (by repeat (first | (with_reducible first | exact HB.out | apply below_alloc | apply pw_below_drewN | apply below_drew1) | exact HB.out)) hb); clear HO_9; clear HB; have HO_9 := n0_; have HB := n1_; clear n0_ n1_; (try clear hb); (try clear hb2); (try clear hk); (try clear hi))); try go_wp2_with (first | (go_at_call 21; (with_reducible refine (bandplanlaw28_known.calls kj8  t325 _ ?side1 A16.out).mono ?_); (case side1 => exact laid_below HGL.out (by repeat (first | (with_reducible first | exact HB.out | apply below_alloc | apply pw_below_drewN | apply below_drew1) | exact HB.out))); rintro e w18 ⟨rfl, hb⟩; have n0_ := Aside0.mk (Kd.R_below (by (with_reducible repeat (first | apply Kd.R_alloc | apply Kd.R_drewN | apply Kd.R_drew)); exact HO_9.out) hb); have n1_ := Aside0.mk (below_step (by repeat (first | (with_reducible first | exact HB.out | apply below_alloc | apply pw_below_drewN | apply below_drew1) | exact HB.out)) hb); clear HO_9; clear HB; have HO_9 := n0_; have HB := n1_; clear n0_ n1_; (try clear hb); (try clear hb2); (try clear hk); (try clear hi))))
                go_ret
                exact ⟨by first | rfl | (simp [errW_none, errW_some] <;> rfl) | (simp [*, errW_none, errW_some] <;> rfl), by repeat (first | (with_reducible first | exact HB.out | apply below_alloc | apply pw_below_drewN | apply below_drew1) | exact HB.out)⟩
            · rw [if_neg c15] at H
              exact absurd H (by simp)
          · rw [if_neg c14] at H
            exact absurd H (by simp)
        · replace c13 := Bool.eq_false_iff.mpr c13
          subst c13
          have H1 : (bandplanlaw28_ScoreHolds.l0 kj8 l0 a1 a2 a3 t321 0 0) = some r := by rw [if_neg (show ¬ (false = true) by decide)] at H; exact H
          clear H
          have H := H1
          clear H1
          have H' := Aside0.mk H
          clear H
          go_wp2
          repeat (go_quiet (fail); try go_wp2)
          go_loopg [11, 12] kj8 (fun kq v11 v12 w' => ∃ (x11_2 : Int) (x12_2 : Int), v11 = .int .i64 x11_2 ∧ v12 = .int .i64 x12_2 ∧ Aside0 (bandplanlaw28_ScoreHolds.l0 kq l0 a1 a2 a3 t321 x11_2 x12_2 = some r) ∧ Aside0 (kq ≤ kj8) ∧ Aside0 (Kd.R k52 52 w' w.heap.size (fun _ => True) v323 t321) ∧ Aside0 (Below w.heap.size w w'))
          case atStart => exact ⟨(0), (0), (by first | rfl | (simp; done) | (simp [*]; done)), (by first | rfl | (simp; done) | (simp [*]; done)), H', ⟨Nat.le_refl _⟩, ⟨by (with_reducible repeat (first | apply Kd.R_alloc | apply Kd.R_drewN | apply Kd.R_drew)); exact HO_9.out⟩, ⟨by repeat (first | (with_reducible first | exact HB.out | apply below_alloc | apply pw_below_drewN | apply below_drew1) | exact HB.out)⟩⟩
          case round => as_aux_lemma =>
            clear H'
            try clear c1
            try clear p2
            try clear c5
            try clear c5b0
            try clear c5b1
            try clear c11
            try clear c11b0
            try clear c11b1
            try clear c13
            try clear c14
            try clear c14b0
            try clear c14b1
            try clear c15
            try clear c15b0
            try clear c15b1
            try clear p2
            obtain ⟨x11_2, x12_2, rfl, rfl, HA, HK2, HO_9, HB⟩ := hrel
            cases gk with
            | zero => exact absurd HA.out (by simp [bandplanlaw28_ScoreHolds.l0])
            | succ k2 =>
              have H := HA.out
              clear HA
              simp only [bandplanlaw28_ScoreHolds.l0] at H
              by_cases c19 : x12_2 < (t321.length : Int)
              · rw [if_pos c19] at H
                have c19b0 : decide (x12_2 < (t321.length : Int)) = true := decide_eq_true c19
                clear c19
                by_cases c20 : 0 ≤ x12_2
                · rw [if_pos c20] at H
                  have c20b0 : decide (0 ≤ x12_2) = true := decide_eq_true c20
                  clear c20
                  obtain ⟨ji21, hji21⟩ : ∃ j_ : Int, (mx x11_2 ((rd_T52 t321 x12_2).f1)) = j_ := ⟨_, rfl⟩
                  replace H : (if ((rd_T52 t321 x12_2).f1) < 1 then (bandplanlaw28_ScoreHolds.j2 k2 l0 a1 a2 a3 t321 ji21 x12_2 true) else (bandplanlaw28_ScoreHolds.j2 k2 l0 a1 a2 a3 t321 ji21 x12_2 (decide (((rd_T52 t321 x12_2).f1) > 1000000)))) = some r := by first | (rw [hji21] at H; exact H) | (simp only [hji21] at H ⊢; exact H)
                  have hji21_ : (if x11_2 < ((rd_T52 t321 x12_2).f1) then ((rd_T52 t321 x12_2).f1) else x11_2) = ji21 := hji21
                  have HC22 := Aside0.mk H
                  clear H
                  obtain ⟨Ao23, co23, eo23⟩ := Kd.R_slice HO_9.out
                  subst eo23
                  have p326 : 0 ≤ (x12_2 : Int) := of_decide_eq_true (by first | (with_reducible assumption) | assumption)
                  have q326 : x12_2 < (t321.length : Int) := of_decide_eq_true (by first | (with_reducible assumption) | assumption)
                  obtain ⟨ad326, e326, hx326_0, hx326_1⟩ := at_T52 (Kd.R_reads' HO_9.out).2.2 x12_2 p326 q326
                  cases e326
                  replace p326 := eq_true p326
                  replace q326 := eq_true q326
                  go_upto_region 11 with (fail)
                  repeat (go_quiet (fail); go_upto_region 11 with (fail))
                  go_cut [80] (fun v80 wc => ∃ (kq : Nat) (x80_21 : Bool), v80 = .bool x80_21 ∧ Aside0 (bandplanlaw28_ScoreHolds.j2 kq l0 a1 a2 a3 t321 ji21 x12_2 x80_21 = some r) ∧ Aside0 (kq ≤ k2) ∧ Aside0 (Kd.R k52 52 wc w.heap.size (fun _ => True) (.slice (some ad326) t321.length co23) t321) ∧ Aside0 (Below w.heap.size w wc))
                  case first => as_aux_lemma =>
                    have H := HC22.out
                    clear HC22
                    by_cases c24 : ((rd_T52 t321 x12_2).f1) < 1
                    · rw [if_pos c24] at H
                      have c24b0 : decide (((rd_T52 t321 x12_2).f1) < 1) = true := decide_eq_true c24
                      clear c24
                      (first | rw [c24b0] | (simp only [i64_w, i32_w]; rw [c24b0]) | skip)
                      as_aux_lemma =>
                        have H' := Aside0.mk H
                        clear H
                        have p327 : 0 ≤ (x12_2 : Int) := of_decide_eq_true (by first | (with_reducible assumption) | assumption)
                        have q327 : x12_2 < (t321.length : Int) := of_decide_eq_true (by first | (with_reducible assumption) | assumption)
                        obtain ⟨ad327, e327, hx327_0, hx327_1⟩ := at_T52 (Kd.R_reads' HO_9.out).2.2 x12_2 p327 q327
                        obtain rfl : ad326 = ad327 := (by injection e327)
                        replace p327 := eq_true p327
                        replace q327 := eq_true q327
                        go_wp2
                        repeat (go_quiet (fail); try go_wp2)
                        go_meet
                        case rel => exact ⟨_, (true), (by first | rfl | (simp; done) | (simp [*]; done)), H', ⟨by have := HJ8.out; have := HK2.out; first | omega | exact Nat.le_refl _⟩, ⟨by (with_reducible repeat (first | apply Kd.R_alloc | apply Kd.R_drewN | apply Kd.R_drew)); exact HO_9.out⟩, ⟨by repeat (first | (with_reducible first | exact HB.out | apply below_alloc | apply pw_below_drewN | apply below_drew1) | exact HB.out)⟩⟩
                    · rw [if_neg c24] at H
                      have c24b0 : decide (((rd_T52 t321 x12_2).f1) < 1) = false := decide_eq_false c24
                      clear c24
                      (first | rw [c24b0] | (simp only [i64_w, i32_w]; rw [c24b0]) | skip)
                      as_aux_lemma =>
                        have H' := Aside0.mk H
                        clear H
                        have p327 : 0 ≤ (x12_2 : Int) := of_decide_eq_true (by first | (with_reducible assumption) | assumption)
                        have q327 : x12_2 < (t321.length : Int) := of_decide_eq_true (by first | (with_reducible assumption) | assumption)
                        obtain ⟨ad327, e327, hx327_0, hx327_1⟩ := at_T52 (Kd.R_reads' HO_9.out).2.2 x12_2 p327 q327
                        obtain rfl : ad326 = ad327 := (by injection e327)
                        replace p327 := eq_true p327
                        replace q327 := eq_true q327
                        have p328 : 0 ≤ (x12_2 : Int) := of_decide_eq_true (by first | (with_reducible assumption) | assumption)
                        have q328 : x12_2 < (t321.length : Int) := of_decide_eq_true (by first | (with_reducible assumption) | assumption)
                        obtain ⟨ad328, e328, hx328_0, hx328_1⟩ := at_T52 (Kd.R_reads' HO_9.out).2.2 x12_2 p328 q328
                        obtain rfl : ad326 = ad328 := (by injection e328)
                        replace p328 := eq_true p328
                        replace q328 := eq_true q328
                        go_wp2
                        repeat (go_quiet (fail); try go_wp2)
                        go_meet
                        case rel => exact ⟨_, (decide (((rd_T52 t321 x12_2).f1) > 1000000)), (by first | rfl | (simp; done) | (simp [*]; done)), H', ⟨by have := HJ8.out; have := HK2.out; first | omega | exact Nat.le_refl _⟩, ⟨by (with_reducible repeat (first | apply Kd.R_alloc | apply Kd.R_drewN | apply Kd.R_drew)); exact HO_9.out⟩, ⟨by repeat (first | (with_reducible first | exact HB.out | apply below_alloc | apply pw_below_drewN | apply below_drew1) | exact HB.out)⟩⟩
                  case rest => as_aux_lemma =>
                    clear HC22
                    try clear c1
                    try clear c2
                    try clear p2
                    try clear p3
                    try clear q3
                    try clear hx3
                    try clear c5
                    try clear c5b0
                    try clear c5b1
                    try clear c11
                    try clear c11b0
                    try clear c11b1
                    try clear c13
                    try clear c14
                    try clear c14b0
                    try clear c14b1
                    try clear c15
                    try clear c15b0
                    try clear c15b1
                    try clear c19
                    try clear c19b0
                    try clear c20
                    try clear c20b0
                    try clear c24
                    try clear c24b0
                    try clear hx326_0
                    try clear hx326_1
                    try clear hx327_0
                    try clear hx327_1
                    try clear hx328_0
                    try clear hx328_1
                    try clear p2
                    try clear p326
                    try clear p327
                    try clear p328
                    try clear q326
                    try clear q327
                    try clear q328
                    obtain ⟨kq, x80_21, rfl, HA, HJ21, HO_9, HB⟩ := hcut
                    cases kq with
                    | zero => exact absurd HA.out (by simp [bandplanlaw28_ScoreHolds.j2])
                    | succ kj21 =>
                      have H := HA.out
                      clear HA
                      simp only [bandplanlaw28_ScoreHolds.j2] at H
                      by_cases c25 : x80_21 = true
                      · subst c25
                        have H1 : (none) = some r := by rw [if_pos rfl] at H; exact H
                        clear H
                        have H := H1
                        clear H1
                        exact absurd H (by simp)
                      · replace c25 := Bool.eq_false_iff.mpr c25
                        subst c25
                        have H1 : (if 0 ≤ x12_2 then (if x12_2 < (l0.length : Int) then ((score_Raw.f kj21 ((rd_T40 l0 x12_2).f0) ((rd_T40 l0 x12_2).f1) ((rd_T40 l0 x12_2).f2)).bind fun bt330 => (bandplanlaw28_ScoreHolds.l1 kj21 l0 a1 a2 a3 t321 ji21 x12_2 bt330.1 bt330.2 0)) else (none)) else (none)) = some r := by rw [if_neg (show ¬ (false = true) by decide)] at H; exact H
                        clear H
                        have H := H1
                        clear H1
                        by_cases c26 : 0 ≤ x12_2
                        · rw [if_pos c26] at H
                          have c26b0 : decide (0 ≤ x12_2) = true := decide_eq_true c26
                          clear c26
                          by_cases c27 : x12_2 < (l0.length : Int)
                          · rw [if_pos c27] at H
                            have c27b0 : decide (x12_2 < (l0.length : Int)) = true := decide_eq_true c27
                            clear c27
                            replace H := Option.bind_eq_some_iff.mp H
                            obtain ⟨⟨t330, t331⟩, A280, H⟩ := H
                            replace H : (bandplanlaw28_ScoreHolds.l1 kj21 l0 a1 a2 a3 t321 ji21 x12_2 t330 t331 0) = some r := H
                            have A28 := Aside0.mk A280
                            clear A280
                            have H' := Aside0.mk H
                            clear H
                            have p329 : 0 ≤ (x12_2 : Int) := of_decide_eq_true (by first | (with_reducible assumption) | assumption)
                            have q329 : x12_2 < (l0.length : Int) := of_decide_eq_true (by first | (with_reducible assumption) | assumption)
                            obtain ⟨ad329, e329, hx329_0, hx329_1, hx329_2⟩ := at_T40 HR0.out x12_2 p329 q329
                            cases e329
                            replace hx329_0 := (HB.out.cell (World.block_lt_of_cell? w _ hx329_0)).trans hx329_0
                            replace hx329_1 := (HB.out.cell (World.block_lt_of_cell? w _ hx329_1)).trans hx329_1
                            replace hx329_2 := (HB.out.cell (World.block_lt_of_cell? w _ hx329_2)).trans hx329_2
                            replace p329 := eq_true p329
                            replace q329 := eq_true q329
                            go_wp2_with (first | (go_at_call 23; (with_reducible refine (score_Raw.calls kj21 ((rd_T40 l0 x12_2).f0) ((rd_T40 l0 x12_2).f1) ((rd_T40 l0 x12_2).f2) t330 t331 _ A28.out).mono ?_); rintro e w29 ⟨rfl, hb⟩; have n0_ := Aside0.mk (Kd.R_below (by (with_reducible repeat (first | apply Kd.R_alloc | apply Kd.R_drewN | apply Kd.R_drew)); exact HO_9.out) hb); have n1_ := Aside0.mk (below_step (by repeat (first | (with_reducible first | exact HB.out | apply below_alloc | apply pw_below_drewN | apply below_drew1) | exact HB.out)) hb); clear HO_9; clear HB; have HO_9 := n0_; have HB := n1_; clear n0_ n1_; (try clear hb); (try clear hb2); (try clear hk); (try clear hi)))
                            repeat (go_quiet (first | (go_at_call 23; (with_reducible refine (score_Raw.calls kj21 ((rd_T40 l0 x12_2).f0) ((rd_T40 l0 x12_2).f1) ((rd_T40 l0 x12_2).f2) t330 t331 _ A28.out).mono ?_); rintro e w29 ⟨rfl, hb⟩; have n0_ := Aside0.mk (Kd.R_below (by (with_reducible repeat (first | apply Kd.R_alloc | apply Kd.R_drewN | apply Kd.R_drew)); exact HO_9.out) hb); have n1_ := Aside0.mk (below_step (by repeat (first | (with_reducible first | exact HB.out | apply below_alloc | apply pw_below_drewN | apply below_drew1) | exact HB.out)) hb); clear HO_9; clear HB; have HO_9 := n0_; have HB := n1_; clear n0_ n1_; (try clear hb); (try clear hb2); (try clear hk); (try clear hi))); try go_wp2_with (first | (go_at_call 23; (with_reducible refine (score_Raw.calls kj21 ((rd_T40 l0 x12_2).f0) ((rd_T40 l0 x12_2).f1) ((rd_T40 l0 x12_2).f2) t330 t331 _ A28.out).mono ?_); rintro e w29 ⟨rfl, hb⟩; have n0_ := Aside0.mk (Kd.R_below (by (with_reducible repeat (first | apply Kd.R_alloc | apply Kd.R_drewN | apply Kd.R_drew)); exact HO_9.out) hb); have n1_ := Aside0.mk (below_step (by repeat (first | (with_reducible first | exact HB.out | apply below_alloc | apply pw_below_drewN | apply below_drew1) | exact HB.out)) hb); clear HO_9; clear HB; have HO_9 := n0_; have HB := n1_; clear n0_ n1_; (try clear hb); (try clear hb2); (try clear hk); (try clear hi))))
                            go_loopg [15] kj21 (fun kq v15 w' => ∃ (x15_4 : Int), v15 = .int .i64 x15_4 ∧ Aside0 (bandplanlaw28_ScoreHolds.l1 kq l0 a1 a2 a3 t321 ji21 x12_2 t330 t331 x15_4 = some r) ∧ Aside0 (kq ≤ kj21) ∧ Aside0 (Kd.R k52 52 w' w.heap.size (fun _ => True) (.slice (some ad326) t321.length co23) t321) ∧ Aside0 (Below w.heap.size w w'))
                            case atStart => exact ⟨(0), (by first | rfl | (simp; done) | (simp [*]; done)), H', ⟨Nat.le_refl _⟩, ⟨by (with_reducible repeat (first | apply Kd.R_alloc | apply Kd.R_drewN | apply Kd.R_drew)); exact HO_9.out⟩, ⟨by repeat (first | (with_reducible first | exact HB.out | apply below_alloc | apply pw_below_drewN | apply below_drew1) | exact HB.out)⟩⟩
                            case round => as_aux_lemma =>
                              clear H'
                              try clear c1
                              try clear c2
                              try clear p2
                              try clear p3
                              try clear q3
                              try clear hx3
                              try clear c5
                              try clear c5b0
                              try clear c5b1
                              try clear c11
                              try clear c11b0
                              try clear c11b1
                              try clear c13
                              try clear c14
                              try clear c14b0
                              try clear c14b1
                              try clear c15
                              try clear c15b0
                              try clear c15b1
                              try clear c19
                              try clear c19b0
                              try clear c20
                              try clear c20b0
                              try clear c24
                              try clear c24b0
                              try clear c25
                              try clear c26
                              try clear c26b0
                              try clear c27
                              try clear c27b0
                              try clear hx326_0
                              try clear hx326_1
                              try clear hx327_0
                              try clear hx327_1
                              try clear hx328_0
                              try clear hx328_1
                              try clear hx329_0
                              try clear hx329_1
                              try clear hx329_2
                              try clear p2
                              try clear p3
                              try clear p326
                              try clear p327
                              try clear p328
                              try clear p329
                              try clear q3
                              try clear q326
                              try clear q327
                              try clear q328
                              try clear q329
                              obtain ⟨x15_4, rfl, HA, HK4, HO_9, HB⟩ := hrel
                              cases gk with
                              | zero => exact absurd HA.out (by simp [bandplanlaw28_ScoreHolds.l1])
                              | succ k4 =>
                                have H := HA.out
                                clear HA
                                simp only [bandplanlaw28_ScoreHolds.l1] at H
                                by_cases c30 : x15_4 < (t321.length : Int)
                                · rw [if_pos c30] at H
                                  have c30b0 : decide (x15_4 < (t321.length : Int)) = true := decide_eq_true c30
                                  clear c30
                                  by_cases c31 : 0 ≤ x15_4
                                  · rw [if_pos c31] at H
                                    have c31b0 : decide (0 ≤ x15_4) = true := decide_eq_true c31
                                    clear c31
                                    by_cases c32 : x15_4 < (l0.length : Int)
                                    · rw [if_pos c32] at H
                                      have c32b0 : decide (x15_4 < (l0.length : Int)) = true := decide_eq_true c32
                                      clear c32
                                      replace H := Option.bind_eq_some_iff.mp H
                                      obtain ⟨⟨t333, t334⟩, A330, H⟩ := H
                                      replace H : (if t331 = 0 then (if t334 = 0 then (if t330 > t333 then (if 0 ≤ x12_2 then (if x12_2 < (t321.length : Int) then (if ((rd_T52 t321 x12_2).f1) < ((rd_T52 t321 x15_4).f1) then (none) else (if t330 = t333 then (if ((rd_T52 t321 x12_2).f1) = ((rd_T52 t321 x15_4).f1) then (bandplanlaw28_ScoreHolds.l1 k4 l0 a1 a2 a3 t321 ji21 x12_2 t330 t331 (wrap64 (x15_4 + 1))) else (none)) else (bandplanlaw28_ScoreHolds.l1 k4 l0 a1 a2 a3 t321 ji21 x12_2 t330 t331 (wrap64 (x15_4 + 1))))) else (none)) else (none)) else (if t330 = t333 then (if 0 ≤ x12_2 then (if x12_2 < (t321.length : Int) then (if ((rd_T52 t321 x12_2).f1) = ((rd_T52 t321 x15_4).f1) then (bandplanlaw28_ScoreHolds.l1 k4 l0 a1 a2 a3 t321 ji21 x12_2 t330 t331 (wrap64 (x15_4 + 1))) else (none)) else (none)) else (none)) else (bandplanlaw28_ScoreHolds.l1 k4 l0 a1 a2 a3 t321 ji21 x12_2 t330 t331 (wrap64 (x15_4 + 1))))) else (none)) else (none)) = some r := H
                                      have A33 := Aside0.mk A330
                                      clear A330
                                      by_cases c34 : t331 = 0
                                      · rw [if_pos c34] at H
                                        have c34b0 : (t331 == 0) = true := beq_iff_eq.mpr c34
                                        have c34b1 : (t331 != 0) = false := bne_eq_false_iff_eq.mpr c34
                                        clear c34
                                        by_cases c35 : t334 = 0
                                        · rw [if_pos c35] at H
                                          have c35b0 : (t334 == 0) = true := beq_iff_eq.mpr c35
                                          have c35b1 : (t334 != 0) = false := bne_eq_false_iff_eq.mpr c35
                                          clear c35
                                          by_cases c36 : t330 > t333
                                          · rw [if_pos c36] at H
                                            have c36b0 : decide (t333 < t330) = true := decide_eq_true c36
                                            clear c36
                                            by_cases c37 : 0 ≤ x12_2
                                            · rw [if_pos c37] at H
                                              have c37b0 : decide (0 ≤ x12_2) = true := decide_eq_true c37
                                              clear c37
                                              by_cases c38 : x12_2 < (t321.length : Int)
                                              · rw [if_pos c38] at H
                                                have c38b0 : decide (x12_2 < (t321.length : Int)) = true := decide_eq_true c38
                                                clear c38
                                                by_cases c39 : ((rd_T52 t321 x12_2).f1) < ((rd_T52 t321 x15_4).f1)
                                                · rw [if_pos c39] at H
                                                  exact absurd H (by simp)
                                                · rw [if_neg c39] at H
                                                  have c39b0 : decide (((rd_T52 t321 x12_2).f1) < ((rd_T52 t321 x15_4).f1)) = false := decide_eq_false c39
                                                  clear c39
                                                  by_cases c40 : t330 = t333
                                                  · rw [if_pos c40] at H
                                                    have c40b0 : (t330 == t333) = true := beq_iff_eq.mpr c40
                                                    have c40b1 : (t330 != t333) = false := bne_eq_false_iff_eq.mpr c40
                                                    clear c40
                                                    by_cases c41 : ((rd_T52 t321 x12_2).f1) = ((rd_T52 t321 x15_4).f1)
                                                    · rw [if_pos c41] at H
                                                      have c41b0 : (((rd_T52 t321 x12_2).f1) == ((rd_T52 t321 x15_4).f1)) = true := beq_iff_eq.mpr c41
                                                      have c41b1 : (((rd_T52 t321 x12_2).f1) != ((rd_T52 t321 x15_4).f1)) = false := bne_eq_false_iff_eq.mpr c41
                                                      clear c41
                                                      as_aux_lemma =>
                                                        have H' := Aside0.mk H
                                                        clear H
                                                        have p332 : 0 ≤ (x15_4 : Int) := of_decide_eq_true (by first | (with_reducible assumption) | assumption)
                                                        have q332 : x15_4 < (l0.length : Int) := of_decide_eq_true (by first | (with_reducible assumption) | assumption)
                                                        obtain ⟨ad332, e332, hx332_0, hx332_1, hx332_2⟩ := at_T40 HR0.out x15_4 p332 q332
                                                        obtain rfl : ad329 = ad332 := (by injection e332)
                                                        replace hx332_0 := (HB.out.cell (World.block_lt_of_cell? w _ hx332_0)).trans hx332_0
                                                        replace hx332_1 := (HB.out.cell (World.block_lt_of_cell? w _ hx332_1)).trans hx332_1
                                                        replace hx332_2 := (HB.out.cell (World.block_lt_of_cell? w _ hx332_2)).trans hx332_2
                                                        replace p332 := eq_true p332
                                                        replace q332 := eq_true q332
                                                        go_wp2_with (first | (go_at_call 23; (with_reducible refine (score_Raw.calls k4 ((rd_T40 l0 x15_4).f0) ((rd_T40 l0 x15_4).f1) ((rd_T40 l0 x15_4).f2) t333 t334 _ A33.out).mono ?_); rintro e w42 ⟨rfl, hb⟩; have n0_ := Aside0.mk (Kd.R_below (by (with_reducible repeat (first | apply Kd.R_alloc | apply Kd.R_drewN | apply Kd.R_drew)); exact HO_9.out) hb); have n1_ := Aside0.mk (below_step (by repeat (first | (with_reducible first | exact HB.out | apply below_alloc | apply pw_below_drewN | apply below_drew1) | exact HB.out)) hb); clear HO_9; clear HB; have HO_9 := n0_; have HB := n1_; clear n0_ n1_; (try clear hb); (try clear hb2); (try clear hk); (try clear hi); have p335 : 0 ≤ (x12_2 : Int) := of_decide_eq_true (by first | (with_reducible assumption) | assumption); have q335 : x12_2 < (t321.length : Int) := of_decide_eq_true (by first | (with_reducible assumption) | assumption); obtain ⟨ad335, e335, hx335_0, hx335_1⟩ := at_T52 (Kd.R_reads' HO_9.out).2.2 x12_2 p335 q335; obtain rfl : ad326 = ad335 := (by injection e335); replace p335 := eq_true p335; replace q335 := eq_true q335; have p336 : 0 ≤ (x15_4 : Int) := of_decide_eq_true (by first | (with_reducible assumption) | assumption); have q336 : x15_4 < (t321.length : Int) := of_decide_eq_true (by first | (with_reducible assumption) | assumption); obtain ⟨ad336, e336, hx336_0, hx336_1⟩ := at_T52 (Kd.R_reads' HO_9.out).2.2 x15_4 p336 q336; obtain rfl : ad326 = ad336 := (by injection e336); replace p336 := eq_true p336; replace q336 := eq_true q336; have p337 : 0 ≤ (x12_2 : Int) := of_decide_eq_true (by first | (with_reducible assumption) | assumption); have q337 : x12_2 < (t321.length : Int) := of_decide_eq_true (by first | (with_reducible assumption) | assumption); obtain ⟨ad337, e337, hx337_0, hx337_1⟩ := at_T52 (Kd.R_reads' HO_9.out).2.2 x12_2 p337 q337; obtain rfl : ad326 = ad337 := (by injection e337); replace p337 := eq_true p337; replace q337 := eq_true q337; have p338 : 0 ≤ (x15_4 : Int) := of_decide_eq_true (by first | (with_reducible assumption) | assumption); have q338 : x15_4 < (t321.length : Int) := of_decide_eq_true (by first | (with_reducible assumption) | assumption); obtain ⟨ad338, e338, hx338_0, hx338_1⟩ := at_T52 (Kd.R_reads' HO_9.out).2.2 x15_4 p338 q338; obtain rfl : ad326 = ad338 := (by injection e338); replace p338 := eq_true p338; replace q338 := eq_true q338))
                                                        repeat (go_quiet (first | (go_at_call 23; (with_reducible refine (score_Raw.calls k4 ((rd_T40 l0 x15_4).f0) ((rd_T40 l0 x15_4).f1) ((rd_T40 l0 x15_4).f2) t333 t334 _ A33.out).mono ?_); rintro e w42 ⟨rfl, hb⟩; have n0_ := Aside0.mk (Kd.R_below (by (with_reducible repeat (first | apply Kd.R_alloc | apply Kd.R_drewN | apply Kd.R_drew)); exact HO_9.out) hb); have n1_ := Aside0.mk (below_step (by repeat (first | (with_reducible first | exact HB.out | apply below_alloc | apply pw_below_drewN | apply below_drew1) | exact HB.out)) hb); clear HO_9; clear HB; have HO_9 := n0_; have HB := n1_; clear n0_ n1_; (try clear hb); (try clear hb2); (try clear hk); (try clear hi); have p335 : 0 ≤ (x12_2 : Int) := of_decide_eq_true (by first | (with_reducible assumption) | assumption); have q335 : x12_2 < (t321.length : Int) := of_decide_eq_true (by first | (with_reducible assumption) | assumption); obtain ⟨ad335, e335, hx335_0, hx335_1⟩ := at_T52 (Kd.R_reads' HO_9.out).2.2 x12_2 p335 q335; obtain rfl : ad326 = ad335 := (by injection e335); replace p335 := eq_true p335; replace q335 := eq_true q335; have p336 : 0 ≤ (x15_4 : Int) := of_decide_eq_true (by first | (with_reducible assumption) | assumption); have q336 : x15_4 < (t321.length : Int) := of_decide_eq_true (by first | (with_reducible assumption) | assumption); obtain ⟨ad336, e336, hx336_0, hx336_1⟩ := at_T52 (Kd.R_reads' HO_9.out).2.2 x15_4 p336 q336; obtain rfl : ad326 = ad336 := (by injection e336); replace p336 := eq_true p336; replace q336 := eq_true q336; have p337 : 0 ≤ (x12_2 : Int) := of_decide_eq_true (by first | (with_reducible assumption) | assumption); have q337 : x12_2 < (t321.length : Int) := of_decide_eq_true (by first | (with_reducible assumption) | assumption); obtain ⟨ad337, e337, hx337_0, hx337_1⟩ := at_T52 (Kd.R_reads' HO_9.out).2.2 x12_2 p337 q337; obtain rfl : ad326 = ad337 := (by injection e337); replace p337 := eq_true p337; replace q337 := eq_true q337; have p338 : 0 ≤ (x15_4 : Int) := of_decide_eq_true (by first | (with_reducible assumption) | assumption); have q338 : x15_4 < (t321.length : Int) := of_decide_eq_true (by first | (with_reducible assumption) | assumption); obtain ⟨ad338, e338, hx338_0, hx338_1⟩ := at_T52 (Kd.R_reads' HO_9.out).2.2 x15_4 p338 q338; obtain rfl : ad326 = ad338 := (by injection e338); replace p338 := eq_true p338; replace q338 := eq_true q338)); try go_wp2_with (first | (go_at_call 23; (with_reducible refine (score_Raw.calls k4 ((rd_T40 l0 x15_4).f0) ((rd_T40 l0 x15_4).f1) ((rd_T40 l0 x15_4).f2) t333 t334 _ A33.out).mono ?_); rintro e w42 ⟨rfl, hb⟩; have n0_ := Aside0.mk (Kd.R_below (by (with_reducible repeat (first | apply Kd.R_alloc | apply Kd.R_drewN | apply Kd.R_drew)); exact HO_9.out) hb); have n1_ := Aside0.mk (below_step (by repeat (first | (with_reducible first | exact HB.out | apply below_alloc | apply pw_below_drewN | apply below_drew1) | exact HB.out)) hb); clear HO_9; clear HB; have HO_9 := n0_; have HB := n1_; clear n0_ n1_; (try clear hb); (try clear hb2); (try clear hk); (try clear hi); have p335 : 0 ≤ (x12_2 : Int) := of_decide_eq_true (by first | (with_reducible assumption) | assumption); have q335 : x12_2 < (t321.length : Int) := of_decide_eq_true (by first | (with_reducible assumption) | assumption); obtain ⟨ad335, e335, hx335_0, hx335_1⟩ := at_T52 (Kd.R_reads' HO_9.out).2.2 x12_2 p335 q335; obtain rfl : ad326 = ad335 := (by injection e335); replace p335 := eq_true p335; replace q335 := eq_true q335; have p336 : 0 ≤ (x15_4 : Int) := of_decide_eq_true (by first | (with_reducible assumption) | assumption); have q336 : x15_4 < (t321.length : Int) := of_decide_eq_true (by first | (with_reducible assumption) | assumption); obtain ⟨ad336, e336, hx336_0, hx336_1⟩ := at_T52 (Kd.R_reads' HO_9.out).2.2 x15_4 p336 q336; obtain rfl : ad326 = ad336 := (by injection e336); replace p336 := eq_true p336; replace q336 := eq_true q336; have p337 : 0 ≤ (x12_2 : Int) := of_decide_eq_true (by first | (with_reducible assumption) | assumption); have q337 : x12_2 < (t321.length : Int) := of_decide_eq_true (by first | (with_reducible assumption) | assumption); obtain ⟨ad337, e337, hx337_0, hx337_1⟩ := at_T52 (Kd.R_reads' HO_9.out).2.2 x12_2 p337 q337; obtain rfl : ad326 = ad337 := (by injection e337); replace p337 := eq_true p337; replace q337 := eq_true q337; have p338 : 0 ≤ (x15_4 : Int) := of_decide_eq_true (by first | (with_reducible assumption) | assumption); have q338 : x15_4 < (t321.length : Int) := of_decide_eq_true (by first | (with_reducible assumption) | assumption); obtain ⟨ad338, e338, hx338_0, hx338_1⟩ := at_T52 (Kd.R_reads' HO_9.out).2.2 x15_4 p338 q338; obtain rfl : ad326 = ad338 := (by injection e338); replace p338 := eq_true p338; replace q338 := eq_true q338)))
                                                        go_roundg k4
                                                        case measure => have := HJ8.out; have := HK2.out; have := HJ21.out; have := HK4.out; omega
                                                        case rel => exact ⟨(wrap64 (x15_4 + 1)), (by first | rfl | (simp; done) | (simp [*]; done)), H', ⟨by have := HJ8.out; have := HK2.out; have := HJ21.out; have := HK4.out; omega⟩, ⟨by (with_reducible repeat (first | apply Kd.R_alloc | apply Kd.R_drewN | apply Kd.R_drew)); exact HO_9.out⟩, ⟨by repeat (first | (with_reducible first | exact HB.out | apply below_alloc | apply pw_below_drewN | apply below_drew1) | exact HB.out)⟩⟩
                                                    · rw [if_neg c41] at H
                                                      exact absurd H (by simp)
                                                  · rw [if_neg c40] at H
                                                    have c40b0 : (t330 == t333) = false := beq_eq_false_iff_ne.mpr c40
                                                    have c40b1 : (t330 != t333) = true := bne_iff_ne.mpr c40
                                                    as_aux_lemma =>
                                                      have H' := Aside0.mk H
                                                      clear H
                                                      have p332 : 0 ≤ (x15_4 : Int) := of_decide_eq_true (by first | (with_reducible assumption) | assumption)
                                                      have q332 : x15_4 < (l0.length : Int) := of_decide_eq_true (by first | (with_reducible assumption) | assumption)
                                                      obtain ⟨ad332, e332, hx332_0, hx332_1, hx332_2⟩ := at_T40 HR0.out x15_4 p332 q332
                                                      obtain rfl : ad329 = ad332 := (by injection e332)
                                                      replace hx332_0 := (HB.out.cell (World.block_lt_of_cell? w _ hx332_0)).trans hx332_0
                                                      replace hx332_1 := (HB.out.cell (World.block_lt_of_cell? w _ hx332_1)).trans hx332_1
                                                      replace hx332_2 := (HB.out.cell (World.block_lt_of_cell? w _ hx332_2)).trans hx332_2
                                                      replace p332 := eq_true p332
                                                      replace q332 := eq_true q332
                                                      go_wp2_with (first | (go_at_call 23; (with_reducible refine (score_Raw.calls k4 ((rd_T40 l0 x15_4).f0) ((rd_T40 l0 x15_4).f1) ((rd_T40 l0 x15_4).f2) t333 t334 _ A33.out).mono ?_); rintro e w43 ⟨rfl, hb⟩; have n0_ := Aside0.mk (Kd.R_below (by (with_reducible repeat (first | apply Kd.R_alloc | apply Kd.R_drewN | apply Kd.R_drew)); exact HO_9.out) hb); have n1_ := Aside0.mk (below_step (by repeat (first | (with_reducible first | exact HB.out | apply below_alloc | apply pw_below_drewN | apply below_drew1) | exact HB.out)) hb); clear HO_9; clear HB; have HO_9 := n0_; have HB := n1_; clear n0_ n1_; (try clear hb); (try clear hb2); (try clear hk); (try clear hi); have p335 : 0 ≤ (x12_2 : Int) := of_decide_eq_true (by first | (with_reducible assumption) | assumption); have q335 : x12_2 < (t321.length : Int) := of_decide_eq_true (by first | (with_reducible assumption) | assumption); obtain ⟨ad335, e335, hx335_0, hx335_1⟩ := at_T52 (Kd.R_reads' HO_9.out).2.2 x12_2 p335 q335; obtain rfl : ad326 = ad335 := (by injection e335); replace p335 := eq_true p335; replace q335 := eq_true q335; have p336 : 0 ≤ (x15_4 : Int) := of_decide_eq_true (by first | (with_reducible assumption) | assumption); have q336 : x15_4 < (t321.length : Int) := of_decide_eq_true (by first | (with_reducible assumption) | assumption); obtain ⟨ad336, e336, hx336_0, hx336_1⟩ := at_T52 (Kd.R_reads' HO_9.out).2.2 x15_4 p336 q336; obtain rfl : ad326 = ad336 := (by injection e336); replace p336 := eq_true p336; replace q336 := eq_true q336))
                                                      repeat (go_quiet (first | (go_at_call 23; (with_reducible refine (score_Raw.calls k4 ((rd_T40 l0 x15_4).f0) ((rd_T40 l0 x15_4).f1) ((rd_T40 l0 x15_4).f2) t333 t334 _ A33.out).mono ?_); rintro e w43 ⟨rfl, hb⟩; have n0_ := Aside0.mk (Kd.R_below (by (with_reducible repeat (first | apply Kd.R_alloc | apply Kd.R_drewN | apply Kd.R_drew)); exact HO_9.out) hb); have n1_ := Aside0.mk (below_step (by repeat (first | (with_reducible first | exact HB.out | apply below_alloc | apply pw_below_drewN | apply below_drew1) | exact HB.out)) hb); clear HO_9; clear HB; have HO_9 := n0_; have HB := n1_; clear n0_ n1_; (try clear hb); (try clear hb2); (try clear hk); (try clear hi); have p335 : 0 ≤ (x12_2 : Int) := of_decide_eq_true (by first | (with_reducible assumption) | assumption); have q335 : x12_2 < (t321.length : Int) := of_decide_eq_true (by first | (with_reducible assumption) | assumption); obtain ⟨ad335, e335, hx335_0, hx335_1⟩ := at_T52 (Kd.R_reads' HO_9.out).2.2 x12_2 p335 q335; obtain rfl : ad326 = ad335 := (by injection e335); replace p335 := eq_true p335; replace q335 := eq_true q335; have p336 : 0 ≤ (x15_4 : Int) := of_decide_eq_true (by first | (with_reducible assumption) | assumption); have q336 : x15_4 < (t321.length : Int) := of_decide_eq_true (by first | (with_reducible assumption) | assumption); obtain ⟨ad336, e336, hx336_0, hx336_1⟩ := at_T52 (Kd.R_reads' HO_9.out).2.2 x15_4 p336 q336; obtain rfl : ad326 = ad336 := (by injection e336); replace p336 := eq_true p336; replace q336 := eq_true q336)); try go_wp2_with (first | (go_at_call 23; (with_reducible refine (score_Raw.calls k4 ((rd_T40 l0 x15_4).f0) ((rd_T40 l0 x15_4).f1) ((rd_T40 l0 x15_4).f2) t333 t334 _ A33.out).mono ?_); rintro e w43 ⟨rfl, hb⟩; have n0_ := Aside0.mk (Kd.R_below (by (with_reducible repeat (first | apply Kd.R_alloc | apply Kd.R_drewN | apply Kd.R_drew)); exact HO_9.out) hb); have n1_ := Aside0.mk (below_step (by repeat (first | (with_reducible first | exact HB.out | apply below_alloc | apply pw_below_drewN | apply below_drew1) | exact HB.out)) hb); clear HO_9; clear HB; have HO_9 := n0_; have HB := n1_; clear n0_ n1_; (try clear hb); (try clear hb2); (try clear hk); (try clear hi); have p335 : 0 ≤ (x12_2 : Int) := of_decide_eq_true (by first | (with_reducible assumption) | assumption); have q335 : x12_2 < (t321.length : Int) := of_decide_eq_true (by first | (with_reducible assumption) | assumption); obtain ⟨ad335, e335, hx335_0, hx335_1⟩ := at_T52 (Kd.R_reads' HO_9.out).2.2 x12_2 p335 q335; obtain rfl : ad326 = ad335 := (by injection e335); replace p335 := eq_true p335; replace q335 := eq_true q335; have p336 : 0 ≤ (x15_4 : Int) := of_decide_eq_true (by first | (with_reducible assumption) | assumption); have q336 : x15_4 < (t321.length : Int) := of_decide_eq_true (by first | (with_reducible assumption) | assumption); obtain ⟨ad336, e336, hx336_0, hx336_1⟩ := at_T52 (Kd.R_reads' HO_9.out).2.2 x15_4 p336 q336; obtain rfl : ad326 = ad336 := (by injection e336); replace p336 := eq_true p336; replace q336 := eq_true q336)))
                                                      go_roundg k4
                                                      case measure => have := HJ8.out; have := HK2.out; have := HJ21.out; have := HK4.out; omega
                                                      case rel => exact ⟨(wrap64 (x15_4 + 1)), (by first | rfl | (simp; done) | (simp [*]; done)), H', ⟨by have := HJ8.out; have := HK2.out; have := HJ21.out; have := HK4.out; omega⟩, ⟨by (with_reducible repeat (first | apply Kd.R_alloc | apply Kd.R_drewN | apply Kd.R_drew)); exact HO_9.out⟩, ⟨by repeat (first | (with_reducible first | exact HB.out | apply below_alloc | apply pw_below_drewN | apply below_drew1) | exact HB.out)⟩⟩
                                              · rw [if_neg c38] at H
                                                exact absurd H (by simp)
                                            · rw [if_neg c37] at H
                                              exact absurd H (by simp)
                                          · rw [if_neg c36] at H
                                            have c36b0 : decide (t333 < t330) = false := decide_eq_false c36
                                            clear c36
                                            by_cases c44 : t330 = t333
                                            · rw [if_pos c44] at H
                                              have c44b0 : (t330 == t333) = true := beq_iff_eq.mpr c44
                                              have c44b1 : (t330 != t333) = false := bne_eq_false_iff_eq.mpr c44
                                              clear c44
                                              by_cases c45 : 0 ≤ x12_2
                                              · rw [if_pos c45] at H
                                                have c45b0 : decide (0 ≤ x12_2) = true := decide_eq_true c45
                                                clear c45
                                                by_cases c46 : x12_2 < (t321.length : Int)
                                                · rw [if_pos c46] at H
                                                  have c46b0 : decide (x12_2 < (t321.length : Int)) = true := decide_eq_true c46
                                                  clear c46
                                                  by_cases c47 : ((rd_T52 t321 x12_2).f1) = ((rd_T52 t321 x15_4).f1)
                                                  · rw [if_pos c47] at H
                                                    have c47b0 : (((rd_T52 t321 x12_2).f1) == ((rd_T52 t321 x15_4).f1)) = true := beq_iff_eq.mpr c47
                                                    have c47b1 : (((rd_T52 t321 x12_2).f1) != ((rd_T52 t321 x15_4).f1)) = false := bne_eq_false_iff_eq.mpr c47
                                                    clear c47
                                                    as_aux_lemma =>
                                                      have H' := Aside0.mk H
                                                      clear H
                                                      have p332 : 0 ≤ (x15_4 : Int) := of_decide_eq_true (by first | (with_reducible assumption) | assumption)
                                                      have q332 : x15_4 < (l0.length : Int) := of_decide_eq_true (by first | (with_reducible assumption) | assumption)
                                                      obtain ⟨ad332, e332, hx332_0, hx332_1, hx332_2⟩ := at_T40 HR0.out x15_4 p332 q332
                                                      obtain rfl : ad329 = ad332 := (by injection e332)
                                                      replace hx332_0 := (HB.out.cell (World.block_lt_of_cell? w _ hx332_0)).trans hx332_0
                                                      replace hx332_1 := (HB.out.cell (World.block_lt_of_cell? w _ hx332_1)).trans hx332_1
                                                      replace hx332_2 := (HB.out.cell (World.block_lt_of_cell? w _ hx332_2)).trans hx332_2
                                                      replace p332 := eq_true p332
                                                      replace q332 := eq_true q332
                                                      go_wp2_with (first | (go_at_call 23; (with_reducible refine (score_Raw.calls k4 ((rd_T40 l0 x15_4).f0) ((rd_T40 l0 x15_4).f1) ((rd_T40 l0 x15_4).f2) t333 t334 _ A33.out).mono ?_); rintro e w48 ⟨rfl, hb⟩; have n0_ := Aside0.mk (Kd.R_below (by (with_reducible repeat (first | apply Kd.R_alloc | apply Kd.R_drewN | apply Kd.R_drew)); exact HO_9.out) hb); have n1_ := Aside0.mk (below_step (by repeat (first | (with_reducible first | exact HB.out | apply below_alloc | apply pw_below_drewN | apply below_drew1) | exact HB.out)) hb); clear HO_9; clear HB; have HO_9 := n0_; have HB := n1_; clear n0_ n1_; (try clear hb); (try clear hb2); (try clear hk); (try clear hi); have p339 : 0 ≤ (x12_2 : Int) := of_decide_eq_true (by first | (with_reducible assumption) | assumption); have q339 : x12_2 < (t321.length : Int) := of_decide_eq_true (by first | (with_reducible assumption) | assumption); obtain ⟨ad339, e339, hx339_0, hx339_1⟩ := at_T52 (Kd.R_reads' HO_9.out).2.2 x12_2 p339 q339; obtain rfl : ad326 = ad339 := (by injection e339); replace p339 := eq_true p339; replace q339 := eq_true q339; have p340 : 0 ≤ (x15_4 : Int) := of_decide_eq_true (by first | (with_reducible assumption) | assumption); have q340 : x15_4 < (t321.length : Int) := of_decide_eq_true (by first | (with_reducible assumption) | assumption); obtain ⟨ad340, e340, hx340_0, hx340_1⟩ := at_T52 (Kd.R_reads' HO_9.out).2.2 x15_4 p340 q340; obtain rfl : ad326 = ad340 := (by injection e340); replace p340 := eq_true p340; replace q340 := eq_true q340))
                                                      repeat (go_quiet (first | (go_at_call 23; (with_reducible refine (score_Raw.calls k4 ((rd_T40 l0 x15_4).f0) ((rd_T40 l0 x15_4).f1) ((rd_T40 l0 x15_4).f2) t333 t334 _ A33.out).mono ?_); rintro e w48 ⟨rfl, hb⟩; have n0_ := Aside0.mk (Kd.R_below (by (with_reducible repeat (first | apply Kd.R_alloc | apply Kd.R_drewN | apply Kd.R_drew)); exact HO_9.out) hb); have n1_ := Aside0.mk (below_step (by repeat (first | (with_reducible first | exact HB.out | apply below_alloc | apply pw_below_drewN | apply below_drew1) | exact HB.out)) hb); clear HO_9; clear HB; have HO_9 := n0_; have HB := n1_; clear n0_ n1_; (try clear hb); (try clear hb2); (try clear hk); (try clear hi); have p339 : 0 ≤ (x12_2 : Int) := of_decide_eq_true (by first | (with_reducible assumption) | assumption); have q339 : x12_2 < (t321.length : Int) := of_decide_eq_true (by first | (with_reducible assumption) | assumption); obtain ⟨ad339, e339, hx339_0, hx339_1⟩ := at_T52 (Kd.R_reads' HO_9.out).2.2 x12_2 p339 q339; obtain rfl : ad326 = ad339 := (by injection e339); replace p339 := eq_true p339; replace q339 := eq_true q339; have p340 : 0 ≤ (x15_4 : Int) := of_decide_eq_true (by first | (with_reducible assumption) | assumption); have q340 : x15_4 < (t321.length : Int) := of_decide_eq_true (by first | (with_reducible assumption) | assumption); obtain ⟨ad340, e340, hx340_0, hx340_1⟩ := at_T52 (Kd.R_reads' HO_9.out).2.2 x15_4 p340 q340; obtain rfl : ad326 = ad340 := (by injection e340); replace p340 := eq_true p340; replace q340 := eq_true q340)); try go_wp2_with (first | (go_at_call 23; (with_reducible refine (score_Raw.calls k4 ((rd_T40 l0 x15_4).f0) ((rd_T40 l0 x15_4).f1) ((rd_T40 l0 x15_4).f2) t333 t334 _ A33.out).mono ?_); rintro e w48 ⟨rfl, hb⟩; have n0_ := Aside0.mk (Kd.R_below (by (with_reducible repeat (first | apply Kd.R_alloc | apply Kd.R_drewN | apply Kd.R_drew)); exact HO_9.out) hb); have n1_ := Aside0.mk (below_step (by repeat (first | (with_reducible first | exact HB.out | apply below_alloc | apply pw_below_drewN | apply below_drew1) | exact HB.out)) hb); clear HO_9; clear HB; have HO_9 := n0_; have HB := n1_; clear n0_ n1_; (try clear hb); (try clear hb2); (try clear hk); (try clear hi); have p339 : 0 ≤ (x12_2 : Int) := of_decide_eq_true (by first | (with_reducible assumption) | assumption); have q339 : x12_2 < (t321.length : Int) := of_decide_eq_true (by first | (with_reducible assumption) | assumption); obtain ⟨ad339, e339, hx339_0, hx339_1⟩ := at_T52 (Kd.R_reads' HO_9.out).2.2 x12_2 p339 q339; obtain rfl : ad326 = ad339 := (by injection e339); replace p339 := eq_true p339; replace q339 := eq_true q339; have p340 : 0 ≤ (x15_4 : Int) := of_decide_eq_true (by first | (with_reducible assumption) | assumption); have q340 : x15_4 < (t321.length : Int) := of_decide_eq_true (by first | (with_reducible assumption) | assumption); obtain ⟨ad340, e340, hx340_0, hx340_1⟩ := at_T52 (Kd.R_reads' HO_9.out).2.2 x15_4 p340 q340; obtain rfl : ad326 = ad340 := (by injection e340); replace p340 := eq_true p340; replace q340 := eq_true q340)))
                                                      go_roundg k4
                                                      case measure => have := HJ8.out; have := HK2.out; have := HJ21.out; have := HK4.out; omega
                                                      case rel => exact ⟨(wrap64 (x15_4 + 1)), (by first | rfl | (simp; done) | (simp [*]; done)), H', ⟨by have := HJ8.out; have := HK2.out; have := HJ21.out; have := HK4.out; omega⟩, ⟨by (with_reducible repeat (first | apply Kd.R_alloc | apply Kd.R_drewN | apply Kd.R_drew)); exact HO_9.out⟩, ⟨by repeat (first | (with_reducible first | exact HB.out | apply below_alloc | apply pw_below_drewN | apply below_drew1) | exact HB.out)⟩⟩
                                                  · rw [if_neg c47] at H
                                                    exact absurd H (by simp)
                                                · rw [if_neg c46] at H
                                                  exact absurd H (by simp)
                                              · rw [if_neg c45] at H
                                                exact absurd H (by simp)
                                            · rw [if_neg c44] at H
                                              have c44b0 : (t330 == t333) = false := beq_eq_false_iff_ne.mpr c44
                                              have c44b1 : (t330 != t333) = true := bne_iff_ne.mpr c44
                                              as_aux_lemma =>
                                                have H' := Aside0.mk H
                                                clear H
                                                have p332 : 0 ≤ (x15_4 : Int) := of_decide_eq_true (by first | (with_reducible assumption) | assumption)
                                                have q332 : x15_4 < (l0.length : Int) := of_decide_eq_true (by first | (with_reducible assumption) | assumption)
                                                obtain ⟨ad332, e332, hx332_0, hx332_1, hx332_2⟩ := at_T40 HR0.out x15_4 p332 q332
                                                obtain rfl : ad329 = ad332 := (by injection e332)
                                                replace hx332_0 := (HB.out.cell (World.block_lt_of_cell? w _ hx332_0)).trans hx332_0
                                                replace hx332_1 := (HB.out.cell (World.block_lt_of_cell? w _ hx332_1)).trans hx332_1
                                                replace hx332_2 := (HB.out.cell (World.block_lt_of_cell? w _ hx332_2)).trans hx332_2
                                                replace p332 := eq_true p332
                                                replace q332 := eq_true q332
                                                go_wp2_with (first | (go_at_call 23; (with_reducible refine (score_Raw.calls k4 ((rd_T40 l0 x15_4).f0) ((rd_T40 l0 x15_4).f1) ((rd_T40 l0 x15_4).f2) t333 t334 _ A33.out).mono ?_); rintro e w49 ⟨rfl, hb⟩; have n0_ := Aside0.mk (Kd.R_below (by (with_reducible repeat (first | apply Kd.R_alloc | apply Kd.R_drewN | apply Kd.R_drew)); exact HO_9.out) hb); have n1_ := Aside0.mk (below_step (by repeat (first | (with_reducible first | exact HB.out | apply below_alloc | apply pw_below_drewN | apply below_drew1) | exact HB.out)) hb); clear HO_9; clear HB; have HO_9 := n0_; have HB := n1_; clear n0_ n1_; (try clear hb); (try clear hb2); (try clear hk); (try clear hi)))
                                                repeat (go_quiet (first | (go_at_call 23; (with_reducible refine (score_Raw.calls k4 ((rd_T40 l0 x15_4).f0) ((rd_T40 l0 x15_4).f1) ((rd_T40 l0 x15_4).f2) t333 t334 _ A33.out).mono ?_); rintro e w49 ⟨rfl, hb⟩; have n0_ := Aside0.mk (Kd.R_below (by (with_reducible repeat (first | apply Kd.R_alloc | apply Kd.R_drewN | apply Kd.R_drew)); exact HO_9.out) hb); have n1_ := Aside0.mk (below_step (by repeat (first | (with_reducible first | exact HB.out | apply below_alloc | apply pw_below_drewN | apply below_drew1) | exact HB.out)) hb); clear HO_9; clear HB; have HO_9 := n0_; have HB := n1_; clear n0_ n1_; (try clear hb); (try clear hb2); (try clear hk); (try clear hi))); try go_wp2_with (first | (go_at_call 23; (with_reducible refine (score_Raw.calls k4 ((rd_T40 l0 x15_4).f0) ((rd_T40 l0 x15_4).f1) ((rd_T40 l0 x15_4).f2) t333 t334 _ A33.out).mono ?_); rintro e w49 ⟨rfl, hb⟩; have n0_ := Aside0.mk (Kd.R_below (by (with_reducible repeat (first | apply Kd.R_alloc | apply Kd.R_drewN | apply Kd.R_drew)); exact HO_9.out) hb); have n1_ := Aside0.mk (below_step (by repeat (first | (with_reducible first | exact HB.out | apply below_alloc | apply pw_below_drewN | apply below_drew1) | exact HB.out)) hb); clear HO_9; clear HB; have HO_9 := n0_; have HB := n1_; clear n0_ n1_; (try clear hb); (try clear hb2); (try clear hk); (try clear hi))))
                                                go_roundg k4
                                                case measure => have := HJ8.out; have := HK2.out; have := HJ21.out; have := HK4.out; omega
                                                case rel => exact ⟨(wrap64 (x15_4 + 1)), (by first | rfl | (simp; done) | (simp [*]; done)), H', ⟨by have := HJ8.out; have := HK2.out; have := HJ21.out; have := HK4.out; omega⟩, ⟨by (with_reducible repeat (first | apply Kd.R_alloc | apply Kd.R_drewN | apply Kd.R_drew)); exact HO_9.out⟩, ⟨by repeat (first | (with_reducible first | exact HB.out | apply below_alloc | apply pw_below_drewN | apply below_drew1) | exact HB.out)⟩⟩
                                        · rw [if_neg c35] at H
                                          exact absurd H (by simp)
                                      · rw [if_neg c34] at H
                                        exact absurd H (by simp)
                                    · rw [if_neg c32] at H
                                      exact absurd H (by simp)
                                  · rw [if_neg c31] at H
                                    exact absurd H (by simp)
                                · rw [if_neg c30] at H
                                  have c30b0 : decide (x15_4 < (t321.length : Int)) = false := decide_eq_false c30
                                  clear c30
                                  as_aux_lemma =>
                                    have H' := Aside0.mk H
                                    clear H
                                    go_wp2
                                    repeat (go_quiet (fail); try go_wp2)
                                    go_roundg k4
                                    case measure => have := HJ8.out; have := HK2.out; have := HJ21.out; have := HK4.out; omega
                                    case rel => exact ⟨(ji21), (wrap64 (x12_2 + 1)), (by first | rfl | (simp; done) | (simp only [← hji21] <;> (first | rfl | simp)) | (simp [*]; done)), (by first | rfl | (simp; done) | (simp [*]; done)), H', ⟨by have := HJ8.out; have := HK2.out; have := HJ21.out; have := HK4.out; omega⟩, ⟨by (with_reducible repeat (first | apply Kd.R_alloc | apply Kd.R_drewN | apply Kd.R_drew)); exact HO_9.out⟩, ⟨by repeat (first | (with_reducible first | exact HB.out | apply below_alloc | apply pw_below_drewN | apply below_drew1) | exact HB.out)⟩⟩
                          · rw [if_neg c27] at H
                            exact absurd H (by simp)
                        · rw [if_neg c26] at H
                          exact absurd H (by simp)
                · rw [if_neg c20] at H
                  exact absurd H (by simp)
              · rw [if_neg c19] at H
                have c19b0 : decide (x12_2 < (t321.length : Int)) = false := decide_eq_false c19
                clear c19
                have HC50 := Aside0.mk H
                clear H
                obtain ⟨Ao51, co51, eo51⟩ := Kd.R_slice HO_9.out
                subst eo51
                go_upto_region 20 with (fail)
                repeat (go_quiet (fail); go_upto_region 20 with (fail))
                go_cut [151] (fun v151 wc => ∃ (kq : Nat) (x151_49 : Bool), v151 = .bool x151_49 ∧ Aside0 (bandplanlaw28_ScoreHolds.j4 kq a1 a2 a3 t321 x151_49 = some r) ∧ Aside0 (kq ≤ k2) ∧ Aside0 (Kd.R k52 52 wc w.heap.size (fun _ => True) (.slice Ao51 t321.length co51) t321) ∧ Aside0 (Below w.heap.size w wc))
                case first => as_aux_lemma =>
                  have H := HC50.out
                  clear HC50
                  by_cases c52 : (t321.length : Int) > 0
                  · rw [if_pos c52] at H
                    have c52b0 : decide (0 < (t321.length : Int)) = true := decide_eq_true c52
                    have c52b1 : decide (0 < t321.length) = true := decide_eq_true (by omega)
                    clear c52
                    (first | rw [c52b0] | (simp only [i64_w, i32_w]; rw [c52b0]) | skip)
                    as_aux_lemma =>
                      have H' := Aside0.mk H
                      clear H
                      go_wp2
                      repeat (go_quiet (fail); try go_wp2)
                      go_meet
                      case rel => exact ⟨_, ((x11_2 != 1000000)), (by first | rfl | (simp; done) | (simp [*]; done)), H', ⟨by have := HJ8.out; have := HK2.out; first | omega | exact Nat.le_refl _⟩, ⟨by (with_reducible repeat (first | apply Kd.R_alloc | apply Kd.R_drewN | apply Kd.R_drew)); exact HO_9.out⟩, ⟨by repeat (first | (with_reducible first | exact HB.out | apply below_alloc | apply pw_below_drewN | apply below_drew1) | exact HB.out)⟩⟩
                  · rw [if_neg c52] at H
                    have c52b0 : decide (0 < (t321.length : Int)) = false := decide_eq_false c52
                    have c52b1 : decide (0 < t321.length) = false := decide_eq_false (by omega)
                    clear c52
                    (first | rw [c52b0] | (simp only [i64_w, i32_w]; rw [c52b0]) | skip)
                    as_aux_lemma =>
                      have H' := Aside0.mk H
                      clear H
                      go_wp2
                      repeat (go_quiet (fail); try go_wp2)
                      go_meet
                      case rel => exact ⟨_, (false), (by first | rfl | (simp; done) | (simp [*]; done)), H', ⟨by have := HJ8.out; have := HK2.out; first | omega | exact Nat.le_refl _⟩, ⟨by (with_reducible repeat (first | apply Kd.R_alloc | apply Kd.R_drewN | apply Kd.R_drew)); exact HO_9.out⟩, ⟨by repeat (first | (with_reducible first | exact HB.out | apply below_alloc | apply pw_below_drewN | apply below_drew1) | exact HB.out)⟩⟩
                case rest => as_aux_lemma =>
                  clear HC50
                  try clear c1
                  try clear c2
                  try clear p2
                  try clear c3
                  try clear p3
                  try clear q3
                  try clear hx3
                  try clear c4
                  try clear c5
                  try clear c5b0
                  try clear c5b1
                  try clear p6
                  try clear c11
                  try clear c11b0
                  try clear c11b1
                  try clear c13
                  try clear c14
                  try clear c14b0
                  try clear c14b1
                  try clear c15
                  try clear c15b0
                  try clear c15b1
                  try clear c19
                  try clear c19b0
                  try clear c20
                  try clear c20b0
                  try clear c24
                  try clear c24b0
                  try clear c25
                  try clear c26
                  try clear c26b0
                  try clear c27
                  try clear c27b0
                  try clear c30
                  try clear c30b0
                  try clear c31
                  try clear c31b0
                  try clear c32
                  try clear c32b0
                  try clear p32
                  try clear q32
                  try clear hx32
                  try clear p33
                  try clear q33
                  try clear hx33
                  try clear c34
                  try clear c34b0
                  try clear c34b1
                  try clear p34
                  try clear q34
                  try clear hx34
                  try clear c35
                  try clear c35b0
                  try clear c35b1
                  try clear c36
                  try clear c36b0
                  try clear c37
                  try clear c37b0
                  try clear c38
                  try clear c38b0
                  try clear c39
                  try clear c39b0
                  try clear c40
                  try clear c40b0
                  try clear c40b1
                  try clear c41
                  try clear c41b0
                  try clear c41b1
                  try clear c44
                  try clear c44b0
                  try clear c44b1
                  try clear c45
                  try clear c45b0
                  try clear c46
                  try clear c46b0
                  try clear c47
                  try clear c47b0
                  try clear c47b1
                  try clear c52
                  try clear c52b0
                  try clear c52b1
                  try clear hx326_0
                  try clear hx326_1
                  try clear hx327_0
                  try clear hx327_1
                  try clear hx328_0
                  try clear hx328_1
                  try clear hx329_0
                  try clear hx329_1
                  try clear hx329_2
                  try clear hx332_0
                  try clear hx332_1
                  try clear hx332_2
                  try clear hx335_0
                  try clear hx335_1
                  try clear hx336_0
                  try clear hx336_1
                  try clear hx337_0
                  try clear hx337_1
                  try clear hx338_0
                  try clear hx338_1
                  try clear hx339_0
                  try clear hx339_1
                  try clear hx340_0
                  try clear hx340_1
                  try clear p2
                  try clear p3
                  try clear p326
                  try clear p327
                  try clear p328
                  try clear p329
                  try clear p332
                  try clear p335
                  try clear p336
                  try clear p337
                  try clear p338
                  try clear p339
                  try clear p340
                  try clear q3
                  try clear q326
                  try clear q327
                  try clear q328
                  try clear q329
                  try clear q332
                  try clear q335
                  try clear q336
                  try clear q337
                  try clear q338
                  try clear q339
                  try clear q340
                  obtain ⟨kq, x151_49, rfl, HA, HJ49, HO_9, HB⟩ := hcut
                  cases kq with
                  | zero => exact absurd HA.out (by simp [bandplanlaw28_ScoreHolds.j4])
                  | succ kj49 =>
                    have H := HA.out
                    clear HA
                    simp only [bandplanlaw28_ScoreHolds.j4] at H
                    by_cases c53 : x151_49 = true
                    · subst c53
                      have H1 : (none) = some r := by rw [if_pos rfl] at H; exact H
                      clear H
                      have H := H1
                      clear H1
                      exact absurd H (by simp)
                    · replace c53 := Bool.eq_false_iff.mpr c53
                      subst c53
                      have H1 : (if a1 < 0 then (bandplanlaw28_ScoreHolds.j5 kj49 a1 a2 a3 t321 true) else (if a2 < a1 then (bandplanlaw28_ScoreHolds.j5 kj49 a1 a2 a3 t321 true) else (if a2 > 1000000000 then (bandplanlaw28_ScoreHolds.j5 kj49 a1 a2 a3 t321 true) else (if a3 < 1 then (bandplanlaw28_ScoreHolds.j5 kj49 a1 a2 a3 t321 true) else (bandplanlaw28_ScoreHolds.j5 kj49 a1 a2 a3 t321 (decide (a3 > 3))))))) = some r := by rw [if_neg (show ¬ (false = true) by decide)] at H; exact H
                      clear H
                      have H := H1
                      clear H1
                      have HC54 := Aside0.mk H
                      clear H
                      go_upto_region 22 with (fail)
                      repeat (go_quiet (fail); go_upto_region 22 with (fail))
                      go_cut [170] (fun v170 wc => ∃ (kq : Nat) (x170_53 : Bool), v170 = .bool x170_53 ∧ Aside0 (bandplanlaw28_ScoreHolds.j5 kq a1 a2 a3 t321 x170_53 = some r) ∧ Aside0 (kq ≤ kj49) ∧ Aside0 (Kd.R k52 52 wc w.heap.size (fun _ => True) (.slice Ao51 t321.length co51) t321) ∧ Aside0 (Below w.heap.size w wc))
                      case first => as_aux_lemma =>
                        have H := HC54.out
                        clear HC54
                        by_cases c55 : a1 < 0
                        · rw [if_pos c55] at H
                          have c55b0 : decide (a1 < 0) = true := decide_eq_true c55
                          clear c55
                          (first | rw [c55b0] | (simp only [i64_w, i32_w]; rw [c55b0]) | skip)
                          as_aux_lemma =>
                            have H' := Aside0.mk H
                            clear H
                            go_wp2
                            repeat (go_quiet (fail); try go_wp2)
                            go_meet
                            case rel => exact ⟨_, (true), (by first | rfl | (simp; done) | (simp [*]; done)), H', ⟨by have := HJ8.out; have := HK2.out; have := HJ49.out; first | omega | exact Nat.le_refl _⟩, ⟨by (with_reducible repeat (first | apply Kd.R_alloc | apply Kd.R_drewN | apply Kd.R_drew)); exact HO_9.out⟩, ⟨by repeat (first | (with_reducible first | exact HB.out | apply below_alloc | apply pw_below_drewN | apply below_drew1) | exact HB.out)⟩⟩
                        · rw [if_neg c55] at H
                          have c55b0 : decide (a1 < 0) = false := decide_eq_false c55
                          clear c55
                          (first | rw [c55b0] | (simp only [i64_w, i32_w]; rw [c55b0]) | skip)
                          by_cases c56 : a2 < a1
                          · rw [if_pos c56] at H
                            have c56b0 : decide (a2 < a1) = true := decide_eq_true c56
                            clear c56
                            as_aux_lemma =>
                              have H' := Aside0.mk H
                              clear H
                              go_wp2
                              repeat (go_quiet (fail); try go_wp2)
                              go_meet
                              case rel => exact ⟨_, (true), (by first | rfl | (simp; done) | (simp [*]; done)), H', ⟨by have := HJ8.out; have := HK2.out; have := HJ49.out; first | omega | exact Nat.le_refl _⟩, ⟨by (with_reducible repeat (first | apply Kd.R_alloc | apply Kd.R_drewN | apply Kd.R_drew)); exact HO_9.out⟩, ⟨by repeat (first | (with_reducible first | exact HB.out | apply below_alloc | apply pw_below_drewN | apply below_drew1) | exact HB.out)⟩⟩
                          · rw [if_neg c56] at H
                            have c56b0 : decide (a2 < a1) = false := decide_eq_false c56
                            clear c56
                            by_cases c57 : a2 > 1000000000
                            · rw [if_pos c57] at H
                              have c57b0 : decide (1000000000 < a2) = true := decide_eq_true c57
                              clear c57
                              as_aux_lemma =>
                                have H' := Aside0.mk H
                                clear H
                                go_wp2
                                repeat (go_quiet (fail); try go_wp2)
                                go_meet
                                case rel => exact ⟨_, (true), (by first | rfl | (simp; done) | (simp [*]; done)), H', ⟨by have := HJ8.out; have := HK2.out; have := HJ49.out; first | omega | exact Nat.le_refl _⟩, ⟨by (with_reducible repeat (first | apply Kd.R_alloc | apply Kd.R_drewN | apply Kd.R_drew)); exact HO_9.out⟩, ⟨by repeat (first | (with_reducible first | exact HB.out | apply below_alloc | apply pw_below_drewN | apply below_drew1) | exact HB.out)⟩⟩
                            · rw [if_neg c57] at H
                              have c57b0 : decide (1000000000 < a2) = false := decide_eq_false c57
                              clear c57
                              by_cases c58 : a3 < 1
                              · rw [if_pos c58] at H
                                have c58b0 : decide (a3 < 1) = true := decide_eq_true c58
                                clear c58
                                as_aux_lemma =>
                                  have H' := Aside0.mk H
                                  clear H
                                  go_wp2
                                  repeat (go_quiet (fail); try go_wp2)
                                  go_meet
                                  case rel => exact ⟨_, (true), (by first | rfl | (simp; done) | (simp [*]; done)), H', ⟨by have := HJ8.out; have := HK2.out; have := HJ49.out; first | omega | exact Nat.le_refl _⟩, ⟨by (with_reducible repeat (first | apply Kd.R_alloc | apply Kd.R_drewN | apply Kd.R_drew)); exact HO_9.out⟩, ⟨by repeat (first | (with_reducible first | exact HB.out | apply below_alloc | apply pw_below_drewN | apply below_drew1) | exact HB.out)⟩⟩
                              · rw [if_neg c58] at H
                                have c58b0 : decide (a3 < 1) = false := decide_eq_false c58
                                clear c58
                                as_aux_lemma =>
                                  have H' := Aside0.mk H
                                  clear H
                                  go_wp2
                                  repeat (go_quiet (fail); try go_wp2)
                                  go_meet
                                  case rel => exact ⟨_, (decide (a3 > 3)), (by first | rfl | (simp; done) | (simp [*]; done)), H', ⟨by have := HJ8.out; have := HK2.out; have := HJ49.out; first | omega | exact Nat.le_refl _⟩, ⟨by (with_reducible repeat (first | apply Kd.R_alloc | apply Kd.R_drewN | apply Kd.R_drew)); exact HO_9.out⟩, ⟨by repeat (first | (with_reducible first | exact HB.out | apply below_alloc | apply pw_below_drewN | apply below_drew1) | exact HB.out)⟩⟩
                      case rest => as_aux_lemma =>
                        clear HC54
                        try clear c1
                        try clear c2
                        try clear p2
                        try clear c3
                        try clear p3
                        try clear q3
                        try clear hx3
                        try clear c4
                        try clear c5
                        try clear c5b0
                        try clear c5b1
                        try clear p6
                        try clear c11
                        try clear c11b0
                        try clear c11b1
                        try clear c13
                        try clear c14
                        try clear c14b0
                        try clear c14b1
                        try clear c15
                        try clear c15b0
                        try clear c15b1
                        try clear c19
                        try clear c19b0
                        try clear c20
                        try clear c20b0
                        try clear c24
                        try clear c24b0
                        try clear c25
                        try clear c26
                        try clear c26b0
                        try clear c27
                        try clear c27b0
                        try clear c30
                        try clear c30b0
                        try clear c31
                        try clear c31b0
                        try clear c32
                        try clear c32b0
                        try clear p32
                        try clear q32
                        try clear hx32
                        try clear p33
                        try clear q33
                        try clear hx33
                        try clear c34
                        try clear c34b0
                        try clear c34b1
                        try clear p34
                        try clear q34
                        try clear hx34
                        try clear c35
                        try clear c35b0
                        try clear c35b1
                        try clear c36
                        try clear c36b0
                        try clear c37
                        try clear c37b0
                        try clear c38
                        try clear c38b0
                        try clear c39
                        try clear c39b0
                        try clear c40
                        try clear c40b0
                        try clear c40b1
                        try clear c41
                        try clear c41b0
                        try clear c41b1
                        try clear c44
                        try clear c44b0
                        try clear c44b1
                        try clear c45
                        try clear c45b0
                        try clear c46
                        try clear c46b0
                        try clear c47
                        try clear c47b0
                        try clear c47b1
                        try clear c52
                        try clear c52b0
                        try clear c52b1
                        try clear c53
                        try clear c55
                        try clear c55b0
                        try clear c56
                        try clear c56b0
                        try clear c57
                        try clear c57b0
                        try clear c58
                        try clear c58b0
                        try clear hx326_0
                        try clear hx326_1
                        try clear hx327_0
                        try clear hx327_1
                        try clear hx328_0
                        try clear hx328_1
                        try clear hx329_0
                        try clear hx329_1
                        try clear hx329_2
                        try clear hx332_0
                        try clear hx332_1
                        try clear hx332_2
                        try clear hx335_0
                        try clear hx335_1
                        try clear hx336_0
                        try clear hx336_1
                        try clear hx337_0
                        try clear hx337_1
                        try clear hx338_0
                        try clear hx338_1
                        try clear hx339_0
                        try clear hx339_1
                        try clear hx340_0
                        try clear hx340_1
                        try clear p2
                        try clear p3
                        try clear p32
                        try clear p326
                        try clear p327
                        try clear p328
                        try clear p329
                        try clear p33
                        try clear p332
                        try clear p335
                        try clear p336
                        try clear p337
                        try clear p338
                        try clear p339
                        try clear p34
                        try clear p340
                        try clear p6
                        try clear q3
                        try clear q32
                        try clear q326
                        try clear q327
                        try clear q328
                        try clear q329
                        try clear q33
                        try clear q332
                        try clear q335
                        try clear q336
                        try clear q337
                        try clear q338
                        try clear q339
                        try clear q34
                        try clear q340
                        obtain ⟨kq, x170_53, rfl, HA, HJ53, HO_9, HB⟩ := hcut
                        cases kq with
                        | zero => exact absurd HA.out (by simp [bandplanlaw28_ScoreHolds.j5])
                        | succ kj53 =>
                          have H := HA.out
                          clear HA
                          simp only [bandplanlaw28_ScoreHolds.j5] at H
                          by_cases c59 : x170_53 = true
                          · subst c59
                            have H1 : ((bandplanlaw28_known.f kj53).bind fun t341 => (some t341)) = some r := by rw [if_pos rfl] at H; exact H
                            clear H
                            have H := H1
                            clear H1
                            replace H := Option.bind_eq_some_iff.mp H
                            obtain ⟨t341, A600, H⟩ := H
                            replace H : (some t341) = some r := H
                            have A60 := Aside0.mk A600
                            clear A600
                            as_aux_lemma =>
                              obtain rfl := Option.some.inj H
                              go_wp2_with (first | (go_at_call 21; (with_reducible refine (bandplanlaw28_known.calls kj53  t341 _ ?side1 A60.out).mono ?_); (case side1 => exact laid_below HGL.out (by repeat (first | (with_reducible first | exact HB.out | apply below_alloc | apply pw_below_drewN | apply below_drew1) | exact HB.out))); rintro e w61 ⟨rfl, hb⟩; have n0_ := Aside0.mk (Kd.R_below (by (with_reducible repeat (first | apply Kd.R_alloc | apply Kd.R_drewN | apply Kd.R_drew)); exact HO_9.out) hb); have n1_ := Aside0.mk (below_step (by repeat (first | (with_reducible first | exact HB.out | apply below_alloc | apply pw_below_drewN | apply below_drew1) | exact HB.out)) hb); clear HO_9; clear HB; have HO_9 := n0_; have HB := n1_; clear n0_ n1_; (try clear hb); (try clear hb2); (try clear hk); (try clear hi)))
                              repeat (go_quiet (first | (go_at_call 21; (with_reducible refine (bandplanlaw28_known.calls kj53  t341 _ ?side1 A60.out).mono ?_); (case side1 => exact laid_below HGL.out (by repeat (first | (with_reducible first | exact HB.out | apply below_alloc | apply pw_below_drewN | apply below_drew1) | exact HB.out))); rintro e w61 ⟨rfl, hb⟩; have n0_ := Aside0.mk (Kd.R_below (by (with_reducible repeat (first | apply Kd.R_alloc | apply Kd.R_drewN | apply Kd.R_drew)); exact HO_9.out) hb); have n1_ := Aside0.mk (below_step (by repeat (first | (with_reducible first | exact HB.out | apply below_alloc | apply pw_below_drewN | apply below_drew1) | exact HB.out)) hb); clear HO_9; clear HB; have HO_9 := n0_; have HB := n1_; clear n0_ n1_; (try clear hb); (try clear hb2); (try clear hk); (try clear hi))); try go_wp2_with (first | (go_at_call 21; (with_reducible refine (bandplanlaw28_known.calls kj53  t341 _ ?side1 A60.out).mono ?_); (case side1 => exact laid_below HGL.out (by repeat (first | (with_reducible first | exact HB.out | apply below_alloc | apply pw_below_drewN | apply below_drew1) | exact HB.out))); rintro e w61 ⟨rfl, hb⟩; have n0_ := Aside0.mk (Kd.R_below (by (with_reducible repeat (first | apply Kd.R_alloc | apply Kd.R_drewN | apply Kd.R_drew)); exact HO_9.out) hb); have n1_ := Aside0.mk (below_step (by repeat (first | (with_reducible first | exact HB.out | apply below_alloc | apply pw_below_drewN | apply below_drew1) | exact HB.out)) hb); clear HO_9; clear HB; have HO_9 := n0_; have HB := n1_; clear n0_ n1_; (try clear hb); (try clear hb2); (try clear hk); (try clear hi))))
                              go_ret
                              exact ⟨by first | rfl | (simp [errW_none, errW_some] <;> rfl) | (simp [*, errW_none, errW_some] <;> rfl), by repeat (first | (with_reducible first | exact HB.out | apply below_alloc | apply pw_below_drewN | apply below_drew1) | exact HB.out)⟩
                          · replace c59 := Bool.eq_false_iff.mpr c59
                            subst c59
                            have H1 : (bandplanlaw28_ScoreHolds.l2 kj53 a1 a2 a3 t321 0) = some r := by rw [if_neg (show ¬ (false = true) by decide)] at H; exact H
                            clear H
                            have H := H1
                            clear H1
                            have H' := Aside0.mk H
                            clear H
                            go_wp2
                            repeat (go_quiet (fail); try go_wp2)
                            go_loopg [18] kj53 (fun kq v18 w' => ∃ (x18_5 : Int), v18 = .int .i64 x18_5 ∧ Aside0 (bandplanlaw28_ScoreHolds.l2 kq a1 a2 a3 t321 x18_5 = some r) ∧ Aside0 (kq ≤ kj53) ∧ Aside0 (Kd.R k52 52 w' w.heap.size (fun _ => True) (.slice Ao51 t321.length co51) t321) ∧ Aside0 (Below w.heap.size w w'))
                            case atStart => exact ⟨(0), (by first | rfl | (simp; done) | (simp [*]; done)), H', ⟨Nat.le_refl _⟩, ⟨by (with_reducible repeat (first | apply Kd.R_alloc | apply Kd.R_drewN | apply Kd.R_drew)); exact HO_9.out⟩, ⟨by repeat (first | (with_reducible first | exact HB.out | apply below_alloc | apply pw_below_drewN | apply below_drew1) | exact HB.out)⟩⟩
                            case round => as_aux_lemma =>
                              clear H'
                              try clear c1
                              try clear c2
                              try clear p2
                              try clear c3
                              try clear p3
                              try clear q3
                              try clear hx3
                              try clear c4
                              try clear c5
                              try clear c5b0
                              try clear c5b1
                              try clear p6
                              try clear c11
                              try clear c11b0
                              try clear c11b1
                              try clear c13
                              try clear c14
                              try clear c14b0
                              try clear c14b1
                              try clear c15
                              try clear c15b0
                              try clear c15b1
                              try clear c19
                              try clear c19b0
                              try clear c20
                              try clear c20b0
                              try clear c24
                              try clear c24b0
                              try clear c25
                              try clear c26
                              try clear c26b0
                              try clear c27
                              try clear c27b0
                              try clear c30
                              try clear c30b0
                              try clear c31
                              try clear c31b0
                              try clear c32
                              try clear c32b0
                              try clear p32
                              try clear q32
                              try clear hx32
                              try clear p33
                              try clear q33
                              try clear hx33
                              try clear c34
                              try clear c34b0
                              try clear c34b1
                              try clear p34
                              try clear q34
                              try clear hx34
                              try clear c35
                              try clear c35b0
                              try clear c35b1
                              try clear c36
                              try clear c36b0
                              try clear c37
                              try clear c37b0
                              try clear c38
                              try clear c38b0
                              try clear c39
                              try clear c39b0
                              try clear c40
                              try clear c40b0
                              try clear c40b1
                              try clear c41
                              try clear c41b0
                              try clear c41b1
                              try clear c44
                              try clear c44b0
                              try clear c44b1
                              try clear c45
                              try clear c45b0
                              try clear c46
                              try clear c46b0
                              try clear c47
                              try clear c47b0
                              try clear c47b1
                              try clear c52
                              try clear c52b0
                              try clear c52b1
                              try clear c53
                              try clear c55
                              try clear c55b0
                              try clear c56
                              try clear c56b0
                              try clear c57
                              try clear c57b0
                              try clear c58
                              try clear c58b0
                              try clear c59
                              try clear hx326_0
                              try clear hx326_1
                              try clear hx327_0
                              try clear hx327_1
                              try clear hx328_0
                              try clear hx328_1
                              try clear hx329_0
                              try clear hx329_1
                              try clear hx329_2
                              try clear hx332_0
                              try clear hx332_1
                              try clear hx332_2
                              try clear hx335_0
                              try clear hx335_1
                              try clear hx336_0
                              try clear hx336_1
                              try clear hx337_0
                              try clear hx337_1
                              try clear hx338_0
                              try clear hx338_1
                              try clear hx339_0
                              try clear hx339_1
                              try clear hx340_0
                              try clear hx340_1
                              try clear p2
                              try clear p3
                              try clear p32
                              try clear p326
                              try clear p327
                              try clear p328
                              try clear p329
                              try clear p33
                              try clear p332
                              try clear p335
                              try clear p336
                              try clear p337
                              try clear p338
                              try clear p339
                              try clear p34
                              try clear p340
                              try clear p6
                              try clear q3
                              try clear q32
                              try clear q326
                              try clear q327
                              try clear q328
                              try clear q329
                              try clear q33
                              try clear q332
                              try clear q335
                              try clear q336
                              try clear q337
                              try clear q338
                              try clear q339
                              try clear q34
                              try clear q340
                              obtain ⟨x18_5, rfl, HA, HK5, HO_9, HB⟩ := hrel
                              cases gk with
                              | zero => exact absurd HA.out (by simp [bandplanlaw28_ScoreHolds.l2])
                              | succ k5 =>
                                have H := HA.out
                                clear HA
                                simp only [bandplanlaw28_ScoreHolds.l2] at H
                                by_cases c62 : x18_5 < (t321.length : Int)
                                · rw [if_pos c62] at H
                                  have c62b0 : decide (x18_5 < (t321.length : Int)) = true := decide_eq_true c62
                                  clear c62
                                  by_cases c63 : 0 ≤ x18_5
                                  · rw [if_pos c63] at H
                                    have c63b0 : decide (0 ≤ x18_5) = true := decide_eq_true c63
                                    clear c63
                                    replace H := Option.bind_eq_some_iff.mp H
                                    obtain ⟨⟨t344, t345⟩, A640, H⟩ := H
                                    replace H : ((score_Offers.f ((rd_T52 t321 x18_5).f1) a2 a3).bind fun bt349 => ((score_Offers.f 1000000 a1 a3).bind fun bt353 => (if t345 = 0 then (if bt349.2 = 0 then (if bt353.2 = 0 then (if (t344.length : Int) = (wrap64 (a3 + 1)) then (if (bt349.1.length : Int) = (wrap64 (a3 + 1)) then (if (bt353.1.length : Int) = (wrap64 (a3 + 1)) then (if 0 ≤ a3 then (if a3 < (t344.length : Int) then (bandplanlaw28_ScoreHolds.j7 k5 a1 a2 a3 t321 x18_5 t344 bt349.1 bt353.1 ((rd t344 a3) != 0)) else (none)) else (none)) else (bandplanlaw28_ScoreHolds.j7 k5 a1 a2 a3 t321 x18_5 t344 bt349.1 bt353.1 true)) else (bandplanlaw28_ScoreHolds.j7 k5 a1 a2 a3 t321 x18_5 t344 bt349.1 bt353.1 true)) else (bandplanlaw28_ScoreHolds.j7 k5 a1 a2 a3 t321 x18_5 t344 bt349.1 bt353.1 true)) else (bandplanlaw28_ScoreHolds.j7 k5 a1 a2 a3 t321 x18_5 t344 bt349.1 bt353.1 true)) else (bandplanlaw28_ScoreHolds.j7 k5 a1 a2 a3 t321 x18_5 t344 bt349.1 bt353.1 true)) else (bandplanlaw28_ScoreHolds.j7 k5 a1 a2 a3 t321 x18_5 t344 bt349.1 bt353.1 true)))) = some r := H
                                    have A64 := Aside0.mk A640
                                    clear A640
                                    replace H := Option.bind_eq_some_iff.mp H
                                    obtain ⟨⟨t349, t350⟩, A650, H⟩ := H
                                    replace H : ((score_Offers.f 1000000 a1 a3).bind fun bt353 => (if t345 = 0 then (if t350 = 0 then (if bt353.2 = 0 then (if (t344.length : Int) = (wrap64 (a3 + 1)) then (if (t349.length : Int) = (wrap64 (a3 + 1)) then (if (bt353.1.length : Int) = (wrap64 (a3 + 1)) then (if 0 ≤ a3 then (if a3 < (t344.length : Int) then (bandplanlaw28_ScoreHolds.j7 k5 a1 a2 a3 t321 x18_5 t344 t349 bt353.1 ((rd t344 a3) != 0)) else (none)) else (none)) else (bandplanlaw28_ScoreHolds.j7 k5 a1 a2 a3 t321 x18_5 t344 t349 bt353.1 true)) else (bandplanlaw28_ScoreHolds.j7 k5 a1 a2 a3 t321 x18_5 t344 t349 bt353.1 true)) else (bandplanlaw28_ScoreHolds.j7 k5 a1 a2 a3 t321 x18_5 t344 t349 bt353.1 true)) else (bandplanlaw28_ScoreHolds.j7 k5 a1 a2 a3 t321 x18_5 t344 t349 bt353.1 true)) else (bandplanlaw28_ScoreHolds.j7 k5 a1 a2 a3 t321 x18_5 t344 t349 bt353.1 true)) else (bandplanlaw28_ScoreHolds.j7 k5 a1 a2 a3 t321 x18_5 t344 t349 bt353.1 true))) = some r := H
                                    have A65 := Aside0.mk A650
                                    clear A650
                                    replace H := Option.bind_eq_some_iff.mp H
                                    obtain ⟨⟨t353, t354⟩, A660, H⟩ := H
                                    replace H : (if t345 = 0 then (if t350 = 0 then (if t354 = 0 then (if (t344.length : Int) = (wrap64 (a3 + 1)) then (if (t349.length : Int) = (wrap64 (a3 + 1)) then (if (t353.length : Int) = (wrap64 (a3 + 1)) then (if 0 ≤ a3 then (if a3 < (t344.length : Int) then (bandplanlaw28_ScoreHolds.j7 k5 a1 a2 a3 t321 x18_5 t344 t349 t353 ((rd t344 a3) != 0)) else (none)) else (none)) else (bandplanlaw28_ScoreHolds.j7 k5 a1 a2 a3 t321 x18_5 t344 t349 t353 true)) else (bandplanlaw28_ScoreHolds.j7 k5 a1 a2 a3 t321 x18_5 t344 t349 t353 true)) else (bandplanlaw28_ScoreHolds.j7 k5 a1 a2 a3 t321 x18_5 t344 t349 t353 true)) else (bandplanlaw28_ScoreHolds.j7 k5 a1 a2 a3 t321 x18_5 t344 t349 t353 true)) else (bandplanlaw28_ScoreHolds.j7 k5 a1 a2 a3 t321 x18_5 t344 t349 t353 true)) else (bandplanlaw28_ScoreHolds.j7 k5 a1 a2 a3 t321 x18_5 t344 t349 t353 true)) = some r := H
                                    have A66 := Aside0.mk A660
                                    clear A660
                                    have HC67 := Aside0.mk H
                                    clear H
                                    have p343 : 0 ≤ (x18_5 : Int) := of_decide_eq_true (by first | (with_reducible assumption) | assumption)
                                    have q343 : x18_5 < (t321.length : Int) := of_decide_eq_true (by first | (with_reducible assumption) | assumption)
                                    obtain ⟨ad343, e343, hx343_0, hx343_1⟩ := at_T52 (Kd.R_reads' HO_9.out).2.2 x18_5 p343 q343
                                    cases e343
                                    replace p343 := eq_true p343
                                    replace q343 := eq_true q343
                                    go_upto_region 30 with (first | (go_at_call 32; (with_reducible refine (score_Offers.calls ((rd_T52 t321 x18_5).f1) a1 a3 t344 t345 _ ?side1 A64.out).mono ?_); (case side1 => exact laid_below HGL.out (by repeat (first | (with_reducible first | exact HB.out | apply below_alloc | apply pw_below_drewN | apply below_drew1) | exact HB.out))); rintro e w68 ⟨v346, rfl, ho0, hb⟩; have n0_ := Aside0.mk (Kd.R_below (by (with_reducible repeat (first | apply Kd.R_alloc | apply Kd.R_drewN | apply Kd.R_drew)); exact HO_9.out) hb); have n1_ := Aside0.mk (Kd.R_lower ho0 (below_size (by repeat (first | (with_reducible first | exact HB.out | apply below_alloc | apply pw_below_drewN | apply below_drew1) | exact HB.out)))); have n2_ := Aside0.mk (below_step (by repeat (first | (with_reducible first | exact HB.out | apply below_alloc | apply pw_below_drewN | apply below_drew1) | exact HB.out)) hb); clear HO_9; clear HB; have HO_9 := n0_; have HO347 := n1_; have HB := n2_; clear n0_ n1_ n2_; (try clear hb); (try clear hb2); (try clear hk); (try clear hi); (try clear ho0); have p348 : 0 ≤ (x18_5 : Int) := of_decide_eq_true (by first | (with_reducible assumption) | assumption); have q348 : x18_5 < (t321.length : Int) := of_decide_eq_true (by first | (with_reducible assumption) | assumption); obtain ⟨ad348, e348, hx348_0, hx348_1⟩ := at_T52 (Kd.R_reads' HO_9.out).2.2 x18_5 p348 q348; obtain rfl : ad343 = ad348 := (by injection e348); replace p348 := eq_true p348; replace q348 := eq_true q348) | (go_at_call 32; (with_reducible refine (score_Offers.calls ((rd_T52 t321 x18_5).f1) a2 a3 t349 t350 _ ?side1 A65.out).mono ?_); (case side1 => exact laid_below HGL.out (by repeat (first | (with_reducible first | exact HB.out | apply below_alloc | apply pw_below_drewN | apply below_drew1) | exact HB.out))); rintro e w69 ⟨v351, rfl, ho0, hb⟩; have n0_ := Aside0.mk (Kd.R_below (by (with_reducible repeat (first | apply Kd.R_alloc | apply Kd.R_drewN | apply Kd.R_drew)); exact HO_9.out) hb); have n1_ := Aside0.mk (Kd.R_elder' (by (with_reducible repeat (first | apply Kd.R_alloc | apply Kd.R_drewN | apply Kd.R_drew)); exact HO347.out) (Kd.R_base ho0) hb); have n2_ := Aside0.mk (Kd.R_lower (Kd.R_new' ho0 (Kd.R_lt (by (with_reducible repeat (first | apply Kd.R_alloc | apply Kd.R_drewN | apply Kd.R_drew)); exact HO347.out))) (below_size (by repeat (first | (with_reducible first | exact HB.out | apply below_alloc | apply pw_below_drewN | apply below_drew1) | exact HB.out)))); have n3_ := Aside0.mk (below_step (by repeat (first | (with_reducible first | exact HB.out | apply below_alloc | apply pw_below_drewN | apply below_drew1) | exact HB.out)) hb); clear HO_9; clear HO347; clear HB; have HO_9 := n0_; have HO347 := n1_; have HO352 := n2_; have HB := n3_; clear n0_ n1_ n2_ n3_; (try clear hb); (try clear hb2); (try clear hk); (try clear hi); (try clear ho0)) | (go_at_call 32; (with_reducible refine (score_Offers.calls 1000000 a1 a3 t353 t354 _ ?side1 A66.out).mono ?_); (case side1 => exact laid_below HGL.out (by repeat (first | (with_reducible first | exact HB.out | apply below_alloc | apply pw_below_drewN | apply below_drew1) | exact HB.out))); rintro e w70 ⟨v355, rfl, ho0, hb⟩; have n0_ := Aside0.mk (Kd.R_below (by (with_reducible repeat (first | apply Kd.R_alloc | apply Kd.R_drewN | apply Kd.R_drew)); exact HO_9.out) hb); have n1_ := Aside0.mk (Kd.R_elder' (by (with_reducible repeat (first | apply Kd.R_alloc | apply Kd.R_drewN | apply Kd.R_drew)); exact HO347.out) (Kd.R_base ho0) hb); have n2_ := Aside0.mk (Kd.R_elder' (by (with_reducible repeat (first | apply Kd.R_alloc | apply Kd.R_drewN | apply Kd.R_drew)); exact HO352.out) (Kd.R_base ho0) hb); have n3_ := Aside0.mk (Kd.R_lower (Kd.R_new' (Kd.R_new' ho0 (Kd.R_lt (by (with_reducible repeat (first | apply Kd.R_alloc | apply Kd.R_drewN | apply Kd.R_drew)); exact HO347.out))) (Kd.R_lt (by (with_reducible repeat (first | apply Kd.R_alloc | apply Kd.R_drewN | apply Kd.R_drew)); exact HO352.out))) (below_size (by repeat (first | (with_reducible first | exact HB.out | apply below_alloc | apply pw_below_drewN | apply below_drew1) | exact HB.out)))); have n4_ := Aside0.mk (below_step (by repeat (first | (with_reducible first | exact HB.out | apply below_alloc | apply pw_below_drewN | apply below_drew1) | exact HB.out)) hb); clear HO_9; clear HO347; clear HO352; clear HB; have HO_9 := n0_; have HO347 := n1_; have HO352 := n2_; have HO356 := n3_; have HB := n4_; clear n0_ n1_ n2_ n3_ n4_; (try clear hb); (try clear hb2); (try clear hk); (try clear hi); (try clear ho0)))
                                    repeat (go_quiet (first | (go_at_call 32; (with_reducible refine (score_Offers.calls ((rd_T52 t321 x18_5).f1) a1 a3 t344 t345 _ ?side1 A64.out).mono ?_); (case side1 => exact laid_below HGL.out (by repeat (first | (with_reducible first | exact HB.out | apply below_alloc | apply pw_below_drewN | apply below_drew1) | exact HB.out))); rintro e w68 ⟨v346, rfl, ho0, hb⟩; have n0_ := Aside0.mk (Kd.R_below (by (with_reducible repeat (first | apply Kd.R_alloc | apply Kd.R_drewN | apply Kd.R_drew)); exact HO_9.out) hb); have n1_ := Aside0.mk (Kd.R_lower ho0 (below_size (by repeat (first | (with_reducible first | exact HB.out | apply below_alloc | apply pw_below_drewN | apply below_drew1) | exact HB.out)))); have n2_ := Aside0.mk (below_step (by repeat (first | (with_reducible first | exact HB.out | apply below_alloc | apply pw_below_drewN | apply below_drew1) | exact HB.out)) hb); clear HO_9; clear HB; have HO_9 := n0_; have HO347 := n1_; have HB := n2_; clear n0_ n1_ n2_; (try clear hb); (try clear hb2); (try clear hk); (try clear hi); (try clear ho0); have p348 : 0 ≤ (x18_5 : Int) := of_decide_eq_true (by first | (with_reducible assumption) | assumption); have q348 : x18_5 < (t321.length : Int) := of_decide_eq_true (by first | (with_reducible assumption) | assumption); obtain ⟨ad348, e348, hx348_0, hx348_1⟩ := at_T52 (Kd.R_reads' HO_9.out).2.2 x18_5 p348 q348; obtain rfl : ad343 = ad348 := (by injection e348); replace p348 := eq_true p348; replace q348 := eq_true q348) | (go_at_call 32; (with_reducible refine (score_Offers.calls ((rd_T52 t321 x18_5).f1) a2 a3 t349 t350 _ ?side1 A65.out).mono ?_); (case side1 => exact laid_below HGL.out (by repeat (first | (with_reducible first | exact HB.out | apply below_alloc | apply pw_below_drewN | apply below_drew1) | exact HB.out))); rintro e w69 ⟨v351, rfl, ho0, hb⟩; have n0_ := Aside0.mk (Kd.R_below (by (with_reducible repeat (first | apply Kd.R_alloc | apply Kd.R_drewN | apply Kd.R_drew)); exact HO_9.out) hb); have n1_ := Aside0.mk (Kd.R_elder' (by (with_reducible repeat (first | apply Kd.R_alloc | apply Kd.R_drewN | apply Kd.R_drew)); exact HO347.out) (Kd.R_base ho0) hb); have n2_ := Aside0.mk (Kd.R_lower (Kd.R_new' ho0 (Kd.R_lt (by (with_reducible repeat (first | apply Kd.R_alloc | apply Kd.R_drewN | apply Kd.R_drew)); exact HO347.out))) (below_size (by repeat (first | (with_reducible first | exact HB.out | apply below_alloc | apply pw_below_drewN | apply below_drew1) | exact HB.out)))); have n3_ := Aside0.mk (below_step (by repeat (first | (with_reducible first | exact HB.out | apply below_alloc | apply pw_below_drewN | apply below_drew1) | exact HB.out)) hb); clear HO_9; clear HO347; clear HB; have HO_9 := n0_; have HO347 := n1_; have HO352 := n2_; have HB := n3_; clear n0_ n1_ n2_ n3_; (try clear hb); (try clear hb2); (try clear hk); (try clear hi); (try clear ho0)) | (go_at_call 32; (with_reducible refine (score_Offers.calls 1000000 a1 a3 t353 t354 _ ?side1 A66.out).mono ?_); (case side1 => exact laid_below HGL.out (by repeat (first | (with_reducible first | exact HB.out | apply below_alloc | apply pw_below_drewN | apply below_drew1) | exact HB.out))); rintro e w70 ⟨v355, rfl, ho0, hb⟩; have n0_ := Aside0.mk (Kd.R_below (by (with_reducible repeat (first | apply Kd.R_alloc | apply Kd.R_drewN | apply Kd.R_drew)); exact HO_9.out) hb); have n1_ := Aside0.mk (Kd.R_elder' (by (with_reducible repeat (first | apply Kd.R_alloc | apply Kd.R_drewN | apply Kd.R_drew)); exact HO347.out) (Kd.R_base ho0) hb); have n2_ := Aside0.mk (Kd.R_elder' (by (with_reducible repeat (first | apply Kd.R_alloc | apply Kd.R_drewN | apply Kd.R_drew)); exact HO352.out) (Kd.R_base ho0) hb); have n3_ := Aside0.mk (Kd.R_lower (Kd.R_new' (Kd.R_new' ho0 (Kd.R_lt (by (with_reducible repeat (first | apply Kd.R_alloc | apply Kd.R_drewN | apply Kd.R_drew)); exact HO347.out))) (Kd.R_lt (by (with_reducible repeat (first | apply Kd.R_alloc | apply Kd.R_drewN | apply Kd.R_drew)); exact HO352.out))) (below_size (by repeat (first | (with_reducible first | exact HB.out | apply below_alloc | apply pw_below_drewN | apply below_drew1) | exact HB.out)))); have n4_ := Aside0.mk (below_step (by repeat (first | (with_reducible first | exact HB.out | apply below_alloc | apply pw_below_drewN | apply below_drew1) | exact HB.out)) hb); clear HO_9; clear HO347; clear HO352; clear HB; have HO_9 := n0_; have HO347 := n1_; have HO352 := n2_; have HO356 := n3_; have HB := n4_; clear n0_ n1_ n2_ n3_ n4_; (try clear hb); (try clear hb2); (try clear hk); (try clear hi); (try clear ho0))); go_upto_region 30 with (first | (go_at_call 32; (with_reducible refine (score_Offers.calls ((rd_T52 t321 x18_5).f1) a1 a3 t344 t345 _ ?side1 A64.out).mono ?_); (case side1 => exact laid_below HGL.out (by repeat (first | (with_reducible first | exact HB.out | apply below_alloc | apply pw_below_drewN | apply below_drew1) | exact HB.out))); rintro e w68 ⟨v346, rfl, ho0, hb⟩; have n0_ := Aside0.mk (Kd.R_below (by (with_reducible repeat (first | apply Kd.R_alloc | apply Kd.R_drewN | apply Kd.R_drew)); exact HO_9.out) hb); have n1_ := Aside0.mk (Kd.R_lower ho0 (below_size (by repeat (first | (with_reducible first | exact HB.out | apply below_alloc | apply pw_below_drewN | apply below_drew1) | exact HB.out)))); have n2_ := Aside0.mk (below_step (by repeat (first | (with_reducible first | exact HB.out | apply below_alloc | apply pw_below_drewN | apply below_drew1) | exact HB.out)) hb); clear HO_9; clear HB; have HO_9 := n0_; have HO347 := n1_; have HB := n2_; clear n0_ n1_ n2_; (try clear hb); (try clear hb2); (try clear hk); (try clear hi); (try clear ho0); have p348 : 0 ≤ (x18_5 : Int) := of_decide_eq_true (by first | (with_reducible assumption) | assumption); have q348 : x18_5 < (t321.length : Int) := of_decide_eq_true (by first | (with_reducible assumption) | assumption); obtain ⟨ad348, e348, hx348_0, hx348_1⟩ := at_T52 (Kd.R_reads' HO_9.out).2.2 x18_5 p348 q348; obtain rfl : ad343 = ad348 := (by injection e348); replace p348 := eq_true p348; replace q348 := eq_true q348) | (go_at_call 32; (with_reducible refine (score_Offers.calls ((rd_T52 t321 x18_5).f1) a2 a3 t349 t350 _ ?side1 A65.out).mono ?_); (case side1 => exact laid_below HGL.out (by repeat (first | (with_reducible first | exact HB.out | apply below_alloc | apply pw_below_drewN | apply below_drew1) | exact HB.out))); rintro e w69 ⟨v351, rfl, ho0, hb⟩; have n0_ := Aside0.mk (Kd.R_below (by (with_reducible repeat (first | apply Kd.R_alloc | apply Kd.R_drewN | apply Kd.R_drew)); exact HO_9.out) hb); have n1_ := Aside0.mk (Kd.R_elder' (by (with_reducible repeat (first | apply Kd.R_alloc | apply Kd.R_drewN | apply Kd.R_drew)); exact HO347.out) (Kd.R_base ho0) hb); have n2_ := Aside0.mk (Kd.R_lower (Kd.R_new' ho0 (Kd.R_lt (by (with_reducible repeat (first | apply Kd.R_alloc | apply Kd.R_drewN | apply Kd.R_drew)); exact HO347.out))) (below_size (by repeat (first | (with_reducible first | exact HB.out | apply below_alloc | apply pw_below_drewN | apply below_drew1) | exact HB.out)))); have n3_ := Aside0.mk (below_step (by repeat (first | (with_reducible first | exact HB.out | apply below_alloc | apply pw_below_drewN | apply below_drew1) | exact HB.out)) hb); clear HO_9; clear HO347; clear HB; have HO_9 := n0_; have HO347 := n1_; have HO352 := n2_; have HB := n3_; clear n0_ n1_ n2_ n3_; (try clear hb); (try clear hb2); (try clear hk); (try clear hi); (try clear ho0)) | (go_at_call 32; (with_reducible refine (score_Offers.calls 1000000 a1 a3 t353 t354 _ ?side1 A66.out).mono ?_); (case side1 => exact laid_below HGL.out (by repeat (first | (with_reducible first | exact HB.out | apply below_alloc | apply pw_below_drewN | apply below_drew1) | exact HB.out))); rintro e w70 ⟨v355, rfl, ho0, hb⟩; have n0_ := Aside0.mk (Kd.R_below (by (with_reducible repeat (first | apply Kd.R_alloc | apply Kd.R_drewN | apply Kd.R_drew)); exact HO_9.out) hb); have n1_ := Aside0.mk (Kd.R_elder' (by (with_reducible repeat (first | apply Kd.R_alloc | apply Kd.R_drewN | apply Kd.R_drew)); exact HO347.out) (Kd.R_base ho0) hb); have n2_ := Aside0.mk (Kd.R_elder' (by (with_reducible repeat (first | apply Kd.R_alloc | apply Kd.R_drewN | apply Kd.R_drew)); exact HO352.out) (Kd.R_base ho0) hb); have n3_ := Aside0.mk (Kd.R_lower (Kd.R_new' (Kd.R_new' ho0 (Kd.R_lt (by (with_reducible repeat (first | apply Kd.R_alloc | apply Kd.R_drewN | apply Kd.R_drew)); exact HO347.out))) (Kd.R_lt (by (with_reducible repeat (first | apply Kd.R_alloc | apply Kd.R_drewN | apply Kd.R_drew)); exact HO352.out))) (below_size (by repeat (first | (with_reducible first | exact HB.out | apply below_alloc | apply pw_below_drewN | apply below_drew1) | exact HB.out)))); have n4_ := Aside0.mk (below_step (by repeat (first | (with_reducible first | exact HB.out | apply below_alloc | apply pw_below_drewN | apply below_drew1) | exact HB.out)) hb); clear HO_9; clear HO347; clear HO352; clear HB; have HO_9 := n0_; have HO347 := n1_; have HO352 := n2_; have HO356 := n3_; have HB := n4_; clear n0_ n1_ n2_ n3_ n4_; (try clear hb); (try clear hb2); (try clear hk); (try clear hi); (try clear ho0))))
                                    (try simp only [Act.put, List.setIfInBounds_toArray, List.set_cons_zero, List.set_cons_succ])
                                    go_cut [243] (fun v243 wc => ∃ (kq : Nat) (x243_66 : Bool), v243 = .bool x243_66 ∧ Aside0 (bandplanlaw28_ScoreHolds.j7 kq a1 a2 a3 t321 x18_5 t344 t349 t353 x243_66 = some r) ∧ Aside0 (kq ≤ k5) ∧ Aside0 (Kd.R k52 52 wc w.heap.size (fun _ => True) (.slice (some ad343) t321.length co51) t321) ∧ Aside0 (Kd.R (Kd.int .i64) 3 wc w.heap.size (fun k_ => some k_ ≠ (v351 : Value).ownBlock ∧ some k_ ≠ (v355 : Value).ownBlock) v346 t344) ∧ Aside0 (Kd.R (Kd.int .i64) 3 wc w.heap.size (fun k_ => some k_ ≠ (v346 : Value).ownBlock ∧ some k_ ≠ (v355 : Value).ownBlock) v351 t349) ∧ Aside0 (Kd.R (Kd.int .i64) 3 wc w.heap.size (fun k_ => some k_ ≠ (v346 : Value).ownBlock ∧ some k_ ≠ (v351 : Value).ownBlock) v355 t353) ∧ Aside0 (Below w.heap.size w wc))
                                    case first => as_aux_lemma =>
                                      have H := HC67.out
                                      clear HC67
                                      by_cases c71 : t345 = 0
                                      · rw [if_pos c71] at H
                                        have c71b0 : (t345 == 0) = true := beq_iff_eq.mpr c71
                                        have c71b1 : (t345 != 0) = false := bne_eq_false_iff_eq.mpr c71
                                        clear c71
                                        (first | rw [c71b0] | (simp only [i64_w, i32_w]; rw [c71b0]) | skip)
                                        by_cases c72 : t350 = 0
                                        · rw [if_pos c72] at H
                                          have c72b0 : (t350 == 0) = true := beq_iff_eq.mpr c72
                                          have c72b1 : (t350 != 0) = false := bne_eq_false_iff_eq.mpr c72
                                          clear c72
                                          by_cases c73 : t354 = 0
                                          · rw [if_pos c73] at H
                                            have c73b0 : (t354 == 0) = true := beq_iff_eq.mpr c73
                                            have c73b1 : (t354 != 0) = false := bne_eq_false_iff_eq.mpr c73
                                            clear c73
                                            by_cases c74 : (t344.length : Int) = (wrap64 (a3 + 1))
                                            · rw [if_pos c74] at H
                                              have c74b0 : ((t344.length : Int) == (wrap64 (a3 + 1))) = true := beq_iff_eq.mpr c74
                                              have c74b1 : ((t344.length : Int) != (wrap64 (a3 + 1))) = false := bne_eq_false_iff_eq.mpr c74
                                              clear c74
                                              by_cases c75 : (t349.length : Int) = (wrap64 (a3 + 1))
                                              · rw [if_pos c75] at H
                                                have c75b0 : ((t349.length : Int) == (wrap64 (a3 + 1))) = true := beq_iff_eq.mpr c75
                                                have c75b1 : ((t349.length : Int) != (wrap64 (a3 + 1))) = false := bne_eq_false_iff_eq.mpr c75
                                                clear c75
                                                by_cases c76 : (t353.length : Int) = (wrap64 (a3 + 1))
                                                · rw [if_pos c76] at H
                                                  have c76b0 : ((t353.length : Int) == (wrap64 (a3 + 1))) = true := beq_iff_eq.mpr c76
                                                  have c76b1 : ((t353.length : Int) != (wrap64 (a3 + 1))) = false := bne_eq_false_iff_eq.mpr c76
                                                  clear c76
                                                  by_cases c77 : 0 ≤ a3
                                                  · rw [if_pos c77] at H
                                                    have c77b0 : decide (0 ≤ a3) = true := decide_eq_true c77
                                                    clear c77
                                                    by_cases c78 : a3 < (t344.length : Int)
                                                    · rw [if_pos c78] at H
                                                      have c78b0 : decide (a3 < (t344.length : Int)) = true := decide_eq_true c78
                                                      clear c78
                                                      as_aux_lemma =>
                                                        have H' := Aside0.mk H
                                                        clear H
                                                        obtain ⟨Ao79, co79, eo79⟩ := Kd.R_slice HO347.out
                                                        subst eo79
                                                        obtain ⟨Ao80, co80, eo80⟩ := Kd.R_slice HO352.out
                                                        subst eo80
                                                        obtain ⟨Ao81, co81, eo81⟩ := Kd.R_slice HO356.out
                                                        subst eo81
                                                        have p357 : 0 ≤ (a3 : Int) := of_decide_eq_true (by first | (with_reducible assumption) | assumption)
                                                        have q357 : a3 < (t344.length : Int) := of_decide_eq_true (by first | (with_reducible assumption) | assumption)
                                                        obtain ⟨ad357, e357, hx357_0⟩ := Kd.at_int (Kd.R_reads' HO347.out).2.2 a3 p357 q357
                                                        cases e357
                                                        replace p357 := eq_true p357
                                                        replace q357 := eq_true q357
                                                        go_wp2
                                                        repeat (go_quiet (fail); try go_wp2)
                                                        go_meet
                                                        case rel => exact ⟨_, (((rd t344 a3) != 0)), (by first | rfl | (simp; done) | (simp [*]; done)), H', ⟨by have := HJ8.out; have := HK2.out; have := HJ49.out; have := HJ53.out; have := HK5.out; first | omega | exact Nat.le_refl _⟩, ⟨by (with_reducible repeat (first | apply Kd.R_alloc | apply Kd.R_drewN | apply Kd.R_drew)); exact HO_9.out⟩, ⟨by (with_reducible repeat (first | apply Kd.R_alloc | apply Kd.R_drewN | apply Kd.R_drew)); exact Kd.R_mono HO347.out (fun _ hk => ⟨hk.1.2, hk.2⟩)⟩, ⟨by (with_reducible repeat (first | apply Kd.R_alloc | apply Kd.R_drewN | apply Kd.R_drew)); exact Kd.R_mono HO352.out (fun _ hk => ⟨hk.1.2, hk.2⟩)⟩, ⟨by (with_reducible repeat (first | apply Kd.R_alloc | apply Kd.R_drewN | apply Kd.R_drew)); exact Kd.R_mono HO356.out (fun _ hk => ⟨hk.1.2, hk.2⟩)⟩, ⟨by repeat (first | (with_reducible first | exact HB.out | apply below_alloc | apply pw_below_drewN | apply below_drew1) | exact HB.out)⟩⟩
                                                    · rw [if_neg c78] at H
                                                      exact absurd H (by simp)
                                                  · rw [if_neg c77] at H
                                                    exact absurd H (by simp)
                                                · rw [if_neg c76] at H
                                                  have c76b0 : ((t353.length : Int) == (wrap64 (a3 + 1))) = false := beq_eq_false_iff_ne.mpr c76
                                                  have c76b1 : ((t353.length : Int) != (wrap64 (a3 + 1))) = true := bne_iff_ne.mpr c76
                                                  as_aux_lemma =>
                                                    have H' := Aside0.mk H
                                                    clear H
                                                    obtain ⟨Ao82, co82, eo82⟩ := Kd.R_slice HO347.out
                                                    subst eo82
                                                    obtain ⟨Ao83, co83, eo83⟩ := Kd.R_slice HO352.out
                                                    subst eo83
                                                    obtain ⟨Ao84, co84, eo84⟩ := Kd.R_slice HO356.out
                                                    subst eo84
                                                    go_wp2
                                                    repeat (go_quiet (fail); try go_wp2)
                                                    go_meet
                                                    case rel => exact ⟨_, (true), (by first | rfl | (simp; done) | (simp [*]; done)), H', ⟨by have := HJ8.out; have := HK2.out; have := HJ49.out; have := HJ53.out; have := HK5.out; first | omega | exact Nat.le_refl _⟩, ⟨by (with_reducible repeat (first | apply Kd.R_alloc | apply Kd.R_drewN | apply Kd.R_drew)); exact HO_9.out⟩, ⟨by (with_reducible repeat (first | apply Kd.R_alloc | apply Kd.R_drewN | apply Kd.R_drew)); exact Kd.R_mono HO347.out (fun _ hk => ⟨hk.1.2, hk.2⟩)⟩, ⟨by (with_reducible repeat (first | apply Kd.R_alloc | apply Kd.R_drewN | apply Kd.R_drew)); exact Kd.R_mono HO352.out (fun _ hk => ⟨hk.1.2, hk.2⟩)⟩, ⟨by (with_reducible repeat (first | apply Kd.R_alloc | apply Kd.R_drewN | apply Kd.R_drew)); exact Kd.R_mono HO356.out (fun _ hk => ⟨hk.1.2, hk.2⟩)⟩, ⟨by repeat (first | (with_reducible first | exact HB.out | apply below_alloc | apply pw_below_drewN | apply below_drew1) | exact HB.out)⟩⟩
                                              · rw [if_neg c75] at H
                                                have c75b0 : ((t349.length : Int) == (wrap64 (a3 + 1))) = false := beq_eq_false_iff_ne.mpr c75
                                                have c75b1 : ((t349.length : Int) != (wrap64 (a3 + 1))) = true := bne_iff_ne.mpr c75
                                                as_aux_lemma =>
                                                  have H' := Aside0.mk H
                                                  clear H
                                                  obtain ⟨Ao85, co85, eo85⟩ := Kd.R_slice HO347.out
                                                  subst eo85
                                                  obtain ⟨Ao86, co86, eo86⟩ := Kd.R_slice HO352.out
                                                  subst eo86
                                                  go_wp2
                                                  repeat (go_quiet (fail); try go_wp2)
                                                  go_meet
                                                  case rel => exact ⟨_, (true), (by first | rfl | (simp; done) | (simp [*]; done)), H', ⟨by have := HJ8.out; have := HK2.out; have := HJ49.out; have := HJ53.out; have := HK5.out; first | omega | exact Nat.le_refl _⟩, ⟨by (with_reducible repeat (first | apply Kd.R_alloc | apply Kd.R_drewN | apply Kd.R_drew)); exact HO_9.out⟩, ⟨by (with_reducible repeat (first | apply Kd.R_alloc | apply Kd.R_drewN | apply Kd.R_drew)); exact Kd.R_mono HO347.out (fun _ hk => ⟨hk.1.2, hk.2⟩)⟩, ⟨by (with_reducible repeat (first | apply Kd.R_alloc | apply Kd.R_drewN | apply Kd.R_drew)); exact Kd.R_mono HO352.out (fun _ hk => ⟨hk.1.2, hk.2⟩)⟩, ⟨by (with_reducible repeat (first | apply Kd.R_alloc | apply Kd.R_drewN | apply Kd.R_drew)); exact Kd.R_mono HO356.out (fun _ hk => ⟨hk.1.2, hk.2⟩)⟩, ⟨by repeat (first | (with_reducible first | exact HB.out | apply below_alloc | apply pw_below_drewN | apply below_drew1) | exact HB.out)⟩⟩
                                            · rw [if_neg c74] at H
                                              have c74b0 : ((t344.length : Int) == (wrap64 (a3 + 1))) = false := beq_eq_false_iff_ne.mpr c74
                                              have c74b1 : ((t344.length : Int) != (wrap64 (a3 + 1))) = true := bne_iff_ne.mpr c74
                                              as_aux_lemma =>
                                                have H' := Aside0.mk H
                                                clear H
                                                obtain ⟨Ao87, co87, eo87⟩ := Kd.R_slice HO347.out
                                                subst eo87
                                                go_wp2
                                                repeat (go_quiet (fail); try go_wp2)
                                                go_meet
                                                case rel => exact ⟨_, (true), (by first | rfl | (simp; done) | (simp [*]; done)), H', ⟨by have := HJ8.out; have := HK2.out; have := HJ49.out; have := HJ53.out; have := HK5.out; first | omega | exact Nat.le_refl _⟩, ⟨by (with_reducible repeat (first | apply Kd.R_alloc | apply Kd.R_drewN | apply Kd.R_drew)); exact HO_9.out⟩, ⟨by (with_reducible repeat (first | apply Kd.R_alloc | apply Kd.R_drewN | apply Kd.R_drew)); exact Kd.R_mono HO347.out (fun _ hk => ⟨hk.1.2, hk.2⟩)⟩, ⟨by (with_reducible repeat (first | apply Kd.R_alloc | apply Kd.R_drewN | apply Kd.R_drew)); exact Kd.R_mono HO352.out (fun _ hk => ⟨hk.1.2, hk.2⟩)⟩, ⟨by (with_reducible repeat (first | apply Kd.R_alloc | apply Kd.R_drewN | apply Kd.R_drew)); exact Kd.R_mono HO356.out (fun _ hk => ⟨hk.1.2, hk.2⟩)⟩, ⟨by repeat (first | (with_reducible first | exact HB.out | apply below_alloc | apply pw_below_drewN | apply below_drew1) | exact HB.out)⟩⟩
                                          · rw [if_neg c73] at H
                                            have c73b0 : (t354 == 0) = false := beq_eq_false_iff_ne.mpr c73
                                            have c73b1 : (t354 != 0) = true := bne_iff_ne.mpr c73
                                            as_aux_lemma =>
                                              have H' := Aside0.mk H
                                              clear H
                                              go_wp2
                                              repeat (go_quiet (fail); try go_wp2)
                                              go_meet
                                              case rel => exact ⟨_, (true), (by first | rfl | (simp; done) | (simp [*]; done)), H', ⟨by have := HJ8.out; have := HK2.out; have := HJ49.out; have := HJ53.out; have := HK5.out; first | omega | exact Nat.le_refl _⟩, ⟨by (with_reducible repeat (first | apply Kd.R_alloc | apply Kd.R_drewN | apply Kd.R_drew)); exact HO_9.out⟩, ⟨by (with_reducible repeat (first | apply Kd.R_alloc | apply Kd.R_drewN | apply Kd.R_drew)); exact Kd.R_mono HO347.out (fun _ hk => ⟨hk.1.2, hk.2⟩)⟩, ⟨by (with_reducible repeat (first | apply Kd.R_alloc | apply Kd.R_drewN | apply Kd.R_drew)); exact Kd.R_mono HO352.out (fun _ hk => ⟨hk.1.2, hk.2⟩)⟩, ⟨by (with_reducible repeat (first | apply Kd.R_alloc | apply Kd.R_drewN | apply Kd.R_drew)); exact Kd.R_mono HO356.out (fun _ hk => ⟨hk.1.2, hk.2⟩)⟩, ⟨by repeat (first | (with_reducible first | exact HB.out | apply below_alloc | apply pw_below_drewN | apply below_drew1) | exact HB.out)⟩⟩
                                        · rw [if_neg c72] at H
                                          have c72b0 : (t350 == 0) = false := beq_eq_false_iff_ne.mpr c72
                                          have c72b1 : (t350 != 0) = true := bne_iff_ne.mpr c72
                                          as_aux_lemma =>
                                            have H' := Aside0.mk H
                                            clear H
                                            go_wp2
                                            repeat (go_quiet (fail); try go_wp2)
                                            go_meet
                                            case rel => exact ⟨_, (true), (by first | rfl | (simp; done) | (simp [*]; done)), H', ⟨by have := HJ8.out; have := HK2.out; have := HJ49.out; have := HJ53.out; have := HK5.out; first | omega | exact Nat.le_refl _⟩, ⟨by (with_reducible repeat (first | apply Kd.R_alloc | apply Kd.R_drewN | apply Kd.R_drew)); exact HO_9.out⟩, ⟨by (with_reducible repeat (first | apply Kd.R_alloc | apply Kd.R_drewN | apply Kd.R_drew)); exact Kd.R_mono HO347.out (fun _ hk => ⟨hk.1.2, hk.2⟩)⟩, ⟨by (with_reducible repeat (first | apply Kd.R_alloc | apply Kd.R_drewN | apply Kd.R_drew)); exact Kd.R_mono HO352.out (fun _ hk => ⟨hk.1.2, hk.2⟩)⟩, ⟨by (with_reducible repeat (first | apply Kd.R_alloc | apply Kd.R_drewN | apply Kd.R_drew)); exact Kd.R_mono HO356.out (fun _ hk => ⟨hk.1.2, hk.2⟩)⟩, ⟨by repeat (first | (with_reducible first | exact HB.out | apply below_alloc | apply pw_below_drewN | apply below_drew1) | exact HB.out)⟩⟩
                                      · rw [if_neg c71] at H
                                        have c71b0 : (t345 == 0) = false := beq_eq_false_iff_ne.mpr c71
                                        have c71b1 : (t345 != 0) = true := bne_iff_ne.mpr c71
                                        (first | rw [c71b0] | (simp only [i64_w, i32_w]; rw [c71b0]) | skip)
                                        as_aux_lemma =>
                                          have H' := Aside0.mk H
                                          clear H
                                          go_wp2
                                          repeat (go_quiet (fail); try go_wp2)
                                          go_meet
                                          case rel => exact ⟨_, (true), (by first | rfl | (simp; done) | (simp [*]; done)), H', ⟨by have := HJ8.out; have := HK2.out; have := HJ49.out; have := HJ53.out; have := HK5.out; first | omega | exact Nat.le_refl _⟩, ⟨by (with_reducible repeat (first | apply Kd.R_alloc | apply Kd.R_drewN | apply Kd.R_drew)); exact HO_9.out⟩, ⟨by (with_reducible repeat (first | apply Kd.R_alloc | apply Kd.R_drewN | apply Kd.R_drew)); exact Kd.R_mono HO347.out (fun _ hk => ⟨hk.1.2, hk.2⟩)⟩, ⟨by (with_reducible repeat (first | apply Kd.R_alloc | apply Kd.R_drewN | apply Kd.R_drew)); exact Kd.R_mono HO352.out (fun _ hk => ⟨hk.1.2, hk.2⟩)⟩, ⟨by (with_reducible repeat (first | apply Kd.R_alloc | apply Kd.R_drewN | apply Kd.R_drew)); exact Kd.R_mono HO356.out (fun _ hk => ⟨hk.1.2, hk.2⟩)⟩, ⟨by repeat (first | (with_reducible first | exact HB.out | apply below_alloc | apply pw_below_drewN | apply below_drew1) | exact HB.out)⟩⟩
                                    case rest => as_aux_lemma =>
                                      clear HC67
                                      try clear c1
                                      try clear c2
                                      try clear p2
                                      try clear c3
                                      try clear p3
                                      try clear q3
                                      try clear hx3
                                      try clear c4
                                      try clear c5
                                      try clear c5b0
                                      try clear c5b1
                                      try clear c6
                                      try clear p6
                                      try clear c7
                                      try clear c11
                                      try clear c11b0
                                      try clear c11b1
                                      try clear c13
                                      try clear c14
                                      try clear c14b0
                                      try clear c14b1
                                      try clear c15
                                      try clear c15b0
                                      try clear c15b1
                                      try clear c19
                                      try clear c19b0
                                      try clear c20
                                      try clear c20b0
                                      try clear c24
                                      try clear c24b0
                                      try clear c25
                                      try clear c26
                                      try clear c26b0
                                      try clear c27
                                      try clear c27b0
                                      try clear c30
                                      try clear c30b0
                                      try clear c31
                                      try clear c31b0
                                      try clear c32
                                      try clear c32b0
                                      try clear p32
                                      try clear q32
                                      try clear hx32
                                      try clear p33
                                      try clear q33
                                      try clear hx33
                                      try clear c34
                                      try clear c34b0
                                      try clear c34b1
                                      try clear p34
                                      try clear q34
                                      try clear hx34
                                      try clear c35
                                      try clear c35b0
                                      try clear c35b1
                                      try clear p35
                                      try clear q35
                                      try clear hx35
                                      try clear c36
                                      try clear c36b0
                                      try clear c37
                                      try clear c37b0
                                      try clear c38
                                      try clear c38b0
                                      try clear c39
                                      try clear c39b0
                                      try clear c40
                                      try clear c40b0
                                      try clear c40b1
                                      try clear c41
                                      try clear c41b0
                                      try clear c41b1
                                      try clear c44
                                      try clear c44b0
                                      try clear c44b1
                                      try clear c45
                                      try clear c45b0
                                      try clear c46
                                      try clear c46b0
                                      try clear c47
                                      try clear c47b0
                                      try clear c47b1
                                      try clear c52
                                      try clear c52b0
                                      try clear c52b1
                                      try clear c53
                                      try clear c55
                                      try clear c55b0
                                      try clear c56
                                      try clear c56b0
                                      try clear c57
                                      try clear c57b0
                                      try clear c58
                                      try clear c58b0
                                      try clear c59
                                      try clear c62
                                      try clear c62b0
                                      try clear c63
                                      try clear c63b0
                                      try clear p64
                                      try clear c71
                                      try clear c71b0
                                      try clear c71b1
                                      try clear c72
                                      try clear c72b0
                                      try clear c72b1
                                      try clear c73
                                      try clear c73b0
                                      try clear c73b1
                                      try clear c74
                                      try clear c74b0
                                      try clear c74b1
                                      try clear c75
                                      try clear c75b0
                                      try clear c75b1
                                      try clear c76
                                      try clear c76b0
                                      try clear c76b1
                                      try clear c77
                                      try clear c77b0
                                      try clear c78
                                      try clear c78b0
                                      try clear hx326_0
                                      try clear hx326_1
                                      try clear hx327_0
                                      try clear hx327_1
                                      try clear hx328_0
                                      try clear hx328_1
                                      try clear hx329_0
                                      try clear hx329_1
                                      try clear hx329_2
                                      try clear hx332_0
                                      try clear hx332_1
                                      try clear hx332_2
                                      try clear hx335_0
                                      try clear hx335_1
                                      try clear hx336_0
                                      try clear hx336_1
                                      try clear hx337_0
                                      try clear hx337_1
                                      try clear hx338_0
                                      try clear hx338_1
                                      try clear hx339_0
                                      try clear hx339_1
                                      try clear hx340_0
                                      try clear hx340_1
                                      try clear hx343_0
                                      try clear hx343_1
                                      try clear hx348_0
                                      try clear hx348_1
                                      try clear hx357_0
                                      try clear p2
                                      try clear p3
                                      try clear p32
                                      try clear p326
                                      try clear p327
                                      try clear p328
                                      try clear p329
                                      try clear p33
                                      try clear p332
                                      try clear p335
                                      try clear p336
                                      try clear p337
                                      try clear p338
                                      try clear p339
                                      try clear p34
                                      try clear p340
                                      try clear p343
                                      try clear p348
                                      try clear p357
                                      try clear p6
                                      try clear q3
                                      try clear q32
                                      try clear q326
                                      try clear q327
                                      try clear q328
                                      try clear q329
                                      try clear q33
                                      try clear q332
                                      try clear q335
                                      try clear q336
                                      try clear q337
                                      try clear q338
                                      try clear q339
                                      try clear q34
                                      try clear q340
                                      try clear q343
                                      try clear q348
                                      try clear q357
                                      obtain ⟨kq, x243_66, rfl, HA, HJ66, HO_9, HO_19, HO_21, HO_23, HB⟩ := hcut
                                      cases kq with
                                      | zero => exact absurd HA.out (by simp [bandplanlaw28_ScoreHolds.j7])
                                      | succ kj66 =>
                                        have H := HA.out
                                        clear HA
                                        simp only [bandplanlaw28_ScoreHolds.j7] at H
                                        by_cases c88 : x243_66 = true
                                        · subst c88
                                          have H1 : (none) = some r := by rw [if_pos rfl] at H; exact H
                                          clear H
                                          have H := H1
                                          clear H1
                                          exact absurd H (by simp)
                                        · replace c88 := Bool.eq_false_iff.mpr c88
                                          subst c88
                                          have H1 : (bandplanlaw28_ScoreHolds.l3 kj66 a1 a2 a3 t321 x18_5 t344 t349 t353 0) = some r := by rw [if_neg (show ¬ (false = true) by decide)] at H; exact H
                                          clear H
                                          have H := H1
                                          clear H1
                                          have H' := Aside0.mk H
                                          clear H
                                          go_wp2
                                          repeat (go_quiet (fail); try go_wp2)
                                          go_loopg [25] kj66 (fun kq v25 w' => ∃ (x25_7 : Int), v25 = .int .i64 x25_7 ∧ Aside0 (bandplanlaw28_ScoreHolds.l3 kq a1 a2 a3 t321 x18_5 t344 t349 t353 x25_7 = some r) ∧ Aside0 (kq ≤ kj66) ∧ Aside0 (Kd.R k52 52 w' w.heap.size (fun _ => True) (.slice (some ad343) t321.length co51) t321) ∧ Aside0 (Kd.R (Kd.int .i64) 3 w' w.heap.size (fun k_ => some k_ ≠ (v351 : Value).ownBlock ∧ some k_ ≠ (v355 : Value).ownBlock) v346 t344) ∧ Aside0 (Kd.R (Kd.int .i64) 3 w' w.heap.size (fun k_ => some k_ ≠ (v346 : Value).ownBlock ∧ some k_ ≠ (v355 : Value).ownBlock) v351 t349) ∧ Aside0 (Kd.R (Kd.int .i64) 3 w' w.heap.size (fun k_ => some k_ ≠ (v346 : Value).ownBlock ∧ some k_ ≠ (v351 : Value).ownBlock) v355 t353) ∧ Aside0 (Below w.heap.size w w'))
                                          case atStart => exact ⟨(0), (by first | rfl | (simp; done) | (simp [*]; done)), H', ⟨Nat.le_refl _⟩, ⟨by (with_reducible repeat (first | apply Kd.R_alloc | apply Kd.R_drewN | apply Kd.R_drew)); exact HO_9.out⟩, ⟨by (with_reducible repeat (first | apply Kd.R_alloc | apply Kd.R_drewN | apply Kd.R_drew)); exact HO_19.out⟩, ⟨by (with_reducible repeat (first | apply Kd.R_alloc | apply Kd.R_drewN | apply Kd.R_drew)); exact HO_21.out⟩, ⟨by (with_reducible repeat (first | apply Kd.R_alloc | apply Kd.R_drewN | apply Kd.R_drew)); exact HO_23.out⟩, ⟨by repeat (first | (with_reducible first | exact HB.out | apply below_alloc | apply pw_below_drewN | apply below_drew1) | exact HB.out)⟩⟩
                                          case round => as_aux_lemma =>
                                            clear H'
                                            try clear c1
                                            try clear c2
                                            try clear p2
                                            try clear c3
                                            try clear p3
                                            try clear q3
                                            try clear hx3
                                            try clear c4
                                            try clear c5
                                            try clear c5b0
                                            try clear c5b1
                                            try clear c6
                                            try clear p6
                                            try clear c7
                                            try clear c8
                                            try clear c11
                                            try clear c11b0
                                            try clear c11b1
                                            try clear c13
                                            try clear c14
                                            try clear c14b0
                                            try clear c14b1
                                            try clear c15
                                            try clear c15b0
                                            try clear c15b1
                                            try clear c19
                                            try clear c19b0
                                            try clear c20
                                            try clear c20b0
                                            try clear c24
                                            try clear c24b0
                                            try clear c25
                                            try clear c26
                                            try clear c26b0
                                            try clear c27
                                            try clear c27b0
                                            try clear c30
                                            try clear c30b0
                                            try clear c31
                                            try clear c31b0
                                            try clear c32
                                            try clear c32b0
                                            try clear p32
                                            try clear q32
                                            try clear hx32
                                            try clear p33
                                            try clear q33
                                            try clear hx33
                                            try clear c34
                                            try clear c34b0
                                            try clear c34b1
                                            try clear p34
                                            try clear q34
                                            try clear hx34
                                            try clear c35
                                            try clear c35b0
                                            try clear c35b1
                                            try clear p35
                                            try clear q35
                                            try clear hx35
                                            try clear c36
                                            try clear c36b0
                                            try clear c37
                                            try clear c37b0
                                            try clear c38
                                            try clear c38b0
                                            try clear c39
                                            try clear c39b0
                                            try clear c40
                                            try clear c40b0
                                            try clear c40b1
                                            try clear c41
                                            try clear c41b0
                                            try clear c41b1
                                            try clear c44
                                            try clear c44b0
                                            try clear c44b1
                                            try clear c45
                                            try clear c45b0
                                            try clear c46
                                            try clear c46b0
                                            try clear c47
                                            try clear c47b0
                                            try clear c47b1
                                            try clear c52
                                            try clear c52b0
                                            try clear c52b1
                                            try clear c53
                                            try clear c55
                                            try clear c55b0
                                            try clear c56
                                            try clear c56b0
                                            try clear c57
                                            try clear c57b0
                                            try clear c58
                                            try clear c58b0
                                            try clear c59
                                            try clear c62
                                            try clear c62b0
                                            try clear c63
                                            try clear c63b0
                                            try clear p64
                                            try clear c71
                                            try clear c71b0
                                            try clear c71b1
                                            try clear c72
                                            try clear c72b0
                                            try clear c72b1
                                            try clear c73
                                            try clear c73b0
                                            try clear c73b1
                                            try clear c74
                                            try clear c74b0
                                            try clear c74b1
                                            try clear c75
                                            try clear c75b0
                                            try clear c75b1
                                            try clear c76
                                            try clear c76b0
                                            try clear c76b1
                                            try clear c77
                                            try clear c77b0
                                            try clear c78
                                            try clear c78b0
                                            try clear c88
                                            try clear hx326_0
                                            try clear hx326_1
                                            try clear hx327_0
                                            try clear hx327_1
                                            try clear hx328_0
                                            try clear hx328_1
                                            try clear hx329_0
                                            try clear hx329_1
                                            try clear hx329_2
                                            try clear hx332_0
                                            try clear hx332_1
                                            try clear hx332_2
                                            try clear hx335_0
                                            try clear hx335_1
                                            try clear hx336_0
                                            try clear hx336_1
                                            try clear hx337_0
                                            try clear hx337_1
                                            try clear hx338_0
                                            try clear hx338_1
                                            try clear hx339_0
                                            try clear hx339_1
                                            try clear hx340_0
                                            try clear hx340_1
                                            try clear hx343_0
                                            try clear hx343_1
                                            try clear hx348_0
                                            try clear hx348_1
                                            try clear hx357_0
                                            try clear p2
                                            try clear p3
                                            try clear p32
                                            try clear p326
                                            try clear p327
                                            try clear p328
                                            try clear p329
                                            try clear p33
                                            try clear p332
                                            try clear p335
                                            try clear p336
                                            try clear p337
                                            try clear p338
                                            try clear p339
                                            try clear p34
                                            try clear p340
                                            try clear p343
                                            try clear p348
                                            try clear p35
                                            try clear p357
                                            try clear p6
                                            try clear p64
                                            try clear q3
                                            try clear q32
                                            try clear q326
                                            try clear q327
                                            try clear q328
                                            try clear q329
                                            try clear q33
                                            try clear q332
                                            try clear q335
                                            try clear q336
                                            try clear q337
                                            try clear q338
                                            try clear q339
                                            try clear q34
                                            try clear q340
                                            try clear q343
                                            try clear q348
                                            try clear q35
                                            try clear q357
                                            obtain ⟨x25_7, rfl, HA, HK7, HO_9, HO_19, HO_21, HO_23, HB⟩ := hrel
                                            cases gk with
                                            | zero => exact absurd HA.out (by simp [bandplanlaw28_ScoreHolds.l3])
                                            | succ k7 =>
                                              have H := HA.out
                                              clear HA
                                              simp only [bandplanlaw28_ScoreHolds.l3] at H
                                              by_cases c89 : x25_7 ≤ a3
                                              · rw [if_pos c89] at H
                                                have c89b0 : decide (x25_7 ≤ a3) = true := decide_eq_true c89
                                                clear c89
                                                by_cases c90 : 0 ≤ x25_7
                                                · rw [if_pos c90] at H
                                                  have c90b0 : decide (0 ≤ x25_7) = true := decide_eq_true c90
                                                  clear c90
                                                  by_cases c91 : x25_7 < (t344.length : Int)
                                                  · rw [if_pos c91] at H
                                                    have c91b0 : decide (x25_7 < (t344.length : Int)) = true := decide_eq_true c91
                                                    clear c91
                                                    by_cases c92 : (rd t344 x25_7) < 0
                                                    · rw [if_pos c92] at H
                                                      exact absurd H (by simp)
                                                    · rw [if_neg c92] at H
                                                      have c92b0 : decide ((rd t344 x25_7) < 0) = false := decide_eq_false c92
                                                      clear c92
                                                      by_cases c93 : (rd t344 x25_7) > a1
                                                      · rw [if_pos c93] at H
                                                        exact absurd H (by simp)
                                                      · rw [if_neg c93] at H
                                                        have c93b0 : decide (a1 < (rd t344 x25_7)) = false := decide_eq_false c93
                                                        clear c93
                                                        by_cases c94 : x25_7 < (t349.length : Int)
                                                        · rw [if_pos c94] at H
                                                          have c94b0 : decide (x25_7 < (t349.length : Int)) = true := decide_eq_true c94
                                                          clear c94
                                                          by_cases c95 : (rd t344 x25_7) > (rd t349 x25_7)
                                                          · rw [if_pos c95] at H
                                                            exact absurd H (by simp)
                                                          · rw [if_neg c95] at H
                                                            have c95b0 : decide ((rd t349 x25_7) < (rd t344 x25_7)) = false := decide_eq_false c95
                                                            clear c95
                                                            by_cases c96 : x25_7 < (t353.length : Int)
                                                            · rw [if_pos c96] at H
                                                              have c96b0 : decide (x25_7 < (t353.length : Int)) = true := decide_eq_true c96
                                                              clear c96
                                                              by_cases c97 : (rd t344 x25_7) > (rd t353 x25_7)
                                                              · rw [if_pos c97] at H
                                                                exact absurd H (by simp)
                                                              · rw [if_neg c97] at H
                                                                have c97b0 : decide ((rd t353 x25_7) < (rd t344 x25_7)) = false := decide_eq_false c97
                                                                clear c97
                                                                by_cases c98 : x25_7 > 0
                                                                · rw [if_pos c98] at H
                                                                  have c98b0 : decide (0 < x25_7) = true := decide_eq_true c98
                                                                  clear c98
                                                                  obtain ⟨ji99, hji99⟩ : ∃ j_ : Int, (wrap64 (x25_7 - 1)) = j_ := ⟨_, rfl⟩
                                                                  replace H : (if 0 ≤ (ji99) then (if (ji99) < (t344.length : Int) then (if (rd t344 x25_7) > (rd t344 (ji99)) then (none) else (bandplanlaw28_ScoreHolds.l3 k7 a1 a2 a3 t321 x18_5 t344 t349 t353 (wrap64 (x25_7 + 1)))) else (none)) else (none)) = some r := by first | (rw [hji99] at H; exact H) | (simp only [hji99] at H ⊢; exact H)
                                                                  have hji99w : (IntKind.i64.wrap (x25_7 - 1)) = ji99 := (i64_w _).trans hji99
                                                                  by_cases c100 : 0 ≤ (ji99)
                                                                  · rw [if_pos c100] at H
                                                                    have c100b0 : decide (0 ≤ (ji99)) = true := decide_eq_true c100
                                                                    clear c100
                                                                    by_cases c101 : (ji99) < (t344.length : Int)
                                                                    · rw [if_pos c101] at H
                                                                      have c101b0 : decide ((ji99) < (t344.length : Int)) = true := decide_eq_true c101
                                                                      clear c101
                                                                      by_cases c102 : (rd t344 x25_7) > (rd t344 (ji99))
                                                                      · rw [if_pos c102] at H
                                                                        exact absurd H (by simp)
                                                                      · rw [if_neg c102] at H
                                                                        have c102b0 : decide ((rd t344 (ji99)) < (rd t344 x25_7)) = false := decide_eq_false c102
                                                                        clear c102
                                                                        as_aux_lemma =>
                                                                          have H' := Aside0.mk H
                                                                          clear H
                                                                          obtain ⟨Ao103, co103, eo103⟩ := Kd.R_slice HO_19.out
                                                                          subst eo103
                                                                          have p358 : 0 ≤ (x25_7 : Int) := of_decide_eq_true (by first | (with_reducible assumption) | assumption)
                                                                          have q358 : x25_7 < (t344.length : Int) := of_decide_eq_true (by first | (with_reducible assumption) | assumption)
                                                                          obtain ⟨ad358, e358, hx358_0⟩ := Kd.at_int (Kd.R_reads' HO_19.out).2.2 x25_7 p358 q358
                                                                          cases e358
                                                                          replace p358 := eq_true p358
                                                                          replace q358 := eq_true q358
                                                                          have p359 : 0 ≤ (x25_7 : Int) := of_decide_eq_true (by first | (with_reducible assumption) | assumption)
                                                                          have q359 : x25_7 < (t344.length : Int) := of_decide_eq_true (by first | (with_reducible assumption) | assumption)
                                                                          obtain ⟨ad359, e359, hx359_0⟩ := Kd.at_int (Kd.R_reads' HO_19.out).2.2 x25_7 p359 q359
                                                                          obtain rfl : ad358 = ad359 := (by injection e359)
                                                                          replace p359 := eq_true p359
                                                                          replace q359 := eq_true q359
                                                                          have p360 : 0 ≤ (x25_7 : Int) := of_decide_eq_true (by first | (with_reducible assumption) | assumption)
                                                                          have q360 : x25_7 < (t344.length : Int) := of_decide_eq_true (by first | (with_reducible assumption) | assumption)
                                                                          obtain ⟨ad360, e360, hx360_0⟩ := Kd.at_int (Kd.R_reads' HO_19.out).2.2 x25_7 p360 q360
                                                                          obtain rfl : ad358 = ad360 := (by injection e360)
                                                                          replace p360 := eq_true p360
                                                                          replace q360 := eq_true q360
                                                                          obtain ⟨Ao104, co104, eo104⟩ := Kd.R_slice HO_21.out
                                                                          subst eo104
                                                                          have p361 : 0 ≤ (x25_7 : Int) := of_decide_eq_true (by first | (with_reducible assumption) | assumption)
                                                                          have q361 : x25_7 < (t349.length : Int) := of_decide_eq_true (by first | (with_reducible assumption) | assumption)
                                                                          obtain ⟨ad361, e361, hx361_0⟩ := Kd.at_int (Kd.R_reads' HO_21.out).2.2 x25_7 p361 q361
                                                                          cases e361
                                                                          replace p361 := eq_true p361
                                                                          replace q361 := eq_true q361
                                                                          have p362 : 0 ≤ (x25_7 : Int) := of_decide_eq_true (by first | (with_reducible assumption) | assumption)
                                                                          have q362 : x25_7 < (t344.length : Int) := of_decide_eq_true (by first | (with_reducible assumption) | assumption)
                                                                          obtain ⟨ad362, e362, hx362_0⟩ := Kd.at_int (Kd.R_reads' HO_19.out).2.2 x25_7 p362 q362
                                                                          obtain rfl : ad358 = ad362 := (by injection e362)
                                                                          replace p362 := eq_true p362
                                                                          replace q362 := eq_true q362
                                                                          obtain ⟨Ao105, co105, eo105⟩ := Kd.R_slice HO_23.out
                                                                          subst eo105
                                                                          have p363 : 0 ≤ (x25_7 : Int) := of_decide_eq_true (by first | (with_reducible assumption) | assumption)
                                                                          have q363 : x25_7 < (t353.length : Int) := of_decide_eq_true (by first | (with_reducible assumption) | assumption)
                                                                          obtain ⟨ad363, e363, hx363_0⟩ := Kd.at_int (Kd.R_reads' HO_23.out).2.2 x25_7 p363 q363
                                                                          cases e363
                                                                          replace p363 := eq_true p363
                                                                          replace q363 := eq_true q363
                                                                          have p364 : 0 ≤ (x25_7 : Int) := of_decide_eq_true (by first | (with_reducible assumption) | assumption)
                                                                          have q364 : x25_7 < (t344.length : Int) := of_decide_eq_true (by first | (with_reducible assumption) | assumption)
                                                                          obtain ⟨ad364, e364, hx364_0⟩ := Kd.at_int (Kd.R_reads' HO_19.out).2.2 x25_7 p364 q364
                                                                          obtain rfl : ad358 = ad364 := (by injection e364)
                                                                          replace p364 := eq_true p364
                                                                          replace q364 := eq_true q364
                                                                          have p365 : 0 ≤ ((ji99) : Int) := of_decide_eq_true (by first | (with_reducible assumption) | assumption)
                                                                          have q365 : (ji99) < (t344.length : Int) := of_decide_eq_true (by first | (with_reducible assumption) | assumption)
                                                                          obtain ⟨ad365, e365, hx365_0⟩ := Kd.at_int (Kd.R_reads' HO_19.out).2.2 (ji99) p365 q365
                                                                          obtain rfl : ad358 = ad365 := (by injection e365)
                                                                          replace p365 := eq_true p365
                                                                          replace q365 := eq_true q365
                                                                          go_wp2
                                                                          repeat (go_quiet (fail); try go_wp2)
                                                                          go_roundg k7
                                                                          case measure => have := HJ8.out; have := HK2.out; have := HJ49.out; have := HJ53.out; have := HK5.out; have := HJ66.out; have := HK7.out; omega
                                                                          case rel => exact ⟨(wrap64 (x25_7 + 1)), (by first | rfl | (simp; done) | (simp [*]; done)), H', ⟨by have := HJ8.out; have := HK2.out; have := HJ49.out; have := HJ53.out; have := HK5.out; have := HJ66.out; have := HK7.out; omega⟩, ⟨by (with_reducible repeat (first | apply Kd.R_alloc | apply Kd.R_drewN | apply Kd.R_drew)); exact HO_9.out⟩, ⟨by (with_reducible repeat (first | apply Kd.R_alloc | apply Kd.R_drewN | apply Kd.R_drew)); exact HO_19.out⟩, ⟨by (with_reducible repeat (first | apply Kd.R_alloc | apply Kd.R_drewN | apply Kd.R_drew)); exact HO_21.out⟩, ⟨by (with_reducible repeat (first | apply Kd.R_alloc | apply Kd.R_drewN | apply Kd.R_drew)); exact HO_23.out⟩, ⟨by repeat (first | (with_reducible first | exact HB.out | apply below_alloc | apply pw_below_drewN | apply below_drew1) | exact HB.out)⟩⟩
                                                                    · rw [if_neg c101] at H
                                                                      exact absurd H (by simp)
                                                                  · rw [if_neg c100] at H
                                                                    exact absurd H (by simp)
                                                                · rw [if_neg c98] at H
                                                                  have c98b0 : decide (0 < x25_7) = false := decide_eq_false c98
                                                                  clear c98
                                                                  as_aux_lemma =>
                                                                    have H' := Aside0.mk H
                                                                    clear H
                                                                    obtain ⟨Ao106, co106, eo106⟩ := Kd.R_slice HO_19.out
                                                                    subst eo106
                                                                    have p358 : 0 ≤ (x25_7 : Int) := of_decide_eq_true (by first | (with_reducible assumption) | assumption)
                                                                    have q358 : x25_7 < (t344.length : Int) := of_decide_eq_true (by first | (with_reducible assumption) | assumption)
                                                                    obtain ⟨ad358, e358, hx358_0⟩ := Kd.at_int (Kd.R_reads' HO_19.out).2.2 x25_7 p358 q358
                                                                    cases e358
                                                                    replace p358 := eq_true p358
                                                                    replace q358 := eq_true q358
                                                                    have p359 : 0 ≤ (x25_7 : Int) := of_decide_eq_true (by first | (with_reducible assumption) | assumption)
                                                                    have q359 : x25_7 < (t344.length : Int) := of_decide_eq_true (by first | (with_reducible assumption) | assumption)
                                                                    obtain ⟨ad359, e359, hx359_0⟩ := Kd.at_int (Kd.R_reads' HO_19.out).2.2 x25_7 p359 q359
                                                                    obtain rfl : ad358 = ad359 := (by injection e359)
                                                                    replace p359 := eq_true p359
                                                                    replace q359 := eq_true q359
                                                                    have p360 : 0 ≤ (x25_7 : Int) := of_decide_eq_true (by first | (with_reducible assumption) | assumption)
                                                                    have q360 : x25_7 < (t344.length : Int) := of_decide_eq_true (by first | (with_reducible assumption) | assumption)
                                                                    obtain ⟨ad360, e360, hx360_0⟩ := Kd.at_int (Kd.R_reads' HO_19.out).2.2 x25_7 p360 q360
                                                                    obtain rfl : ad358 = ad360 := (by injection e360)
                                                                    replace p360 := eq_true p360
                                                                    replace q360 := eq_true q360
                                                                    obtain ⟨Ao107, co107, eo107⟩ := Kd.R_slice HO_21.out
                                                                    subst eo107
                                                                    have p361 : 0 ≤ (x25_7 : Int) := of_decide_eq_true (by first | (with_reducible assumption) | assumption)
                                                                    have q361 : x25_7 < (t349.length : Int) := of_decide_eq_true (by first | (with_reducible assumption) | assumption)
                                                                    obtain ⟨ad361, e361, hx361_0⟩ := Kd.at_int (Kd.R_reads' HO_21.out).2.2 x25_7 p361 q361
                                                                    cases e361
                                                                    replace p361 := eq_true p361
                                                                    replace q361 := eq_true q361
                                                                    have p362 : 0 ≤ (x25_7 : Int) := of_decide_eq_true (by first | (with_reducible assumption) | assumption)
                                                                    have q362 : x25_7 < (t344.length : Int) := of_decide_eq_true (by first | (with_reducible assumption) | assumption)
                                                                    obtain ⟨ad362, e362, hx362_0⟩ := Kd.at_int (Kd.R_reads' HO_19.out).2.2 x25_7 p362 q362
                                                                    obtain rfl : ad358 = ad362 := (by injection e362)
                                                                    replace p362 := eq_true p362
                                                                    replace q362 := eq_true q362
                                                                    obtain ⟨Ao108, co108, eo108⟩ := Kd.R_slice HO_23.out
                                                                    subst eo108
                                                                    have p363 : 0 ≤ (x25_7 : Int) := of_decide_eq_true (by first | (with_reducible assumption) | assumption)
                                                                    have q363 : x25_7 < (t353.length : Int) := of_decide_eq_true (by first | (with_reducible assumption) | assumption)
                                                                    obtain ⟨ad363, e363, hx363_0⟩ := Kd.at_int (Kd.R_reads' HO_23.out).2.2 x25_7 p363 q363
                                                                    cases e363
                                                                    replace p363 := eq_true p363
                                                                    replace q363 := eq_true q363
                                                                    go_wp2
                                                                    repeat (go_quiet (fail); try go_wp2)
                                                                    go_roundg k7
                                                                    case measure => have := HJ8.out; have := HK2.out; have := HJ49.out; have := HJ53.out; have := HK5.out; have := HJ66.out; have := HK7.out; omega
                                                                    case rel => exact ⟨(wrap64 (x25_7 + 1)), (by first | rfl | (simp; done) | (simp [*]; done)), H', ⟨by have := HJ8.out; have := HK2.out; have := HJ49.out; have := HJ53.out; have := HK5.out; have := HJ66.out; have := HK7.out; omega⟩, ⟨by (with_reducible repeat (first | apply Kd.R_alloc | apply Kd.R_drewN | apply Kd.R_drew)); exact HO_9.out⟩, ⟨by (with_reducible repeat (first | apply Kd.R_alloc | apply Kd.R_drewN | apply Kd.R_drew)); exact HO_19.out⟩, ⟨by (with_reducible repeat (first | apply Kd.R_alloc | apply Kd.R_drewN | apply Kd.R_drew)); exact HO_21.out⟩, ⟨by (with_reducible repeat (first | apply Kd.R_alloc | apply Kd.R_drewN | apply Kd.R_drew)); exact HO_23.out⟩, ⟨by repeat (first | (with_reducible first | exact HB.out | apply below_alloc | apply pw_below_drewN | apply below_drew1) | exact HB.out)⟩⟩
                                                            · rw [if_neg c96] at H
                                                              exact absurd H (by simp)
                                                        · rw [if_neg c94] at H
                                                          exact absurd H (by simp)
                                                  · rw [if_neg c91] at H
                                                    exact absurd H (by simp)
                                                · rw [if_neg c90] at H
                                                  exact absurd H (by simp)
                                              · rw [if_neg c89] at H
                                                have c89b0 : decide (x25_7 ≤ a3) = false := decide_eq_false c89
                                                clear c89
                                                as_aux_lemma =>
                                                  have H' := Aside0.mk H
                                                  clear H
                                                  go_wp2
                                                  repeat (go_quiet (fail); try go_wp2)
                                                  go_roundg k7
                                                  case measure => have := HJ8.out; have := HK2.out; have := HJ49.out; have := HJ53.out; have := HK5.out; have := HJ66.out; have := HK7.out; omega
                                                  case rel => exact ⟨(wrap64 (x18_5 + 1)), (by first | rfl | (simp; done) | (simp [*]; done)), H', ⟨by have := HJ8.out; have := HK2.out; have := HJ49.out; have := HJ53.out; have := HK5.out; have := HJ66.out; have := HK7.out; omega⟩, ⟨by (with_reducible repeat (first | apply Kd.R_alloc | apply Kd.R_drewN | apply Kd.R_drew)); exact HO_9.out⟩, ⟨by repeat (first | (with_reducible first | exact HB.out | apply below_alloc | apply pw_below_drewN | apply below_drew1) | exact HB.out)⟩⟩
                                  · rw [if_neg c63] at H
                                    exact absurd H (by simp)
                                · rw [if_neg c62] at H
                                  have c62b0 : decide (x18_5 < (t321.length : Int)) = false := decide_eq_false c62
                                  clear c62
                                  replace H := Option.bind_eq_some_iff.mp H
                                  obtain ⟨t342, A1090, H⟩ := H
                                  replace H : (some t342) = some r := H
                                  have A109 := Aside0.mk A1090
                                  clear A1090
                                  as_aux_lemma =>
                                    obtain rfl := Option.some.inj H
                                    go_wp2_with (first | (go_at_call 21; (with_reducible refine (bandplanlaw28_known.calls k5  t342 _ ?side1 A109.out).mono ?_); (case side1 => exact laid_below HGL.out (by repeat (first | (with_reducible first | exact HB.out | apply below_alloc | apply pw_below_drewN | apply below_drew1) | exact HB.out))); rintro e w110 ⟨rfl, hb⟩; have n0_ := Aside0.mk (Kd.R_below (by (with_reducible repeat (first | apply Kd.R_alloc | apply Kd.R_drewN | apply Kd.R_drew)); exact HO_9.out) hb); have n1_ := Aside0.mk (below_step (by repeat (first | (with_reducible first | exact HB.out | apply below_alloc | apply pw_below_drewN | apply below_drew1) | exact HB.out)) hb); clear HO_9; clear HB; have HO_9 := n0_; have HB := n1_; clear n0_ n1_; (try clear hb); (try clear hb2); (try clear hk); (try clear hi)))
                                    repeat (go_quiet (first | (go_at_call 21; (with_reducible refine (bandplanlaw28_known.calls k5  t342 _ ?side1 A109.out).mono ?_); (case side1 => exact laid_below HGL.out (by repeat (first | (with_reducible first | exact HB.out | apply below_alloc | apply pw_below_drewN | apply below_drew1) | exact HB.out))); rintro e w110 ⟨rfl, hb⟩; have n0_ := Aside0.mk (Kd.R_below (by (with_reducible repeat (first | apply Kd.R_alloc | apply Kd.R_drewN | apply Kd.R_drew)); exact HO_9.out) hb); have n1_ := Aside0.mk (below_step (by repeat (first | (with_reducible first | exact HB.out | apply below_alloc | apply pw_below_drewN | apply below_drew1) | exact HB.out)) hb); clear HO_9; clear HB; have HO_9 := n0_; have HB := n1_; clear n0_ n1_; (try clear hb); (try clear hb2); (try clear hk); (try clear hi))); try go_wp2_with (first | (go_at_call 21; (with_reducible refine (bandplanlaw28_known.calls k5  t342 _ ?side1 A109.out).mono ?_); (case side1 => exact laid_below HGL.out (by repeat (first | (with_reducible first | exact HB.out | apply below_alloc | apply pw_below_drewN | apply below_drew1) | exact HB.out))); rintro e w110 ⟨rfl, hb⟩; have n0_ := Aside0.mk (Kd.R_below (by (with_reducible repeat (first | apply Kd.R_alloc | apply Kd.R_drewN | apply Kd.R_drew)); exact HO_9.out) hb); have n1_ := Aside0.mk (below_step (by repeat (first | (with_reducible first | exact HB.out | apply below_alloc | apply pw_below_drewN | apply below_drew1) | exact HB.out)) hb); clear HO_9; clear HB; have HO_9 := n0_; have HB := n1_; clear n0_ n1_; (try clear hb); (try clear hb2); (try clear hk); (try clear hi))))
                                    go_ret
                                    exact ⟨by first | rfl | (simp [errW_none, errW_some] <;> rfl) | (simp [*, errW_none, errW_some] <;> rfl), by repeat (first | (with_reducible first | exact HB.out | apply below_alloc | apply pw_below_drewN | apply below_drew1) | exact HB.out)⟩

end Go.Proofs.YtpchmhijcockkaaDoor.Print
