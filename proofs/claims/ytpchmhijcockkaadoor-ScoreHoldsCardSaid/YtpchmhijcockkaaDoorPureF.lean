/- Plain laws of the score statements, part 5: ScoreHolds. -/
import Derived.Test.YtpchmhijcockkaaDoorPureD
import Derived.Test.YtpchmhijcockkaaDoorPrint14
namespace Go.Proofs.YtpchmhijcockkaaDoor.Print
open Go.RowKit Go.Proofs.YtpchmhijcockkaaDoorW.PrintWords Go.Proofs.YtpchmhijcockkaaDoorW.PrintLast Go.Proofs.YtpchmhijcockkaaDoorW.PrintMore
set_option linter.unusedVariables false

theorem known_bindF : Ev (fun k => (bandplanlaw28_known.f k).bind fun t => some t) true := Ev.bind known28 (Ev.now true)

theorem mx_l (a b : Int) : a ≤ mx a b := by unfold mx; split <;> omega
theorem mx_r (a b : Int) : b ≤ mx a b := by unfold mx; split <;> omega
theorem most_ge (l : List S40) : ∀ (d i : Nat) (m : Int), m ≤ mostFrom l d i m
  | 0, i, m => Int.le_refl _
  | d + 1, i, m => by
    have := most_ge l d (i + 1) (mx m (val (at40 l i)))
    unfold mostFrom
    exact Int.le_trans (mx_l _ _) this
theorem most_at (l : List S40) : ∀ (d i j : Nat) (m : Int), i ≤ j → j < i + d → val (at40 l j) ≤ mostFrom l d i m
  | 0, i, j, m, h0, h1 => by omega
  | d + 1, i, j, m, h0, h1 => by
    unfold mostFrom
    by_cases e : i = j
    · subst e
      exact Int.le_trans (mx_r _ _) (most_ge l d (i + 1) (mx m (val (at40 l i))))
    · exact most_at l d (i + 1) j _ (by omega) (by omega)
theorem most_from (l : List S40) : ∀ (d i : Nat) (m : Int), mostFrom l d i m = m ∨ ∃ j, i ≤ j ∧ j < i + d ∧ mostFrom l d i m = val (at40 l j)
  | 0, i, m => .inl rfl
  | d + 1, i, m => by
    unfold mostFrom
    rcases most_from l d (i + 1) (mx m (val (at40 l i))) with h | ⟨j, h0, h1, h2⟩
    · rw [h]
      unfold mx
      split
      · exact .inr ⟨i, by omega, by omega, rfl⟩
      · exact .inl rfl
    · exact .inr ⟨j, by omega, by omega, h2⟩

section
variable {l : List S40} (hl : l.length ≤ 40) (hok : okFrom l l.length 0 = true)
def mm (l : List S40) : Int := mostFrom l l.length 0 0
def vol (l : List S40) (j : Nat) : Int := (volAt l (mm l) j).f1
theorem mm0 : 0 ≤ mm l := most_nonneg l.length 0 0 (Int.le_refl _)
include hok in
theorem val_of {j : Nat} (h : j < l.length) : 0 ≤ val (at40 l j) ∧ val (at40 l j) ≤ mm l ∧ vf (at40 l j) = true := by
  have hv := vf_of (okFrom_at l l.length 0 j hok (by omega) (by omega))
  exact ⟨(val_bd hv).1, most_at l l.length 0 j 0 (by omega) (by omega), hv⟩
include hok in
theorem vol_bd {j : Nat} (h : j < l.length) : 1 ≤ vol l j ∧ vol l j ≤ 1000000 := by
  obtain ⟨a, b, _⟩ := val_of hok h
  unfold vol volAt
  dsimp only
  split
  · rename_i hm
    have q1 : val (at40 l j) * 1000000 / mm l ≤ 1000000 := by
      have : val (at40 l j) * 1000000 ≤ mm l * 1000000 := Int.mul_le_mul_of_nonneg_right b (by omega)
      rw [Int.mul_comm (mm l)] at this
      have h3 : val (at40 l j) * 1000000 / mm l < 1000000 + 1 := by
        rw [Int.ediv_lt_iff_lt_mul hm, Int.add_mul]
        omega
      omega
    unfold mx
    split <;> omega
  · omega
include hok in
theorem vol_mono {i j : Nat} (hi : i < l.length) (hj : j < l.length) (h : val (at40 l j) ≤ val (at40 l i)) : vol l j ≤ vol l i := by
  obtain ⟨a, b, _⟩ := val_of hok hj
  unfold vol volAt
  dsimp only
  split
  · rename_i hm
    have q : val (at40 l j) * 1000000 / mm l ≤ val (at40 l i) * 1000000 / mm l := Int.ediv_le_ediv hm (by omega)
    unfold mx
    split <;> split <;> omega
  · omega
theorem vol_top (h : 0 < l.length) : ∃ j, j < l.length ∧ vol l j = 1000000 := by
  by_cases hm : mm l > 0
  · rcases most_from l l.length 0 0 with e | ⟨j, _, h1, e⟩
    · have : mm l = 0 := e
      omega
    · refine ⟨j, by omega, ?_⟩
      unfold vol volAt
      dsimp only
      rw [if_pos hm]
      have e2 : val (at40 l j) = mm l := e.symm
      rw [e2, Int.mul_comm, Int.mul_ediv_cancel _ (by omega)]
      decide
  · refine ⟨0, h, ?_⟩
    unfold vol volAt
    dsimp only
    rw [if_neg hm]

theorem rd52 (j : Nat) (h : j < l.length) : (rd_T52 (vols l (mm l) l.length) (j : Int)).f1 = vol l j := by
  unfold rd_T52 vols vol
  rw [Int.toNat_natCast, List.getD_eq_getElem?_getD, List.getElem?_map, List.getElem?_range h]
  rfl

/-- The running maximum of the volumes. -/
def top (l : List S40) : Nat → Nat → Int → Int
  | 0, _, m => m
  | d + 1, i, m => top l d (i + 1) (mx m (vol l i))
theorem top_ge : ∀ (d i : Nat) (m : Int), m ≤ top l d i m
  | 0, i, m => Int.le_refl _
  | d + 1, i, m => by
    have := top_ge d (i + 1) (mx m (vol l i))
    unfold top
    exact Int.le_trans (mx_l _ _) this
theorem top_at : ∀ (d i j : Nat) (m : Int), i ≤ j → j < i + d → vol l j ≤ top l d i m
  | 0, i, j, m, h0, h1 => by omega
  | d + 1, i, j, m, h0, h1 => by
    unfold top
    by_cases e : i = j
    · subst e
      exact Int.le_trans (mx_r _ _) (top_ge d (i + 1) (mx m (vol l i)))
    · exact top_at d (i + 1) j _ (by omega) (by omega)
include hok in
theorem top_le : ∀ (d i : Nat) (m : Int), m ≤ 1000000 → i + d = l.length → top l d i m ≤ 1000000
  | 0, i, m, h, _ => h
  | d + 1, i, m, h, hi => by
    have := vol_bd hok (j := i) (by omega)
    unfold top
    exact top_le d (i + 1) _ (by unfold mx; split <;> omega) (by omega)

include hl hok in
theorem inner_ev (a1 a2 a3 : Int) (next : ∀ m : Int, ∀ i : Nat, i < l.length → True) (x11 : Int) (i : Nat) (hi : i < l.length) (hn : Ev (fun k => bandplanlaw28_ScoreHolds.l0 k l a1 a2 a3 (vols l (mm l) l.length) x11 (((i + 1 : Nat)) : Int)) true) :
    ∀ (d j : Nat), j + d = l.length → Ev (fun k => bandplanlaw28_ScoreHolds.l1 k l a1 a2 a3 (vols l (mm l) l.length) x11 (i : Int) (val (at40 l i)) 0 (j : Int)) true := by
  intro d
  have hvl : ((vols l (mm l) l.length).length : Int) = l.length := by rw [vols_length]
  induction d with
  | zero =>
    intro j hj
    refine Ev.step (f := fun k => bandplanlaw28_ScoreHolds.l0 k l a1 a2 a3 (vols l (mm l) l.length) x11 (((i + 1 : Nat)) : Int)) (fun k => ?_) hn
    simp only [bandplanlaw28_ScoreHolds.l1]
    have hc : ((i + 1 : Nat) : Int) = (i : Int) + 1 := by omega
    rw [if_neg (by omega), w64 (by omega) (by omega), hc]
  | succ d ih =>
    intro j hj
    have hc : ((j + 1 : Nat) : Int) = (j : Int) + 1 := by omega
    have hw : wrap64 ((j : Int) + 1) = ((j + 1 : Nat) : Int) := by rw [hc]; exact w64 (by omega) (by omega)
    obtain ⟨_, _, hv⟩ := val_of hok (j := j) (by omega)
    refine Ev.step (f := fun k => (score_Raw.f k (at40 l j).f0 (at40 l j).f1 (at40 l j).f2).bind fun b => if b = (val (at40 l j), 0) then bandplanlaw28_ScoreHolds.l1 k l a1 a2 a3 (vols l (mm l) l.length) x11 (i : Int) (val (at40 l i)) 0 ((j + 1 : Nat) : Int) else (if (b.2 = 0) then (if val (at40 l i) > b.1 then (if vol l i < vol l j then none else (if val (at40 l i) = b.1 then (if vol l i = vol l j then bandplanlaw28_ScoreHolds.l1 k l a1 a2 a3 (vols l (mm l) l.length) x11 (i : Int) (val (at40 l i)) 0 ((j + 1 : Nat) : Int) else none) else bandplanlaw28_ScoreHolds.l1 k l a1 a2 a3 (vols l (mm l) l.length) x11 (i : Int) (val (at40 l i)) 0 ((j + 1 : Nat) : Int))) else (if val (at40 l i) = b.1 then (if vol l i = vol l j then bandplanlaw28_ScoreHolds.l1 k l a1 a2 a3 (vols l (mm l) l.length) x11 (i : Int) (val (at40 l i)) 0 ((j + 1 : Nat) : Int) else none) else bandplanlaw28_ScoreHolds.l1 k l a1 a2 a3 (vols l (mm l) l.length) x11 (i : Int) (val (at40 l i)) 0 ((j + 1 : Nat) : Int))) else none)) (fun k => ?_) (Ev.bind (raw_good hv) ?_)
    · simp only [bandplanlaw28_ScoreHolds.l1]
      rw [if_pos (by omega), if_pos (by omega), if_pos (by omega), rd40]
      congr 1
      funext b
      have m1 := vol_mono hok (i := i) (j := j) hi (by omega)
      have m2 := vol_mono hok (i := j) (j := i) (by omega) hi
      rw [if_pos trivial, rd52 i hi, rd52 j (by omega), hw]
      by_cases hb : b = (val (at40 l j), 0)
      · subst hb
        rw [if_pos rfl, if_pos rfl]
        by_cases h1 : val (at40 l i) > val (at40 l j)
        · rw [if_pos h1, if_pos (by omega), if_pos (by omega), if_neg (by have := m1 (by omega); omega), if_neg (by omega)]
        · rw [if_neg h1]
          by_cases h2 : val (at40 l i) = val (at40 l j)
          · rw [if_pos h2, if_pos (by omega), if_pos (by omega), if_pos (by have := m1 (by omega); have := m2 (by omega); omega)]
          · rw [if_neg h2]
      · rw [if_neg hb]
        by_cases h0 : b.2 = 0
        · rw [if_pos h0, if_pos h0]
          by_cases h1 : val (at40 l i) > b.1
          · rw [if_pos h1, if_pos h1, if_pos (by omega), if_pos (by omega)]
          · rw [if_neg h1, if_neg h1]
            by_cases h2 : val (at40 l i) = b.1
            · rw [if_pos h2, if_pos h2, if_pos (by omega), if_pos (by omega)]
            · rw [if_neg h2, if_neg h2]
        · rw [if_neg h0, if_neg h0]
    · simp only [if_true]
      exact ih (j + 1) (by omega)
end

end Go.Proofs.YtpchmhijcockkaaDoor.Print
