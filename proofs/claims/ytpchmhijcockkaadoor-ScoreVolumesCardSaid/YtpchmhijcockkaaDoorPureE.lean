/- Plain laws of the score statements, part 4: ScoreVolumes. -/
import Derived.Test.YtpchmhijcockkaaDoorPureD
import Derived.Test.YtpchmhijcockkaaDoorPrint12
namespace Go.Proofs.YtpchmhijcockkaaDoor.Print
open Go.RowKit Go.Proofs.YtpchmhijcockkaaDoorW.PrintWords Go.Proofs.YtpchmhijcockkaaDoorW.PrintLast Go.Proofs.YtpchmhijcockkaaDoorW.PrintMore
set_option linter.unusedVariables false

theorem known_bind : Ev (fun k => (bandplanlaw28_known.f k).bind fun t => some t) true := Ev.bind known28 (Ev.now true)

/-- Equal weights with rising stations. -/
def row (n : Nat) : List S40 := (List.range n).map fun (i : Nat) => (⟨(i : Int), 1, 1⟩ : S40)
theorem row_succ (n : Nat) : row (n + 1) = row n ++ [(⟨(n : Int), 1, 1⟩ : S40)] := by
  unfold row; rw [List.range_succ, List.map_append]; rfl
theorem row_length (n : Nat) : (row n).length = n := by simp [row]
theorem row_at {n i : Nat} (h : i < n) : at40 (row n) i = ⟨(i : Int), 1, 1⟩ := by
  unfold at40 row
  rw [List.getD_eq_getElem?_getD, List.getElem?_map, List.getElem?_range h]
  rfl
theorem row_val {n i : Nat} (h : i < n) : val (at40 (row n) i) = 1 := by
  rw [row_at h]
  show rt (1 * 1) = 1
  exact root_unique (rt_root (by omega)) ⟨by omega, by decide, by decide⟩
theorem row_okAt {n i : Nat} (h : i < n) : okAt (row n) i = decide (i ≤ 511) := by
  unfold okAt vf validW
  rw [row_at h]
  dsimp only
  by_cases h1 : i ≤ 511
  · rw [decide_eq_true h1, decide_eq_true (by omega), Bool.true_and]
    by_cases hz : i = 0
    · rw [decide_eq_true hz]; rfl
    · rw [row_at (by omega : i - 1 < n), decide_eq_true (show ((i - 1 : Nat) : Int) < (i : Int) by omega)]; simp
  · rw [decide_eq_false h1, decide_eq_false (by omega)]; rfl
theorem row_ok {n : Nat} : ∀ (d i : Nat), i + d = n → okFrom (row n) d i = decide (d = 0 ∨ n ≤ 512)
  | 0, i, h => by simp [okFrom]
  | d + 1, i, h => by
    unfold okFrom
    rw [row_okAt (by omega), row_ok d (i + 1) (by omega), Bool.eq_iff_iff]
    simp
    omega
theorem row_most {n : Nat} : ∀ (d i : Nat) (m : Int), i + d = n → (m = 1 ∨ (m = 0 ∧ 0 < d)) → mostFrom (row n) d i m = 1
  | 0, i, m, h, hm => by unfold mostFrom; omega
  | d + 1, i, m, h, hm => by
    unfold mostFrom
    rw [row_val (by omega)]
    refine row_most d (i + 1) _ (by omega) (.inl ?_)
    unfold mx
    split <;> omega

theorem many_ev {n : Nat} (h0 : 500 ≤ n) (h1 : n ≤ 520) : ∀ (d i : Nat), i + d = n → Ev (fun k => bandplanlaw28_ScoreVolumes.l1 k (n : Int) (row i) (i : Int)) true := by
  intro d
  induction d with
  | succ d ih =>
    intro i hi
    have hc : ((i + 1 : Nat) : Int) = (i : Int) + 1 := by omega
    have hw : wrap64 ((i : Int) + 1) = ((i + 1 : Nat) : Int) := by rw [hc]; exact w64 (by omega) (by omega)
    refine Ev.step (f := fun k => bandplanlaw28_ScoreVolumes.l1 k (n : Int) (row (i + 1)) ((i + 1 : Nat) : Int)) (fun k => ?_) (ih (i + 1) (by omega))
    simp only [bandplanlaw28_ScoreVolumes.l1]
    rw [if_pos (by omega), if_pos (by rw [row_length]; omega), hw, row_succ]
  | zero =>
    intro i hi
    obtain rfl : i = n := by omega
    have hv := prog_vols (l := row i) (by rw [row_length]; omega)
    have hr : volRes (row i) = if i ≤ 512 then (vols (row i) 1 i, 0) else ([], 2) := by
      unfold volRes
      rw [row_length, row_ok i 0 (by omega), row_most i 0 0 (by omega) (.inr ⟨rfl, by omega⟩)]
      by_cases h : i ≤ 512
      · rw [if_pos (by simp; omega), if_pos h]
      · rw [if_neg (by simp; omega), if_neg h]
    rw [hr] at hv
    refine Ev.step (f := fun k => (score_Volumes.f k (row i)).bind fun b => if (i : Int) > 512 then (if (b.1.length : Int) = 0 then (if b.2 = 2 then ((bandplanlaw28_known.f k).bind fun t => some t) else some false) else some false) else (if (b.1.length : Int) = i then (if b.2 = 0 then (if 0 ≤ (i : Int) - 1 then (if (i : Int) - 1 < (b.1.length : Int) then (if ((rd_T52 b.1 ((i : Int) - 1)).f1) = 1000000 then ((bandplanlaw28_known.f k).bind fun t => some t) else some false) else none) else none) else some false) else some false)) (fun k => ?_) (Ev.bind hv ?_)
    · simp only [bandplanlaw28_ScoreVolumes.l1]
      rw [if_neg (by omega), w64 (by omega) (by omega)]
    · by_cases h : i ≤ 512
      · simp only [if_pos h]
        have hl : ((rd_T52 (vols (row i) 1 i) ((i : Int) - 1)).f1) = 1000000 := by
          unfold rd_T52 vols
          have e : ((i : Int) - 1).toNat = i - 1 := by omega
          rw [e, List.getD_eq_getElem?_getD, List.getElem?_map, List.getElem?_range (by omega)]
          show (volAt (row i) 1 (i - 1)).f1 = 1000000
          unfold volAt
          rw [row_val (by omega)]
          show (if (1 : Int) > 0 then mx 1 (1 * 1000000 / 1) else 1000000) = 1000000
          decide
        refine Ev.congr (fun n => ?_) known_bind
        rw [if_neg (by omega), if_pos (by rw [vols_length]), if_pos trivial, if_pos (by omega), if_pos (by rw [vols_length]; omega), if_pos hl]
      · simp only [if_neg h]
        refine Ev.congr (fun n => ?_) known_bind
        rw [if_pos (by omega), if_pos (by simp), if_pos trivial]

theorem tail_ev (a1 : Int) : Ev (fun k => bandplanlaw28_ScoreVolumes.j1 k a1 false) true := by
  by_cases h : a1 < 500
  · refine Ev.step (f := fun k => bandplanlaw28_ScoreVolumes.j2 k a1 true) (fun k => ?_) (Ev.step (fun k => ?_) known_bind)
    · simp only [bandplanlaw28_ScoreVolumes.j1]; rw [if_neg (by decide), if_pos h]
    · simp only [bandplanlaw28_ScoreVolumes.j2, if_true]
  · by_cases h2 : a1 > 520
    · refine Ev.step (f := fun k => bandplanlaw28_ScoreVolumes.j2 k a1 true) (fun k => ?_) (Ev.step (fun k => ?_) known_bind)
      · simp only [bandplanlaw28_ScoreVolumes.j1]; rw [if_neg (by decide), if_neg h, decide_eq_true h2]
      · simp only [bandplanlaw28_ScoreVolumes.j2, if_true]
    · obtain ⟨n, rfl⟩ := Int.eq_ofNat_of_zero_le (by omega : 0 ≤ a1)
      refine Ev.step (f := fun k => bandplanlaw28_ScoreVolumes.j2 k n false) (fun k => ?_) (Ev.step (f := fun k => bandplanlaw28_ScoreVolumes.l1 k (n : Int) (row 0) ((0 : Nat) : Int)) (fun k => ?_) (many_ev (by omega) (by omega) n 0 (by omega)))
      · simp only [bandplanlaw28_ScoreVolumes.j1]; rw [if_neg (by decide), if_neg h, decide_eq_false h2]
      · simp only [bandplanlaw28_ScoreVolumes.j2]; rw [if_neg (by decide)]; rfl

theorem loop_ev (l : List S40) (hl : l.length ≤ 40) (a1 : Int) (p : List S52 × Int) (hp : p.1.length ≤ 1000000) : ∀ (d i : Nat), i + d = l.length → Ev (fun k => bandplanlaw28_ScoreVolumes.l0 k l a1 l p.1 p.2 p.1 p.2 (i : Int)) true := by
  intro d
  induction d with
  | zero =>
    intro i hi
    refine Ev.step (f := fun k => (bandplanref28_SameVolumes.f k p.1 p.1).bind fun t => if t = true then bandplanlaw28_ScoreVolumes.j1 k a1 (p.2 != p.2) else bandplanlaw28_ScoreVolumes.j1 k a1 true) (fun k => ?_) (Ev.bind (same_vols p.1 hp) ?_)
    · simp only [bandplanlaw28_ScoreVolumes.l0]
      rw [if_neg (by omega)]
    · simp only [if_true, bne_self_eq_false]
      exact tail_ev a1
  | succ d ih =>
    intro i hi
    have hc : ((i + 1 : Nat) : Int) = (i : Int) + 1 := by omega
    have hw : wrap64 ((i : Int) + 1) = ((i + 1 : Nat) : Int) := by rw [hc]; exact w64 (by omega) (by omega)
    refine Ev.step (f := fun k => bandplanlaw28_ScoreVolumes.l0 k l a1 l p.1 p.2 p.1 p.2 ((i + 1 : Nat) : Int)) (fun k => ?_) (ih (i + 1) (by omega))
    simp only [bandplanlaw28_ScoreVolumes.l0]
    rw [if_pos (by omega), if_pos (by omega), if_pos (by omega), if_neg (by simp), hw]

theorem volRes_length (l : List S40) : (volRes l).1.length ≤ l.length := by
  unfold volRes
  split
  · simp [vols_length]
  · simp

theorem pure_ScoreVolumes (l : List S40) (a1 : Int) : ∃ k, bandplanlaw28_ScoreVolumes.f k l a1 = some true := by
  refine Ev.rounds (g := fun k => bandplanlaw28_ScoreVolumes.f k l a1) ?_
  unfold bandplanlaw28_ScoreVolumes.f
  by_cases h : (l.length : Int) > 40
  · simp only [if_pos h]
    exact known_bind
  · have hlen : ([] : List S40).length + l.length < 5864062014805 := by simp; omega
    simp only [if_neg h, if_pos hlen, Option.bind_some, List.nil_append]
    have := volRes_length l
    exact Ev.bind (prog_vols (by omega)) (Ev.bind (ref_vols (by omega)) (loop_ev l (by omega) a1 (volRes l) (by omega) l.length 0 (by omega)))

end Go.Proofs.YtpchmhijcockkaaDoor.Print
