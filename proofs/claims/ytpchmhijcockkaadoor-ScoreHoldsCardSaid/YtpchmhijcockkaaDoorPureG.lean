/- Plain laws of the score statements, part 6: ScoreHolds, the offers and the whole. -/
import Derived.Test.YtpchmhijcockkaaDoorPureF
namespace Go.Proofs.YtpchmhijcockkaaDoor.Print
open Go.RowKit Go.Proofs.YtpchmhijcockkaaDoorW.PrintWords Go.Proofs.YtpchmhijcockkaaDoorW.PrintLast Go.Proofs.YtpchmhijcockkaaDoorW.PrintMore
set_option linter.unusedVariables false

theorem rd_offers (a0 a1 a2 : Int) {n o : Nat} (h : o < n) : rd (offers a0 a1 a2 n) (o : Int) = a0 * a1 * (worth a2 - worth (o : Int)) / 1000000000 := by
  unfold rd offers
  rw [Int.toNat_natCast, List.getD_eq_getElem?_getD, List.getElem?_map, List.getElem?_range h]
  rfl
theorem offers_good {v base home : Int} (h1 : 1 ≤ v) (h2 : v ≤ 1000000) (h3 : 0 ≤ base) (h4 : base ≤ 1000000000) (h5 : 1 ≤ home) (h6 : home ≤ 3) :
    score_Offers.f v base home = some (offers v base home (home + 1).toNat, 0) := by
  unfold score_Offers.f
  rw [if_neg]
  rintro (c | c | c)
  · omega
  · omega
  · exact of_decide_eq_false c ⟨h1, h2, h3, h4⟩

section
variable {l : List S40} (hl : l.length ≤ 40) (hok : okFrom l l.length 0 = true) {base more home : Int} (h1 : 0 ≤ base) (h2 : base ≤ more) (h3 : more ≤ 1000000000) (h4 : 1 ≤ home) (h5 : home ≤ 3)
include h1 h2 h3 h4 h5 in
theorem l3_ev (vs : List S52) (x18 : Int) {v : Int} (hv1 : 1 ≤ v) (hv2 : v ≤ 1000000) (hn : Ev (fun k => bandplanlaw28_ScoreHolds.l2 k base more home vs (wrap64 (x18 + 1))) true) :
    ∀ (d o : Nat), (o : Int) + d = home + 1 → Ev (fun k => bandplanlaw28_ScoreHolds.l3 k base more home vs x18 (offers v base home (home + 1).toNat) (offers v more home (home + 1).toNat) (offers 1000000 base home (home + 1).toNat) (o : Int)) true := by
  intro d
  induction d with
  | zero =>
    intro o ho
    refine Ev.step (f := fun k => bandplanlaw28_ScoreHolds.l2 k base more home vs (wrap64 (x18 + 1))) (fun k => ?_) hn
    simp only [bandplanlaw28_ScoreHolds.l3]
    rw [if_neg (by omega)]
  | succ d ih =>
    intro o ho
    have hc : ((o + 1 : Nat) : Int) = (o : Int) + 1 := by omega
    have hw : wrap64 ((o : Int) + 1) = ((o + 1 : Nat) : Int) := by rw [hc]; exact w64 (by omega) (by omega)
    have hlt : o < (home + 1).toNat := by omega
    have wm := worth_mono home o (by omega) (by omega) h5
    have wb := worth_bd home
    have wo := worth_bd (o : Int)
    obtain ⟨r, hr⟩ : ∃ r, r = worth home - worth (o : Int) := ⟨_, rfl⟩
    have s1 := small_mul v base r (by omega) hv2 h1 (by omega) (by omega) (by omega)
    have s2 := small_mul v more r (by omega) hv2 (by omega) h3 (by omega) (by omega)
    have s3 := small_mul 1000000 base r (by omega) (by omega) h1 (by omega) (by omega) (by omega)
    have e0 : rd (offers v base home (home + 1).toNat) (o : Int) = v * base * r / 1000000000 := by rw [rd_offers _ _ _ hlt, hr]
    have e1 : rd (offers v more home (home + 1).toNat) (o : Int) = v * more * r / 1000000000 := by rw [rd_offers _ _ _ hlt, hr]
    have e2 : rd (offers 1000000 base home (home + 1).toNat) (o : Int) = 1000000 * base * r / 1000000000 := by rw [rd_offers _ _ _ hlt, hr]
    have c0 : 0 ≤ v * base * r / 1000000000 := Int.ediv_nonneg s1.2.2.1 (by omega)
    have c1 : v * base * r / 1000000000 ≤ v * more * r / 1000000000 := by
      refine Int.ediv_le_ediv (by omega) ?_
      exact Int.mul_le_mul_of_nonneg_right (Int.mul_le_mul_of_nonneg_left h2 (by omega)) (by omega)
    have c2 : v * base * r / 1000000000 ≤ 1000000 * base * r / 1000000000 := by
      refine Int.ediv_le_ediv (by omega) ?_
      exact Int.mul_le_mul_of_nonneg_right (Int.mul_le_mul_of_nonneg_right hv2 h1) (by omega)
    have c3 : 1000000 * base * r / 1000000000 ≤ base := by
      have : 1000000 * base * r ≤ 1000000 * base * 1000 := Int.mul_le_mul_of_nonneg_left (by omega) (by omega)
      omega
    have lens : ∀ a b : Int, ((offers a b home (home + 1).toNat).length : Int) = home + 1 := fun a b => by rw [offers_length]; omega
    refine Ev.step (f := fun k => bandplanlaw28_ScoreHolds.l3 k base more home vs x18 (offers v base home (home + 1).toNat) (offers v more home (home + 1).toNat) (offers 1000000 base home (home + 1).toNat) ((o + 1 : Nat) : Int)) (fun k => ?_) (ih (o + 1) (by omega))
    simp only [bandplanlaw28_ScoreHolds.l3]
    rw [if_pos (by omega), if_pos (by omega), lens, if_pos (by omega), e0, if_neg (by omega), if_neg (by omega), lens, if_pos (by omega), e1, if_neg (by omega), lens, if_pos (by omega), e2, if_neg (by omega), hw]
    by_cases hz : (o : Int) > 0
    · have hp : wrap64 ((o : Int) - 1) = ((o - 1 : Nat) : Int) := by rw [w64 (by omega) (by omega)]; omega
      have e3 : rd (offers v base home (home + 1).toNat) ((o - 1 : Nat) : Int) = v * base * (worth home - worth ((o - 1 : Nat) : Int)) / 1000000000 := rd_offers _ _ _ (by omega)
      have wp := worth_mono (o : Int) ((o - 1 : Nat) : Int) (by omega) (by omega) (by omega)
      have c4 : v * base * r / 1000000000 ≤ v * base * (worth home - worth ((o - 1 : Nat) : Int)) / 1000000000 := by
        refine Int.ediv_le_ediv (by omega) ?_
        exact Int.mul_le_mul_of_nonneg_left (by omega) s1.1
      rw [if_pos hz, hp, if_pos (by omega), if_pos (by omega), e3, if_neg (by omega)]
    · rw [if_neg hz]

include hl hok h1 h2 h3 h4 h5 in
theorem l2_ev : ∀ (d i : Nat), i + d = l.length → Ev (fun k => bandplanlaw28_ScoreHolds.l2 k base more home (vols l (mm l) l.length) (i : Int)) true := by
  intro d
  have hvl : ((vols l (mm l) l.length).length : Int) = l.length := by rw [vols_length]
  induction d with
  | zero =>
    intro i hi
    refine Ev.step (f := fun k => (bandplanlaw28_known.f k).bind fun t => some t) (fun k => ?_) known_bindF
    simp only [bandplanlaw28_ScoreHolds.l2]
    rw [if_neg (by omega)]
  | succ d ih =>
    intro i hi
    have hc : ((i + 1 : Nat) : Int) = (i : Int) + 1 := by omega
    have hw : wrap64 ((i : Int) + 1) = ((i + 1 : Nat) : Int) := by rw [hc]; exact w64 (by omega) (by omega)
    obtain ⟨b1, b2⟩ := vol_bd hok (j := i) (by omega)
    have o1 := offers_good b1 b2 h1 (by omega : base ≤ 1000000000) h4 h5
    have o2 := offers_good b1 b2 (by omega : 0 ≤ more) h3 h4 h5
    have o3 := offers_good (v := 1000000) (by omega) (by omega) h1 (by omega : base ≤ 1000000000) h4 h5
    have lens : ∀ a b : Int, ((offers a b home (home + 1).toNat).length : Int) = home + 1 := fun a b => by rw [offers_length]; omega
    have wh : wrap64 (home + 1) = home + 1 := w64 (by omega) (by omega)
    have hz : rd (offers (vol l i) base home (home + 1).toNat) home = 0 := by
      obtain ⟨hn, rfl⟩ := Int.eq_ofNat_of_zero_le (by omega : 0 ≤ home)
      rw [rd_offers _ _ _ (by omega)]
      simp
    have h3e := l3_ev h1 h2 h3 h4 h5 (vols l (mm l) l.length) (i : Int) b1 b2 (by rw [hw]; exact ih (i + 1) (by omega)) (home + 1).toNat 0 (by omega)
    refine Ev.step (f := fun k => bandplanlaw28_ScoreHolds.j7 k base more home (vols l (mm l) l.length) (i : Int) (offers (vol l i) base home (home + 1).toNat) (offers (vol l i) more home (home + 1).toNat) (offers 1000000 base home (home + 1).toNat) false) (fun k => ?_) (Ev.step (fun k => ?_) h3e)
    · simp only [bandplanlaw28_ScoreHolds.l2]
      rw [if_pos (by omega), if_pos (by omega), rd52 i (by omega), o1, Option.bind_some, o2, Option.bind_some, o3, Option.bind_some]
      dsimp only
      rw [if_pos rfl, if_pos rfl, if_pos rfl, lens, lens, lens, wh, if_pos rfl, if_pos rfl, if_pos rfl, if_pos (by omega), if_pos (by omega), hz]
      rfl
    · simp only [bandplanlaw28_ScoreHolds.j7]
      rw [if_neg (by decide)]
      rfl
end

section
variable {l : List S40} (hl : l.length ≤ 40) (hok : okFrom l l.length 0 = true) (base more home : Int)
include hl hok in
theorem j4_ev : Ev (fun k => bandplanlaw28_ScoreHolds.j4 k base more home (vols l (mm l) l.length) false) true := by
  by_cases hb : base < 0 ∨ more < base ∨ more > 1000000000 ∨ home < 1 ∨ home > 3
  · refine Ev.step (f := fun k => bandplanlaw28_ScoreHolds.j5 k base more home (vols l (mm l) l.length) true) (fun k => ?_) (Ev.step (fun k => ?_) known_bindF)
    · simp only [bandplanlaw28_ScoreHolds.j4]
      rw [if_neg (by decide)]
      by_cases c1 : base < 0
      · rw [if_pos c1]
      · rw [if_neg c1]
        by_cases c2 : more < base
        · rw [if_pos c2]
        · rw [if_neg c2]
          by_cases c3 : more > 1000000000
          · rw [if_pos c3]
          · rw [if_neg c3]
            by_cases c4 : home < 1
            · rw [if_pos c4]
            · rw [if_neg c4, decide_eq_true (by omega : home > 3)]
    · simp only [bandplanlaw28_ScoreHolds.j5, if_true]
  · refine Ev.step (f := fun k => bandplanlaw28_ScoreHolds.j5 k base more home (vols l (mm l) l.length) false) (fun k => ?_) (Ev.step (f := fun k => bandplanlaw28_ScoreHolds.l2 k base more home (vols l (mm l) l.length) ((0 : Nat) : Int)) (fun k => ?_) (l2_ev hl hok (by omega) (by omega) (by omega) (by omega) (by omega) l.length 0 (by omega)))
    · simp only [bandplanlaw28_ScoreHolds.j4]
      rw [if_neg (by decide), if_neg (by omega), if_neg (by omega), if_neg (by omega), if_neg (by omega), decide_eq_false (by omega)]
    · simp only [bandplanlaw28_ScoreHolds.j5]
      rw [if_neg (by decide)]
      rfl

include hl hok in
theorem outer_ev : ∀ (d i : Nat) (m : Int), i + d = l.length → top l d i m = top l l.length 0 0 → Ev (fun k => bandplanlaw28_ScoreHolds.l0 k l base more home (vols l (mm l) l.length) m (i : Int)) true := by
  intro d
  have hvl : ((vols l (mm l) l.length).length : Int) = l.length := by rw [vols_length]
  induction d with
  | zero =>
    intro i m hi hm
    refine Ev.step (f := fun k => bandplanlaw28_ScoreHolds.j4 k base more home (vols l (mm l) l.length) false) (fun k => ?_) (j4_ev hl hok base more home)
    simp only [bandplanlaw28_ScoreHolds.l0]
    rw [if_neg (by omega), hvl]
    by_cases hz : (l.length : Int) > 0
    · rw [if_pos hz]
      have hm' : m = top l l.length 0 0 := hm
      obtain ⟨j, hj, hv⟩ := vol_top (l := l) (by omega)
      have t1 := top_at (l := l) l.length 0 j 0 (by omega) (by omega)
      have t2 := top_le hok l.length 0 0 (by omega) (by omega)
      have : m = 1000000 := by omega
      subst this
      rfl
    · rw [if_neg hz]
  | succ d ih =>
    intro i m hi hm
    obtain ⟨b1, b2⟩ := vol_bd hok (j := i) (by omega)
    obtain ⟨_, _, hv⟩ := val_of hok (j := i) (by omega)
    have hin := inner_ev hl hok base more home (fun _ _ _ => trivial) (mx m (vol l i)) i (by omega) (ih (i + 1) _ (by omega) hm) l.length 0 (by omega)
    refine Ev.step (f := fun k => bandplanlaw28_ScoreHolds.j2 k l base more home (vols l (mm l) l.length) (mx m (vol l i)) (i : Int) false) (fun k => ?_) (Ev.step (f := fun k => (score_Raw.f k (at40 l i).f0 (at40 l i).f1 (at40 l i).f2).bind fun b => bandplanlaw28_ScoreHolds.l1 k l base more home (vols l (mm l) l.length) (mx m (vol l i)) (i : Int) b.1 b.2 0) (fun k => ?_) (Ev.bind (raw_good hv) hin))
    · simp only [bandplanlaw28_ScoreHolds.l0]
      rw [if_pos (by omega), if_pos (by omega), rd52 i (by omega), if_neg (by omega), decide_eq_false (by omega)]
    · simp only [bandplanlaw28_ScoreHolds.j2]
      rw [if_neg (by decide), if_pos (by omega), if_pos (by omega), rd40]
end

theorem pure_ScoreHolds (l : List S40) (base more home : Int) : ∃ k, bandplanlaw28_ScoreHolds.f k l base more home = some true := by
  refine Ev.rounds (g := fun k => bandplanlaw28_ScoreHolds.f k l base more home) ?_
  unfold bandplanlaw28_ScoreHolds.f
  by_cases h : (l.length : Int) > 40
  · simp only [if_pos h]
    exact known_bindF
  · simp only [if_neg h]
    refine Ev.bind (prog_vols (by omega)) ?_
    cases hok : okFrom l l.length 0 with
    | false =>
      have hv : volRes l = ([], 2) := by unfold volRes; rw [hok]; rfl
      rw [hv]
      refine Ev.congr (f := fun k => bandplanlaw28_ScoreHolds.j0 k l base more home [] 2 true) (fun k => ?_) (Ev.step (fun k => ?_) known_bindF)
      · rw [if_neg (by decide)]
      · simp only [bandplanlaw28_ScoreHolds.j0, if_true]
        rfl
    | true =>
      have hv : volRes l = (vols l (mm l) l.length, 0) := by unfold volRes; rw [hok]; rfl
      rw [hv]
      refine Ev.congr (f := fun k => bandplanlaw28_ScoreHolds.j0 k l base more home (vols l (mm l) l.length) 0 false) (fun k => ?_) (Ev.step (f := fun k => bandplanlaw28_ScoreHolds.l0 k l base more home (vols l (mm l) l.length) 0 ((0 : Nat) : Int)) (fun k => ?_) (outer_ev (by omega) hok base more home l.length 0 0 (by omega) rfl))
      · rw [if_pos rfl]
        dsimp only
        rw [vols_length, bne_self_eq_false]
      · simp only [bandplanlaw28_ScoreHolds.j0]
        rw [if_neg (by decide)]
        rfl

end Go.Proofs.YtpchmhijcockkaaDoor.Print
