/- Plain laws of the score statements, part 2: ScoreRoot, ScoreRaw, ScoreOffer, ScoreOffers. -/
import Derived.Test.YtpchmhijcockkaaDoorPureB
import Derived.Test.YtpchmhijcockkaaDoorPrint13
namespace Go.Proofs.YtpchmhijcockkaaDoor.Print
open Go.RowKit Go.Proofs.YtpchmhijcockkaaDoorW.PrintWords Go.Proofs.YtpchmhijcockkaaDoorW.PrintLast Go.Proofs.YtpchmhijcockkaaDoorW.PrintMore

theorem wf_i64 {a : Int} (h : (Lit.int .i64 a).wf = true) : -9223372036854775808 ≤ a ∧ a ≤ 9223372036854775807 := by
  have e1 : IntKind.i64.min = -9223372036854775808 := rfl
  have e2 : IntKind.i64.max = 9223372036854775807 := rfl
  simp [Lit.wf, e1, e2] at h
  omega

theorem pure_ScoreRoot (a : Int) (h : (Lit.int .i64 a).wf = true) : ∃ k, bandplanlaw28_ScoreRoot.f k a = some true := by
  have hb := wf_i64 h
  refine Ev.rounds (g := fun k => bandplanlaw28_ScoreRoot.f k a) ?_
  by_cases h0 : a < 0
  · refine Ev.congr (f := fun k => (bandplanlaw28_known.f k).bind fun t => some t) (fun k => ?_) (Ev.bind known28 (Ev.now true))
    unfold bandplanlaw28_ScoreRoot.f score_Root.f
    simp [h0]
  · obtain ⟨r, hr, hs⟩ := root_ev (n := a) (by omega) hb.2
    have hq := square_ev hs hb.2
    refine Ev.congr (f := fun k => ((score_root.f k a).bind fun t => some (t, (0 : Int))).bind fun b => (bandplanref28_Square.f k a).bind fun t => if b.1 = t then if b.2 = 0 then (bandplanlaw28_known.f k).bind fun t => some t else some false else some false) (fun k => ?_)
      (Ev.bind (Ev.bind hr (Ev.now (r, (0 : Int)))) (Ev.bind hq ?_))
    · unfold bandplanlaw28_ScoreRoot.f score_Root.f
      simp [h0]
    · simp only [if_true]
      exact Ev.bind known28 (Ev.now true)

def validW (a b c : Int) : Bool := decide (0 ≤ a ∧ a ≤ 511 ∧ 0 ≤ b ∧ b ≤ 511 ∧ 0 ≤ c ∧ c ≤ 4096000000)
theorem validW_prog (a b c : Int) : score_valid.f a b c = some (validW a b c) := by
  unfold score_valid.f validW
  repeat' split
  all_goals (congr 1; first | (rw [decide_eq_decide]; omega) | (symm; rw [decide_eq_false_iff_not]; omega))
theorem validW_ref (a b c : Int) : bandplanref28_Valid.f a b c = some (validW a b c) := by
  unfold bandplanref28_Valid.f validW
  repeat' split
  all_goals (congr 1; first | (rw [decide_eq_decide]; omega) | (symm; rw [decide_eq_false_iff_not]; omega))

theorem raw_prod {a b c : Int} (h : validW a b c = true) : 0 ≤ b * c ∧ b * c ≤ 2093056000000 ∧ wrap64 (b * c) = b * c := by
  obtain ⟨_, _, h2, h3, h4, h5⟩ := of_decide_eq_true h
  have p0 : 0 ≤ b * c := Int.mul_nonneg h2 h4
  have p1 : b * c ≤ 511 * 4096000000 := Int.mul_le_mul h3 h5 h4 (by omega)
  exact ⟨p0, by omega, w64 (by omega) (by omega)⟩

/-- What both texts compute for a weight. -/
theorem raw_ev (a b c : Int) : ∃ p : Int × Int, Ev (fun k => score_Raw.f k a b c) p ∧ Ev (fun k => bandplanref28_Raw.f k a b c) p ∧
    (validW a b c = true → p.2 = 0 ∧ IsRoot (b * c) p.1) ∧ (validW a b c = false → p = (0, 2)) := by
  cases hv : validW a b c with
  | false =>
    refine ⟨(0, 2), Ev.congr (f := fun _ => some (0, 2)) (fun k => ?_) (Ev.now _), Ev.congr (f := fun _ => some (0, 2)) (fun k => ?_) (Ev.now _), fun h => (by cases h), fun _ => rfl⟩
    · unfold score_Raw.f; rw [validW_prog, hv]; rfl
    · unfold bandplanref28_Raw.f; rw [validW_ref, hv]; rfl
  | true =>
    obtain ⟨p0, p1, p2⟩ := raw_prod hv
    obtain ⟨r, hr, hs⟩ := root_ev p0 (by omega)
    have hq := square_ev hs (by omega)
    refine ⟨(r, 0), Ev.congr (f := fun k => (score_root.f k (b * c)).bind fun t => some (t, 0)) (fun k => ?_) (Ev.bind hr (Ev.now _)), Ev.congr (f := fun k => (bandplanref28_Square.f k (b * c)).bind fun t => some (t, 0)) (fun k => ?_) (Ev.bind hq (Ev.now _)), fun _ => ⟨rfl, hs⟩, fun h => (by cases h)⟩
    · unfold score_Raw.f; rw [validW_prog, hv, p2]; rfl
    · unfold bandplanref28_Raw.f; rw [validW_ref, hv, p2]; rfl

theorem pure_ScoreRaw (a b c : Int) : ∃ k, bandplanlaw28_ScoreRaw.f k a b c = some true := by
  refine Ev.rounds (g := fun k => bandplanlaw28_ScoreRaw.f k a b c) ?_
  obtain ⟨p, h1, h2, _⟩ := raw_ev a b c
  refine Ev.bind h1 (Ev.bind h2 ?_)
  simp only [if_true]
  exact Ev.bind known28 (Ev.now true)

def badR (a2 a3 : Int) : Prop := a2 < 1 ∨ 3 < a2 ∨ a3 < 0 ∨ a2 < a3
theorem red_prog_bad {a2 a3 : Int} (h : badR a2 a3) : score_Reduction.f a2 a3 = some (0, 2) := by
  unfold score_Reduction.f badR at *
  repeat' split
  all_goals first
    | rfl
    | (exfalso; omega)
theorem red_prog_good {a2 a3 : Int} (h : ¬ badR a2 a3) : score_Reduction.f a2 a3 = some (worth a2 - worth a3, 0) := by
  unfold score_Reduction.f badR at *
  repeat' split
  all_goals first
    | rfl
    | (exfalso; omega)
theorem worth_ref (a : Int) : bandplanref28_Worth.f a = some (worth a) := by
  unfold bandplanref28_Worth.f worth
  repeat' split
  all_goals rfl
theorem red_ref_bad {a2 a3 : Int} (h : badR a2 a3) (k : Nat) : bandplanref28_Reduction.f (k + 1) a2 a3 = some (0, 2) := by
  unfold bandplanref28_Reduction.f bandplanref28_Home.f
  unfold badR at h
  by_cases h1 : a2 ≥ 1
  · rw [if_pos h1, Option.bind_some]
    by_cases h2 : a2 ≤ 3
    · rw [decide_eq_true h2, if_pos rfl]
      by_cases h3 : a3 < 0
      · rw [if_pos h3]; simp [bandplanref28_Reduction.j0]
      · rw [if_neg h3, decide_eq_true (by omega : a3 > a2)]; simp [bandplanref28_Reduction.j0]
    · rw [decide_eq_false h2]; simp [bandplanref28_Reduction.j0]
  · rw [if_neg h1]; simp [bandplanref28_Reduction.j0]
theorem red_ref_good {a2 a3 : Int} (h : ¬ badR a2 a3) (k : Nat) : bandplanref28_Reduction.f (k + 1) a2 a3 = some (worth a2 - worth a3, 0) := by
  unfold badR at h
  unfold bandplanref28_Reduction.f bandplanref28_Home.f
  have b2 := worth_bd a2
  have b3 := worth_bd a3
  have hw : wrap64 (worth a2 - worth a3) = worth a2 - worth a3 := w64 (by omega) (by omega)
  rw [if_pos (by omega), Option.bind_some, decide_eq_true (by omega : a2 ≤ 3), if_pos rfl, if_neg (by omega), decide_eq_false (by omega : ¬ a3 > a2)]
  simp [bandplanref28_Reduction.j0, worth_ref, hw]

theorem offer_ref (a0 a1 a2 a3 : Int) : ∃ p, score_Offer.f a0 a1 a2 a3 = some p ∧ ∀ k, bandplanref28_Offer.f (k + 1) a0 a1 a2 a3 = some p := by
  by_cases hb : badR a2 a3
  · refine ⟨(0, 2), ?_, fun k => ?_⟩
    · unfold score_Offer.f; unfold badR at hb; rw [if_pos (by omega)]
    · unfold bandplanref28_Offer.f; rw [red_ref_bad hb]; rfl
  · by_cases hg : goodB a0 a1 = true
    · obtain ⟨g0, g1, g2, g3⟩ := of_decide_eq_true hg
      refine ⟨(a0 * a1 * (worth a2 - worth a3) / 1000000000, 0), ?_, fun k => ?_⟩
      · unfold score_Offer.f
        rw [if_neg]
        unfold badR at hb
        rintro (c | c | c | c | c)
        · omega
        · omega
        · omega
        · omega
        · rw [hg] at c; cases c
      · unfold bandplanref28_Offer.f
        unfold badR at hb
        have m := small_mul a0 a1 (worth a2 - worth a3) (by omega) g1 g2 g3 (by have := worth_mono a2 a3 (by omega) (by omega) (by omega); omega) (by have := worth_bd a2; have := worth_bd a3; omega)
        have e1 : wrap64 (a0 * a1) = a0 * a1 := w64 (by omega) (by omega)
        have e2 : wrap64 (a0 * a1 * (worth a2 - worth a3)) = a0 * a1 * (worth a2 - worth a3) := w64 (by omega) (by omega)
        have e3 : Int.tdiv (a0 * a1 * (worth a2 - worth a3)) 1000000000 = a0 * a1 * (worth a2 - worth a3) / 1000000000 := Int.tdiv_eq_ediv_of_nonneg (by omega)
        have e4 : wrap64 (a0 * a1 * (worth a2 - worth a3) / 1000000000) = a0 * a1 * (worth a2 - worth a3) / 1000000000 := w64 (by omega) (by omega)
        rw [red_ref_good (by unfold badR; omega), Option.bind_some]
        dsimp only
        rw [if_pos rfl, if_neg (by omega), if_neg (by omega), if_neg (by omega), if_neg (by omega), e1, e2, e3, e4]
    · have hg' : goodB a0 a1 = false := by simpa using hg
      have hn := of_decide_eq_false hg'
      refine ⟨(0, 2), ?_, fun k => ?_⟩
      · unfold score_Offer.f; rw [if_pos (.inr (.inr (.inr (.inr hg'))))]
      · unfold bandplanref28_Offer.f
        rw [red_ref_good hb, Option.bind_some]
        dsimp only
        rw [if_pos rfl]
        repeat' split
        all_goals first
          | rfl
          | (exfalso; omega)

theorem pure_ScoreOffer (a0 a1 a2 a3 : Int) : ∃ k, bandplanlaw28_ScoreOffer.f k a0 a1 a2 a3 = some true := by
  obtain ⟨p, h1, h2⟩ := offer_ref a0 a1 a2 a3
  obtain ⟨q, h3, h4⟩ : ∃ q, score_Reduction.f a2 a3 = some q ∧ ∀ k, bandplanref28_Reduction.f (k + 1) a2 a3 = some q := by
    by_cases hb : badR a2 a3
    · exact ⟨_, red_prog_bad hb, red_ref_bad hb⟩
    · exact ⟨_, red_prog_good hb, red_ref_good hb⟩
  obtain ⟨K, hk⟩ := known28
  refine ⟨K + 1, ?_⟩
  unfold bandplanlaw28_ScoreOffer.f
  have hk' : bandplanlaw28_known.f (K + 1) = some true := hk (K + 1) (by omega)
  rw [h1, h2, h3, h4, hk']
  simp

theorem same_ints (l : List Int) (hl : l.length ≤ 1000000) : Ev (fun k => bandplanref28_SameInts.f k l l) true := by
  have loop : ∀ (d : Nat) (i : Int), 0 ≤ i → i ≤ l.length → (l.length : Int) - i = d → Ev (fun k => bandplanref28_SameInts.l0 k l l i) true := by
    intro d
    induction d with
    | zero =>
      intro i h0 h1 h2
      refine Ev.step (f := fun _ => some true) (fun k => ?_) (Ev.now true)
      simp only [bandplanref28_SameInts.l0]
      rw [if_neg (by omega)]
    | succ d ih =>
      intro i h0 h1 h2
      refine Ev.step (f := fun k => bandplanref28_SameInts.l0 k l l (i + 1)) (fun k => ?_) (ih (i + 1) (by omega) (by omega) (by omega))
      simp only [bandplanref28_SameInts.l0]
      rw [if_pos (by omega), if_pos h0, if_pos (by omega), w64 (by omega) (by omega)]
      simp
  refine Ev.congr (f := fun k => bandplanref28_SameInts.l0 k l l 0) (fun k => ?_) (loop l.length 0 (by omega) (by omega) (by omega))
  unfold bandplanref28_SameInts.f
  rw [if_pos rfl]

theorem offers_ref_loop (a0 a1 a2 : Int) (hg : ¬ (a2 < 1 ∨ 3 < a2 ∨ goodB a0 a1 = false)) : ∀ (d n : Nat), (n : Int) ≤ a2 + 1 → a2 + 1 - n = d → Ev (fun k => bandplanref28_Offers.l0 k a0 a1 a2 (offers a0 a1 a2 n) n) (offers a0 a1 a2 (a2 + 1).toNat, 0) := by
  intro d
  induction d with
  | zero =>
    intro n h1 h2
    have hn : n = (a2 + 1).toNat := by omega
    refine Ev.step (f := fun _ => some (offers a0 a1 a2 (a2 + 1).toNat, 0)) (fun k => ?_) (Ev.now _)
    simp only [bandplanref28_Offers.l0]
    rw [if_neg (by omega), hn]
  | succ d ih =>
    intro n h1 h2
    obtain ⟨p, e1, e2⟩ := offer_ref a0 a1 a2 n
    have e3 := offer_good (o := (n : Int)) hg (by omega) (by omega)
    rw [e3] at e1
    have hp := (Option.some.inj e1)
    obtain ⟨K, hK⟩ := ih (n + 1) (by omega) (by omega)
    refine ⟨K + 2, fun k hk => ?_⟩
    obtain ⟨m, rfl⟩ : ∃ m, k = m + 2 := ⟨k - 2, by omega⟩
    have hm := hK (m + 1) (by omega)
    simp only [bandplanref28_Offers.l0] at hm ⊢
    rw [if_pos (by omega), e2, Option.bind_some, ← hp]
    have hlen : (offers a0 a1 a2 n).length < 17592186044416 := by rw [offers_length]; omega
    rw [if_pos hlen, w64 (by omega) (by omega)]
    have hc : ((n + 1 : Nat) : Int) = (n : Int) + 1 := by omega
    rw [offers_succ, hc] at hm
    exact hm

theorem offers_ev (a0 a1 a2 : Int) : ∃ p : List Int × Int, score_Offers.f a0 a1 a2 = some p ∧ Ev (fun k => bandplanref28_Offers.f k a0 a1 a2) p ∧ p.1.length ≤ 10 := by
  obtain ⟨p, e1, e2⟩ := offer_ref a0 a1 a2 0
  by_cases hb : a2 < 1 ∨ 3 < a2 ∨ goodB a0 a1 = false
  · refine ⟨([], 2), by unfold score_Offers.f; rw [if_pos hb], ?_, by simp⟩
    have hz : score_Offer.f a0 a1 a2 0 = some (0, 2) := by
      unfold score_Offer.f
      rw [if_pos]
      rcases hb with c | c | c
      · exact .inl c
      · exact .inr (.inl c)
      · exact .inr (.inr (.inr (.inr c)))
    rw [hz] at e1
    have hp := Option.some.inj e1
    refine Ev.step (f := fun _ => some ([], 2)) (fun k => ?_) (Ev.now _)
    unfold bandplanref28_Offers.f
    rw [e2, ← hp]
    rfl
  · refine ⟨_, by unfold score_Offers.f; rw [if_neg hb], ?_, by simp only [offers_length]; omega⟩
    have hz := offer_good (o := 0) hb (by omega) (by omega)
    rw [hz] at e1
    have hp := Option.some.inj e1
    refine Ev.step (f := fun k => bandplanref28_Offers.l0 (k + 1) a0 a1 a2 [] 0) (fun k => ?_) ?_
    · unfold bandplanref28_Offers.f
      rw [e2, ← hp, Option.bind_some]
      rfl
    · obtain ⟨K, hK⟩ := offers_ref_loop a0 a1 a2 hb (a2 + 1).toNat 0 (by omega) (by omega)
      exact ⟨K, fun k hk => hK (k + 1) (by omega)⟩

theorem pure_ScoreOffers (a0 a1 a2 : Int) : ∃ k, bandplanlaw28_ScoreOffers.f k a0 a1 a2 = some true := by
  obtain ⟨p, h1, h2, h3⟩ := offers_ev a0 a1 a2
  refine Ev.rounds (g := fun k => bandplanlaw28_ScoreOffers.f k a0 a1 a2) ?_
  unfold bandplanlaw28_ScoreOffers.f
  rw [h1]
  simp only [Option.bind_some]
  refine Ev.bind h2 (Ev.bind (same_ints _ (by omega)) ?_)
  simp only [if_true]
  exact Ev.bind known28 (Ev.now true)

end Go.Proofs.YtpchmhijcockkaaDoor.Print
