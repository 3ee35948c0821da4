/- Contracts of math/bits.Len, score.Reduction, Offer and Offers, in the printed functions' form. -/
import Derived.Test.YtpchmhijcockkaaDoorLaid
import Derived.Test.YtpchmhijcockkaaDoorShelf
namespace Go.Proofs.YtpchmhijcockkaaDoor.Print
open Go.RowKit Go.Proofs.YtpchmhijcockkaaDoorW.PrintWords Go.Proofs.YtpchmhijcockkaaDoorW.PrintLast Go.Proofs.YtpchmhijcockkaaDoorW.PrintMore
set_option linter.unusedVariables false

def bits_Len.f (a0 : Int) : Option Int := if 0 ≤ a0 ∧ a0 ≤ 18446744073709551615 then some (Lib.bitLen a0.toNat : Int) else none
theorem bits_Len.calls (a0 : Int) (r : Int) (w : World) (h : bits_Len.f a0 = some r) :
    Calls Tryd.prog 49 #[.int .u64 a0] w fun e w' => e = .returned (.int .i64 r) ∧ Below w.heap.size w w' := by
  unfold bits_Len.f at h
  split at h
  · rename_i hc
    obtain rfl := Option.some.inj h
    refine (Tryd.bits_Len a0 w hc.1 hc.2).mono ?_
    rintro e w' ⟨rfl, rfl⟩
    exact ⟨rfl, Below.refl _ _⟩
  · cases h

def worth (a : Int) : Int := if a = 1 then 250 else if a = 2 then 600 else if a = 3 then 1000 else 0
def score_Reduction.f (a0 a1 : Int) : Option (Int × Int) := if a0 < 1 then some (0, 2) else if a0 > 3 then some (0, 2) else if a1 < 0 then some (0, 2) else if a1 > a0 then some (0, 2) else some (worth a0 - worth a1, 0)

set_option maxHeartbeats 4000000 in
theorem score_Reduction.bad (a0 a1 : Int) (w : World) (h : a0 < 1 ∨ 3 < a0 ∨ a1 < 0 ∨ a0 < a1) :
    Calls Tryd.prog 28 #[.int .i64 a0, .int .i64 a1] w fun e w' => e = .returned (.tuple #[.int .i64 0, .int .i64 2]) ∧ Below w.heap.size w w' := by
  by_cases h1 : a0 < 1
  · go_enter Tryd.func28, Tryd.ntmps28
    go_wp2
    go_ret2
    exact ⟨rfl, Below.refl _ _⟩
  by_cases h2 : 3 < a0
  · have h1' : ¬ a0 < 1 := h1
    go_enter Tryd.func28, Tryd.ntmps28
    go_wp2
    go_ret2
    exact ⟨rfl, Below.refl _ _⟩
  by_cases h3 : a1 < 0
  · go_enter Tryd.func28, Tryd.ntmps28
    go_wp2
    go_ret2
    exact ⟨rfl, Below.refl _ _⟩
  have h4 : a0 < a1 := by omega
  go_enter Tryd.func28, Tryd.ntmps28
  go_wp2
  go_ret2
  exact ⟨rfl, Below.refl _ _⟩

set_option maxHeartbeats 4000000 in
theorem score_Reduction.good (a0 a1 : Int) (w : World) (hl : Laid w) (h0 : 1 ≤ a0) (h1 : a0 ≤ 3) (h2 : 0 ≤ a1) (h3 : a1 ≤ a0) :
    Calls Tryd.prog 28 #[.int .i64 a0, .int .i64 a1] w fun e w' => e = .returned (.tuple #[.int .i64 (worth a0 - worth a1), .int .i64 0]) ∧ Below w.heap.size w w' := by
  obtain ⟨c0, c1, c2, c3⟩ := hl
  have e0 : a0 = 1 ∨ a0 = 2 ∨ a0 = 3 := by omega
  have e1 : a1 = 0 ∨ a1 = 1 ∨ a1 = 2 ∨ a1 = 3 := by omega
  rcases e0 with rfl | rfl | rfl <;> rcases e1 with rfl | rfl | rfl | rfl
  all_goals first
    | (exfalso; omega)
    | (clear h0 h1 h2 h3
       go_enter Tryd.func28, Tryd.ntmps28
       go_wp2
       go_quiet (fail)
       go_wp2
       go_ret2
       exact ⟨by simp [worth], by repeat (first | exact Below.refl _ _ | apply below_alloc | apply pw_below_drewN | apply below_drew1)⟩)

theorem score_Reduction.calls (a0 a1 : Int) (r1 r2 : Int) (w : World) (hl : Laid w) (h : score_Reduction.f a0 a1 = some (r1, r2)) :
    Calls Tryd.prog 28 #[.int .i64 a0, .int .i64 a1] w fun e w' => e = .returned (.tuple #[.int .i64 r1, .int .i64 r2]) ∧ Below w.heap.size w w' := by
  unfold score_Reduction.f at h
  by_cases h1 : a0 < 1
  · rw [if_pos h1] at h; cases h; exact score_Reduction.bad a0 a1 w (.inl h1)
  rw [if_neg h1] at h
  by_cases h2 : a0 > 3
  · rw [if_pos h2] at h; cases h; exact score_Reduction.bad a0 a1 w (.inr (.inl h2))
  rw [if_neg h2] at h
  by_cases h3 : a1 < 0
  · rw [if_pos h3] at h; cases h; exact score_Reduction.bad a0 a1 w (.inr (.inr (.inl h3)))
  rw [if_neg h3] at h
  by_cases h4 : a1 > a0
  · rw [if_pos h4] at h; cases h; exact score_Reduction.bad a0 a1 w (.inr (.inr (.inr h4)))
  rw [if_neg h4] at h
  cases h
  exact score_Reduction.good a0 a1 w hl (by omega) (by omega) (by omega) (by omega)

theorem worth_bd (a : Int) : 0 ≤ worth a ∧ worth a ≤ 1000 := by unfold worth; split <;> (try split) <;> (try split) <;> omega

def goodB (vol base : Int) : Bool := decide (1 ≤ vol ∧ vol ≤ 1000000 ∧ 0 ≤ base ∧ base ≤ 1000000000)

def score_Offer.f (a0 a1 a2 a3 : Int) : Option (Int × Int) :=
  if a2 < 1 ∨ 3 < a2 ∨ a3 < 0 ∨ a2 < a3 ∨ goodB a0 a1 = false then some (0, 2) else some (a0 * a1 * (worth a2 - worth a3) / 1000000000, 0)

set_option maxHeartbeats 4000000 in
theorem prices1.bad (vol base home opt : Int) (b : Bool) (g1 g2 g3 g4 : Addr) (w : World) (hl : Laid w)
    (h1 : w.cell? g1 = some (.int .i64 home)) (h2 : w.cell? g2 = some (.bool b)) (h3 : w.cell? g3 = some (.int .i64 vol)) (h4 : w.cell? g4 = some (.int .i64 base))
    (h : home < 1 ∨ 3 < home ∨ opt < 0 ∨ home < opt) :
    Calls Tryd.prog 50 #[.int .i64 opt, .pointer (some g1), .pointer (some g2), .pointer (some g3), .pointer (some g4)] w fun e w' => e = .returned (.tuple #[.int .i64 0, .int .i64 2]) ∧ Below w.heap.size w w' := by
  have H := Aside0.mk h
  clear h
  go_enter Tryd.func50, Tryd.ntmps50
  go_wp2_with (go_at_call 28; refine (score_Reduction.bad _ _ _ H.out).mono ?_; rintro e w1 ⟨rfl, hb⟩)
  go_ret2
  exact ⟨rfl, hb⟩

theorem small_mul (vol base r : Int) (h0 : 0 ≤ vol) (h1 : vol ≤ 1000000) (h2 : 0 ≤ base) (h3 : base ≤ 1000000000) (h4 : 0 ≤ r) (h5 : r ≤ 1000) :
    0 ≤ vol * base ∧ vol * base ≤ 1000000000000000 ∧ 0 ≤ vol * base * r ∧ vol * base * r ≤ 1000000000000000000 := by
  have a1 : 0 ≤ vol * base := Int.mul_nonneg h0 h2
  have a2 : vol * base ≤ 1000000 * 1000000000 := Int.mul_le_mul h1 h3 h2 (by omega)
  have a3 : 0 ≤ vol * base * r := Int.mul_nonneg a1 h4
  have a4 : vol * base * r ≤ 1000000000000000 * 1000 := Int.mul_le_mul (by omega) h5 h4 (by omega)
  exact ⟨a1, by omega, a3, by omega⟩

theorem worth_mono (a b : Int) (h0 : 0 ≤ b) (h1 : b ≤ a) (h2 : a ≤ 3) : worth b ≤ worth a := by
  unfold worth; repeat' (first | omega | split)

set_option maxHeartbeats 4000000 in
theorem prices1.no (vol base home opt : Int) (g1 g2 g3 g4 : Addr) (w : World) (hl : Laid w)
    (h1 : w.cell? g1 = some (.int .i64 home)) (h2 : w.cell? g2 = some (.bool false)) (h3 : w.cell? g3 = some (.int .i64 vol)) (h4 : w.cell? g4 = some (.int .i64 base))
    (a0 : 1 ≤ home) (a1 : home ≤ 3) (a2 : 0 ≤ opt) (a3 : opt ≤ home) :
    Calls Tryd.prog 50 #[.int .i64 opt, .pointer (some g1), .pointer (some g2), .pointer (some g3), .pointer (some g4)] w fun e w' => e = .returned (.tuple #[.int .i64 0, .int .i64 2]) ∧ Below w.heap.size w w' := by
  have g2' := fun w1 (hb : Below w.heap.size w w1) => (hb.cell (World.block_lt_of_cell? w _ h2)).trans h2
  have G2 := Aside0.mk g2'
  clear g2'
  go_enter Tryd.func50, Tryd.ntmps50
  go_wp2_with (go_at_call 28; refine (score_Reduction.good _ _ _ hl a0 a1 a2 a3).mono ?_; rintro e w1 ⟨rfl, hb⟩; have h2' := G2.out _ hb)
  go_ret2
  exact ⟨rfl, hb⟩

set_option maxHeartbeats 4000000 in
theorem prices1.yes (vol base home opt : Int) (g1 g2 g3 g4 : Addr) (w : World) (hl : Laid w)
    (h1 : w.cell? g1 = some (.int .i64 home)) (h2 : w.cell? g2 = some (.bool true)) (h3 : w.cell? g3 = some (.int .i64 vol)) (h4 : w.cell? g4 = some (.int .i64 base))
    (a0 : 1 ≤ home) (a1 : home ≤ 3) (a2 : 0 ≤ opt) (a3 : opt ≤ home) (b0 : 1 ≤ vol) (b1 : vol ≤ 1000000) (b2 : 0 ≤ base) (b3 : base ≤ 1000000000) :
    Calls Tryd.prog 50 #[.int .i64 opt, .pointer (some g1), .pointer (some g2), .pointer (some g3), .pointer (some g4)] w fun e w' => e = .returned (.tuple #[.int .i64 (vol * base * (worth home - worth opt) / 1000000000), .int .i64 0]) ∧ Below w.heap.size w w' := by
  have G := Aside0.mk (fun w1 (hb : Below w.heap.size w w1) => And.intro ((hb.cell (World.block_lt_of_cell? w _ h2)).trans h2) (And.intro ((hb.cell (World.block_lt_of_cell? w _ h3)).trans h3) ((hb.cell (World.block_lt_of_cell? w _ h4)).trans h4)))
  have m := small_mul vol base (worth home - worth opt) (by omega) b1 b2 b3 (by have := worth_mono home opt a2 a3 a1; omega) (by have := worth_bd home; have := worth_bd opt; omega)
  obtain ⟨m1, m2, m3, m4⟩ := m
  go_enter Tryd.func50, Tryd.ntmps50
  go_wp2_with (go_at_call 28; refine (score_Reduction.good _ _ _ hl a0 a1 a2 a3).mono ?_; rintro e w1 ⟨rfl, hb⟩; obtain ⟨h2', h3', h4'⟩ := G.out _ hb)
  go_ret2
  exact ⟨by simp, hb⟩

set_option maxHeartbeats 4000000 in
theorem prices.calls (vol base home : Int) (w : World) :
    Calls Tryd.prog 46 #[.int .i64 vol, .int .i64 base, .int .i64 home] w fun e w' => ∃ g1 g2 g3 g4 : Nat, e = .returned (.func (.func 50) #[] #[.pointer (some ⟨g1, 0, none⟩), .pointer (some ⟨g2, 0, none⟩), .pointer (some ⟨g3, 0, none⟩), .pointer (some ⟨g4, 0, none⟩)]) ∧
      w'.cell? ⟨g1, 0, none⟩ = some (.int .i64 home) ∧ w'.cell? ⟨g2, 0, none⟩ = some (.bool (goodB vol base)) ∧ w'.cell? ⟨g3, 0, none⟩ = some (.int .i64 vol) ∧ w'.cell? ⟨g4, 0, none⟩ = some (.int .i64 base) ∧ Below w.heap.size w w' := by
  by_cases hb : base ≤ 1000000000
  all_goals
    go_enter Tryd.func46, Tryd.ntmps46
    go_wp2
  all_goals
    go_ret
    refine ⟨_, _, _, _, rfl, ?_, ?_, ?_, ?_, ?_⟩
    · go_simp
    · first
        | (rw [show goodB vol base = true from decide_eq_true (by omega)]; go_simp; done)
        | (rw [show goodB vol base = false from decide_eq_false (by omega)]; go_simp; done)
    · go_simp
    · go_simp
    · repeat (first | exact Below.refl _ _ | apply below_alloc | apply pw_below_drewN | apply below_drew1)

theorem prices1.calls (vol base home opt r1 r2 : Int) (g1 g2 g3 g4 : Addr) (w : World) (hl : Laid w)
    (h1 : w.cell? g1 = some (.int .i64 home)) (h2 : w.cell? g2 = some (.bool (goodB vol base))) (h3 : w.cell? g3 = some (.int .i64 vol)) (h4 : w.cell? g4 = some (.int .i64 base))
    (h : score_Offer.f vol base home opt = some (r1, r2)) :
    Calls Tryd.prog 50 #[.int .i64 opt, .pointer (some g1), .pointer (some g2), .pointer (some g3), .pointer (some g4)] w fun e w' => e = .returned (.tuple #[.int .i64 r1, .int .i64 r2]) ∧ Below w.heap.size w w' := by
  unfold score_Offer.f at h
  by_cases c : home < 1 ∨ 3 < home ∨ opt < 0 ∨ home < opt
  · rw [if_pos (by omega)] at h
    cases h
    exact prices1.bad vol base home opt _ g1 g2 g3 g4 w hl h1 h2 h3 h4 c
  · by_cases b : goodB vol base = false
    · rw [if_pos (by simp [b])] at h
      cases h
      rw [b] at h2
      exact prices1.no vol base home opt g1 g2 g3 g4 w hl h1 h2 h3 h4 (by omega) (by omega) (by omega) (by omega)
    · rw [if_neg (by rintro (h | h | h | h | h) <;> first | exact b h | omega)] at h
      cases h
      have b' : goodB vol base = true := by simpa using b
      rw [b'] at h2
      have b2 := of_decide_eq_true b'
      exact prices1.yes vol base home opt g1 g2 g3 g4 w hl h1 h2 h3 h4 (by omega) (by omega) (by omega) (by omega) b2.1 b2.2.1 b2.2.2.1 b2.2.2.2

set_option maxHeartbeats 4000000 in
theorem score_Offer.calls (a0 a1 a2 a3 r1 r2 : Int) (w : World) (hl : Laid w) (h : score_Offer.f a0 a1 a2 a3 = some (r1, r2)) :
    Calls Tryd.prog 30 #[.int .i64 a0, .int .i64 a1, .int .i64 a2, .int .i64 a3] w fun e w' => e = .returned (.tuple #[.int .i64 r1, .int .i64 r2]) ∧ Below w.heap.size w w' := by
  have H := Aside0.mk h
  clear h
  go_enter Tryd.func30, Tryd.ntmps30
  go_wp2_with (first
    | (go_at_call 46; refine (prices.calls _ _ _ _).mono ?_; rintro e w1 ⟨g1, g2, g3, g4, rfl, h1, h2, h3, h4, hb⟩; have H1 := Aside0.mk h1; have H2 := Aside0.mk h2; have H3 := Aside0.mk h3; have H4 := Aside0.mk h4; have HB := Aside0.mk hb; clear h1 h2 h3 h4 hb)
    | (go_at_call 50; refine (prices1.calls _ _ _ _ _ _ _ _ _ _ _ (laid_below hl HB.out) H1.out H2.out H3.out H4.out H.out).mono ?_; rintro e w2 ⟨rfl, hb2⟩))
  go_ret2
  exact ⟨rfl, HB.out.trans (hb2.mono HB.out.size)⟩

def offers (a0 a1 a2 : Int) (n : Nat) : List Int := (List.range n).map fun (o : Nat) => a0 * a1 * (worth a2 - worth (o : Int)) / 1000000000
theorem offers_succ (a0 a1 a2 : Int) (n : Nat) : offers a0 a1 a2 (n + 1) = offers a0 a1 a2 n ++ [a0 * a1 * (worth a2 - worth (n : Int)) / 1000000000] := by
  unfold offers; rw [List.range_succ, List.map_append]; rfl
theorem offers_length (a0 a1 a2 : Int) (n : Nat) : (offers a0 a1 a2 n).length = n := by simp [offers]
def score_Offers.f (a0 a1 a2 : Int) : Option (List Int × Int) :=
  if a2 < 1 ∨ 3 < a2 ∨ goodB a0 a1 = false then some ([], 2) else some (offers a0 a1 a2 (a2 + 1).toNat, 0)

theorem offer_good {a0 a1 a2 o : Int} (h : ¬ (a2 < 1 ∨ 3 < a2 ∨ goodB a0 a1 = false)) (h0 : 0 ≤ o) (h1 : o ≤ a2) :
    score_Offer.f a0 a1 a2 o = some (a0 * a1 * (worth a2 - worth o) / 1000000000, 0) := by
  unfold score_Offer.f
  rw [if_neg]
  rintro (c | c | c | c | c)
  · exact h (.inl c)
  · exact h (.inr (.inl c))
  · omega
  · omega
  · exact h (.inr (.inr c))

set_option maxHeartbeats 4000000 in
theorem score_Offers.calls (a0 a1 a2 : Int) (r1 : List Int) (r2 : Int) (w : World) (hl : Laid w) (h : score_Offers.f a0 a1 a2 = some (r1, r2)) :
    Calls Tryd.prog 32 #[.int .i64 a0, .int .i64 a1, .int .i64 a2] w fun e w' => ∃ v0_ : Value, e = .returned (.tuple #[v0_, .int .i64 r2]) ∧ Kd.R (Kd.int .i64) 3 w' w.heap.size (fun _ => True) v0_ r1 ∧ Below w.heap.size w w' := by
  unfold score_Offers.f at h
  by_cases c : a2 < 1 ∨ 3 < a2 ∨ goodB a0 a1 = false
  · rw [if_pos c] at h
    have H : score_Offer.f a0 a1 a2 0 = some (0, 2) := by
      unfold score_Offer.f
      rw [if_pos]
      rcases c with c | c | c
      · exact .inl c
      · exact .inr (.inl c)
      · exact .inr (.inr (.inr (.inr c)))
    cases h
    have H := Aside0.mk H
    clear c
    go_enter Tryd.func32, Tryd.ntmps32
    go_wp2_with (first
      | (go_at_call 46; refine (prices.calls _ _ _ _).mono ?_; rintro e w1 ⟨g1, g2, g3, g4, rfl, h1, h2, h3, h4, hb⟩; have H1 := Aside0.mk h1; have H2 := Aside0.mk h2; have H3 := Aside0.mk h3; have H4 := Aside0.mk h4; have HB := Aside0.mk hb; clear h1 h2 h3 h4 hb)
      | (go_at_call 50; refine (prices1.calls _ _ _ _ _ _ _ _ _ _ _ (laid_below hl HB.out) H1.out H2.out H3.out H4.out H.out).mono ?_; rintro e w2 ⟨rfl, hb2⟩; have HB2 := Aside0.mk hb2; clear hb2))
    go_ret2
    exact ⟨_, rfl, Kd.R_nil _ _ _ _ _, HB.out.trans (HB2.out.mono HB.out.size)⟩
  · rw [if_neg c] at h
    have H := Aside0.mk (fun o h0 h1 => offer_good (o := o) c h0 h1)
    have l1 : 1 ≤ a2 := by omega
    have l3 : a2 ≤ 3 := by omega
    cases h
    clear c
    have HZ := Aside0.mk (H.out 0 (by omega) (by omega))
    go_enter Tryd.func32, Tryd.ntmps32
    go_wp2_with (first
      | (go_at_call 46; refine (prices.calls _ _ _ _).mono ?_; rintro e w1 ⟨g1, g2, g3, g4, rfl, h1, h2, h3, h4, hb⟩; have H1 := Aside0.mk h1; have H2 := Aside0.mk h2; have H3 := Aside0.mk h3; have H4 := Aside0.mk h4; have HB := Aside0.mk hb; clear h1 h2 h3 h4 hb)
      | (go_at_call 50; refine (prices1.calls _ _ _ _ _ _ _ _ _ _ _ (laid_below hl HB.out) H1.out H2.out H3.out H4.out HZ.out).mono ?_; rintro e w2 ⟨rfl, hb2⟩; have HB2 := Aside0.mk hb2; clear hb2))
    have HB1 := Aside0.mk (HB.out.trans (HB2.out.mono HB.out.size))
    have HG := Aside0.mk (fun wr (hb : Below w1.heap.size w1 wr) => And.intro (laid_below (laid_below hl HB.out) hb) (And.intro ((hb.cell (World.block_lt_of_cell? w1 _ H1.out)).trans H1.out) (And.intro ((hb.cell (World.block_lt_of_cell? w1 _ H2.out)).trans H2.out) (And.intro ((hb.cell (World.block_lt_of_cell? w1 _ H3.out)).trans H3.out) ((hb.cell (World.block_lt_of_cell? w1 _ H4.out)).trans H4.out)))))
    go_loopw [11, 29] (fun v i wr => ∃ n : Nat, (n : Int) ≤ a2 + 1 ∧ i = .int .i64 n ∧ Aside0 (Kd.R (Kd.int .i64) 3 wr w1.heap.size (fun _ => True) v (offers a0 a1 a2 n)) ∧ Aside0 (Below w1.heap.size w1 wr)) (fun _ i _ => (a2 + 1).toNat - (intOf i).toNat)
    case atStart => exact ⟨0, by omega, rfl, ⟨Kd.R_nil _ _ _ _ _⟩, ⟨HB2.out⟩⟩
    case round =>
      obtain ⟨n, hn, rfl, HO, HBr⟩ := hrel
      have hgr := HG.out wr HBr.out
      obtain ⟨hlr, k1, k2, k3, k4⟩ := hgr
      have K1 := Aside0.mk k1; have K2 := Aside0.mk k2; have K3 := Aside0.mk k3; have K4 := Aside0.mk k4; have HLR := Aside0.mk hlr
      clear k1 k2 k3 k4 hlr
      by_cases hlt : (n : Int) ≤ a2
      · have HN := Aside0.mk (H.out n (by omega) hlt)
        have hlt' : (n : Int) < a2 + 1 := by omega
        have hs := offers_succ a0 a1 a2 n
        obtain ⟨p, hp⟩ : ∃ p : Int, p = a0 * a1 * (worth a2 - worth (n : Int)) / 1000000000 := ⟨_, rfl⟩
        rw [← hp] at HN hs
        have HS := Aside0.mk hs
        clear hs hp
        have HBW := HBr
        go_wp2_with (first
          | (go_at_call 50; refine (prices1.calls _ _ _ _ _ _ _ _ _ _ _ HLR.out K1.out K2.out K3.out K4.out HN.out).mono ?_; rintro e w3 ⟨rfl, hb3⟩; have HB3 := Aside0.mk hb3; clear hb3; have HO3 := Aside0.mk (Kd.R_below HO.out HB3.out); have HBW3 := Aside0.mk (HBW.out.trans (HB3.out.mono HBW.out.size)))
          | ((with_reducible refine gate_builtin (b := .append) (xs := #[.tmp 38, .tmp 40]) rfl ?_); at_builtin; (refine Kd.R_append (Kd.int .i64) (w0 := w1) w1.heap.size rfl (.tmp 38) (.tmp 40) 59 3 (.int .i64 0) 8 rfl Tryd.underlying59 info3 rfl (by decide) (by omega) u11 (offers a0 a1 a2 n) p [.int .i64 p] (fun _ => True) (fun _ => False) rfl rfl ?aP (fun _ hk => hk.elim) ?aF ?aO ?aB ?aS ?aL ?_); (case aP => exact rfl); (case aB => exact (by repeat (first | exact HBW3.out | apply below_alloc | apply pw_below_drewN | apply below_drew1))); (case aF => exact (fun _ _ => trivial)); (case aO => exact (by (with_reducible repeat (first | apply Kd.R_alloc | apply Kd.R_drewN | apply Kd.R_drew)); exact HO3.out)); (case aS => exact (below_size (by repeat (first | exact HBW3.out | apply below_alloc | apply pw_below_drewN | apply below_drew1)))); (case aL => rw [offers_length]; omega); intro v9 w9 ho hb hg hat; rw [← HS.out] at ho; have HO9 := Aside0.mk ho; have HB9 := Aside0.mk hb; clear ho hb hg hat))
        go_roundw
        case rel => exact ⟨n + 1, by omega, by go_num, HO9, HB9⟩
        case measure => simp [intOf]; omega
      · obtain rfl : n = (a2 + 1).toNat := by omega
        have hlt2 : ¬ ((a2 + 1).toNat : Int) < a2 + 1 := by omega
        go_wp2
        go_ret2
        exact ⟨_, rfl, Kd.R_lower HO.out HB.out.size, HB.out.trans (HBr.out.mono HB.out.size)⟩

end Go.Proofs.YtpchmhijcockkaaDoor.Print
