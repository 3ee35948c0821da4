/- Random: a source's Number is the reference's, which ends at every state. -/
import Derived.Test.YtmioondgjolaoaaRndA
import Derived.Test.YtmioondgjolaoaaDiv
namespace Go.Proofs.Ytmioondgjolaoaa.Print
open Go.RowKit Go.Proofs.YtmioondgjolaoaaW.PrintWords Go.Proofs.YtmioondgjolaoaaW.PrintLast Go.Proofs.YtmioondgjolaoaaW.PrintMore
set_option linter.unusedVariables false
set_option linter.unusedSimpArgs false

/-! ### The plain law -/
theorem nx_range (s : Int) : 0 ≤ nx s ∧ nx s < 18446744073709551616 := by unfold nx; rw [IntKind.wrap_u64]; omega
theorem u64_range (s : Int) : 0 ≤ IntKind.u64.wrap s ∧ IntKind.u64.wrap s < 18446744073709551616 := by rw [IntKind.wrap_u64]; omega
theorem bits_range (a b : Int) : 0 ≤ Go.bits .xor .u64 a b ∧ Go.bits .xor .u64 a b < 18446744073709551616 := u64_range _
theorem wd_range (s : Int) : 0 ≤ wd s ∧ wd s < 18446744073709551616 := bits_range _ _
theorem wd_zero (s : Int) (h : nx s = 0) : wd s = 0 := by
  rw [← wd_eq, h]
  decide +kernel

theorem l0_succ (k : Nat) (s n r : Int) : bandplanref03_Number.l0 (k + 1) s n r = if wd s ≤ IntKind.u64.wrap (18446744073709551615 - r) then (if n = 0 then none else some (nx s, wrap64 (Int.tmod (wd s) n))) else bandplanref03_Number.l0 k (nx s) n r := by
  conv => lhs; unfold bandplanref03_Number.l0
  rw [next_eq]; rfl

theorem l0_ends (n r : Int) (hn : n ≠ 0) : ∀ (m : Nat) (s : Int), (s + (m + 1) * 11400714819323198485) % 18446744073709551616 = 0 → ∃ x, bandplanref03_Number.l0 (m + 1) s n r = some x
  | 0, s, h => by
    rw [l0_succ, wd_zero s (by unfold nx; rw [IntKind.wrap_u64]; omega), if_pos (u64_range _).1, if_neg hn]
    exact ⟨_, rfl⟩
  | m + 1, s, h => by
    rw [l0_succ]
    by_cases c : wd s ≤ IntKind.u64.wrap (18446744073709551615 - r)
    · rw [if_pos c, if_neg hn]; exact ⟨_, rfl⟩
    · rw [if_neg c]
      refine l0_ends n r hn m (nx s) ?_
      unfold nx
      rw [IntKind.wrap_u64]
      push_cast at h ⊢
      omega

theorem l0_gives (n r : Int) (h0 : 1 ≤ n) (h1 : n ≤ 4611686018427387904) : ∀ (k : Nat) (s s' v : Int), bandplanref03_Number.l0 k s n r = some (s', v) → 0 ≤ v ∧ v < n ∧ 0 ≤ s' ∧ s' < 18446744073709551616
  | 0, s, s', v, h => by simp [bandplanref03_Number.l0] at h
  | k + 1, s, s', v, h => by
    rw [l0_succ] at h
    split at h
    · rw [if_neg (by omega)] at h
      simp only [Option.some.injEq, Prod.mk.injEq] at h
      obtain ⟨rfl, rfl⟩ := h
      have hw := wd_range s
      have hx := nx_range s
      have e : Int.tmod (wd s) n = wd s % n := Int.tmod_eq_emod_of_nonneg hw.1
      have e0 := Int.emod_nonneg (wd s) (show n ≠ 0 by omega)
      have e1 := Int.emod_lt_of_pos (wd s) (show 0 < n by omega)
      rw [e]
      refine ⟨?_, ?_, hx.1, hx.2⟩ <;> unfold wrap64 <;> omega
    · exact l0_gives n r h0 h1 k _ _ _ h

theorem num_ends (s n : Int) (h0 : 1 ≤ n) (h1 : n ≤ 4611686018427387904) : ∃ k s' v, bandplanref03_Number.f k s n = some (s', v) ∧ 0 ≤ v ∧ v < n ∧ 0 ≤ s' ∧ s' < 18446744073709551616 := by
  have e : IntKind.u64.wrap n = n := u64_id (by omega) (by omega)
  obtain ⟨m, hm⟩ : ∃ m : Nat, (s + (m + 1) * 11400714819323198485) % 18446744073709551616 = 0 := by
    refine ⟨((-s * 17428512612931826493 - 1) % 18446744073709551616).toNat, ?_⟩
    rw [Int.toNat_of_nonneg (Int.emod_nonneg _ (by decide))]
    omega
  obtain ⟨⟨s', v⟩, hx⟩ := l0_ends n (Int.tmod (IntKind.u64.wrap (((18446744073709551615 : Int) % n) + 1)) n) (by omega) m s hm
  refine ⟨m + 1, s', v, ?_, l0_gives n _ h0 h1 _ _ _ _ hx⟩
  unfold bandplanref03_Number.f
  rw [e, if_neg (by omega)]
  exact hx

theorem rest_eq (n : Int) (h0 : 1 ≤ n) (h1 : n ≤ 4611686018427387904) : Int.tmod (IntKind.u64.wrap (((18446744073709551615 : Int) % n) + 1)) n = 18446744073709551616 % n := by
  have e0 := Int.emod_nonneg 18446744073709551615 (show n ≠ 0 by omega)
  have e1 := Int.emod_lt_of_pos 18446744073709551615 (show 0 < n by omega)
  rw [u64_id (by omega) (by omega), Int.tmod_eq_emod_of_nonneg (by omega), Int.emod_add_emod]
  rfl

/-! ### The walk -/
theorem Src.grownS {w W W1 : World} {g : Nat} (h : w.grownBy W (some g)) (k : W.grownBy W1 (some g)) : w.grownBy W1 (some g) := grown_trans h k

set_option maxHeartbeats 1000000 in
theorem Number.none (p : Value) (n : Int) (w : World) (h : NoSrc w p) :
    Calls Try.prog 9 #[p, .int .i64 n] w fun e w' => e = .returned (.tuple #[.int .i64 0, .int .i64 1]) ∧ w' = w := by
  go_enter Try.func9, Try.ntmps9
  go_wp2_with (go_at_call 20; refine (none.yes _ _ h).mono ?_; rintro e w' ⟨rfl, rfl⟩)
  go_ret2
  exact ⟨rfl, rfl⟩

set_option maxHeartbeats 1000000 in
theorem Number.arg (g : Nat) (s n : Int) (w : World) (h : Src w g s) (hn : n < 1 ∨ 4611686018427387904 < n) :
    Calls Try.prog 9 #[sp g, .int .i64 n] w fun e w' => e = .returned (.tuple #[.int .i64 0, .int .i64 2]) ∧ w' = w := by
  have H := Aside0.mk h
  clear h
  by_cases c : n < 1
  all_goals
    go_enter Try.func9, Try.ntmps9
    go_wp2_with (go_at_call 20; refine (none.calls _ _ _ H.out).mono ?_; rintro e w' ⟨rfl, rfl⟩)
    go_ret2
    exact ⟨rfl, rfl⟩

set_option maxHeartbeats 2000000 in
theorem Number.calls (k : Nat) (g : Nat) (s n s' v : Int) (w : World) (h : Src w g s) (h0 : 1 ≤ n) (h1 : n ≤ 4611686018427387904) (hf : bandplanref03_Number.f k s n = some (s', v)) :
    Calls Try.prog 9 #[sp g, .int .i64 n] w fun e w' => e = .returned (.tuple #[.int .i64 v, .int .i64 0]) ∧ Src w' g s' ∧ w.grownBy w' (some g) := by
  have H := Aside0.mk h
  clear h
  have en : IntKind.u64.wrap n = n := u64_id (by omega) (by omega)
  unfold bandplanref03_Number.f at hf
  rw [en, if_neg (by omega), rest_eq n h0 h1] at hf
  have F := Aside0.mk hf
  clear hf
  obtain ⟨r, hr⟩ : ∃ r, (18446744073709551616 : Int) % n = r := ⟨_, rfl⟩
  have hr0 : 0 ≤ r := by rw [← hr]; exact Int.emod_nonneg _ (by omega)
  have hr1 : r < n := by rw [← hr]; exact Int.emod_lt_of_pos _ (by omega)
  rw [hr] at F
  have HR := Aside0.mk hr
  clear hr
  have G := Aside0.mk (grown_refl w (some g))
  clear en
  have hn0 : (n == 0) = false := by rw [beq_eq_false_iff_ne]; omega
  have e1 : Int.tmod 1 n = 1 % n := Int.tmod_eq_emod_of_nonneg (by omega)
  have e2 : (1 : Int) % n = 1 % n := rfl
  go_enter Try.func9, Try.ntmps9
  go_wp2_with (first
    | (go_at_call 20; refine (none.calls _ _ _ H.out).mono ?_; rintro e w' ⟨rfl, rfl⟩)
    | (go_at_call 21; refine (Div64.calls _ _ h0 h1).mono ?_; rintro e w' ⟨q, rfl, ⟨nd, rfl⟩⟩; rw [HR.out]))
  go_loopg [9] k (fun kq v9 wr => ∃ st : Int, Aside0 (bandplanref03_Number.l0 kq st n r = some (s', v)) ∧ Aside0 (Src wr g st) ∧ Aside0 (w'.grownBy wr (some g)) ∧ Aside0 (kq ≤ k))
  case atStart => exact ⟨s, F, ⟨H.out.drewN _⟩, ⟨grown_drewN (grown_refl _ _) _⟩, ⟨Nat.le_refl _⟩⟩
  case round =>
    clear F H HR G
    obtain ⟨st, F, H, G, HK⟩ := hrel
    cases gk with
    | zero => exact absurd F.out (by simp [bandplanref03_Number.l0])
    | succ k1 =>
      have f := F.out
      clear F
      rw [l0_succ] at f
      have hw := wd_range st
      have hw1 := hw.1
      have hw2 := hw.2
      have em : Int.tmod (wd st) n = wd st % n := Int.tmod_eq_emod_of_nonneg hw1
      have ec : wd st ≤ IntKind.u64.wrap (18446744073709551615 - r) ↔ r = 0 ∨ wd st < IntKind.u64.wrap (-r) := by
        rw [IntKind.wrap_u64, IntKind.wrap_u64]; omega
      rw [if_neg (show n ≠ 0 by omega)] at f
      obtain ⟨W, hW⟩ : ∃ W, wd st = W := ⟨_, rfl⟩
      rw [hW] at f hw1 hw2 em ec
      have HW := Aside0.mk hW
      rw [em] at f
      clear hW hw em
      by_cases c : r = 0 ∨ W < IntKind.u64.wrap (-r)
      · rw [if_pos (ec.2 c)] at f
        simp only [Option.some.injEq, Prod.mk.injEq] at f
        obtain ⟨f1, f2⟩ := f
        have F1 := Aside0.mk f1
        have F2 := Aside0.mk f2
        clear f1 f2 ec
        by_cases c0 : r = 0
        · have cb : (r == 0) = true := by rw [beq_iff_eq]; exact c0
          clear c c0
          go_wp2_with (go_at_call 15; refine (Word.calls _ _ _ H.out).mono ?_; rintro e w1 ⟨rfl, k1, k2⟩; rw [HW.out]; have K1 := Aside0.mk k1; have K2 := Aside0.mk k2; clear k1 k2)
          go_ret2
          exact ⟨by rw [← F2.out]; rfl, by rw [← F1.out]; exact K1.out, grown_trans G.out K2.out⟩
        · have cb : (r == 0) = false := by rw [beq_eq_false_iff_ne]; exact c0
          have cc : decide (W < IntKind.u64.wrap (-r)) = true := decide_eq_true (c.resolve_left c0)
          clear c c0
          go_wp2_with (go_at_call 15; refine (Word.calls _ _ _ H.out).mono ?_; rintro e w1 ⟨rfl, k1, k2⟩; rw [HW.out]; have K1 := Aside0.mk k1; have K2 := Aside0.mk k2; clear k1 k2)
          go_ret2
          exact ⟨by rw [← F2.out]; rfl, by rw [← F1.out]; exact K1.out, grown_trans G.out K2.out⟩
      · rw [if_neg (fun h => c (ec.1 h))] at f
        have F := Aside0.mk f
        have cb : (r == 0) = false := by rw [beq_eq_false_iff_ne]; exact fun h => c (.inl h)
        have cc : decide (W < IntKind.u64.wrap (-r)) = false := decide_eq_false (fun h => c (.inr h))
        clear f ec c
        go_wp2_with (go_at_call 15; refine (Word.calls _ _ _ H.out).mono ?_; rintro e w1 ⟨rfl, k1, k2⟩; rw [HW.out]; have K1 := Aside0.mk k1; have K2 := Aside0.mk k2; clear k1 k2)
        go_roundg k1
        case measure => have := HK.out; omega
        case rel => exact ⟨_, F, K1, ⟨grown_trans G.out K2.out⟩, ⟨by have := HK.out; omega⟩⟩

end Go.Proofs.Ytmioondgjolaoaa.Print
