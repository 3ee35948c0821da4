/- Random: the law RandomNumbers, walked. -/
import Derived.Test.YtmioondgjolaoaaRndC
namespace Go.Proofs.Ytmioondgjolaoaa.Print
open Go.RowKit Go.Proofs.YtmioondgjolaoaaW.PrintWords Go.Proofs.YtmioondgjolaoaaW.PrintLast Go.Proofs.YtmioondgjolaoaaW.PrintMore
set_option linter.unusedVariables false
set_option linter.unusedSimpArgs false

def bandplanlaw03_RandomNumbers.f (a0 a1 : Int) : Option Bool := some true

set_option maxHeartbeats 4000000 in
set_option maxRecDepth 100000 in
theorem numbers_good (n m : Int) (w : World) (h0 : 1 ≤ m) (h1 : m ≤ 4611686018427387904) :
    Calls Try.prog 3 #[.int .i64 n, .int .i64 m] w fun e w' => e = .returned (.bool true) ∧ Below w.heap.size w w' := by
  go_enter Try.func3, Try.ntmps3
  go_wp2_with (go_at_call 8; refine (New.calls _ _).mono ?_; rintro e w1 ⟨g, rfl, k1, k2, k3⟩; have A := Aside0.mk k2; have B := Aside0.mk k1; have C := Aside0.mk k3; clear k1 k2 k3)
  go_loopw [6, 7] (fun s i wr => ∃ (st : Int) (j : Nat), j ≤ 4 ∧ s = .int .u64 st ∧ i = .int .i64 j ∧ Aside0 (Src wr g st) ∧ Aside0 (Below w.heap.size w wr) ∧ Aside0 (0 ≤ st ∧ st < 18446744073709551616)) (fun _ i _ => 4 - (intOf i).toNat)
  case atStart => exact ⟨_, 0, by omega, rfl, rfl, A, C, ⟨u64_range _⟩⟩
  case round =>
    clear A C
    obtain ⟨st, j, hj, rfl, rfl, A, C, R⟩ := hrel
    obtain ⟨k, s', v, f, v0, v1, r0, r1⟩ := num_ends st m h0 h1
    have F := Aside0.mk f
    have R' := Aside0.mk (And.intro r0 r1)
    clear f R r0 r1
    by_cases hlt : j < 4
    · go_wp2_with (first
        | (go_at_call 9; refine (Number.calls k _ _ _ _ _ _ A.out h0 h1 F.out).mono ?_; rintro e w2 ⟨rfl, k1, k2⟩; have n1 := Aside0.mk k1; have n2 := Aside0.mk (below_src C.out B.out k2); clear A C k1 k2; have A := n1; have C := n2; clear n1 n2)
        | (go_at_call 10; refine (bandplanref03_Number.calls k _ _ _ _ _ F.out).mono ?_; rintro e w3 ⟨rfl, ⟨nd, rfl⟩⟩))
      go_roundw
      case rel => exact ⟨_, j + 1, by omega, rfl, by go_num, ⟨A.out.drewN _⟩, ⟨pw_below_drewN C.out _⟩, R'⟩
      case measure => simp [intOf]; omega
    · go_wp2_with (go_at_call 11; refine (known.calls _).mono ?_; rintro e w4 ⟨rfl, k1⟩; have n2 := Aside0.mk (below_step C.out k1); clear C k1; have C := n2; clear n2)
      go_ret
      exact ⟨rfl, C.out⟩

set_option maxHeartbeats 4000000 in
set_option maxRecDepth 100000 in
theorem numbers_bad (n m : Int) (w : World) (hm : m < 1 ∨ 4611686018427387904 < m) :
    Calls Try.prog 3 #[.int .i64 n, .int .i64 m] w fun e w' => e = .returned (.bool true) ∧ Below w.heap.size w w' := by
  have M := Aside0.mk hm
  by_cases c : m < 1
  all_goals
    go_enter Try.func3, Try.ntmps3
    go_wp2_with (go_at_call 8; refine (New.calls _ _).mono ?_; rintro e w1 ⟨g, rfl, k1, k2, k3⟩; have A := Aside0.mk k2; have B := Aside0.mk k1; have C := Aside0.mk k3; clear k1 k2 k3)
    go_loopw [7] (fun i wr => ∃ (st : Int) (j : Nat), j ≤ 4 ∧ i = .int .i64 j ∧ Aside0 (Src wr g st) ∧ Aside0 (Below w.heap.size w wr)) (fun i _ => 4 - (intOf i).toNat)
    case atStart => exact ⟨_, 0, by omega, rfl, A, C⟩
    case round =>
      clear A C
      obtain ⟨st, j, hj, rfl, A, C⟩ := hrel
      by_cases hlt : j < 4
      · go_wp2_with (go_at_call 9; refine (Number.arg _ _ _ _ A.out M.out).mono ?_; rintro e w2 ⟨rfl, rfl⟩)
        go_roundw
        case rel => exact ⟨_, j + 1, by omega, by go_num, A, C⟩
        case measure => simp [intOf]; omega
      · go_wp2_with (go_at_call 11; refine (known.calls _).mono ?_; rintro e w4 ⟨rfl, k1⟩; have n2 := Aside0.mk (below_step C.out k1); clear C k1; have C := n2; clear n2)
        go_ret
        exact ⟨rfl, C.out⟩

theorem bandplanlaw03_RandomNumbers.calls (a0 a1 : Int) (r : Bool) (w : World) (h : bandplanlaw03_RandomNumbers.f a0 a1 = some r) :
    Calls Try.prog 3 #[.int .i64 a0, .int .i64 a1] w fun e w' => e = .returned (.bool r) ∧ Below w.heap.size w w' := by
  cases h
  by_cases c : a1 < 1 ∨ 4611686018427387904 < a1
  · exact numbers_bad a0 a1 w c
  · exact numbers_good a0 a1 w (by omega) (by omega)
theorem pure_RandomNumbers (a0 a1 : Int) : bandplanlaw03_RandomNumbers.f a0 a1 = some true := rfl

end Go.Proofs.Ytmioondgjolaoaa.Print
