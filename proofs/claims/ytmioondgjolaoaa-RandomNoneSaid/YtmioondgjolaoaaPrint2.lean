-- Written by a program of this session (a turned copy of the kit's printer). Lean checks it.
import Derived.Test.YtmioondgjolaoaaPrint0
namespace Go.Proofs.Ytmioondgjolaoaa.Print
open Go.RowKit Go.Proofs.YtmioondgjolaoaaW.PrintWords Go.Proofs.YtmioondgjolaoaaW.PrintLast Go.Proofs.YtmioondgjolaoaaW.PrintMore
attribute [local go_sem] max2_int min2_int max_two min_two max_three min_three max_four min_four   -- for this text's walks alone
set_option linter.unusedVariables false
set_option linter.unusedSimpArgs false

/-! ### bandplanref03_Next: function 22 -/
def bandplanref03_Next.f (a0 : Int) : Option (Int × Int) := some (IntKind.u64.wrap (a0 + 11400714819323198485), Go.bits .xor .u64 (IntKind.u64.wrap ((Go.bits .xor .u64 (IntKind.u64.wrap ((Go.bits .xor .u64 (IntKind.u64.wrap (a0 + 11400714819323198485)) ((IntKind.u64.wrap (a0 + 11400714819323198485)) / 1073741824)) * 13787848793156543929)) ((IntKind.u64.wrap ((Go.bits .xor .u64 (IntKind.u64.wrap (a0 + 11400714819323198485)) ((IntKind.u64.wrap (a0 + 11400714819323198485)) / 1073741824)) * 13787848793156543929)) / 134217728)) * 10723151780598845931)) ((IntKind.u64.wrap ((Go.bits .xor .u64 (IntKind.u64.wrap ((Go.bits .xor .u64 (IntKind.u64.wrap (a0 + 11400714819323198485)) ((IntKind.u64.wrap (a0 + 11400714819323198485)) / 1073741824)) * 13787848793156543929)) ((IntKind.u64.wrap ((Go.bits .xor .u64 (IntKind.u64.wrap (a0 + 11400714819323198485)) ((IntKind.u64.wrap (a0 + 11400714819323198485)) / 1073741824)) * 13787848793156543929)) / 134217728)) * 10723151780598845931)) / 2147483648))
set_option maxHeartbeats 8000000 in
set_option maxRecDepth 100000 in
theorem bandplanref03_Next.calls (a0 : Int) (r1 : Int) (r2 : Int) (w : World) (h : bandplanref03_Next.f a0 = some (r1, r2)) :
    Calls Try.prog 22 #[.int .u64 a0] w fun e w' => e = .returned (.tuple #[.int .u64 r1, .int .u64 r2]) ∧ Drawn0 w w' := by
  have H : (some (IntKind.u64.wrap (a0 + 11400714819323198485), Go.bits .xor .u64 (IntKind.u64.wrap ((Go.bits .xor .u64 (IntKind.u64.wrap ((Go.bits .xor .u64 (IntKind.u64.wrap (a0 + 11400714819323198485)) ((IntKind.u64.wrap (a0 + 11400714819323198485)) / 1073741824)) * 13787848793156543929)) ((IntKind.u64.wrap ((Go.bits .xor .u64 (IntKind.u64.wrap (a0 + 11400714819323198485)) ((IntKind.u64.wrap (a0 + 11400714819323198485)) / 1073741824)) * 13787848793156543929)) / 134217728)) * 10723151780598845931)) ((IntKind.u64.wrap ((Go.bits .xor .u64 (IntKind.u64.wrap ((Go.bits .xor .u64 (IntKind.u64.wrap (a0 + 11400714819323198485)) ((IntKind.u64.wrap (a0 + 11400714819323198485)) / 1073741824)) * 13787848793156543929)) ((IntKind.u64.wrap ((Go.bits .xor .u64 (IntKind.u64.wrap (a0 + 11400714819323198485)) ((IntKind.u64.wrap (a0 + 11400714819323198485)) / 1073741824)) * 13787848793156543929)) / 134217728)) * 10723151780598845931)) / 2147483648))) = some (r1, r2) := h
  clear h
  simp only [Option.some.injEq, Prod.mk.injEq] at H
  obtain ⟨rfl, rfl⟩ := H
  go_enter Try.func22, Try.ntmps22
  go_wp2
  go_ret2
  exact ⟨by first | rfl | (simp; done) | (simp [*]; done), by repeat (first | exact Drawn0.refl _ | apply Drawn0.step)⟩

/-! ### bandplanref03_Number: function 10 -/
def bandplanref03_Number.l0 : Nat → Int → Int → Int → Option (Int × Int)
  | 0, _, _, _ => none
  | k + 1, x0, x6, x7 => (bandplanref03_Next.f x0).bind fun bt105 => (if bt105.2 ≤ (IntKind.u64.wrap (18446744073709551615 - x7)) then (if x6 = 0 then (none) else (some (bt105.1, wrap64 (Int.tmod bt105.2 x6)))) else (bandplanref03_Number.l0 k bt105.1 x6 x7))
def bandplanref03_Number.f (k : Nat) (a0 : Int) (a1 : Int) : Option (Int × Int) := if (IntKind.u64.wrap (a1)) = 0 then (none) else (bandplanref03_Number.l0 k a0 (IntKind.u64.wrap (a1)) (Int.tmod (IntKind.u64.wrap (((18446744073709551615 : Int) % (IntKind.u64.wrap (a1))) + 1)) (IntKind.u64.wrap (a1))))
theorem bandplanref03_Number.mono_l : ∀ k, (∀ y0 y1 y2, LeO (bandplanref03_Number.l0 k y0 y1 y2) (bandplanref03_Number.l0 (k + 1) y0 y1 y2))
  | 0 => fun _ _ _ r h => by simp [bandplanref03_Number.l0] at h
  | k + 1 => by
    have ih0 := bandplanref03_Number.mono_l k
    · intro y0 y1 y2
      unfold bandplanref03_Number.l0
      repeat' first
      | (with_reducible exact ih0 _ _ _)
      | (with_reducible exact LeO.refl _)
      | (with_reducible exact LeO.none _)
      | (with_reducible refine LeO.ite ?_ ?_)
      | (with_reducible refine LeO.bind ?_ (fun _ => ?_))
      | exact ih0 _ _ _
      | exact LeO.none _
      | refine LeO.ite ?_ ?_
      | refine LeO.bind ?_ (fun _ => ?_)
theorem bandplanref03_Number.mono : ∀ a0 a1 k, LeO (bandplanref03_Number.f k a0 a1) (bandplanref03_Number.f (k + 1) a0 a1) := by
  intro a0 a1 k
  have ih0 := bandplanref03_Number.mono_l k
  unfold bandplanref03_Number.f
  repeat' first
      | (with_reducible exact ih0 _ _ _)
      | (with_reducible exact LeO.refl _)
      | (with_reducible exact LeO.none _)
      | (with_reducible refine LeO.ite ?_ ?_)
      | (with_reducible refine LeO.bind ?_ (fun _ => ?_))
      | exact ih0 _ _ _
      | exact LeO.none _
      | refine LeO.ite ?_ ?_
      | refine LeO.bind ?_ (fun _ => ?_)
set_option maxHeartbeats 8000000 in
set_option maxRecDepth 100000 in
theorem bandplanref03_Number.calls (k : Nat) (a0 : Int) (a1 : Int) (r1 : Int) (r2 : Int) (w : World) (h : bandplanref03_Number.f k a0 a1 = some (r1, r2)) :
    Calls Try.prog 10 #[.int .u64 a0, .int .i64 a1] w fun e w' => e = .returned (.tuple #[.int .u64 r1, .int .i64 r2]) ∧ Drawn0 w w' := by
  have H : (if (IntKind.u64.wrap (a1)) = 0 then (none) else (bandplanref03_Number.l0 k a0 (IntKind.u64.wrap (a1)) (Int.tmod (IntKind.u64.wrap (((18446744073709551615 : Int) % (IntKind.u64.wrap (a1))) + 1)) (IntKind.u64.wrap (a1))))) = some (r1, r2) := h
  clear h
  by_cases c3 : (IntKind.u64.wrap (a1)) = 0
  · rw [if_pos c3] at H
    exact absurd H (by simp)
  · rw [if_neg c3] at H
    have c3b0 : ((IntKind.u64.wrap (a1)) == 0) = false := beq_eq_false_iff_ne.mpr c3
    have c3b1 : ((IntKind.u64.wrap (a1)) != 0) = true := bne_iff_ne.mpr c3
    have H' := Aside0.mk H
    clear H
    go_enter Try.func10, Try.ntmps10
    go_wp2
    repeat (go_quiet (fail); try go_wp2)
    go_loopg [0] k (fun kq v0 w' => ∃ (x0_1 : Int), v0 = .int .u64 x0_1 ∧ Aside0 (bandplanref03_Number.l0 kq x0_1 (IntKind.u64.wrap (a1)) (Int.tmod (IntKind.u64.wrap (((18446744073709551615 : Int) % (IntKind.u64.wrap (a1))) + 1)) (IntKind.u64.wrap (a1))) = some (r1, r2)) ∧ Aside0 (kq ≤ k) ∧ Drawn0 w w')
    case atStart => exact ⟨(a0), (by first | rfl | (simp; done) | (simp [*]; done)), H', ⟨Nat.le_refl _⟩, by repeat (first | exact Drawn0.refl _ | apply Drawn0.step)⟩
    case round =>
      clear H'
      try clear c1
      try clear p2
      try clear c3
      try clear c3b0
      try clear c3b1
      obtain ⟨x0_1, rfl, HA, HK1, ⟨m1, rfl⟩⟩ := hrel
      cases gk with
      | zero => exact absurd HA.out (by simp [bandplanref03_Number.l0])
      | succ k1 =>
        have H := HA.out
        clear HA
        simp only [bandplanref03_Number.l0] at H
        replace H := Option.bind_eq_some_iff.mp H
        obtain ⟨⟨t105, t106⟩, A40, H⟩ := H
        replace H : (if t106 ≤ (IntKind.u64.wrap (18446744073709551615 - (Int.tmod (IntKind.u64.wrap (((18446744073709551615 : Int) % (IntKind.u64.wrap (a1))) + 1)) (IntKind.u64.wrap (a1))))) then (if (IntKind.u64.wrap (a1)) = 0 then (none) else (some (t105, wrap64 (Int.tmod t106 (IntKind.u64.wrap (a1)))))) else (bandplanref03_Number.l0 k1 t105 (IntKind.u64.wrap (a1)) (Int.tmod (IntKind.u64.wrap (((18446744073709551615 : Int) % (IntKind.u64.wrap (a1))) + 1)) (IntKind.u64.wrap (a1))))) = some (r1, r2) := H
        have A4 := Aside0.mk A40
        clear A40
        by_cases c5 : t106 ≤ (IntKind.u64.wrap (18446744073709551615 - (Int.tmod (IntKind.u64.wrap (((18446744073709551615 : Int) % (IntKind.u64.wrap (a1))) + 1)) (IntKind.u64.wrap (a1)))))
        · rw [if_pos c5] at H
          have c5b0 : decide (t106 ≤ (IntKind.u64.wrap (18446744073709551615 - (Int.tmod (IntKind.u64.wrap (((18446744073709551615 : Int) % (IntKind.u64.wrap (a1))) + 1)) (IntKind.u64.wrap (a1)))))) = true := decide_eq_true c5
          clear c5
          by_cases c6 : (IntKind.u64.wrap (a1)) = 0
          · rw [if_pos c6] at H
            exact absurd H (by simp)
          · rw [if_neg c6] at H
            have c6b0 : ((IntKind.u64.wrap (a1)) == 0) = false := beq_eq_false_iff_ne.mpr c6
            have c6b1 : ((IntKind.u64.wrap (a1)) != 0) = true := bne_iff_ne.mpr c6
            simp only [Option.some.injEq, Prod.mk.injEq] at H
            obtain ⟨rfl, rfl⟩ := H
            go_wp2_with (first | (go_at_call 22; (with_reducible refine (bandplanref03_Next.calls x0_1 t105 t106 _ A4.out).mono ?_); rintro e w' ⟨rfl, ⟨nd, rfl⟩⟩; (try first | exact ⟨rfl, _, World.drewN_drewN _ _ _⟩ | exact ⟨rfl, _, Eq.trans (World.drewN_drewN _ _ _) (congrArg (World.drewN _) (Nat.add_assoc _ _ _))⟩)))
            repeat (go_quiet (first | (go_at_call 22; (with_reducible refine (bandplanref03_Next.calls x0_1 t105 t106 _ A4.out).mono ?_); rintro e w' ⟨rfl, ⟨nd, rfl⟩⟩; (try first | exact ⟨rfl, _, World.drewN_drewN _ _ _⟩ | exact ⟨rfl, _, Eq.trans (World.drewN_drewN _ _ _) (congrArg (World.drewN _) (Nat.add_assoc _ _ _))⟩))); try go_wp2_with (first | (go_at_call 22; (with_reducible refine (bandplanref03_Next.calls x0_1 t105 t106 _ A4.out).mono ?_); rintro e w' ⟨rfl, ⟨nd, rfl⟩⟩; (try first | exact ⟨rfl, _, World.drewN_drewN _ _ _⟩ | exact ⟨rfl, _, Eq.trans (World.drewN_drewN _ _ _) (congrArg (World.drewN _) (Nat.add_assoc _ _ _))⟩))))
            go_ret2
            exact ⟨by first | rfl | (simp; done) | (simp [*]; done), by repeat (first | exact Drawn0.refl _ | apply Drawn0.step)⟩
        · rw [if_neg c5] at H
          have c5b0 : decide (t106 ≤ (IntKind.u64.wrap (18446744073709551615 - (Int.tmod (IntKind.u64.wrap (((18446744073709551615 : Int) % (IntKind.u64.wrap (a1))) + 1)) (IntKind.u64.wrap (a1)))))) = false := decide_eq_false c5
          clear c5
          have H' := Aside0.mk H
          clear H
          go_wp2_with (first | (go_at_call 22; (with_reducible refine (bandplanref03_Next.calls x0_1 t105 t106 _ A4.out).mono ?_); rintro e w' ⟨rfl, ⟨nd, rfl⟩⟩; (try first | exact ⟨rfl, _, World.drewN_drewN _ _ _⟩ | exact ⟨rfl, _, Eq.trans (World.drewN_drewN _ _ _) (congrArg (World.drewN _) (Nat.add_assoc _ _ _))⟩)))
          repeat (go_quiet (first | (go_at_call 22; (with_reducible refine (bandplanref03_Next.calls x0_1 t105 t106 _ A4.out).mono ?_); rintro e w' ⟨rfl, ⟨nd, rfl⟩⟩; (try first | exact ⟨rfl, _, World.drewN_drewN _ _ _⟩ | exact ⟨rfl, _, Eq.trans (World.drewN_drewN _ _ _) (congrArg (World.drewN _) (Nat.add_assoc _ _ _))⟩))); try go_wp2_with (first | (go_at_call 22; (with_reducible refine (bandplanref03_Next.calls x0_1 t105 t106 _ A4.out).mono ?_); rintro e w' ⟨rfl, ⟨nd, rfl⟩⟩; (try first | exact ⟨rfl, _, World.drewN_drewN _ _ _⟩ | exact ⟨rfl, _, Eq.trans (World.drewN_drewN _ _ _) (congrArg (World.drewN _) (Nat.add_assoc _ _ _))⟩))))
          go_roundg k1
          case measure => have := HK1.out; omega
          case rel => exact ⟨(t105), (by first | rfl | (simp; done) | (simp [*]; done)), H', ⟨by have := HK1.out; omega⟩, by repeat (first | exact Drawn0.refl _ | apply Drawn0.step)⟩

end Go.Proofs.Ytmioondgjolaoaa.Print
