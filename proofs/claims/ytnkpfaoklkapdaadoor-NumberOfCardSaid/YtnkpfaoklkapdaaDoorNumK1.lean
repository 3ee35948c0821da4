/- The examples of the chapter, call by call. -/
import Derived.Test.YtnkpfaoklkapdaaDoorNumK0
namespace Go.Proofs.YtnkpfaoklkapdaaDoor.Print
open Go.RowKit Go.Proofs.YtnkpfaoklkapdaaDoorW.PrintWords Go.Proofs.YtnkpfaoklkapdaaDoorW.PrintLast Go.Proofs.YtnkpfaoklkapdaaDoorW.PrintMore
open Go.Proofs.YtnkpfaoklkapdaaDoor.NumP
set_option linter.unusedVariables false
set_option linter.unusedSimpArgs false
set_option exponentiation.threshold 2000

theorem bl_small {n : Nat} (h : n < 18446744073709551616) : bl n ≤ 64 := (bl_le n 64).2 (by have : (2 : Nat) ^ 64 = 18446744073709551616 := rfl; omega)
theorem sgn_small {s : Bool} {n : Nat} (h : n < 18446744073709551616) (h0 : n ≠ 0) : sgn s n = (s, dg n, 0) := by
  have := bl_small h
  unfold sgn
  rw [if_neg (by omega), if_neg h0]
theorem good_small {s : Bool} {n : Nat} (h : n < 18446744073709551616) (h0 : n ≠ 0) : Good s n := ⟨fun e => absurd e h0, bl_good (by have := bl_small h; omega)⟩
theorem powL_eq (a : Nat) : ∀ (k p : Nat), p < 2 ^ 512 → powL a k p = if p * a ^ k < 2 ^ 512 then some (p * a ^ k) else none
  | 0, p, h => by rw [powL, Nat.pow_zero, Nat.mul_one, if_pos h]
  | k + 1, p, h => by
    have hb := bl_le (p * a) 512
    have e : p * a ^ (k + 1) = p * a * a ^ k := by rw [Nat.pow_succ, Nat.mul_comm (a ^ k) a, Nat.mul_assoc]
    rw [powL, e]
    by_cases c : bl (p * a) > 512
    · have hn : ¬ p * a < 2 ^ 512 := fun h => absurd (hb.2 h) (by omega)
      have ha : 0 < a := Nat.pos_of_ne_zero (fun h0 => hn (by rw [h0, Nat.mul_zero]; exact Nat.pow_pos (by omega)))
      have h1 : p * a ≤ p * a * a ^ k := Nat.le_mul_of_pos_right _ (Nat.pow_pos ha)
      rw [if_pos c, if_neg (fun h2 => hn (Nat.lt_of_le_of_lt h1 h2))]
    · rw [if_neg c]
      exact powL_eq a k (p * a) (hb.1 (by omega))
theorem refOfC (n : Int) (s : Bool) (a : Nat) (w : World) (h : decide (n < 0) = s) (h2 : n.natAbs = a) (h0 : -9223372036854775808 ≤ n) (h1 : n < 9223372036854775808) :
    Calls Tryd.prog 14 #[.int .i64 n] w fun e w' => ∃ v, e = .returned v ∧ AnInt w' v s (dg a) ∧ Below w.heap.size w w' := by
  have := refOfV n w h0 h1
  rw [h, h2] at this
  exact this
theorem ofC (n : Int) (s : Bool) (a : Nat) (w : World) (h : decide (n < 0) = s) (h2 : n.natAbs = a) (h0 : -9223372036854775808 ≤ n) (h1 : n < 9223372036854775808) :
    Calls Tryd.prog 11 #[.int .i64 n] w fun e w' => ∃ v, e = .returned v ∧ AnInt w' v s (dg a) ∧ Below w.heap.size w w' := by
  have := ofV n w h0 h1
  rw [h, h2] at this
  exact this
theorem dmC (sa sb s1 s2 : Bool) (a b q r : Nat) {A B : Option Addr} {c c' : Nat} {w : World} (hA : IR w A c (dg a)) (hB : IR w B c' (dg b)) (ga : Good sa a) (gb : Good sb b) (h0 : 0 < b) (h : dmA sa sb a b = ((s1, dg q), (s2, dg r))) :
    Calls Tryd.prog 28 #[.agg #[.bool sa, .slice A (dg a).length c], .agg #[.bool sb, .slice B (dg b).length c']] w fun e w' => ∃ v1 v2, e = .returned (.tuple #[v1, v2, .int .i64 0]) ∧ AnInt w' v1 s1 (dg q) ∧ AnInt w' v2 s2 (dg r) ∧ Below w.heap.size w w' := by
  have := DivMod.good sa sb a b A B c c' w ga gb h0 hA hB
  rw [h] at this
  exact this
theorem dm1 : dmA true false 7 2 = ((true, dg 4), (false, dg 1)) := by
  unfold dmA
  rw [if_pos (by decide), show (true != false) = true from rfl, sgn_small (by decide) (by decide), sgn_small (by decide) (by decide)]
theorem dm2 : dmA false true 7 2 = ((true, dg 4), (true, dg 1)) := by
  unfold dmA
  rw [if_pos (by decide), show (false != true) = true from rfl, sgn_small (by decide) (by decide), sgn_small (by decide) (by decide)]
theorem dm3 {A B : Option Addr} {c c' : Nat} {w : World} (hA : IR w A c (dg 1)) (hB : IR w B c' (dg 0)) :
    Calls Tryd.prog 28 #[.agg #[.bool false, .slice A (dg 1).length c], .agg #[.bool false, .slice B (dg 0).length c']] w fun e w' => ∃ v1 v2, e = .returned (.tuple #[v1, v2, .int .i64 2]) ∧ AnInt w' v1 false (dg 0) ∧ AnInt w' v2 false (dg 0) ∧ Below w.heap.size w w' := by
  have := DivMod.bad false false (dg 1) (dg 0) A B c c' w hA hB (by rw [dg_nil.2 rfl]; simp)
  rw [dg_nil.2 rfl] at this ⊢
  exact this
theorem pow1 {A : Option Addr} {c : Nat} {w : World} (hA : IR w A c (dg 2)) :
    Calls Tryd.prog 17 #[.agg #[.bool true, .slice A (dg 2).length c], .int .i64 3] w fun e w' => ∃ v, e = .returned (.tuple #[v, .int .i64 0]) ∧ AnInt w' v true (dg 8) ∧ Below w.heap.size w w' := by
  have h1 : 1 < bl 2 := Nat.lt_of_not_le (fun h => absurd ((bl_le 2 1).1 h) (by decide))
  have e : powA true 2 3 = (true, dg 8, 0) := by
    unfold powA powN
    rw [if_neg (by omega), if_neg (by omega), powL_eq 2 3 1 (Nat.pow_lt_pow_right (by decide) (show 0 < 512 by decide)), if_pos (show 1 * 2 ^ 3 < 2 ^ 512 from by rw [Nat.one_mul]; exact Nat.pow_lt_pow_right (by decide) (by decide))]
    exact sgn_small (by decide) (by decide)
  have := powerV true 2 3 (good_small (by decide) (by decide)) hA (by decide)
  rw [e] at this
  exact this
theorem pow2 {A : Option Addr} {c : Nat} {w : World} (hA : IR w A c (dg 2)) :
    Calls Tryd.prog 17 #[.agg #[.bool false, .slice A (dg 2).length c], .int .i64 512] w fun e w' => ∃ v, e = .returned (.tuple #[v, .int .i64 7]) ∧ AnInt w' v false (dg 0) ∧ Below w.heap.size w w' := by
  have h1 : 1 < bl 2 := Nat.lt_of_not_le (fun h => absurd ((bl_le 2 1).1 h) (by decide))
  have e : powA false 2 512 = (false, dg 0, 7) := by
    unfold powA powN
    rw [if_neg (by omega), if_neg (by omega), powL_eq 2 512 1 (Nat.pow_lt_pow_right (by decide) (show 0 < 512 by decide)), if_neg (by rw [Nat.one_mul]; exact Nat.lt_irrefl _), dg_nil.2 rfl]
  have := powerV false 2 512 (good_small (by decide) (by decide)) hA (by decide)
  rw [e] at this
  exact this
theorem ba_list (l : List UInt8) : (⟨l.toArray⟩ : ByteArray).toList = l := by rw [Lib.toList_data]
theorem par1 (w : World) : Calls Tryd.prog 22 #[.string ⟨#[45, 48]⟩] w fun e w' => ∃ v, e = .returned (.tuple #[v, .int .i64 6]) ∧ AnInt w' v false (dg 0) ∧ Below w.heap.size w w' := by
  rw [dg_nil.2 rfl]
  refine parseB ⟨#[45, 48]⟩ ⟨#[48]⟩ true w (by decide) (.inr ⟨by decide, ?_, .inl ⟨by decide, ?_⟩⟩)
  · rw [Lib.toList_data]; decide
  · rw [Lib.toList_data]; decide
theorem par2 (w : World) : Calls Tryd.prog 22 #[.string ⟨#[48, 48, 55]⟩] w fun e w' => ∃ v, e = .returned (.tuple #[v, .int .i64 6]) ∧ AnInt w' v false (dg 0) ∧ Below w.heap.size w w' := by
  rw [dg_nil.2 rfl]
  refine parseB ⟨#[48, 48, 55]⟩ ⟨#[48, 48, 55]⟩ false w (by decide) (.inr ⟨by decide, ?_, .inl ⟨by decide, ?_⟩⟩)
  · rw [Lib.toList_data]; decide
  · rw [Lib.toList_data]; decide
theorem par3 (w : World) : Calls Tryd.prog 22 #[.string ⟨#[49, 50]⟩] w fun e w' => ∃ v, e = .returned (.tuple #[v, .int .i64 0]) ∧ AnInt w' v false (dg 12) ∧ Below w.heap.size w w' := by
  have b0 : bt ⟨#[49, 50]⟩ 0 = 49 := by decide
  have b1 : bt ⟨#[49, 50]⟩ 1 = 50 := by decide
  have e : parR false (parL ⟨#[49, 50]⟩ (⟨#[49, 50]⟩ : ByteArray).size 0 0) = (false, dg 12, 0) := by
    have h1 := bl_small (show 1 < 18446744073709551616 by decide)
    have h2 := bl_small (show 12 < 18446744073709551616 by decide)
    rw [show (⟨#[49, 50]⟩ : ByteArray).size = 2 from rfl, parL, show (0 * 10 + (bt ⟨#[49, 50]⟩ ((0 : Nat) : Int) - 48).toNat) = 1 by rw [show (((0 : Nat) : Int)) = 0 from rfl, b0]; rfl, if_neg (by omega), parL,
      show (1 * 10 + (bt ⟨#[49, 50]⟩ ((0 + 1 : Nat) : Int) - 48).toNat) = 12 by rw [show (((0 + 1 : Nat) : Int)) = 1 from rfl, b1]; rfl, if_neg (by omega), parL]
    exact sgn_small (by decide) (by decide)
  have := parseV ⟨#[49, 50]⟩ ⟨#[49, 50]⟩ false w (by decide) (by decide) (by decide) (by rw [Lib.toList_data]; decide) (by decide) (by rw [b0]; intro h; cases h) (fun i hi => by
    have : i = 0 ∨ i = 1 := by have : i < 2 := hi; omega
    rcases this with rfl | rfl
    · rw [show (((0 : Nat) : Int)) = 0 from rfl, b0]; omega
    · rw [show (((1 : Nat) : Int)) = 1 from rfl, b1]; omega)
  rw [e] at this
  exact this
theorem wds100 : wds 10 100 = [0, 0, 1] := by
  rw [wds_pos (by omega) (by omega), wds_pos (by omega) (by omega), wds_pos (by omega) (by omega), show 100 / 10 / 10 / 10 = 0 from rfl, wds_zero]; rfl
theorem decD100 : decD 100 = [49, 48, 48] := by unfold decD; rw [wds100]; rfl
theorem dig1 {A : Option Addr} {c : Nat} {w : World} (hA : IR w A c (dg 100)) :
    Calls Tryd.prog 24 #[.agg #[.bool true, .slice A (dg 100).length c]] w fun e w' => e = .returned (.int .i64 3) ∧ Below w.heap.size w w' := by
  have := digits10V true 100 (good_small (by decide) (by decide)) hA
  rw [show decS 100 = [49, 48, 48] by unfold decS; rw [if_neg (by decide), decD100]] at this
  exact this
theorem dig2 (w : World) : Calls Tryd.prog 24 #[.agg #[.bool false, .slice none 0 0]] w fun e w' => e = .returned (.int .i64 1) ∧ Below w.heap.size w w' := by
  have := digits10V false 0 (A := none) (c := 0) (w := w) ⟨fun _ => rfl, by rw [wds_zero]; decide⟩ (by rw [dg_nil.2 rfl]; exact ⟨Kd.C_nil _ _, Nat.le_refl _⟩)
  rw [dg_nil.2 rfl] at this
  exact this
theorem text1 {A : Option Addr} {c : Nat} {w : World} (hA : IR w A c (dg 100)) :
    Calls Tryd.prog 23 #[.agg #[.bool true, .slice A (dg 100).length c]] w fun e w' => e = .returned (.string ⟨#[45, 49, 48, 48]⟩) ∧ Below w.heap.size w w' := by
  have := textV true 100 (good_small (by decide) (by decide)) hA
  rw [show txt true 100 = ⟨#[45, 49, 48, 48]⟩ by unfold txt; rw [if_neg (by decide), if_pos rfl, decD100]; rfl] at this
  exact this
theorem dg258 : dg 258 = [1, 2] := by unfold dg; rw [wds_pos (by omega) (by omega), wds_pos (by omega) (by omega), show 258 / 256 / 256 = 0 from rfl, wds_zero]; rfl
end Go.Proofs.YtnkpfaoklkapdaaDoor.Print
