/- What the upper functions of number compute, told by values: signed, ref.Of. -/
import Derived.Test.YtnkpfaoklkapdaaDoorPrint9
import Derived.Test.YtnkpfaoklkapdaaDoorPrint11
import Derived.Test.YtnkpfaoklkapdaaDoorNumD
namespace Go.Proofs.YtnkpfaoklkapdaaDoor.Print
open Go.RowKit Go.Proofs.YtnkpfaoklkapdaaDoorW.PrintWords Go.Proofs.YtnkpfaoklkapdaaDoorW.PrintLast Go.Proofs.YtnkpfaoklkapdaaDoorW.PrintMore
open Go.Proofs.YtnkpfaoklkapdaaDoor.NumP
set_option linter.unusedVariables false
set_option linter.unusedSimpArgs false

/-- The digits of an API Int. -/
def dg (n : Nat) : List Int := (wds 256 n).reverse
theorem bl_pos {n : Nat} : bl n = 0 ↔ n = 0 := by
  have := bl_le n 0
  constructor
  · intro h
    have h2 := this.1 (by omega)
    simpa using h2
  · intro h; subst h; exact bl_zero
theorem signed_E (s : Bool) (n : Nat) (hn : bl n ≤ 10000) : number_signed.f s (wds B32 n) = some (if bl n > 512 then (false, [], 7) else if n = 0 then (false, [], 0) else (s, dg n, 0)) := by
  have la := bl_len n 313 (by omega)
  unfold number_signed.f
  rw [bitLen_E n (by omega), Option.bind_some]
  by_cases c : bl n > 512
  · rw [if_pos (by omega), if_pos c]
  · rw [if_neg (by omega), if_neg c]
    by_cases c0 : n = 0
    · have := bl_pos.2 c0
      rw [if_pos (by omega), if_pos c0]
    · have : bl n ≠ 0 := fun h => c0 (bl_pos.1 h)
      rw [if_neg (by omega), if_neg c0, digits_E n (by omega)]
      rfl

theorem refOf_l0 (n : Int) : ∀ (j a : Nat) (D : List Int) (m : Int), (m = a ∨ m = -(a : Int)) → a < 256 ^ j → (a : Int) ≤ 9223372036854775808 → j + D.length ≤ 100 → Dig 256 D →
    Ev (fun k => bandplanref01_Of.l0 k n D m) (decide (n < 0) && decide ((val 256 D + (256 : Int) ^ D.length * a).toNat ≠ 0), dg (val 256 D + (256 : Int) ^ D.length * a).toNat)
  | 0, a, D, m, hm, ha, hb, hj, hg => by
    have h0 : a = 0 := by simpa using ha
    subst h0
    have hm0 : m = 0 := by omega
    subst hm0
    refine ev_now (fun k => ?_)
    show bandplanref01_Of.l0 (k + 1) n D 0 = _
    unfold bandplanref01_Of.l0
    rw [if_pos rfl]
    unfold bandplanref01_Make.f
    rw [if_pos ⟨hg, by omega⟩]
    simp [dg]
  | j + 1, a, D, m, hm, ha, hb, hj, hg => by
    by_cases h0 : a = 0
    · exact Ev.congr (fun k => rfl) (refOf_l0 n 0 a D m hm (by rw [h0]; simp) hb (by omega) hg)
    · have hq : a / 256 < 256 ^ j := Nat.div_lt_of_lt_mul (by rw [Nat.pow_succ, Nat.mul_comm] at ha; exact ha)
      have hval : val 256 (D ++ [((a % 256 : Nat) : Int)]) + (256 : Int) ^ (D ++ [((a % 256 : Nat) : Int)]).length * ((a / 256 : Nat) : Int) = val 256 D + (256 : Int) ^ D.length * a := by
        rw [val_snoc, List.length_append, List.length_singleton, Int.pow_succ, Int.mul_assoc, Int.add_assoc]
        show _ + ((256 : Int) ^ D.length * _ + (256 : Int) ^ D.length * _) = _
        rw [← Int.mul_add]
        congr 2
        omega
      have ih := refOf_l0 n j (a / 256) (D ++ [((a % 256 : Nat) : Int)]) (wrap64 (Int.tdiv m 256)) (by
        rcases hm with rfl | rfl
        · left
          rw [Int.tdiv_eq_ediv_of_nonneg (by omega), wrap_small (by omega) (by omega)]; omega
        · right
          rw [Int.neg_tdiv, Int.tdiv_eq_ediv_of_nonneg (by omega), wrap_small (by omega) (by omega)]; omega) hq (by omega) (by simp; omega) (dig_append.2 ⟨hg, dig_one (by omega) (by omega)⟩)
      rw [hval] at ih
      refine Ev.step (fun k => ?_) ih
      show bandplanref01_Of.l0 (k + 1) n D m = _
      conv => lhs; unfold bandplanref01_Of.l0
      rw [if_neg (by omega)]
      rcases hm with rfl | rfl
      · have e : Int.tmod (a : Int) 256 = ((a % 256 : Nat) : Int) := by rw [Int.tmod_eq_emod_of_nonneg (by omega)]; omega
        rw [e, if_neg (by omega), if_pos (by omega)]
        rw [show ((a % 256 : Nat) : Int) % 256 = ((a % 256 : Nat) : Int) by omega]
      · have e : Int.tmod (-(a : Int)) 256 = -((a % 256 : Nat) : Int) := by rw [Int.neg_tmod, Int.tmod_eq_emod_of_nonneg (by omega)]; omega
        rw [e]
        by_cases c : a % 256 = 0
        · rw [if_neg (by omega), if_pos (by omega), show (-((a % 256 : Nat) : Int)) % 256 = ((a % 256 : Nat) : Int) by omega]
        · rw [if_pos (by omega), if_pos (by omega), Int.neg_neg, wrap_small (by omega) (by omega), show ((a % 256 : Nat) : Int) % 256 = ((a % 256 : Nat) : Int) by omega]
theorem refOf_E (n : Int) (h0 : -9223372036854775808 ≤ n) (h1 : n < 9223372036854775808) : Ev (fun k => bandplanref01_Of.f k n) (decide (n < 0), dg n.natAbs) := by
  have h := refOf_l0 n 8 n.natAbs [] n (by omega) (by have : (256 : Nat) ^ 8 = 18446744073709551616 := rfl; omega) (by omega) (by simp) dig_nil
  have e : (val 256 [] + (256 : Int) ^ ([] : List Int).length * (n.natAbs : Int)).toNat = n.natAbs := by simp [val]
  rw [e] at h
  have e2 : (decide (n < 0) && decide (n.natAbs ≠ 0)) = decide (n < 0) := by
    by_cases c : n < 0
    · rw [decide_eq_true c, decide_eq_true (by omega)]; rfl
    · rw [decide_eq_false c]; rfl
  rw [e2] at h
  exact h

end Go.Proofs.YtnkpfaoklkapdaaDoor.Print
