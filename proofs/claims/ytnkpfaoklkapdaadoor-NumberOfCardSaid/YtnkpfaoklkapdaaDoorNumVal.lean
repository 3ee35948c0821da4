/- What Value of number answers, told by values. -/
import Derived.Test.YtnkpfaoklkapdaaDoorNumK0
namespace Go.Proofs.YtnkpfaoklkapdaaDoor.Print
open Go.RowKit Go.Proofs.YtnkpfaoklkapdaaDoorW.PrintWords Go.Proofs.YtnkpfaoklkapdaaDoorW.PrintLast Go.Proofs.YtnkpfaoklkapdaaDoorW.PrintMore
open Go.Proofs.YtnkpfaoklkapdaaDoor.NumP
set_option linter.unusedVariables false
set_option linter.unusedSimpArgs false
set_option exponentiation.threshold 2000

theorem rd_w0 (n : Nat) : rd (wds B32 n) 0 = ((n % B32 : Nat) : Int) := by
  by_cases h : n = 0
  · subst h; rw [wds_zero]; rfl
  · rw [wds_pos b32 (by omega)]; rfl
theorem rd_w1 (n : Nat) : rd (wds B32 n) 1 = ((n / B32 % B32 : Nat) : Int) := by
  by_cases h : n = 0
  · subst h; rw [wds_zero]; rfl
  · rw [wds_pos b32 (by omega)]
    show rd (wds B32 (n / B32)) 0 = _
    rw [rd_w0]
theorem or_hi (m x : Nat) (hm : m < 4294967296) (hx : x < 4294967296) : Go.bits .or .u64 (IntKind.u64.wrap (m : Int)) (IntKind.u64.wrap (IntKind.u64.wrap (x : Int) * 4294967296)) = ((x * 4294967296 + m : Nat) : Int) := by
  have e : (IntKind.u64.wrap (x : Int) * 4294967296) = ((x * 4294967296 : Nat) : Int) := by rw [u64_id (by omega) (by omega)]; omega
  rw [e, u64_id (by omega) (by omega), u64_id (by omega) (by omega), u64_or_nat _ _ (by omega) (by omega), Nat.or_comm, Nat.mul_comm x, ← Nat.two_pow_add_eq_or_of_lt (i := 32) hm]
theorem word0 (n : Nat) : number_nat_word.f (wds B32 n) 0 = some (IntKind.u64.wrap ((n % B32 : Nat) : Int)) := by
  unfold number_nat_word.f
  by_cases h : n = 0
  · subst h; rw [wds_zero, if_neg (by simp)]; rfl
  · have := List.length_pos_iff.2 (fun e => h ((wds_nil_iff b32 _).1 e) : wds B32 n ≠ [])
    rw [if_pos (by omega), if_pos (by omega), rd_w0]
theorem word1 (n : Nat) : number_nat_word.f (wds B32 n) 1 = some (IntKind.u64.wrap ((n / B32 % B32 : Nat) : Int)) := by
  unfold number_nat_word.f
  by_cases h : 1 < (wds B32 n).length
  · rw [if_pos (by omega), if_pos (by omega), rd_w1]
  · have h1 := (wds_length_iff b32 n 1).1 (by omega)
    have : n / B32 = 0 := Nat.div_eq_of_lt (by rw [Nat.pow_one] at h1; exact h1)
    rw [if_neg (by omega), this]; rfl
/-- What Value answers. -/
def valA (s : Bool) (n : Nat) : Int × Int := if n ≤ (if s then 9223372036854775808 else 9223372036854775807) then ((if s then -(n : Int) else n), 0) else (0, 3)
theorem Value_E (s : Bool) (n : Nat) (h : Good s n) : Ev (fun k => number_Value.f k s (dg n)) (valA s n) := by
  have hb := good_bl h
  have hA := abs_E s n (Nat.le_trans (bl_good hb) (by omega))
  have hB : B32 = 4294967296 := rfl
  have hj1t : ∀ u, Ev (fun k => number_Value.j1 k u true s (dg n)) (0, 3) := fun u => by
    refine Ev.step (f := fun _ => some (0, 3)) (fun k => ?_) (Ev.now _)
    rw [number_Value.j1, if_pos rfl]
  have hu := or_hi (n % B32) (n / B32 % B32) (Nat.mod_lt _ (by rw [hB]; omega)) (Nat.mod_lt _ (by rw [hB]; omega))
  have hL : (wds B32 n).length ≤ 2 ↔ n < 18446744073709551616 := wds_length_iff b32 n 2
  have key : ∀ lim : Int, lim = (if s then 9223372036854775808 else 9223372036854775807) → Ev (fun k => number_Value.j0 k (wds B32 n) ((n / B32 % B32 * 4294967296 + n % B32 : Nat) : Int) lim s (dg n)) (valA s n) := fun lim hlim => by
    by_cases c : (wds B32 n).length ≤ 2
    · have hn := hL.1 c
      have e : n / B32 % B32 * 4294967296 + n % B32 = n := by rw [hB]; omega
      rw [e]
      refine Ev.step (f := fun k => number_Value.j1 k (n : Int) (decide ((n : Int) > lim)) s (dg n)) (fun k => ?_) ?_
      · rw [number_Value.j0, if_neg (by omega)]
      · unfold valA
        by_cases c2 : (n : Int) > lim
        · rw [decide_eq_true c2, if_neg (by cases s <;> simp at hlim ⊢ <;> omega)]
          exact hj1t _
        · rw [decide_eq_false c2, if_pos (by cases s <;> simp at hlim ⊢ <;> omega)]
          refine Ev.step (f := fun _ => some ((if s = true then -(n : Int) else n), 0)) (fun k => ?_) (Ev.now _)
          rw [number_Value.j1, if_neg (by simp)]
          cases s
          · rw [if_neg (by simp), if_neg (by simp)]
            simp at hlim
            congr 2
            unfold wrap64; omega
          · rw [if_pos rfl, if_pos rfl]
            simp at hlim
            congr 2
            rw [IntKind.wrap_u64]; unfold wrap64; omega
    · have hn : ¬ n < 18446744073709551616 := fun h => c (hL.2 h)
      have e : valA s n = (0, 3) := by unfold valA; rw [if_neg (by cases s <;> simp <;> omega)]
      rw [e]
      refine Ev.step (fun k => ?_) (hj1t ((n / B32 % B32 * 4294967296 + n % B32 : Nat) : Int))
      rw [number_Value.j0, if_pos (by omega)]
  refine Ev.congr (fun k => ?_) (key _ rfl)
  unfold number_Value.f
  rw [valid_f, Option.bind_some, valid_good h, if_pos rfl]
  unfold dg
  rw [hA, Option.bind_some, word0, Option.bind_some, word1, Option.bind_some, hu]
  cases s
  · rw [if_neg (by simp)]; rfl
  · rw [if_pos rfl]; rfl
end Go.Proofs.YtnkpfaoklkapdaaDoor.Print
