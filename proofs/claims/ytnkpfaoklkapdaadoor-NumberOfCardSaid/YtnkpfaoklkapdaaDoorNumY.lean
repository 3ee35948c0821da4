/- What Parse, Of and Same of number answer, told by values. -/
import Derived.Test.YtnkpfaoklkapdaaDoorNumPow
import Derived.Test.YtnkpfaoklkapdaaDoorPrint6
import Derived.Test.YtnkpfaoklkapdaaDoorPrint27
namespace Go.Proofs.YtnkpfaoklkapdaaDoor.Print
open Go.RowKit Go.Proofs.YtnkpfaoklkapdaaDoorW.PrintWords Go.Proofs.YtnkpfaoklkapdaaDoorW.PrintLast Go.Proofs.YtnkpfaoklkapdaaDoorW.PrintMore
open Go.Proofs.YtnkpfaoklkapdaaDoor.NumP
set_option linter.unusedVariables false
set_option linter.unusedSimpArgs false
set_option exponentiation.threshold 2000

/-- The digits that are left, from a number on; none: it is too large. -/
def parL (D : ByteArray) : Nat → Nat → Nat → Option Nat
  | 0, _, x => some x
  | k + 1, i, x => if bl (x * 10 + (bt D i - 48).toNat) > 512 then none else parL D k (i + 1) (x * 10 + (bt D i - 48).toNat)
def parR (neg : Bool) : Option Nat → Bool × List Int × Int
  | none => (false, [], 7)
  | some x => sgn neg x
theorem ten_wds : wds B32 10 = [10] := by rw [wds_pos b32 (by omega), show 10 / B32 = 0 from rfl, wds_zero]; rfl
theorem bl_ten {x d : Nat} (h : bl x ≤ 512) (hd : d ≤ 9) : bl (x * 10 + d) ≤ 600 := by
  apply (bl_le _ 600).2
  have h1 := (bl_le _ 512).1 h
  have h2 : (2 : Nat) ^ 600 = 2 ^ 512 * 2 ^ 88 := by rw [← Nat.pow_add]
  have h3 : (100 : Nat) ≤ 2 ^ 88 := by decide
  have h4 : (2 : Nat) ^ 512 * 100 ≤ 2 ^ 512 * 2 ^ 88 := Nat.mul_le_mul_left _ h3
  rw [h2]
  generalize (2 : Nat) ^ 512 = P at *
  generalize (2 : Nat) ^ 88 = R at *
  omega
theorem small_len (x : Nat) (h : bl x ≤ 10000) : (wds B32 x).length ≤ 313 := bl_len x 313 (by omega)
theorem parse_l0 (D : ByteArray) (neg : Bool) (hn : D.size ≤ 100000) (hd : ∀ i : Nat, i < D.size → 48 ≤ bt D i ∧ bt D i ≤ 57) : ∀ (m i x : Nat), i + m = D.size → bl x ≤ 512 →
    Ev (fun k => number_Parse.l0 k D neg (wds B32 x) (D.size : Int) (i : Int)) (parR neg (parL D m i x))
  | 0, i, x, hi, hx => by
    refine Ev.step (f := fun _ => some (sgn neg x)) (fun k => ?_) (Ev.now _)
    rw [number_Parse.l0, if_neg (by omega), signed_E neg x (by omega), Option.bind_some]
    rfl
  | m + 1, i, x, hi, hx => by
    obtain ⟨h1, h2⟩ := hd i (by omega)
    obtain ⟨d, hdd⟩ : ∃ d : Nat, bt D i = 48 + d := ⟨(bt D i - 48).toNat, by omega⟩
    have hd9 : d ≤ 9 := by omega
    have e1 : (bt D i - 48) % 256 = (d : Int) := by omega
    have e2 : (bt D i - 48).toNat = d := by omega
    have l1 := small_len x (by omega)
    have hb := bl_ten hx hd9
    have hb0 := bl_ten hx (show 0 ≤ 9 by omega)
    have l2 := small_len (x * 10) (by rw [Nat.add_zero] at hb0; omega)
    have hT := trim_E [(d : Int)] (dig_one (by omega) (by show (d : Int) < 4294967296; omega)) (by simp)
    have hv : (val B32 [(d : Int)]).toNat = d := by simp [val]
    rw [hv] at hT
    have hM := times_E x 10 (by omega) (by rw [ten_wds]; simp)
    rw [ten_wds] at hM
    have l3 : (wds B32 d).length ≤ 313 := small_len d (Nat.le_trans (bl_mono (show d ≤ x * 10 + d by omega)) (by omega))
    have hP := plus_E (x * 10) d (by omega) (by omega)
    have l4 := small_len (x * 10 + d) (by omega)
    have hL := bitLen_E (x * 10 + d) (by omega)
    refine Ev.step (f := fun k => (number_times.f k (wds B32 x) (([10] : List Int))).bind fun t915 => ((number_nat_trim.f k [(d : Int)]).bind fun t921 => ((number_plus.f t915 t921).bind fun t924 => ((number_nat_bitLen.f t924).bind fun t927 => (if t927 > 512 then (some (false, ([] : List Int), 7)) else (number_Parse.l0 k D neg t924 (D.size : Int) (wrap64 ((i : Int) + 1)))))))) (fun k => ?_) ?_
    · rw [number_Parse.l0, if_pos (by omega)]
      simp only [if_pos (show (0 : Int) ≤ (i : Int) by omega), if_pos (show (i : Int) < (D.size : Int) by omega), e1]
    refine Ev.bind hM (Ev.bind hT ?_)
    have e3 : wrap64 ((i : Int) + 1) = ((i + 1 : Nat) : Int) := by unfold wrap64; omega
    simp only [hP, Option.bind_some, hL, e3]
    rw [parL, e2]
    by_cases c : bl (x * 10 + d) > 512
    · rw [if_pos c]
      refine Ev.congr (fun k => ?_) (Ev.now _)
      rw [if_pos (by omega)]
      rfl
    · rw [if_neg c]
      refine Ev.congr (fun k => ?_) (parse_l0 D neg hn hd m (i + 1) (x * 10 + d) (by omega) (by omega))
      rw [if_neg (by omega)]
theorem nil_toList : (⟨#[]⟩ : ByteArray).toList = [] := by
  unfold ByteArray.toList ByteArray.toList.loop
  rw [if_neg (by decide)]; rfl
/-- Parse of a string whose digits (behind a sign) are digits, with no leading zero. -/
theorem Parse_E (s D : ByteArray) (neg : Bool) (h1 : strings_CutPrefix.f s ⟨#[45]⟩ = some (D, neg)) (h0 : 0 < D.size) (hn : D.size ≤ 100000) (hD : D.toList ≠ []) (h3 : strings_Trim.f D ⟨#[48, 49, 50, 51, 52, 53, 54, 55, 56, 57]⟩ = some ⟨#[]⟩)
    (h4 : bt D 0 = 48 → s.toList = [48]) (hd : ∀ i : Nat, i < D.size → 48 ≤ bt D i ∧ bt D i ≤ 57) :
    Ev (fun k => number_Parse.f k s) (parR neg (parL D D.size 0 0)) := by
  have hj : Ev (fun k => number_Parse.j0 k D neg ((⟨#[]⟩ : ByteArray).toList != ([] : List UInt8))) (parR neg (parL D D.size 0 0)) := by
    refine Ev.step (fun k => ?_) (parse_l0 D neg hn hd D.size 0 0 (by omega) (by rw [bl_zero]; omega))
    rw [number_Parse.j0, if_neg (by rw [nil_toList]; decide), wds_zero]; rfl
  refine Ev.congr (fun k => ?_) hj
  unfold number_Parse.f
  rw [h1, Option.bind_some]
  simp only [if_neg hD, if_pos (show 0 < (D.size : Int) by omega), h3, Option.bind_some]
  by_cases c : bt D 0 = 48
  · rw [if_pos c, if_pos (h4 c)]
  · rw [if_neg c]
theorem Parse_bad (s D : ByteArray) (neg : Bool) (h1 : strings_CutPrefix.f s ⟨#[45]⟩ = some (D, neg))
    (h : D.toList = [] ∨ 0 < D.size ∧ D.toList ≠ [] ∧ (bt D 0 = 48 ∧ s.toList ≠ [48] ∨ ∃ T, strings_Trim.f D ⟨#[48, 49, 50, 51, 52, 53, 54, 55, 56, 57]⟩ = some T ∧ T.toList ≠ [])) :
    Ev (fun k => number_Parse.f k s) (false, [], 6) := by
  have hj : Ev (fun k => number_Parse.j0 k D neg true) (false, [], 6) := by
    refine Ev.step (f := fun _ => some (false, [], 6)) (fun k => ?_) (Ev.now _)
    rw [number_Parse.j0, if_pos rfl]
  refine Ev.congr (fun k => ?_) hj
  unfold number_Parse.f
  rw [h1, Option.bind_some]
  rcases h with h | ⟨h0, hD, h⟩
  · simp only [if_pos h]
  · simp only [if_neg hD, if_pos (show 0 < (D.size : Int) by omega)]
    rcases h with ⟨c, c2⟩ | ⟨T, h3, hT⟩
    · rw [if_pos c, if_neg c2]
    · have e : (T.toList != ([] : List UInt8)) = true := by rw [bne_iff_ne]; exact hT
      rw [h3, Option.bind_some, e]
      by_cases c : bt D 0 = 48
      · rw [if_pos c]
        by_cases c2 : s.toList = [48]
        · rw [if_pos c2]
        · rw [if_neg c2]
      · rw [if_neg c]
theorem Of_E (n : Int) (h0 : -9223372036854775808 ≤ n) (h1 : n < 9223372036854775808) : Ev (fun k => number_Of.f k n) (decide (n < 0), dg n.natAbs) := by
  obtain ⟨u, hu, hub⟩ : ∃ u : Nat, u = n.natAbs ∧ u ≤ 9223372036854775808 := ⟨n.natAbs, rfl, by omega⟩
  have hval : (val B32 [((u % 4294967296 : Nat) : Int), ((u / 4294967296 : Nat) : Int)]).toNat = u := by
    have : val B32 [((u % 4294967296 : Nat) : Int), ((u / 4294967296 : Nat) : Int)] = (u : Int) := by
      simp only [val]; show _ + (4294967296 : Int) * (_ + _) = _; omega
    rw [this]; omega
  have hg : Dig B32 [((u % 4294967296 : Nat) : Int), ((u / 4294967296 : Nat) : Int)] := dig_cons.2 ⟨⟨by omega, by show _ < (4294967296 : Int); omega⟩, dig_one (by omega) (by show _ < (4294967296 : Int); omega)⟩
  have hT := trim_E _ hg (by simp)
  rw [hval] at hT
  have hb : bl u ≤ 64 := (bl_le _ 64).2 (by have : (2 : Nat) ^ 64 = 18446744073709551616 := rfl; omega)
  have hS : Ev (fun k => (number_nat_trim.f k [((u % 4294967296 : Nat) : Int), ((u / 4294967296 : Nat) : Int)]).bind fun t261 => ((number_signed.f (decide (n < 0)) t261).bind fun bt264 => (some (bt264.1, bt264.2.1)))) (decide (n < 0), dg u) := by
    refine Ev.bind hT ?_
    refine Ev.congr (fun k => ?_) (Ev.now _)
    rw [signed_E _ _ (by omega), Option.bind_some, if_neg (by omega)]
    by_cases c : u = 0
    · rw [if_pos c, c]; have : ¬ n < 0 := by omega
      rw [decide_eq_false this, dg_nil.2 rfl]
    · rw [if_neg c]
  rw [← hu]
  refine Ev.congr (fun k => ?_) hS
  unfold number_Of.f
  have w1 : IntKind.u64.wrap n = n % 18446744073709551616 := IntKind.wrap_u64 n
  by_cases c : n < 0
  · rw [if_pos c]
    have e1 : (IntKind.u64.wrap (-(IntKind.u64.wrap n))) = (u : Int) := by rw [IntKind.wrap_u64, w1]; omega
    rw [e1, show (u : Int) % 4294967296 = ((u % 4294967296 : Nat) : Int) by omega, show ((u : Int) / 4294967296) % 4294967296 = ((u / 4294967296 : Nat) : Int) by omega]
  · rw [if_neg c]
    have e1 : IntKind.u64.wrap n = (u : Int) := by rw [w1]; omega
    rw [e1, show (u : Int) % 4294967296 = ((u % 4294967296 : Nat) : Int) by omega, show ((u : Int) / 4294967296) % 4294967296 = ((u / 4294967296 : Nat) : Int) by omega]
end Go.Proofs.YtnkpfaoklkapdaaDoor.Print
