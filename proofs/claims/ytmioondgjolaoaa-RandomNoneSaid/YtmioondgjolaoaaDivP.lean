/- Random: the plain arithmetic of one digit of bits.Div64. -/
set_option linter.unusedVariables false
namespace Go.Proofs.Ytmioondgjolaoaa.DivP

/-- The state of the search of a digit: q is not less than the digit, r is what q times A leaves. -/
def Inv (A B u q r : Int) : Prop := 0 ≤ q ∧ q ≤ 4294967298 ∧ 0 ≤ r ∧ r < 4294967296 ∧ r = u - q * A ∧ u * 4294967296 < (q + 1) * (A * 4294967296 + B)
def Quot (A B u q : Int) : Prop := 0 ≤ q ∧ q ≤ 4294967296 ∧ q * (A * 4294967296 + B) ≤ u * 4294967296 ∧ u * 4294967296 < (q + 1) * (A * 4294967296 + B)

theorem inv_start {A B u : Int} (a0 : 2147483648 ≤ A) (a1 : A ≤ 4294967295) (b0 : 0 ≤ B) (b1 : B ≤ 4294967295) (u0 : 0 ≤ u) (u1 : u < A * 4294967296 + B) :
    Inv A B u (u / A) (u - u / A * A) := by
  have hm := Int.emod_add_mul_ediv u A
  have h0 := Int.emod_nonneg u (show A ≠ 0 by omega)
  have h1 := Int.emod_lt_of_pos u (show 0 < A by omega)
  have hq : 0 ≤ u / A := Int.ediv_nonneg u0 (by omega)
  have hr : u - u / A * A = u % A := by rw [Int.mul_comm]; omega
  refine ⟨hq, ?_, by omega, by omega, rfl, ?_⟩
  · have : u / A < 4294967299 := by
      apply Int.ediv_lt_of_lt_mul (by omega)
      omega
    omega
  · have e : (u / A + 1) * (A * 4294967296 + B) = (u / A * A) * 4294967296 + A * 4294967296 + (u / A + 1) * B := by
      rw [Int.add_mul, Int.mul_add, ← Int.mul_assoc, Int.one_mul, Int.add_mul, Int.one_mul]; omega
    have hB : 0 ≤ (u / A + 1) * B := Int.mul_nonneg (by omega) b0
    rw [e]
    have : u = u / A * A + u % A := by omega
    omega

theorem key {A B u q r : Int} (hr : r = u - q * A) : q * (A * 4294967296 + B) = (u - r) * 4294967296 + q * B := by
  rw [Int.mul_add, ← Int.mul_assoc, show q * A = u - r by omega]

theorem big {A B u q : Int} (a0 : 2147483648 ≤ A) (b0 : 0 ≤ B) (u1 : u < A * 4294967296 + B) (u0 : 0 ≤ u) (hq : 4294967296 ≤ q) : u * 4294967296 < q * (A * 4294967296 + B) := by
  have h1 : 4294967296 * (A * 4294967296 + B) ≤ q * (A * 4294967296 + B) := Int.mul_le_mul_of_nonneg_right hq (by omega)
  omega

theorem inv_stop {A B u q r : Int} (h : Inv A B u q r) (hq : q < 4294967296) (hs : q * B ≤ 4294967296 * r) : Quot A B u q := by
  obtain ⟨h0, h1, h2, h3, h4, h5⟩ := h
  refine ⟨h0, by omega, ?_, h5⟩
  rw [key h4]
  omega

theorem over {A B u q r : Int} (a0 : 2147483648 ≤ A) (b0 : 0 ≤ B) (u0 : 0 ≤ u) (u1 : u < A * 4294967296 + B) (h : Inv A B u q r) (hg : 4294967296 ≤ q ∨ 4294967296 * r < q * B) : u * 4294967296 < q * (A * 4294967296 + B) ∧ 1 ≤ q := by
  obtain ⟨h0, h1, h2, h3, h4, h5⟩ := h
  have hk : u * 4294967296 < q * (A * 4294967296 + B) := by
    rcases hg with hg | hg
    · exact big a0 b0 u1 u0 hg
    · rw [key h4]; omega
  refine ⟨hk, ?_⟩
  rcases Int.lt_or_le q 1 with c | c
  · have : q = 0 := by omega
    subst this
    omega
  · exact c

theorem inv_step {A B u q r : Int} (a0 : 2147483648 ≤ A) (b0 : 0 ≤ B) (u0 : 0 ≤ u) (u1 : u < A * 4294967296 + B) (h : Inv A B u q r) (hg : 4294967296 ≤ q ∨ 4294967296 * r < q * B) (hr : r + A < 4294967296) :
    Inv A B u (q - 1) (r + A) := by
  obtain ⟨hk, hq⟩ := over a0 b0 u0 u1 h hg
  obtain ⟨h0, h1, h2, h3, h4, h5⟩ := h
  refine ⟨by omega, by omega, by omega, by omega, ?_, ?_⟩
  · rw [Int.sub_mul]; omega
  · rw [show q - 1 + 1 = q by omega]; exact hk

theorem inv_break {A B u q r : Int} (a0 : 2147483648 ≤ A) (b0 : 0 ≤ B) (b1 : B ≤ 4294967295) (u0 : 0 ≤ u) (u1 : u < A * 4294967296 + B) (h : Inv A B u q r) (hg : 4294967296 ≤ q ∨ 4294967296 * r < q * B) (hr : 4294967296 ≤ r + A) :
    Quot A B u (q - 1) := by
  obtain ⟨hk, hq⟩ := over a0 b0 u0 u1 h hg
  obtain ⟨h0, h1, h2, h3, h4, h5⟩ := h
  have hm : (q - 1) * B ≤ 4294967297 * 4294967295 := Int.mul_le_mul (by omega) b1 b0 (by omega)
  have hle : (q - 1) * (A * 4294967296 + B) ≤ u * 4294967296 := by
    rw [key (r := r + A) (u := u) (q := q - 1) (by rw [Int.sub_mul]; omega)]
    omega
  refine ⟨by omega, ?_, hle, ?_⟩
  · rcases Int.lt_or_le (q - 1) 4294967297 with c | c
    · omega
    · have := big a0 b0 u1 u0 (show 4294967296 ≤ q - 1 by omega)
      omega
  · rw [show q - 1 + 1 = q by omega]; exact hk

/-- What the digit leaves. -/
theorem quot_left {A B u q : Int} (h : Quot A B u q) : 0 ≤ u * 4294967296 - q * (A * 4294967296 + B) ∧ u * 4294967296 - q * (A * 4294967296 + B) < A * 4294967296 + B := by
  obtain ⟨h0, h1, h2, h3⟩ := h
  rw [Int.add_mul, Int.one_mul] at h3
  omega
theorem quot_wrap {A B u q : Int} (a0 : 2147483648 ≤ A) (a1 : A ≤ 4294967295) (b0 : 0 ≤ B) (b1 : B ≤ 4294967295) (h : Quot A B u q) :
    (u * 4294967296 % 18446744073709551616 - q * (A * 4294967296 + B) % 18446744073709551616) % 18446744073709551616 = u * 4294967296 - q * (A * 4294967296 + B) := by
  have := quot_left h
  rw [← Int.sub_emod]
  exact Int.emod_eq_of_lt this.1 (by omega)
theorem quot_mod {A B u q : Int} (h : Quot A B u q) : (u * 4294967296 - q * (A * 4294967296 + B)) % (A * 4294967296 + B) = u * 4294967296 % (A * 4294967296 + B) := by
  rw [Int.sub_emod, Int.mul_emod_left, Int.sub_zero, Int.emod_emod_of_dvd _ (Int.dvd_refl _)]

/-- Both digits together. -/
theorem all_ (y : Int) (s : Nat) (hy : 0 < y) (Y u2 r : Int) (hY : Y = y * 2 ^ s) (h1 : u2 = 2 ^ s * 4294967296 % Y) (h2 : r = u2 * 4294967296 % Y) :
    r / 2 ^ s = 18446744073709551616 % y := by
  have h2s : (0 : Int) < 2 ^ s := Int.pow_pos (by decide)
  have e : r = (18446744073709551616 % y) * 2 ^ s := by
    rw [h2, h1, Int.mul_emod, Int.emod_emod_of_dvd _ (Int.dvd_refl _), ← Int.mul_emod, hY, Int.mul_assoc, show (4294967296 : Int) * 4294967296 = 18446744073709551616 from rfl, Int.mul_comm y, Int.mul_emod_mul_of_pos _ _ h2s, Int.mul_comm]
  rw [e, Int.mul_ediv_cancel _ (by omega)]

end Go.Proofs.Ytmioondgjolaoaa.DivP
