/- Plain laws of the score statements, part 1: square roots. -/
import Derived.Test.YtpchmhijcockkaaDoorPrint9
namespace Go.Proofs.YtpchmhijcockkaaDoor.Print
open Go.RowKit Go.Proofs.YtpchmhijcockkaaDoorW.PrintWords Go.Proofs.YtpchmhijcockkaaDoorW.PrintLast Go.Proofs.YtpchmhijcockkaaDoorW.PrintMore

theorem w64 {x : Int} (h0 : -9223372036854775808 ≤ x) (h1 : x ≤ 9223372036854775807) : wrap64 x = x := by unfold wrap64; omega

/-- r is the greatest whole number whose square is at most n. -/
def IsRoot (n r : Int) : Prop := 0 ≤ r ∧ r * r ≤ n ∧ n < (r + 1) * (r + 1)

theorem sq_mono {a b : Int} (h0 : 0 ≤ a) (h : a ≤ b) : a * a ≤ b * b := Int.mul_le_mul h h h0 (by omega)
theorem lt_of_sq {a b : Int} (hb : 0 ≤ b) (h : a * a < b * b) : a < b := by
  by_cases ha : a < b
  · exact ha
  · have := sq_mono hb (by omega : b ≤ a)
    omega
theorem root_unique {n r s : Int} (h : IsRoot n r) (k : IsRoot n s) : r = s := by
  have a := lt_of_sq (a := r) (b := s + 1) (by have := k.1; omega) (by have := h.2.1; have := k.2.2; omega)
  have b := lt_of_sq (a := s) (b := r + 1) (by have := h.1; omega) (by have := k.2.1; have := h.2.2; omega)
  omega
theorem root_exists (n : Nat) : ∃ r, IsRoot n r := by
  induction n with
  | zero => exact ⟨0, by unfold IsRoot; simp⟩
  | succ n ih =>
    obtain ⟨r, h0, h1, h2⟩ := ih
    by_cases h : (r + 1) * (r + 1) ≤ ((n + 1 : Nat) : Int)
    · refine ⟨r + 1, by omega, h, ?_⟩
      have e : (r + 1 + 1) * (r + 1 + 1) = (r + 1) * (r + 1) + 2 * r + 3 := by grind
      omega
    · exact ⟨r, h0, by omega, by omega⟩
theorem root_bd {n r : Int} (h : IsRoot n r) (h1 : n ≤ 9223372036854775807) : r ≤ 3037000499 := by
  have := lt_of_sq (a := r) (b := 3037000500) (by omega) (by have := h.2.1; omega)
  omega

theorem newton {n r : Int} (hr : IsRoot n r) (h2 : 2 ≤ n) (h63 : n ≤ 9223372036854775807) : ∀ (d : Nat) (x : Int), x ≤ d → r ≤ x → x ≤ 4294967296 → Ev (fun k => score_root.l0 k n x) r
  | 0, x, hd, hx, _ => by
    exfalso
    have h1 : r ≤ 0 := by omega
    have h0 : r = 0 := by have := hr.1; omega
    subst h0
    have := hr.2.2
    omega
  | d + 1, x, hd, hx, hb => by
    have r0 := hr.1
    have r1 := hr.2.1
    have r2 := hr.2.2
    have rb := root_bd hr h63
    have rp : 1 ≤ r := by
      by_cases h : 1 ≤ r
      · exact h
      · have : r = 0 := by omega
        subst this
        omega
    have hx0 : 0 < x := by omega
    have q0 : 0 ≤ n / x := Int.ediv_nonneg (by omega) (by omega)
    have q1 : n / x ≤ r + 2 := by
      have : n / x < r + 3 := by
        rw [Int.ediv_lt_iff_lt_mul hx0]
        have a : (r + 3) * r ≤ (r + 3) * x := Int.mul_le_mul_of_nonneg_left hx (by omega)
        have e : (r + 1) * (r + 1) = r * r + 2 * r + 1 := by grind
        have e2 : (r + 3) * r = r * r + 3 * r := by grind
        omega
      omega
    have e1 : Int.tdiv n x = n / x := Int.tdiv_eq_ediv_of_nonneg (by omega)
    have e2 : wrap64 (n / x) = n / x := w64 (by omega) (by omega)
    have e3 : wrap64 (x + n / x) = x + n / x := w64 (by omega) (by omega)
    have e4 : Int.tdiv (x + n / x) 2 = (x + n / x) / 2 := Int.tdiv_eq_ediv_of_nonneg (by omega)
    have e5 : wrap64 ((x + n / x) / 2) = (x + n / x) / 2 := w64 (by omega) (by omega)
    have hy : r ≤ (x + n / x) / 2 := by
      have : 2 * r - x ≤ n / x := by
        rw [Int.le_ediv_iff_mul_le hx0]
        have e : (2 * r - x) * x = r * r - (x - r) * (x - r) := by grind
        have p : 0 ≤ (x - r) * (x - r) := Int.mul_nonneg (by omega) (by omega)
        omega
      omega
    by_cases hc : (x + n / x) / 2 ≥ x
    · refine Ev.step (f := fun _ => some r) (fun k => ?_) (Ev.now r)
      simp only [score_root.l0]
      rw [if_neg (by omega), e1, e2, e3, e4, e5, if_pos hc]
      have hq : x ≤ n / x := by omega
      rw [Int.le_ediv_iff_mul_le hx0] at hq
      have := lt_of_sq (a := x) (b := r + 1) (by omega) (by omega)
      congr 1
      omega
    · refine Ev.step (f := fun k => score_root.l0 k n ((x + n / x) / 2)) (fun k => ?_) (newton hr h2 h63 d _ (by omega) hy (by omega))
      simp only [score_root.l0]
      rw [if_neg (by omega), e1, e2, e3, e4, e5, if_neg hc]

theorem bitLenAux_lt : ∀ (f x : Nat), x < 2 ^ f → x < 2 ^ Lib.bitLenAux f x ∧ Lib.bitLenAux f x ≤ f
  | 0, x, h => by simpa [Lib.bitLenAux] using h
  | f + 1, x, h => by
    unfold Lib.bitLenAux
    split
    · rename_i hz; subst hz; simp
    · have h2 : x / 2 < 2 ^ f := by rw [Nat.pow_succ] at h; omega
      obtain ⟨a, b⟩ := bitLenAux_lt f (x / 2) h2
      refine ⟨?_, by omega⟩
      rw [Nat.add_comm, Nat.pow_succ]
      omega
theorem bitLen_pos {x : Nat} (h : 0 < x) : 1 ≤ Lib.bitLen x := by
  unfold Lib.bitLen Lib.bitLenAux
  rw [if_neg (by omega)]
  omega
theorem bitLenAux_le : ∀ (f x j : Nat), x < 2 ^ j → Lib.bitLenAux f x ≤ j
  | 0, x, j, h => by simp [Lib.bitLenAux]
  | f + 1, x, j, h => by
    unfold Lib.bitLenAux
    split
    · omega
    · cases j with
      | zero => simp at h; omega
      | succ j =>
        have := bitLenAux_le f (x / 2) j (by rw [Nat.pow_succ] at h; omega)
        omega

theorem root_ev {n : Int} (h0 : 0 ≤ n) (h63 : n ≤ 9223372036854775807) : ∃ r, Ev (fun k => score_root.f k n) r ∧ IsRoot n r := by
  obtain ⟨m, rfl⟩ := Int.eq_ofNat_of_zero_le h0
  obtain ⟨r, hr⟩ := root_exists m
  refine ⟨r, ?_, hr⟩
  by_cases h2 : (m : Int) < 2
  · refine Ev.congr (f := fun _ => some r) (fun k => ?_) (Ev.now r)
    unfold score_root.f
    rw [if_pos h2]
    congr 1
    have : m = 0 ∨ m = 1 := by omega
    rcases this with rfl | rfl
    · exact root_unique (n := 0) ⟨by omega, by decide, by decide⟩ hr
    · exact root_unique (n := 1) ⟨by omega, by decide, by decide⟩ hr
  · have hlt := bitLenAux_lt 64 m (by omega)
    have hle : Lib.bitLen m ≤ 63 := bitLenAux_le 64 m 63 (by omega)
    have hpos := bitLen_pos (x := m) (by omega)
    obtain ⟨L, hL⟩ : ∃ L, L = Lib.bitLen m := ⟨_, rfl⟩
    have hltL : m < 2 ^ L := by rw [hL]; exact hlt.1
    rw [← hL] at hle hpos
    clear hlt
    have eb0 := hL
    clear hL
    have e0 : IntKind.u64.wrap (m : Int) = (m : Int) := by clear eb0; simp [IntKind.wrap, IntKind.bits]; omega
    have eb : bits_Len.f (m : Int) = some (L : Int) := by
      unfold bits_Len.f
      rw [if_pos ⟨by clear eb0; omega, by clear eb0; omega⟩, Int.toNat_natCast, ← eb0]
    clear eb0
    have e1 : wrap64 ((L : Int) + 1) = (L : Int) + 1 := w64 (by omega) (by omega)
    have e2 : Int.tdiv ((L : Int) + 1) 2 = ((L : Int) + 1) / 2 := Int.tdiv_eq_ediv_of_nonneg (by omega)
    have e3 : wrap64 (((L : Int) + 1) / 2) = ((L : Int) + 1) / 2 := w64 (by omega) (by omega)
    obtain ⟨c, hc⟩ : ∃ c : Nat, c = (L + 1) / 2 := ⟨_, rfl⟩
    have e4 : ((L : Int) + 1) / 2 = (c : Int) := by omega
    have c32 : c ≤ 32 := by omega
    obtain ⟨q, hq⟩ : ∃ q : Nat, q = 2 ^ c := ⟨_, rfl⟩
    have q32 : q ≤ 4294967296 := by rw [hq]; exact Nat.pow_le_pow_right (n := 2) (by omega) c32
    have qI : (2 : Int) ^ c = (q : Int) := by rw [hq]; simp
    have hsq : m < q * q := by
      have a : 2 ^ L ≤ 2 ^ (c + c) := Nat.pow_le_pow_right (by omega) (by omega)
      rw [Nat.pow_add, ← hq] at a
      exact Nat.lt_of_lt_of_le hltL a
    clear hltL hq
    have e5 : shl .i64 1 (c : Int) = (q : Int) := by
      unfold shl
      rw [Int.toNat_natCast, Nat.min_eq_left (by show c ≤ 64; omega), Int.one_mul, IntKind.wrap_i64, qI]
      omega
    have hrx : r ≤ (q : Int) := by
      have hs : (m : Int) < (q : Int) * (q : Int) := by
        rw [← Int.natCast_mul]
        exact Int.ofNat_lt.2 hsq
      have := lt_of_sq (a := r) (b := q) (by omega) (by have := hr.2.1; omega)
      omega
    refine Ev.congr (f := fun k => score_root.l0 k m q) (fun k => ?_) (newton hr (by omega) h63 q _ (by omega) hrx (by omega))
    unfold score_root.f
    rw [if_neg h2, e0, eb]
    rw [Option.bind_some, e1, e2, e3, e4, if_pos (by omega), e5]

def IsPow : Nat → Int → Prop
  | 0, b => b = 1
  | j + 1, b => ∃ b', IsPow j b' ∧ b = 2 * b'
theorem pow_pos' : ∀ (j : Nat) (b : Int), IsPow j b → 0 < b
  | 0, b, h => by have : b = 1 := h; omega
  | j + 1, b, h => by
    obtain ⟨b', h1, h2⟩ := h
    have := pow_pos' j b' h1
    omega

theorem square_step {n x b : Int} {r : Int} (q0 : 0 < b) (q1 : b ≤ 2147483648) (h63 : n ≤ 9223372036854775807) (h0 : 0 ≤ x) (hx : x ≤ 3037000499) (h1 : x * x ≤ n) (h2 : n < (x + 2 * b) * (x + 2 * b))
    (next : ∀ y : Int, 0 ≤ y → y * y ≤ n → n < (y + b) * (y + b) → Ev (fun k => bandplanref28_Square.l0 k n y (b / 2)) r) : Ev (fun k => bandplanref28_Square.l0 k n x b) r := by
  have e1 : wrap64 (x + b) = x + b := w64 (by omega) (by omega)
  have e2 : Int.tdiv b 2 = b / 2 := Int.tdiv_eq_ediv_of_nonneg (by omega)
  have e3 : wrap64 (b / 2) = b / 2 := w64 (by omega) (by omega)
  by_cases ha : x + b ≤ 3037000499
  · have s0 : 0 ≤ (x + b) * (x + b) := Int.mul_nonneg (by omega) (by omega)
    have s1 := sq_mono (a := x + b) (b := 3037000499) (by omega) ha
    have e4 : wrap64 ((x + b) * (x + b)) = (x + b) * (x + b) := w64 (by omega) (by omega)
    by_cases hb : (x + b) * (x + b) ≤ n
    · refine Ev.step (f := fun k => bandplanref28_Square.l0 k n (x + b) (b / 2)) (fun k => ?_) (next _ (by omega) hb ?_)
      · simp only [bandplanref28_Square.l0]
        rw [if_pos q0, e1, if_pos ha, e4, if_pos hb, e2, e3]
      · have e : x + b + b = x + 2 * b := by omega
        rw [e]; exact h2
    · refine Ev.step (f := fun k => bandplanref28_Square.l0 k n x (b / 2)) (fun k => ?_) (next _ h0 h1 (by omega))
      simp only [bandplanref28_Square.l0]
      rw [if_pos q0, e1, if_pos ha, e4, if_neg hb, e2, e3]
  · refine Ev.step (f := fun k => bandplanref28_Square.l0 k n x (b / 2)) (fun k => ?_) (next _ h0 h1 ?_)
    · simp only [bandplanref28_Square.l0]
      rw [if_pos q0, e1, if_neg ha, e2, e3]
    · have := sq_mono (a := 3037000500) (b := x + b) (by omega) (by omega)
      omega

theorem square_loop {n r : Int} (hr : IsRoot n r) (h63 : n ≤ 9223372036854775807) : ∀ (j : Nat) (b x : Int), IsPow j b → b ≤ 2147483648 → 0 ≤ x → x * x ≤ n → n < (x + 2 * b) * (x + 2 * b) → Ev (fun k => bandplanref28_Square.l0 k n x b) r := by
  have rb := root_bd hr h63
  have hx : ∀ x : Int, x * x ≤ n → x ≤ r := fun x h1 => by
    have := lt_of_sq (a := x) (b := r + 1) (by have := hr.1; omega) (by have := hr.2.2; omega)
    omega
  intro j
  induction j with
  | zero =>
    intro b x hj hb h0 h1 h2
    have hb1 : b = 1 := hj
    subst hb1
    refine square_step (by omega) (by omega) h63 h0 (by have := hx x h1; omega) h1 h2 (fun y y0 y1 y2 => ?_)
    refine Ev.step (f := fun _ => some r) (fun k => ?_) (Ev.now r)
    simp only [bandplanref28_Square.l0]
    rw [if_neg (by decide)]
    congr 1
    exact root_unique ⟨y0, y1, y2⟩ hr
  | succ j ih =>
    intro b x hj hb h0 h1 h2
    obtain ⟨b', hb', rfl⟩ := hj
    have hp := pow_pos' j b' hb'
    refine square_step (by omega) hb h63 h0 (by have := hx x h1; omega) h1 h2 (fun y y0 y1 y2 => ?_)
    have e : 2 * b' / 2 = b' := by omega
    rw [e]
    exact ih b' y hb' (by omega) y0 y1 y2

def p2 : Nat → Int
  | 0 => 1
  | j + 1 => 2 * p2 j
theorem isPow_p2 : ∀ j, IsPow j (p2 j)
  | 0 => rfl
  | j + 1 => ⟨p2 j, isPow_p2 j, rfl⟩
theorem pow31 : IsPow 31 2147483648 := by
  have h := isPow_p2 31
  have e : p2 31 = 2147483648 := by decide
  rwa [e] at h

theorem square_ev {n r : Int} (hr : IsRoot n r) (h63 : n ≤ 9223372036854775807) : Ev (fun k => bandplanref28_Square.f k n) r := by
  refine Ev.congr (f := fun k => bandplanref28_Square.l0 k n 0 2147483648) (fun k => rfl) (square_loop hr h63 31 _ 0 pow31 (by omega) (by omega) (by have := hr.2.1; have := Int.mul_nonneg hr.1 hr.1; omega) (by omega))

theorem known28 : Ev (fun k => bandplanlaw28_known.f k) true := by
  refine Ev.of (k := 40) (fun k => bandplanlaw28_known.mono k) ?_
  decide +kernel

end Go.Proofs.YtpchmhijcockkaaDoor.Print
