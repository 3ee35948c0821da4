/- What the printed leaves compute, told by values: bitLen, short. -/
import Derived.Test.YtnkpfaoklkapdaaDoorNumL
namespace Go.Proofs.YtnkpfaoklkapdaaDoor.Print
open Go.RowKit Go.Proofs.YtnkpfaoklkapdaaDoorW.PrintWords Go.Proofs.YtnkpfaoklkapdaaDoorW.PrintLast Go.Proofs.YtnkpfaoklkapdaaDoorW.PrintMore
open Go.Proofs.YtnkpfaoklkapdaaDoor.NumP
set_option linter.unusedVariables false
set_option linter.unusedSimpArgs false

/-- The number of bits. -/
def bl (n : Nat) : Nat := (wds 2 n).length
theorem bl_le (n k : Nat) : bl n ≤ k ↔ n < 2 ^ k := wds_length_iff (by omega) n k
theorem bl_zero : bl 0 = 0 := by unfold bl; rw [wds_zero]; rfl
theorem bl_eq {n m : Nat} (h1 : 1 ≤ m) (h2 : 2 ^ (m - 1) ≤ n) (h3 : n < 2 ^ m) : bl n = m := by
  have a := (bl_le n m).2 h3
  have b : ¬ bl n ≤ m - 1 := fun h => by have := (bl_le n (m - 1)).1 h; omega
  omega
theorem bl_lo {n : Nat} (h : 0 < n) : 1 ≤ bl n ∧ 2 ^ (bl n - 1) ≤ n := by
  have h1 : ¬ bl n ≤ 0 := fun h2 => by have := (bl_le n 0).1 h2; simp at this; omega
  refine ⟨by omega, ?_⟩
  rcases Nat.lt_or_ge n (2 ^ (bl n - 1)) with c | c
  · have := (bl_le n (bl n - 1)).2 c; omega
  · exact c
theorem bl_hi (n : Nat) : n < 2 ^ bl n := (bl_le n _).1 (Nat.le_refl _)

theorem last_rd {B : Nat} {l : List Int} (h : 0 < l.length) : val B l = val B (l.take (l.length - 1)) + (B : Int) ^ (l.length - 1) * rd l ((l.length - 1 : Nat) : Int) := by
  have e := val_take (B := B) (l := l) (i := l.length - 1) (by omega)
  rw [Nat.sub_add_cancel h, take_all (Nat.le_refl _)] at e
  exact e
theorem last_ne {B : Nat} (hB : 2 ≤ B) {n : Nat} (h : 0 < (wds B n).length) : rd (wds B n) (((wds B n).length - 1 : Nat) : Int) ≠ 0 := by
  intro e
  have ht := top_wds hB n
  have e2 := take_rd (l := wds B n) (i := (wds B n).length - 1) (by omega)
  rw [Nat.sub_add_cancel h, take_all (Nat.le_refl _), e] at e2
  exact ht _ _ e2 rfl

theorem bitLen_E (n : Nat) (hn : (wds B32 n).length ≤ 1000000) : number_nat_bitLen.f (wds B32 n) = some (bl n : Int) := by
  unfold number_nat_bitLen.f
  by_cases h0 : n = 0
  · subst h0
    rw [wds_zero, bl_zero]; rfl
  · have hl : 0 < (wds B32 n).length := by
      rcases Nat.eq_zero_or_pos (wds B32 n).length with c | c
      · exact absurd ((wds_nil_iff b32 n).1 (List.length_eq_zero_iff.1 c)) h0
      · exact c
    obtain ⟨L, hL⟩ : ∃ L, (wds B32 n).length - 1 = L := ⟨_, rfl⟩
    have hlen : (wds B32 n).length = L + 1 := by omega
    have ht := rd_dig (dig_wds b32 n) (i := L) (by omega)
    have hne := last_ne b32 hl
    have hv := last_rd (B := B32) hl
    rw [hL] at hne hv
    rw [val_wds b32] at hv
    have hlow := val_lt b32 (dig_take (dig_wds b32 n) L)
    have hlow0 := val_nonneg (dig_take (dig_wds b32 n) L)
    rw [List.length_take, Nat.min_eq_left (by omega)] at hlow
    obtain ⟨t, hte⟩ := Int.eq_ofNat_of_zero_le ht.1
    rw [hte] at ht hne hv
    have ht2 : t < 4294967296 := by have := b32_lt ht.2; omega
    have hb := Lib.bitLenAux_bounds 64 t (by omega) (by omega)
    have hb1 : 1 ≤ Lib.bitLen t := hb.1
    have hb2 : 2 ^ (Lib.bitLen t - 1) ≤ t := hb.2.1
    have hb3 : t < 2 ^ Lib.bitLen t := hb.2.2
    clear hb
    obtain ⟨b, hbe⟩ : ∃ b, Lib.bitLen t = b := ⟨_, rfl⟩
    have hb4 : b ≤ 32 := by rw [← hbe]; exact Lib.bitLen_le t 32 (by omega) (by omega)
    rw [hlen]
    have e1 : wrap64 (((L + 1 : Nat) : Int) - 1) = (L : Int) := by rw [wrap_small (by omega) (by omega)]; omega
    rw [if_neg (by omega), e1, if_pos (by omega), if_pos (by omega), hte]
    unfold bits_Len32.f
    rw [if_pos ⟨by omega, by omega⟩, Int.toNat_natCast, hbe]
    simp only [Option.bind_some]
    rw [hbe] at hb1 hb2 hb3
    have e2 : wrap64 (32 * (L : Int)) = 32 * (L : Int) := wrap_small (by omega) (by omega)
    rw [e2, wrap_small (by omega) (by omega)]
    congr 1
    obtain ⟨low, hlo⟩ := Int.eq_ofNat_of_zero_le hlow0
    rw [hlo] at hv hlow
    have hB : (B32 : Int) ^ L = ((2 ^ (32 * L) : Nat) : Int) := by
      rw [Nat.pow_mul, Int.natCast_pow]
    rw [hB] at hv hlow
    have hvN : n = low + 2 ^ (32 * L) * t := by
      have : ((low + 2 ^ (32 * L) * t : Nat) : Int) = (n : Int) := by rw [hv]; push_cast; rfl
      omega
    have hlN : low < 2 ^ (32 * L) := by omega
    have : bl n = 32 * L + b := by
      apply bl_eq (by omega)
      · have : 2 ^ (32 * L + b - 1) = 2 ^ (32 * L) * 2 ^ (b - 1) := by rw [← Nat.pow_add]; congr 1; omega
        rw [this, hvN]
        have := Nat.mul_le_mul_left (2 ^ (32 * L)) hb2
        omega
      · rw [Nat.pow_add, hvN]
        have : 2 ^ (32 * L) * (t + 1) ≤ 2 ^ (32 * L) * 2 ^ b := Nat.mul_le_mul_left _ hb3
        rw [Nat.mul_add] at this
        omega
    rw [this]
    omega

/-! ### short -/
theorem drop_rd {l : List Int} {i : Nat} (h : i < l.length) : l.drop i = rd l i :: l.drop (i + 1) := by
  rw [List.drop_eq_getElem_cons h, rd_get h]
theorem set_low (k : Nat) (x : Int) (Q : List Int) : (List.replicate (k + 1) 0 ++ Q).set k x = List.replicate k 0 ++ (x :: Q) := by
  rw [List.replicate_succ', List.append_assoc, List.set_append_right _ _ (by simp)]
  simp
theorem or32 (r x : Nat) (hr : r < 4294967296) (hx : x < 4294967296) : Go.bits .or .u64 (IntKind.u64.wrap ((r : Int) * 4294967296)) (IntKind.u64.wrap (x : Int)) = ((r * 4294967296 + x : Nat) : Int) := by
  have e : (r : Int) * 4294967296 = ((r * 4294967296 : Nat) : Int) := by omega
  rw [e, u64_id (by omega) (by omega), u64_id (by omega) (by omega), u64_or_nat _ _ (by omega) (by omega)]
  have h := Nat.two_pow_add_eq_or_of_lt (i := 32) (b := x) (by omega) r
  have h2 : r * 4294967296 = 2 ^ 32 * r := by omega
  rw [h2, h]
theorem short_l0 (x : List Int) (d : Nat) (hd0 : 0 < d) (hd1 : d < 4294967296) (hx : Dig B32 x) (hn : x.length ≤ 1000000) : ∀ (i : Nat) (Q : List Int) (r : Nat), i + Q.length = x.length → Dig B32 Q → r < d → val B32 (x.drop i) = val B32 Q * d + r →
    Ev (fun k => number_short.l0 k x d (List.replicate i 0 ++ Q) r ((i : Int) - 1)) (wds B32 ((val B32 x).toNat / d), (((val B32 x).toNat % d : Nat) : Int))
  | 0, Q, r, hi, hg, hr, he => by
    rw [List.drop_zero] at he
    have hq := val_nonneg hg
    obtain ⟨q, hqe⟩ := Int.eq_ofNat_of_zero_le hq
    have hv : (val B32 x).toNat = q * d + r := by
      rw [he, hqe]
      have : (q : Int) * d + r = ((q * d + r : Nat) : Int) := by push_cast; rfl
      rw [this, Int.toNat_natCast]
    have e1 : (q * d + r) / d = q := by rw [Nat.mul_comm, Nat.mul_add_div hd0, Nat.div_eq_of_lt hr, Nat.add_zero]
    have e2 : (q * d + r) % d = r := by rw [Nat.mul_comm, Nat.mul_add_mod, Nat.mod_eq_of_lt hr]
    have ht := trim_E Q hg (by omega)
    rw [hqe, Int.toNat_natCast] at ht
    rw [hv, e1, e2]
    obtain ⟨K, hK⟩ := ht
    refine ⟨K + 1, fun k hk => ?_⟩
    obtain ⟨m, rfl⟩ : ∃ m, k = m + 1 := ⟨k - 1, by omega⟩
    show number_short.l0 (m + 1) x d (List.replicate 0 0 ++ Q) r _ = _
    unfold number_short.l0
    rw [if_neg (by omega)]
    simp only [List.replicate_zero, List.nil_append]
    have h := hK m (by omega)
    simp only at h
    rw [h]
    rfl
  | i + 1, Q, r, hi, hg, hr, he => by
    have hlt : i < x.length := by omega
    have hX := rd_dig hx hlt
    obtain ⟨X, hXe⟩ := Int.eq_ofNat_of_zero_le hX.1
    rw [hXe] at hX
    have hX2 : X < 4294967296 := by have := b32_lt hX.2; omega
    obtain ⟨y, hy⟩ : ∃ y, r * 4294967296 + X = y := ⟨_, rfl⟩
    have hyq : y / d < 4294967296 := by
      apply Nat.div_lt_of_lt_mul
      have : (r + 1) * 4294967296 ≤ d * 4294967296 := Nat.mul_le_mul_right _ hr
      omega
    have hyr : y % d < d := Nat.mod_lt _ hd0
    have h1 := Nat.mod_add_div y d
    obtain ⟨yq, hyqe⟩ : ∃ yq, y / d = yq := ⟨_, rfl⟩
    obtain ⟨yr, hyre⟩ : ∃ yr, y % d = yr := ⟨_, rfl⟩
    rw [hyqe] at hyq h1
    rw [hyre] at hyr h1
    have h2 : (yr : Int) + d * (yq : Int) = (r : Int) * 4294967296 + X := by
      have : ((yr + d * yq : Nat) : Int) = ((r * 4294967296 + X : Nat) : Int) := by rw [h1, hy]
      rw [Int.natCast_add, Int.natCast_mul, Int.natCast_add, Int.natCast_mul] at this
      exact this
    have ih := short_l0 x d hd0 hd1 hx hn i ((yq : Int) :: Q) yr (by simp; omega) (dig_cons.2 ⟨⟨by omega, lt_b32 (by omega)⟩, hg⟩) hyr (by
      rw [drop_rd hlt, hXe]
      show (X : Int) + B32 * val B32 (x.drop (i + 1)) = ((yq : Int) + B32 * val B32 Q) * d + (yr : Int)
      rw [he, Int.add_mul, Int.mul_add, Int.mul_comm (yq : Int) (d : Int), ← Int.mul_assoc]
      show (X : Int) + (4294967296 * val B32 Q * d + 4294967296 * (r : Int)) = (d : Int) * (yq : Int) + 4294967296 * val B32 Q * d + (yr : Int)
      omega)
    refine ev_one ih (fun k => ?_)
    show number_short.l0 (k + 1) x d (List.replicate (i + 1) 0 ++ Q) r (((i + 1 : Nat) : Int) - 1) = _
    conv => lhs; unfold number_short.l0
    have e0 : (((i + 1 : Nat) : Int) - 1) = (i : Int) := by omega
    rw [e0, if_pos (by omega), if_pos (by omega), if_pos (by omega), if_neg (by omega), if_pos (by simp; omega), hXe, or32 r X (by omega) hX2, hy]
    have e1 : Int.tdiv (y : Int) (d : Int) = (yq : Int) := by rw [Int.tdiv_eq_ediv_of_nonneg (by omega), ← hyqe]; exact (Int.natCast_ediv y d).symm
    have e2 : Int.tmod (y : Int) (d : Int) = (yr : Int) := by rw [Int.tmod_eq_emod_of_nonneg (by omega), ← hyre]; exact (Int.natCast_emod y d).symm
    rw [e1, e2, u64_id (by omega) (by omega), wrap_small (by omega) (by omega), Int.toNat_natCast, show (yq : Int) % 4294967296 = (yq : Int) by omega, set_low]
theorem short_E (n d : Nat) (hd0 : 0 < d) (hd1 : d < 4294967296) (hn : (wds B32 n).length ≤ 1000000) : Ev (fun k => number_short.f k (wds B32 n) d) (wds B32 (n / d), ((n % d : Nat) : Int)) := by
  have h := short_l0 (wds B32 n) d hd0 hd1 (dig_wds b32 n) hn (wds B32 n).length [] 0 (by simp) dig_nil hd0 (by simp [val])
  rw [val_wds b32, Int.toNat_natCast] at h
  refine Ev.congr (fun k => ?_) h
  unfold number_short.f
  rw [if_pos (by omega), if_pos (by omega), Int.toNat_natCast, wrap_small (by omega) (by omega), List.append_nil]
  rfl

end Go.Proofs.YtnkpfaoklkapdaaDoor.Print
