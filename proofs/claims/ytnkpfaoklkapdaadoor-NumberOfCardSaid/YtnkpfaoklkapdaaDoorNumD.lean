/- What the printed leaves compute, told by values: half, divide. -/
import Derived.Test.YtnkpfaoklkapdaaDoorNumT
namespace Go.Proofs.YtnkpfaoklkapdaaDoor.Print
open Go.RowKit Go.Proofs.YtnkpfaoklkapdaaDoorW.PrintWords Go.Proofs.YtnkpfaoklkapdaaDoorW.PrintLast Go.Proofs.YtnkpfaoklkapdaaDoorW.PrintMore
open Go.Proofs.YtnkpfaoklkapdaaDoor.NumP
set_option linter.unusedVariables false
set_option linter.unusedSimpArgs false

theorem or31 (h z : Nat) (hh : h < 2147483648) : Go.bits .or .u32 (h : Int) (((z : Int) * 2147483648) % 4294967296) = ((h + (z % 2) * 2147483648 : Nat) : Int) := by
  have e : ((z : Int) * 2147483648) % 4294967296 = (((z % 2) * 2147483648 : Nat) : Int) := by omega
  rw [e, u32_or_nat h ((z % 2) * 2147483648) (by omega) (by omega)]
  have h1 := Nat.two_pow_add_eq_or_of_lt (i := 31) (b := h) (by omega) (z % 2)
  have h2 : (z % 2) * 2147483648 = 2 ^ 31 * (z % 2) := by omega
  rw [h2, Nat.or_comm, ← h1, Nat.add_comm]

/-- The low bit of word i, 0 behind the last one. -/
def lowb (x : List Int) (i : Nat) : Int := rd x i % 2
theorem lowb_out {x : List Int} {i : Nat} (h : x.length ≤ i) : lowb x i = 0 := by
  unfold lowb
  have : rd x i = 0 := by
    show x.getD i 0 = 0
    rw [List.getD_eq_getElem?_getD, List.getElem?_eq_none h]; rfl
  rw [this]; rfl
theorem half_acc {vH vT q hi X l0 l1 x0 : Int} (he : 2 * vH + x0 = vT + l0 * q) (hh : 2 * hi = X - l0 + l1 * 4294967296) : 2 * (vH + q * hi) + x0 = (vT + q * X) + l1 * (q * 4294967296) := by
  have e1 : 2 * (q * hi) = q * (2 * hi) := by rw [← Int.mul_assoc, Int.mul_comm 2 q, Int.mul_assoc]
  have e2 : q * (X - l0 + l1 * 4294967296) = q * X - l0 * q + l1 * (q * 4294967296) := by
    rw [Int.mul_add, Int.mul_sub, Int.mul_comm q l0, ← Int.mul_assoc q l1, Int.mul_comm q l1, Int.mul_assoc l1 q]
  rw [Int.mul_add, e1, hh, e2]
  omega
theorem set_mid (H : List Int) (x y : Int) (l : List Int) : (H ++ x :: l).set H.length y = H ++ y :: l := by
  rw [List.set_append_right _ _ (Nat.le_refl _), Nat.sub_self, List.set_cons_zero]
theorem rd_mid (H : List Int) (x : Int) (l : List Int) : rd (H ++ x :: l) (H.length : Nat) = x := by
  rw [rd_get (by simp), List.getElem_append_right (Nat.le_refl _)]
  simp
theorem rd_next (H : List Int) (x : Int) (l : List Int) : rd (H ++ x :: l) ((H.length + 1 : Nat) : Int) = rd l 0 := by
  show (H ++ x :: l).getD (H.length + 1) 0 = l.getD 0 0
  rw [List.getD_eq_getElem?_getD, List.getD_eq_getElem?_getD, List.getElem?_append_right (by omega)]
  have : H.length + 1 - H.length = 1 := by omega
  rw [this]; rfl
theorem rd_drop (x : List Int) (i : Nat) : rd (x.drop i) 0 = rd x i := by
  show (x.drop i).getD 0 0 = x.getD i 0
  rw [List.getD_eq_getElem?_getD, List.getD_eq_getElem?_getD, List.getElem?_drop, Nat.add_zero]

theorem half_l0 (x : List Int) (hx : Dig B32 x) (hn : x.length ≤ 1000000) : ∀ (d i : Nat) (H : List Int), i + d = x.length → H.length = i → Dig B32 H → 2 * val B32 H + lowb x 0 = val B32 (x.take i) + lowb x i * (B32 : Int) ^ i →
    Ev (fun k => number_nat_half.l0 k (H ++ x.drop i) x.length i) (wds B32 ((val B32 x).toNat / 2))
  | 0, i, H, hi, hH, hg, he => by
    rw [take_all (by omega), lowb_out (i := i) (by omega), Int.zero_mul, Int.add_zero] at he
    have hb : 0 ≤ lowb x 0 ∧ lowb x 0 < 2 := by unfold lowb; omega
    have hvn := val_nonneg hx
    have hv : (val B32 H).toNat = (val B32 x).toNat / 2 := by omega
    have ht := trim_E H hg (by omega)
    rw [hv] at ht
    refine ev_one ht (fun k => ?_)
    show number_nat_half.l0 (k + 1) (H ++ x.drop i) x.length i = _
    unfold number_nat_half.l0
    rw [if_neg (by omega), List.drop_of_length_le (by omega), List.append_nil]
    simp
  | d + 1, i, H, hi, hH, hg, he => by
    have hlt : i < x.length := by omega
    have hX := rd_dig hx hlt
    obtain ⟨X, hXe⟩ := Int.eq_ofNat_of_zero_le hX.1
    rw [hXe] at hX
    have hX2 : X < 4294967296 := by have := b32_lt hX.2; omega
    have hz : ∃ z : Nat, rd x ((i + 1 : Nat) : Int) = z ∧ (x.length ≤ i + 1 → z = 0) := by
      by_cases c : i + 1 < x.length
      · obtain ⟨z, hz⟩ := Int.eq_ofNat_of_zero_le (rd_dig hx c).1
        exact ⟨z, hz, fun h => by omega⟩
      · refine ⟨0, ?_, fun _ => rfl⟩
        show x.getD (i + 1) 0 = 0
        rw [List.getD_eq_getElem?_getD, List.getElem?_eq_none (by omega)]; rfl
    obtain ⟨z, hze, hz0⟩ := hz
    obtain ⟨h, hh⟩ : ∃ h : Nat, X / 2 + (z % 2) * 2147483648 = h := ⟨_, rfl⟩
    have hl0 : lowb x i = ((X % 2 : Nat) : Int) := by unfold lowb; rw [hXe]; omega
    have hl1 : lowb x (i + 1) = ((z % 2 : Nat) : Int) := by unfold lowb; rw [hze]; omega
    have HE := Aside0.mk he
    clear he
    have ih := half_l0 x hx hn d (i + 1) (H ++ [(h : Int)]) (by omega) (by simp [hH]) (dig_append.2 ⟨hg, dig_one (by omega) (lt_b32 (by omega))⟩) (by
      rw [val_snoc, hH, val_take hlt, hXe, Int.pow_succ]
      exact half_acc HE.out (by rw [hl0, hl1]; omega))
    refine ev_one ih (fun k => ?_)
    show number_nat_half.l0 (k + 1) (H ++ x.drop i) x.length i = _
    conv => lhs; unfold number_nat_half.l0
    have e1 := Aside0.mk (show wrap64 ((i : Int) + 1) = ((i + 1 : Nat) : Int) by rw [wrap_small (by omega) (by omega)]; omega)
    have hdr := drop_rd hlt
    have hlen : (H ++ x.drop i).length = x.length := by simp [hH]; omega
    rw [if_pos (by omega), if_pos (by omega), if_pos (by rw [hlen]; omega), hdr, hXe, Option.bind_some]
    subst hH
    rw [Int.toNat_natCast, rd_mid, set_mid, e1.out, show (X : Int) / 2 = ((X / 2 : Nat) : Int) by omega]
    have hl3 : (H ++ (X : Int) :: x.drop (H.length + 1)).length = x.length := by simp; omega
    have hl2 : (H ++ ((X / 2 : Nat) : Int) :: x.drop (H.length + 1)).length = x.length := by simp; omega
    by_cases c : H.length + 1 < x.length
    · rw [if_pos (by rw [hl3]; omega), if_pos (by omega), rd_mid, rd_next, rd_drop, hze, set_mid, or31 (X / 2) z (by omega), hh]
      simp
    · have : z = 0 := hz0 (by omega)
      subst this
      have hh2 : X / 2 = h := by omega
      rw [if_neg (by rw [hl3]; omega), hh2]
      simp
theorem half_E (n : Nat) (hn : (wds B32 n).length ≤ 1000000) : Ev (fun k => number_nat_half.f k (wds B32 n)) (wds B32 (n / 2)) := by
  have h := half_l0 (wds B32 n) (dig_wds b32 n) hn (wds B32 n).length 0 [] (by omega) rfl dig_nil (by simp [val])
  rw [val_wds b32, Int.toNat_natCast] at h
  refine Ev.congr (fun k => ?_) h
  unfold number_nat_half.f
  simp

/-! ### divide -/
theorem shl_one : ∀ s : Fin 32, shl .u32 1 (s.val : Int) = ((2 ^ s.val : Nat) : Int) := by decide +kernel
theorem shl_one' {s : Nat} (h : s < 32) : shl .u32 1 (s : Int) = ((2 ^ s : Nat) : Int) := shl_one ⟨s, h⟩
theorem or_bit {w s : Nat} (hs : s < 32) (hw : w < 4294967296) (hz : w % 2 ^ (s + 1) = 0) : Go.bits .or .u32 (w : Int) ((2 ^ s : Nat) : Int) = ((w + 2 ^ s : Nat) : Int) ∧ w + 2 ^ s < 4294967296 := by
  have hp : 2 ^ s < 4294967296 := Nat.lt_of_le_of_lt (Nat.pow_le_pow_right (by omega) (show s ≤ 31 by omega)) (by decide)
  obtain ⟨v, hv⟩ := Nat.dvd_of_mod_eq_zero hz
  have h := Nat.two_pow_add_eq_or_of_lt (i := s + 1) (b := 2 ^ s) (Nat.pow_lt_pow_right (by omega) (by omega)) v
  rw [u32_or_nat w (2 ^ s) hw hp]
  have e : w ||| 2 ^ s = w + 2 ^ s := by rw [hv]; exact h.symm
  refine ⟨by rw [e], ?_⟩
  rw [← e]
  exact Nat.or_lt_two_pow (n := 32) hw hp
/-- The words' bits below m are clear. -/
def Clear (q : List Int) (m : Nat) : Prop := ∀ j w : Nat, j < q.length → rd q j = (w : Int) → w % 2 ^ min 32 (m - 32 * j) = 0
theorem clear_down {q : List Int} {m m' : Nat} (h : Clear q m) (hm : m' ≤ m) : Clear q m' := fun j w hj hw => by
  have := Nat.dvd_of_mod_eq_zero (h j w hj hw)
  exact Nat.mod_eq_zero_of_dvd (Nat.dvd_trans (Nat.pow_dvd_pow 2 (by omega)) this)
theorem rd_set {q : List Int} {i j : Nat} {x : Int} (hi : i < q.length) : rd (q.set i x) j = if i = j then x else rd q j := by
  show (q.set i x).getD j 0 = if i = j then x else q.getD j 0
  rw [List.getD_eq_getElem?_getD, List.getD_eq_getElem?_getD, List.getElem?_set]
  by_cases c : i = j
  · rw [if_pos c, if_pos hi, if_pos c]; rfl
  · rw [if_neg c, if_neg c]
theorem clear_set {q : List Int} {m w : Nat} (h : Clear q (m + 1)) (hj : m / 32 < q.length) (hw : rd q ((m / 32 : Nat) : Int) = (w : Int)) : Clear (q.set (m / 32) ((w + 2 ^ (m % 32) : Nat) : Int)) m := by
  intro j v hj2 hv
  rw [rd_set hj] at hv
  by_cases c : m / 32 = j
  · rw [if_pos c] at hv
    have e : min 32 (m - 32 * j) = m % 32 := by omega
    have hz := h (m / 32) w hj hw
    have e2 : min 32 (m + 1 - 32 * (m / 32)) = m % 32 + 1 := by omega
    rw [e2] at hz
    rw [e]
    have hv2 : v = w + 2 ^ (m % 32) := by omega
    rw [hv2, Nat.add_mod_right]
    exact Nat.mod_eq_zero_of_dvd (Nat.dvd_trans (Nat.pow_dvd_pow 2 (by omega)) (Nat.dvd_of_mod_eq_zero hz))
  · rw [if_neg c] at hv
    exact clear_down h (by omega) j v (by simpa using hj2) hv

theorem ev_two {α β : Type} {g : Nat → Option β} {f : Nat → Option α} {h : Nat → α → Option β} {x : α} {r : β} (hf : Ev f x) (hh : Ev (fun k => h k x) r) (e : ∀ k, g (k + 1) = (f k).bind (h k)) : Ev g r :=
  Ev.step e (Ev.bind hf hh)

theorem div_q {a b v r : Nat} (hb : 0 < b) (h : a = v * b + r) (hr : r < b) : a / b = v ∧ a % b = r := by
  subst h
  constructor
  · rw [Nat.mul_comm, Nat.mul_add_div hb, Nat.div_eq_of_lt hr, Nat.add_zero]
  · rw [Nat.mul_comm, Nat.mul_add_mod, Nat.mod_eq_of_lt hr]

theorem wds_len_mono {n m : Nat} (h : n ≤ m) : (wds B32 n).length ≤ (wds B32 m).length := (wds_length_iff b32 _ _).2 (Nat.lt_of_le_of_lt h (wds_length b32 m))
noncomputable def divH (q : List Int) (m : Int) (r d : List Int) : Nat → Int → Option (List Int × List Int) := fun k t => if t ≥ 0 then ((number_minus.f k r d).bind fun t159 => (if 0 ≤ (wrap64 (Int.tdiv m 32)) then (if (wrap64 (Int.tdiv m 32)) < (q.length : Int) then (if 0 ≤ (Int.tmod m 32) then ((number_nat_half.f k d).bind fun t164 => (number_divide.l0 k (wrap64 (m - 1)) (q.set ((wrap64 (Int.tdiv m 32)) : Int).toNat (Go.bits .or .u32 (rd q (wrap64 (Int.tdiv m 32))) (shl .u32 1 (Int.tmod m 32)))) t159 t164)) else (none)) else (none)) else (none))) else ((number_nat_half.f k d).bind fun t167 => (number_divide.l0 k (wrap64 (m - 1)) q r t167))
theorem divide_l0 (a b L : Nat) (hb : 0 < b) (hL : L ≤ 100000) (ha : (wds B32 a).length ≤ 100000) : ∀ (m : Nat) (q : List Int) (v r dn : Nat), q.length = L → Dig B32 q → val B32 q = v → m ≤ 32 * L → Clear q m → (0 < m → dn = b * 2 ^ (m - 1)) → (wds B32 dn).length ≤ 100000 → r < b * 2 ^ m → r ≤ a → a = v * b + r →
    Ev (fun k => number_divide.l0 k ((m : Int) - 1) q (wds B32 r) (wds B32 dn)) (wds B32 (a / b), wds B32 (a % b))
  | 0, q, v, r, dn, hq, hg, hv, hm, hc, hd, hd2, hr, hra, he => by
    have hr' : r < b := by simpa using hr
    obtain ⟨h1, h2⟩ := div_q hb he hr'
    have ht := trim_E q hg (by omega)
    rw [hv, Int.toNat_natCast] at ht
    rw [h1, h2]
    refine ev_two (h := fun _ t => some (t, wds B32 r)) ht (Ev.now _) (fun k => ?_)
    show number_divide.l0 (k + 1) (((0 : Nat) : Int) - 1) q (wds B32 r) (wds B32 dn) = _
    conv => lhs; unfold number_divide.l0
    rw [if_neg (by omega)]
  | m + 1, q, v, r, dn, hq, hg, hv, hm, hc, hd, hd2, hr, hra, he => by
    have hdn := hd (by omega)
    rw [Nat.add_sub_cancel] at hdn
    have hlr : (wds B32 r).length ≤ 100000 := Nat.le_trans (wds_len_mono hra) ha
    have hcmp := compare_E r dn (by omega) (by omega)
    have hhalf := half_E dn (by omega)
    have hlen : m / 32 < q.length := by omega
    have hd3 : 0 < m → dn / 2 = b * 2 ^ (m - 1) := fun h0 => by
      rw [hdn]
      obtain ⟨j, rfl⟩ : ∃ j, m = j + 1 := ⟨m - 1, by omega⟩
      rw [Nat.pow_succ, ← Nat.mul_assoc, Nat.mul_div_cancel _ (by omega), Nat.add_sub_cancel]
    have hd4 : (wds B32 (dn / 2)).length ≤ 100000 := Nat.le_trans (wds_len_mono (Nat.div_le_self _ _)) hd2
    have e0 : (((m + 1 : Nat) : Int) - 1) = (m : Int) := by omega
    have e9 := Aside0.mk (show wrap64 ((m : Int) - 1) = (m : Int) - 1 from wrap_small (by omega) (by omega))
    rw [e0]
    have hr2 : r < 2 * dn := by rw [hdn, ← Nat.mul_assoc, Nat.mul_comm 2 b, Nat.mul_assoc, Nat.mul_comm 2, ← Nat.pow_succ]; exact hr
    have HD := Aside0.mk hd
    clear hd
    by_cases c : dn ≤ r
    · have hx := rd_dig hg hlen
      obtain ⟨w, hw⟩ := Int.eq_ofNat_of_zero_le hx.1
      rw [hw] at hx
      have hw2 : w < 4294967296 := by have := b32_lt hx.2; omega
      have hz := hc (m / 32) w hlen hw
      have e2 : min 32 (m + 1 - 32 * (m / 32)) = m % 32 + 1 := by omega
      rw [e2] at hz
      obtain ⟨hor, hor2⟩ := or_bit (by omega) hw2 hz
      have hval : val B32 (q.set (m / 32) ((w + 2 ^ (m % 32) : Nat) : Int)) = ((v + 2 ^ m : Nat) : Int) := by
        rw [val_set _ _ _ hlen, hw, hv]
        have h1 : ((w + 2 ^ (m % 32) : Nat) : Int) - (w : Int) = ((2 ^ (m % 32) : Nat) : Int) := by
          rw [Int.natCast_add]; exact (by intro x y; omega : ∀ x y : Int, x + y - x = y) _ _
        have h2 : ((B32 : Nat) : Int) ^ (m / 32) * ((2 ^ (m % 32) : Nat) : Int) = ((2 ^ m : Nat) : Int) := by
          rw [← Int.natCast_pow, ← Int.natCast_mul, show (B32 : Nat) = 2 ^ 32 from rfl, ← Nat.pow_mul, ← Nat.pow_add, show 32 * (m / 32) + m % 32 = m by omega]
        rw [h1, h2, Int.natCast_add]
      have ih := divide_l0 a b L hb hL ha m (q.set (m / 32) ((w + 2 ^ (m % 32) : Nat) : Int)) (v + 2 ^ m) (r - dn) (dn / 2) (by simpa using hq) (dig_set hg _ (by omega) (lt_b32 (by omega))) hval (by omega) (clear_set hc hlen hw) hd3 hd4 (by rw [← hdn]; omega) (by omega) (by
        rw [he, Nat.add_mul, Nat.mul_comm (2 ^ m) b, ← hdn]; omega)
      have hmin := minus_E r dn c (by omega)
      have hcv : cmpN r dn ≥ 0 := by unfold cmpN; rw [if_neg (by omega)]; split <;> omega
      refine ev_two (h := divH q (m : Int) (wds B32 r) (wds B32 dn)) hcmp ?_ (fun k => ?_)
      · unfold divH; simp only [if_pos hcv]
        have e3 : Int.tdiv (m : Int) 32 = ((m / 32 : Nat) : Int) := by rw [Int.tdiv_eq_ediv_of_nonneg (by omega)]; omega
        have e4 : Int.tmod (m : Int) 32 = ((m % 32 : Nat) : Int) := by rw [Int.tmod_eq_emod_of_nonneg (by omega)]; omega
        have e5 := Aside0.mk (show wrap64 ((m / 32 : Nat) : Int) = ((m / 32 : Nat) : Int) from wrap_small (by omega) (by omega))
        refine Ev.bind hmin ?_
        have c1 : (0 : Int) ≤ ((m / 32 : Nat) : Int) := Int.natCast_nonneg _
        have c2 : ((m / 32 : Nat) : Int) < (q.length : Int) := Int.ofNat_lt.2 hlen
        have c3 : (0 : Int) ≤ ((m % 32 : Nat) : Int) := Int.natCast_nonneg _
        rw [e3, e4, e5.out, e9.out]
        simp only [if_pos c1, if_pos c2, if_pos c3]
        rw [Int.toNat_natCast, hw, shl_one' (by omega), hor]
        exact Ev.bind hhalf ih
      · show number_divide.l0 (k + 1) (m : Int) q (wds B32 r) (wds B32 dn) = _
        conv => lhs; unfold number_divide.l0
        rw [if_pos (by omega)]; rfl
    · have ih := divide_l0 a b L hb hL ha m q v r (dn / 2) hq hg hv (by omega) (clear_down hc (by omega)) hd3 hd4 (by rw [← hdn]; omega) hra he
      have hcv : ¬ cmpN r dn ≥ 0 := by unfold cmpN; rw [if_pos (by omega)]; omega
      refine ev_two (h := divH q (m : Int) (wds B32 r) (wds B32 dn)) hcmp ?_ (fun k => ?_)
      · unfold divH; simp only [if_neg hcv]
        rw [e9.out]
        exact Ev.bind hhalf ih
      · show number_divide.l0 (k + 1) (m : Int) q (wds B32 r) (wds B32 dn) = _
        conv => lhs; unfold number_divide.l0
        rw [if_pos (by omega)]; rfl

theorem bl_mono {n m : Nat} (h : n ≤ m) : bl n ≤ bl m := (bl_le n _).2 (Nat.lt_of_le_of_lt h (bl_hi m))
theorem bl_len (n : Nat) (k : Nat) (h : bl n ≤ 32 * k) : (wds B32 n).length ≤ k := by
  apply wds_length_le b32
  rw [show (B32 : Nat) = 2 ^ 32 from rfl, ← Nat.pow_mul]
  exact (bl_le n _).1 h
theorem wds_nil_nat {n : Nat} (h : 0 < n) : wds B32 n ≠ [] := fun e => by
  have := (wds_nil_iff b32 n).1 e; omega
theorem divide_E (a b : Nat) (hb : 0 < b) (ha : bl a ≤ 10000) (hb2 : bl b ≤ 10000) : Ev (fun k => number_divide.f k (wds B32 a) (wds B32 b)) (wds B32 (a / b), wds B32 (a % b)) := by
  have la : (wds B32 a).length ≤ 313 := bl_len a 313 (by omega)
  have lb : (wds B32 b).length ≤ 313 := bl_len b 313 (by omega)
  have e1 := bitLen_E a (by omega)
  have e2 := bitLen_E b (by omega)
  have e3 := Aside0.mk (show wrap64 ((bl a : Int) - (bl b : Int)) = (bl a : Int) - (bl b : Int) from wrap_small (by omega) (by omega))
  by_cases c : bl a < bl b
  · have hab : a < b := Nat.lt_of_not_le (fun h => by have := bl_mono h; omega)
    rw [Nat.div_eq_of_lt hab, Nat.mod_eq_of_lt hab, wds_zero]
    refine ev_now (fun k => ?_)
    unfold number_divide.f
    rw [e1, e2, Option.bind_some, Option.bind_some, e3.out, if_pos (by omega)]
  · obtain ⟨s, hs⟩ : ∃ s, bl a = bl b + s := ⟨bl a - bl b, by omega⟩
    have e4 : (bl a : Int) - (bl b : Int) = (s : Int) := by omega
    have e5 : Int.tdiv (s : Int) 32 = ((s / 32 : Nat) : Int) := by rw [Int.tdiv_eq_ediv_of_nonneg (by omega)]; omega
    have e6 := Aside0.mk (show wrap64 ((s / 32 : Nat) : Int) = ((s / 32 : Nat) : Int) from wrap_small (by omega) (by omega))
    have e7 := Aside0.mk (show wrap64 (((s / 32 : Nat) : Int) + 1) = ((s / 32 + 1 : Nat) : Int) by rw [wrap_small (by omega) (by omega)]; omega)
    have hu : number_nat_uint32.f (wds B32 a) = some (wds B32 a) := by unfold number_nat_uint32.f; rw [if_pos (by omega)]
    have hsh : ∀ k, number_shift.f k (wds B32 b) (s : Int) = some (wds B32 (b * 2 ^ s)) := fun k => by
      unfold number_shift.f
      rw [if_pos ⟨dig_wds b32 b, by omega, by omega, by omega⟩, if_neg (wds_nil_nat hb), val_wds b32, Int.toNat_natCast, Int.toNat_natCast]
    have hlt : b * 2 ^ s < 2 ^ (bl b + s) := by
      rw [Nat.pow_add]
      exact (Nat.mul_lt_mul_right (Nat.two_pow_pos s)).2 (bl_hi b)
    have hbs : bl (b * 2 ^ s) ≤ bl b + s := (bl_le _ _).2 hlt
    have hr : a < b * 2 ^ (s + 1) := by
      have h1 := (bl_lo hb)
      have h2 : 2 ^ (bl b + s) ≤ b * 2 ^ (s + 1) := by
        have : bl b + s = (bl b - 1) + (s + 1) := by omega
        rw [this, Nat.pow_add]
        exact Nat.mul_le_mul_right _ h1.2
      have h3 := bl_hi a
      rw [hs] at h3
      omega
    have HR := Aside0.mk hr
    have HL := Aside0.mk hlt
    clear hr hlt
    have hz : val B32 (List.replicate (s / 32 + 1) 0) = ((0 : Nat) : Int) := by have := val_zeros (B := B32) (s / 32 + 1) ([] : List Int); rw [List.append_nil] at this; rw [this]; simp [val]
    have h := divide_l0 a b (s / 32 + 1) hb (by omega) (by omega) (s + 1) (List.replicate (s / 32 + 1) 0) 0 a (b * 2 ^ s) (by simp) (dig_rep b32 _) hz (by omega)
      (fun j w hj hw => by
        have : rd (List.replicate (s / 32 + 1) (0 : Int)) j = 0 := by
          show (List.replicate (s / 32 + 1) (0 : Int)).getD j 0 = 0
          rw [List.getD_eq_getElem?_getD, List.getElem?_replicate]
          split <;> rfl
        rw [this] at hw
        have : w = 0 := by omega
        rw [this, Nat.zero_mod]) (fun _ => by rw [Nat.add_sub_cancel]) (Nat.le_trans (bl_len _ 313 (by omega)) (by omega)) HR.out (Nat.le_refl _) (by rw [Nat.zero_mul, Nat.zero_add])
    rw [show ((s + 1 : Nat) : Int) - 1 = (s : Int) by omega] at h
    refine Ev.congr (fun k => ?_) h
    unfold number_divide.f
    rw [e1, e2, Option.bind_some, Option.bind_some, e3.out, e4, e5, e6.out, e7.out, Int.toNat_natCast, if_neg (by omega), if_pos (by omega), if_pos (by omega), hu, Option.bind_some, hsh, Option.bind_some]

end Go.Proofs.YtnkpfaoklkapdaaDoor.Print
