/- What the printed leaves compute, told by values: number's words. -/
import Derived.Test.YtnkpfaoklkapdaaDoorPrint2
import Derived.Test.YtnkpfaoklkapdaaDoorPrint3
import Derived.Test.YtnkpfaoklkapdaaDoorPrint4
import Derived.Test.YtnkpfaoklkapdaaDoorPrint5
import Derived.Test.YtnkpfaoklkapdaaDoorExtB
import Derived.Lib.ItoaNum
namespace Go.Proofs.YtnkpfaoklkapdaaDoor.Print
open Go.RowKit Go.Proofs.YtnkpfaoklkapdaaDoorW.PrintWords Go.Proofs.YtnkpfaoklkapdaaDoorW.PrintLast Go.Proofs.YtnkpfaoklkapdaaDoorW.PrintMore
open Go.Proofs.YtnkpfaoklkapdaaDoor.NumP
set_option linter.unusedVariables false
set_option linter.unusedSimpArgs false

theorem rd_get {l : List Int} {i : Nat} (h : i < l.length) : rd l i = l[i] := by
  show l.getD i 0 = _
  rw [List.getD_eq_getElem?_getD, List.getElem?_eq_getElem h]
  rfl
theorem rd_dig {B : Nat} {l : List Int} (hd : Dig B l) {i : Nat} (h : i < l.length) : 0 ≤ rd l i ∧ rd l i < B := by
  rw [rd_get h]; exact hd _ (List.getElem_mem h)
theorem take_rd {l : List Int} {i : Nat} (h : i < l.length) : l.take (i + 1) = l.take i ++ [rd l i] := by
  rw [List.take_succ_eq_append_getElem h, rd_get h]
theorem val_take {B : Nat} {l : List Int} {i : Nat} (h : i < l.length) : val B (l.take (i + 1)) = val B (l.take i) + (B : Int) ^ i * rd l i := by
  rw [take_rd h, val_snoc, List.length_take, Nat.min_eq_left (by omega)]
theorem take_all {l : List Int} {i : Nat} (h : l.length ≤ i) : l.take i = l := List.take_of_length_le h
theorem set_fill (D : List Int) (x : Int) (k : Nat) (h : 0 < k) : (D ++ List.replicate k 0).set D.length x = (D ++ [x]) ++ List.replicate (k - 1) 0 := by
  obtain ⟨m, rfl⟩ : ∃ m, k = m + 1 := ⟨k - 1, by omega⟩
  rw [List.set_append_right _ _ (Nat.le_refl _), Nat.sub_self, List.replicate_succ, List.set_cons_zero]
  simp
theorem ev_one {α : Type} {g f : Nat → Option α} {r : α} (hf : Ev f r) (h : ∀ k, g (k + 1) = f k) : Ev g r := Ev.step h hf
theorem ev_now {α : Type} {g : Nat → Option α} {r : α} (h : ∀ k, g (k + 1) = some r) : Ev g r := ⟨1, fun k hk => by
  obtain ⟨m, rfl⟩ : ∃ m, k = m + 1 := ⟨k - 1, by omega⟩
  exact h m⟩
theorem trim_E (l : List Int) (hg : Dig B32 l) (hb : (l.length : Int) < 9223372036854775807) : Ev (fun k => number_nat_trim.f k l) (wds B32 (val B32 l).toNat) := by
  obtain ⟨k, hk⟩ := trim_val l hg hb
  exact Ev.of (number_nat_trim.mono _) hk
theorem b32_lt {x : Int} (h : x < (B32 : Nat)) : x < 4294967296 := h
theorem lt_b32 {x : Int} (h : x < 4294967296) : x < ((B32 : Nat) : Int) := h

/-! ### minus -/
theorem minus_l0 (x y : List Int) (hx : Dig B32 x) (hy : Dig B32 y) (hn : x.length ≤ 1000000) (r : List Int) (hle : y.length ≤ x.length) (hv : val B32 y ≤ val B32 x) (hr : r = wds B32 (val B32 x - val B32 y).toNat) :
    ∀ (d i : Nat) (D : List Int) (b : Int), i + d = x.length → D.length = i → Dig B32 D → (b = 0 ∨ b = 1) → val B32 D - b * (B32 : Int) ^ i = val B32 (x.take i) - val B32 (y.take i) →
      Ev (fun k => number_minus.l0 k x y (D ++ List.replicate d 0) b x.length i) r
  | 0, i, D, b, hi, hD, hg, hb, he => by
    have hxi : x.take i = x := take_all (by omega)
    have hyi : y.take i = y := take_all (by omega)
    rw [hxi, hyi] at he
    have h1 := val_lt b32 hg
    rw [hD] at h1
    have hb0 : b = 0 := by
      rcases hb with hb | hb
      · exact hb
      · subst hb; omega
    subst hb0
    have hval : val B32 D = val B32 x - val B32 y := by omega
    have ht := trim_E D hg (by omega)
    rw [hval, ← hr] at ht
    refine ev_one ht (fun k => ?_)
    show number_minus.l0 (k + 1) x y (D ++ List.replicate 0 0) 0 x.length i = _
    unfold number_minus.l0
    rw [if_neg (by omega)]
    simp
  | d + 1, i, D, b, hi, hD, hg, hb, he => by
    have hlt : i < x.length := by omega
    have hX := rd_dig hx hlt
    have hX2 := b32_lt hX.2
    obtain ⟨t, ht, htr, hty⟩ : ∃ t, number_nat_word.f y i = some t ∧ (0 ≤ t ∧ t < 4294967296) ∧ val B32 (y.take (i + 1)) = val B32 (y.take i) + (B32 : Int) ^ i * t := by
      unfold number_nat_word.f
      by_cases c : i < y.length
      · have hY := rd_dig hy c
        have hY2 := b32_lt hY.2
        rw [if_pos (by omega), if_pos (by omega), u64_id hY.1 (by omega)]
        exact ⟨_, rfl, ⟨hY.1, hY2⟩, val_take c⟩
      · rw [if_neg (by omega)]
        refine ⟨0, rfl, by omega, ?_⟩
        rw [take_all (by omega), take_all (by omega)]
        simp
    obtain ⟨X, hXe⟩ : ∃ X, rd x i = X := ⟨_, rfl⟩
    rw [hXe] at hX hX2
    have hdig : ∃ b2, (b2 = 0 ∨ b2 = 1) ∧ (IntKind.u64.wrap (IntKind.u64.wrap (IntKind.u64.wrap X - t) - b)) / 9223372036854775808 = b2 ∧ (IntKind.u64.wrap (IntKind.u64.wrap (IntKind.u64.wrap X - t) - b)) % 4294967296 = X - t - b + b2 * 4294967296 := by
      simp only [IntKind.wrap_u64]
      by_cases c : X - t - b < 0
      · exact ⟨1, .inr rfl, by omega, by omega⟩
      · exact ⟨0, .inl rfl, by omega, by omega⟩
    obtain ⟨b2, hb2, e1, e2⟩ := hdig
    have hq : 0 ≤ X - t - b + b2 * 4294967296 ∧ X - t - b + b2 * 4294967296 < 4294967296 := by
      rw [← e2]; omega
    obtain ⟨q, hqe⟩ : ∃ q, X - t - b + b2 * 4294967296 = q := ⟨_, rfl⟩
    have ih := minus_l0 x y hx hy hn r hle hv hr d (i + 1) (D ++ [q]) b2 (by omega) (by simp [hD]) (dig_append.2 ⟨hg, dig_one (by omega) (lt_b32 (by omega))⟩) hb2 (by
      rw [val_snoc, hD, val_take hlt, hXe, hty, Int.pow_succ]
      have e3 : q = X - t - b + b2 * 4294967296 := hqe.symm
      rw [e3]
      have e4 : (B32 : Int) ^ i * (X - t - b + b2 * 4294967296) = (B32 : Int) ^ i * X - (B32 : Int) ^ i * t - b * (B32 : Int) ^ i + b2 * ((B32 : Int) ^ i * 4294967296) := by
        rw [Int.mul_add, Int.mul_sub, Int.mul_sub, Int.mul_comm _ b, ← Int.mul_assoc, Int.mul_comm _ b2, Int.mul_assoc]
      rw [e4]
      show _ - b2 * ((B32 : Int) ^ i * 4294967296) = _
      omega)
    refine ev_one ih (fun k => ?_)
    show number_minus.l0 (k + 1) x y (D ++ List.replicate (d + 1) 0) b x.length i = _
    conv => lhs; unfold number_minus.l0
    rw [if_pos (by omega), if_pos (by omega), if_pos (by omega), ht]
    simp only [Option.bind_some]
    have hl : (D ++ List.replicate (d + 1) (0 : Int)).length = x.length := by simp [hD]; omega
    rw [if_pos (by rw [hl]; omega), hXe, e1, e2, hqe, wrap_small (by omega) (by omega), Int.toNat_natCast, ← hD, set_fill D q (d + 1) (by omega), Nat.add_sub_cancel, hD]
    rfl
theorem minus_E (a b : Nat) (hab : b ≤ a) (hn : (wds B32 a).length ≤ 1000000) : Ev (fun k => number_minus.f k (wds B32 a) (wds B32 b)) (wds B32 (a - b)) := by
  have hl : (wds B32 b).length ≤ (wds B32 a).length := (wds_length_iff b32 _ _).2 (Nat.lt_of_le_of_lt hab (wds_length b32 a))
  have h := minus_l0 (wds B32 a) (wds B32 b) (dig_wds b32 a) (dig_wds b32 b) hn (wds B32 (a - b)) hl (by rw [val_wds b32, val_wds b32]; omega) (by rw [val_wds b32, val_wds b32]; congr 1; omega) (wds B32 a).length 0 [] 0 (by omega) rfl dig_nil (.inl rfl) (by simp [val])
  refine Ev.congr (fun k => ?_) h
  unfold number_minus.f
  rw [if_pos (by omega), if_pos (by omega), Int.toNat_natCast]
  rfl

/-! ### compare -/
def cmpN (a b : Nat) : Int := if a < b then -1 else if b < a then 1 else 0
theorem cmp_int (a b : Int) : cmp_Compare_int.f a b = some (if a < b then -1 else if a > b then 1 else 0) := by
  unfold cmp_Compare_int.f cmp_isNaN_int.f
  simp only [Option.bind_some]
  rw [if_neg (by simp), if_neg (by simp)]
  by_cases c : a < b
  · rw [if_pos c, if_pos c]
  · rw [if_neg c, if_neg c]
    by_cases c2 : a > b
    · rw [if_pos c2, if_pos c2]
    · rw [if_neg c2, if_neg c2]
theorem cmp_u32 (a b : Int) : cmp_Compare_uint32.f a b = some (if a < b then -1 else if a > b then 1 else 0) := by
  unfold cmp_Compare_uint32.f cmp_isNaN_uint32.f
  simp only [Option.bind_some]
  rw [if_neg (by simp), if_neg (by simp)]
  by_cases c : a < b
  · rw [if_pos c, if_pos c]
  · rw [if_neg c, if_neg c]
    by_cases c2 : a > b
    · rw [if_pos c2, if_pos c2]
    · rw [if_neg c2, if_neg c2]
/-- The top digit decides. -/
theorem top_lt {B : Nat} (hB : 2 ≤ B) {x y : List Int} {i : Nat} (hx : Dig B x) (hy : Dig B y) (h1 : i < x.length) (h2 : i < y.length) (h : rd x i < rd y i) : val B (x.take (i + 1)) < val B (y.take (i + 1)) := by
  rw [val_take h1, val_take h2]
  have hl := val_lt hB (dig_take hx i)
  rw [List.length_take, Nat.min_eq_left (by omega)] at hl
  have h0 := val_nonneg (dig_take hy i)
  have hp := pow_pos' hB i
  have : (B : Int) ^ i * (rd x i + 1) ≤ (B : Int) ^ i * rd y i := Int.mul_le_mul_of_nonneg_left (by omega) (by omega)
  rw [Int.mul_add] at this
  omega
theorem compare_l0 (x y : List Int) (hx : Dig B32 x) (hy : Dig B32 y) (hl : x.length = y.length) (hn : x.length ≤ 1000000) : ∀ (i : Nat), i ≤ x.length →
    Ev (fun k => number_compare.l0 k x y ((i : Int) - 1)) (if val B32 (x.take i) < val B32 (y.take i) then -1 else if val B32 (x.take i) > val B32 (y.take i) then 1 else 0)
  | 0, hi => by
    refine ev_now (fun k => ?_)
    unfold number_compare.l0
    rw [if_neg (by omega)]
    simp [val]
  | i + 1, hi => by
    have h1 : i < x.length := by omega
    have h2 : i < y.length := by omega
    have he : ((i + 1 : Nat) : Int) - 1 = (i : Int) := by omega
    rw [he]
    by_cases c : rd x i = rd y i
    · have h : Ev (fun k => number_compare.l0 k x y (i : Int)) _ := ev_one (compare_l0 x y hx hy hl hn i (by omega)) (fun k => by
        conv => lhs; unfold number_compare.l0
        rw [if_pos (by omega), if_pos (by omega), if_pos (by omega), if_pos (by omega), cmp_u32]
        simp only [Option.bind_some]
        have e0 : (if rd y (i : Int) < rd y i then (-1 : Int) else if rd y i > rd y i then 1 else 0) = 0 := by rw [if_neg (by omega), if_neg (by omega)]
        rw [c, e0, if_pos rfl, wrap_small (by omega) (by omega)])
      rw [val_take h1, val_take h2, c]
      have e1 : (val B32 (x.take i) + (B32 : Int) ^ i * rd y i < val B32 (y.take i) + (B32 : Int) ^ i * rd y i) ↔ val B32 (x.take i) < val B32 (y.take i) := by omega
      have e2 : (val B32 (x.take i) + (B32 : Int) ^ i * rd y i > val B32 (y.take i) + (B32 : Int) ^ i * rd y i) ↔ val B32 (x.take i) > val B32 (y.take i) := by omega
      simp only [e1, e2]
      exact h
    · by_cases c2 : rd x i < rd y i
      · have ht := top_lt b32 hx hy h1 h2 c2
        rw [if_pos ht]
        refine ev_now (fun k => ?_)
        unfold number_compare.l0
        rw [if_pos (by omega), if_pos (by omega), if_pos (by omega), if_pos (by omega), cmp_u32]
        simp only [Option.bind_some]
        simp only [if_pos c2]
        rfl
      · have ht := top_lt b32 hy hx h2 h1 (by omega)
        rw [if_neg (by omega), if_pos (by omega)]
        refine ev_now (fun k => ?_)
        unfold number_compare.l0
        rw [if_pos (by omega), if_pos (by omega), if_pos (by omega), if_pos (by omega), cmp_u32]
        simp only [Option.bind_some]
        have c3 : rd x i > rd y i := by omega
        simp only [if_neg c2, if_pos c3]
        rfl
theorem len_lt {B : Nat} (hB : 2 ≤ B) {a b : Nat} (h : (wds B a).length < (wds B b).length) : a < b := by
  rcases Nat.lt_or_ge a b with c | c
  · exact c
  · have := (wds_length_iff hB b (wds B a).length).2 (Nat.lt_of_le_of_lt c (wds_length hB a))
    omega
theorem compare_E (a b : Nat) (hn : (wds B32 a).length ≤ 1000000) (hm : (wds B32 b).length ≤ 1000000) : Ev (fun k => number_compare.f k (wds B32 a) (wds B32 b)) (cmpN a b) := by
  unfold cmpN
  by_cases c1 : (wds B32 a).length < (wds B32 b).length
  · rw [if_pos (len_lt b32 c1)]
    refine ev_now (fun k => ?_)
    unfold number_compare.f
    rw [cmp_int, if_pos (by omega)]
    simp only [Option.bind_some]
    rw [if_neg (by omega)]
  · by_cases c2 : (wds B32 b).length < (wds B32 a).length
    · have := len_lt b32 c2
      rw [if_neg (by omega), if_pos this]
      refine ev_now (fun k => ?_)
      unfold number_compare.f
      rw [cmp_int, if_neg (by omega), if_pos (by omega)]
      simp only [Option.bind_some]
      rw [if_neg (by omega)]
    · have hl : (wds B32 a).length = (wds B32 b).length := by omega
      have h := compare_l0 (wds B32 a) (wds B32 b) (dig_wds b32 a) (dig_wds b32 b) hl hn (wds B32 a).length (Nat.le_refl _)
      rw [take_all (Nat.le_refl _), take_all (by omega), val_wds b32, val_wds b32] at h
      have e1 : ((a : Int) < (b : Int)) ↔ a < b := by omega
      have e2 : ((a : Int) > (b : Int)) ↔ b < a := by omega
      simp only [e1, e2] at h
      refine Ev.congr (fun k => ?_) h
      unfold number_compare.f
      rw [cmp_int, if_neg (by omega), if_neg (by omega)]
      simp only [Option.bind_some, if_true]
      rw [wrap_small (by omega) (by omega)]

end Go.Proofs.YtnkpfaoklkapdaaDoor.Print
