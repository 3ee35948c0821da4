/- What the printed leaves compute, told by values: times. -/
import Derived.Test.YtnkpfaoklkapdaaDoorNumM
namespace Go.Proofs.YtnkpfaoklkapdaaDoor.Print
open Go.RowKit Go.Proofs.YtnkpfaoklkapdaaDoorW.PrintWords Go.Proofs.YtnkpfaoklkapdaaDoorW.PrintLast Go.Proofs.YtnkpfaoklkapdaaDoorW.PrintMore
open Go.Proofs.YtnkpfaoklkapdaaDoor.NumP
set_option linter.unusedVariables false
set_option linter.unusedSimpArgs false

theorem val_set {B : Nat} (l : List Int) (j : Nat) (v : Int) (h : j < l.length) : val B (l.set j v) = val B l + (B : Int) ^ j * (v - rd l j) := by
  induction l generalizing j with
  | nil => simp at h
  | cons d l ih =>
    cases j with
    | zero =>
      show v + B * val B l = d + B * val B l + (B : Int) ^ 0 * (v - d)
      rw [Int.pow_zero, Int.one_mul]
      omega
    | succ j =>
      have := ih j (by simpa using h)
      show d + B * val B (l.set j v) = d + B * val B l + (B : Int) ^ (j + 1) * (v - rd l (j : Int))
      rw [this, Int.mul_add, Int.pow_succ, ← Int.mul_assoc, Int.mul_comm (B : Int) ((B : Int) ^ j)]
      omega
theorem rd_append_left {l m : List Int} {j : Nat} (h : j < l.length) : rd (l ++ m) j = rd l j := by
  rw [rd_get (by simp; omega), rd_get h, List.getElem_append_left h]

/-- One digit of a product: c + o + x * y splits in two. -/
theorem mul_digit {B : Nat} (hB : 2 ≤ B) {c o x y : Nat} (hc : c < B) (ho : o < B) (hx : x < B) (hy : y < B) : c + (o + x * y) < B * B ∧ (c + (o + x * y)) / B < B := by
  have h1 : x * y ≤ (B - 1) * (B - 1) := Nat.mul_le_mul (by omega) (by omega)
  obtain ⟨b, rfl⟩ : ∃ b, B = b + 1 := ⟨B - 1, by omega⟩
  simp only [Nat.add_sub_cancel] at h1
  have h2 : (b + 1) * (b + 1) = b * b + 2 * b + 1 := by rw [Nat.add_mul, Nat.mul_add]; omega
  have h3 : c + (o + x * y) < (b + 1) * (b + 1) := by omega
  exact ⟨h3, Nat.div_lt_of_lt_mul h3⟩

theorem mul_acc {vP p c V0 q x vb w y s0 s1 o : Int} (he : vP + p * c = V0 + q * (x * vb)) (hpe : q * w = p) (h5 : s0 + 4294967296 * s1 = c + (o + x * y)) :
    vP + p * (s0 - o) + p * 4294967296 * s1 = V0 + q * (x * (vb + w * y)) := by
  have e6 : q * (x * (vb + w * y)) = q * (x * vb) + p * (x * y) := by
    rw [Int.mul_add, Int.mul_add, ← hpe, ← Int.mul_assoc x w, Int.mul_comm x w, Int.mul_assoc w, Int.mul_assoc q w]
  have e7 : p * 4294967296 * s1 = p * (4294967296 * s1) := Int.mul_assoc _ _ _
  have e8 : p * (s0 - o) + p * (4294967296 * s1) = p * c + p * (x * y) := by
    rw [← Int.mul_add, ← Int.mul_add]
    congr 1
    omega
  rw [e6, e7, Int.add_assoc, e8]
  omega
theorem split_digit {c o x y s : Nat} (hs : c + (o + x * y) = s) : ((s % 4294967296 : Nat) : Int) + 4294967296 * ((s / 4294967296 : Nat) : Int) = (c : Int) + ((o : Int) + (x : Int) * (y : Int)) := by
  have h4 := Nat.mod_add_div s 4294967296
  have : ((s % 4294967296 + 4294967296 * (s / 4294967296) : Nat) : Int) = ((c + (o + x * y) : Nat) : Int) := by rw [h4, hs]
  rw [Int.natCast_add, Int.natCast_mul, Int.natCast_add, Int.natCast_add, Int.natCast_mul] at this
  exact this

theorem times_l1 (a b : List Int) (ha : Dig B32 a) (hb : Dig B32 b) (hn : a.length ≤ 100000) (hm : b.length ≤ 100000) (r : List Int) (i : Nat) (hi : i < a.length) (V0 : Int)
    (hrest : ∀ P', P'.length = i + 1 + b.length → Dig B32 P' → val B32 P' = V0 + (B32 : Int) ^ i * (rd a i * val B32 b) → Ev (fun k => number_times.l0 k b (P' ++ List.replicate (a.length - (i + 1)) 0) a a.length ((i : Int) + 1)) r) :
    ∀ (d j : Nat) (P : List Int) (c : Nat), j + d = b.length → P.length = i + b.length → Dig B32 P → c < 4294967296 → val B32 P + (B32 : Int) ^ (i + j) * c = V0 + (B32 : Int) ^ i * (rd a i * val B32 (b.take j)) →
      Ev (fun k => number_times.l1 k b (P ++ List.replicate (a.length - i) 0) i (rd a i) c a a.length i b b.length j) r
  | 0, j, P, c, hj, hP, hg, hc, he => by
    rw [take_all (by omega)] at he
    have HE := Aside0.mk he
    clear he
    have hjb : j = b.length := by omega
    rw [hjb] at HE
    have h := hrest (P ++ [(c : Int)]) (by simp [hP]; omega) (dig_append.2 ⟨hg, dig_one (by omega) (lt_b32 (by omega))⟩) (by rw [val_snoc, hP]; exact HE.out)
    refine ev_one h (fun k => ?_)
    show number_times.l1 (k + 1) b (P ++ List.replicate (a.length - i) 0) i (rd a i) c a a.length i b b.length j = _
    conv => lhs; unfold number_times.l1
    have e0 := Aside0.mk (show wrap64 ((i : Int) + (b.length : Int)) = ((i + b.length : Nat) : Int) by rw [wrap_small (by omega) (by omega)]; omega)
    have e1 := Aside0.mk (show wrap64 ((i : Int) + 1) = (i : Int) + 1 from wrap_small (by omega) (by omega))
    rw [if_neg (by omega), e0.out, e1.out, if_pos (by omega), if_pos (by simp [hP]; omega), Int.toNat_natCast, show (c : Int) % 4294967296 = c by omega, ← hP, set_fill P c (a.length - i) (by omega), show a.length - i - 1 = a.length - (i + 1) by omega]
  | d + 1, j, P, c, hj, hP, hg, hc, he => by
    have hlt : j < b.length := by omega
    have hX := rd_dig ha hi
    have hY := rd_dig hb hlt
    have hO := rd_dig hg (i := i + j) (by omega)
    obtain ⟨x, hxe⟩ := Int.eq_ofNat_of_zero_le hX.1
    obtain ⟨y, hye⟩ := Int.eq_ofNat_of_zero_le hY.1
    obtain ⟨o, hoe⟩ := Int.eq_ofNat_of_zero_le hO.1
    rw [hxe] at hX he hrest
    have HE := Aside0.mk he
    have HR := Aside0.mk hrest
    clear he hrest
    rw [hye] at hY
    rw [hoe] at hO
    have hx2 : x < 4294967296 := by have := b32_lt hX.2; omega
    have hy2 : y < 4294967296 := by have := b32_lt hY.2; omega
    have ho2 : o < 4294967296 := by have := b32_lt hO.2; omega
    have hmd := mul_digit (B := 4294967296) (by omega) hc ho2 hx2 hy2
    obtain ⟨s, hs⟩ : ∃ s, c + (o + x * y) = s := ⟨_, rfl⟩
    rw [hs] at hmd
    have hsb : s < 18446744073709551616 := by have := hmd.1; omega
    have hsq : s / 4294967296 < 4294967296 := hmd.2
    clear hmd
    have hxy : x * y ≤ s := by omega
    have ih := times_l1 a b ha hb hn hm r i hi V0 (by rw [hxe]; exact HR.out) d (j + 1) (P.set (i + j) ((s % 4294967296 : Nat) : Int)) (s / 4294967296) (by omega) (by simpa using hP) (dig_set hg _ (by omega) (lt_b32 (by omega))) hsq (by
      rw [val_set _ _ _ (by omega), hoe, hxe, val_take hlt, hye, show i + (j + 1) = i + j + 1 from (Nat.add_assoc _ _ _).symm, Int.pow_succ]
      exact mul_acc HE.out (Int.pow_add _ _ _).symm (split_digit hs))
    refine ev_one ih (fun k => ?_)
    show number_times.l1 (k + 1) b (P ++ List.replicate (a.length - i) 0) i (rd a i) c a a.length i b b.length j = _
    conv => lhs; unfold number_times.l1
    have e0 := Aside0.mk (show wrap64 ((i : Int) + (j : Int)) = ((i + j : Nat) : Int) by rw [wrap_small (by omega) (by omega)]; omega)
    have e1 := Aside0.mk (show wrap64 ((j : Int) + 1) = ((j + 1 : Nat) : Int) by rw [wrap_small (by omega) (by omega)]; omega)
    have e2 : (x : Int) * (y : Int) = ((x * y : Nat) : Int) := (Int.natCast_mul x y).symm
    have e3 : ((o : Int) + ((x * y : Nat) : Int)) = ((o + x * y : Nat) : Int) := by omega
    have e4 : ((c : Int) + ((o + x * y : Nat) : Int)) = (s : Int) := by omega
    rw [if_pos (by omega), if_pos (by omega), if_pos (by omega), e0.out, if_pos (by omega), if_pos (by simp [hP]; omega), rd_append_left (by omega), hoe, hxe, hye]
    simp only [u64_id (n := (x : Int)) (by omega) (by omega), u64_id (n := (y : Int)) (by omega) (by omega), u64_id (n := (o : Int)) (by omega) (by omega)]
    rw [e2, u64_id (n := ((x * y : Nat) : Int)) (by omega) (by omega), e3, u64_id (n := ((o + x * y : Nat) : Int)) (by omega) (by omega), e4, u64_id (by omega) (by omega), Int.toNat_natCast, e1.out, List.set_append_left _ _ (by omega), show (s : Int) % 4294967296 = ((s % 4294967296 : Nat) : Int) by omega, show (s : Int) / 4294967296 = ((s / 4294967296 : Nat) : Int) by omega]

theorem times_l0 (a b : List Int) (ha : Dig B32 a) (hb : Dig B32 b) (hn : a.length ≤ 100000) (hm : b.length ≤ 100000) (r : List Int) (hr : r = wds B32 (val B32 a * val B32 b).toNat) :
    ∀ (d i : Nat) (P : List Int), i + d = a.length → P.length = i + b.length → Dig B32 P → val B32 P = val B32 (a.take i) * val B32 b →
      Ev (fun k => number_times.l0 k b (P ++ List.replicate (a.length - i) 0) a a.length i) r
  | 0, i, P, hi, hP, hg, he => by
    rw [take_all (by omega)] at he
    have ht := trim_E P hg (by omega)
    rw [he, ← hr] at ht
    refine ev_one ht (fun k => ?_)
    show number_times.l0 (k + 1) b (P ++ List.replicate (a.length - i) 0) a a.length i = _
    unfold number_times.l0
    rw [if_neg (by omega), show a.length - i = 0 by omega]
    simp
  | d + 1, i, P, hi, hP, hg, he => by
    have hlt : i < a.length := by omega
    have h := times_l1 a b ha hb hn hm r i hlt (val B32 P) (fun P' h1 h2 h3 => by
      have := times_l0 a b ha hb hn hm r hr d (i + 1) P' (by omega) h1 h2 (by rw [h3, he, val_take hlt, Int.add_mul, Int.mul_assoc])
      have e : (((i + 1 : Nat) : Int)) = (i : Int) + 1 := by omega
      rw [e] at this
      exact this) b.length 0 P 0 (by omega) hP hg (by omega) (by simp [val])
    refine ev_one h (fun k => ?_)
    show number_times.l0 (k + 1) b (P ++ List.replicate (a.length - i) 0) a a.length i = _
    conv => lhs; unfold number_times.l0
    rw [if_pos (by omega), if_pos (by omega), if_pos (by omega)]
    rfl
theorem times_E (n m : Nat) (hn : (wds B32 n).length ≤ 100000) (hm : (wds B32 m).length ≤ 100000) : Ev (fun k => number_times.f k (wds B32 n) (wds B32 m)) (wds B32 (n * m)) := by
  have h := times_l0 (wds B32 n) (wds B32 m) (dig_wds b32 n) (dig_wds b32 m) hn hm (wds B32 (n * m)) (by rw [val_wds b32, val_wds b32, ← Int.natCast_mul, Int.toNat_natCast]) (wds B32 n).length 0 (List.replicate (wds B32 m).length 0) (by omega) (by simp) (dig_rep b32 _) (by
    have e := val_zeros B32 (wds B32 m).length []
    rw [List.append_nil] at e
    rw [e]; simp [val])
  refine Ev.congr (fun k => ?_) h
  unfold number_times.f
  have e0 := Aside0.mk (show wrap64 (((wds B32 n).length : Int) + ((wds B32 m).length : Int)) = (((wds B32 n).length + (wds B32 m).length : Nat) : Int) by rw [wrap_small (by omega) (by omega)]; omega)
  rw [e0.out, if_pos (by omega), if_pos (by omega), Int.toNat_natCast, Nat.sub_zero, List.replicate_append_replicate, Nat.add_comm]
  rfl

end Go.Proofs.YtnkpfaoklkapdaaDoor.Print
