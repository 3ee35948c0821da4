/- Numbers as rows of digits to a base, the least significant one first: plain laws, with no program. -/
set_option linter.unusedVariables false
namespace Go.Proofs.YtnkpfaoklkapdaaDoor.NumP

/-- The value of a row of digits. -/
def val (B : Nat) : List Int → Int
  | [] => 0
  | d :: l => d + B * val B l
/-- The digits of a number, without a leading zero (at the end). -/
def wds (B : Nat) (n : Nat) : List Int := if h : n = 0 ∨ B < 2 then [] else ((n % B : Nat) : Int) :: wds B (n / B)
termination_by n
decreasing_by
  have hB : 2 ≤ B := by omega
  exact Nat.div_lt_self (by omega) hB
def Dig (B : Nat) (l : List Int) : Prop := ∀ d, d ∈ l → 0 ≤ d ∧ d < B

variable {B : Nat}
theorem wds_zero : wds B 0 = [] := by unfold wds; simp
theorem wds_pos (hB : 2 ≤ B) {n : Nat} (h : 0 < n) : wds B n = ((n % B : Nat) : Int) :: wds B (n / B) := by
  conv => lhs; unfold wds
  rw [dif_neg (by omega)]
theorem dig_nil : Dig B [] := fun d h => by simp at h
theorem dig_cons {d : Int} {l : List Int} : Dig B (d :: l) ↔ (0 ≤ d ∧ d < B) ∧ Dig B l := by
  constructor
  · intro h; exact ⟨h d (by simp), fun x hx => h x (by simp [hx])⟩
  · rintro ⟨h1, h2⟩ x hx
    rcases List.mem_cons.1 hx with rfl | hx
    · exact h1
    · exact h2 x hx
theorem dig_append {l m : List Int} : Dig B (l ++ m) ↔ Dig B l ∧ Dig B m := by
  constructor
  · intro h; exact ⟨fun x hx => h x (by simp [hx]), fun x hx => h x (by simp [hx])⟩
  · rintro ⟨h1, h2⟩ x hx
    rcases List.mem_append.1 hx with hx | hx
    · exact h1 x hx
    · exact h2 x hx
theorem dig_one {d : Int} (h0 : 0 ≤ d) (h1 : d < B) : Dig B [d] := dig_cons.2 ⟨⟨h0, h1⟩, dig_nil⟩
theorem dig_take {l : List Int} (h : Dig B l) (k : Nat) : Dig B (l.take k) := fun d hd => h d (List.mem_of_mem_take hd)
theorem dig_drop {l : List Int} (h : Dig B l) (k : Nat) : Dig B (l.drop k) := fun d hd => h d (List.mem_of_mem_drop hd)
theorem dig_rep (hB : 2 ≤ B) (k : Nat) : Dig B (List.replicate k 0) := fun d hd => by
  obtain ⟨_, rfl⟩ := List.mem_replicate.1 hd
  omega
theorem dig_set {l : List Int} (h : Dig B l) (i : Nat) {x : Int} (h0 : 0 ≤ x) (h1 : x < B) : Dig B (l.set i x) := fun d hd => by
  rcases List.mem_or_eq_of_mem_set hd with hd | rfl
  · exact h d hd
  · exact ⟨h0, h1⟩
theorem val_append (l m : List Int) : val B (l ++ m) = val B l + (B : Int) ^ l.length * val B m := by
  induction l with
  | nil => simp [val]
  | cons d l ih =>
    show d + B * val B (l ++ m) = d + B * val B l + (B : Int) ^ (l.length + 1) * val B m
    rw [ih, Int.mul_add, Int.pow_succ, ← Int.mul_assoc, Int.mul_comm (B : Int) ((B : Int) ^ l.length)]
    omega
theorem val_snoc (l : List Int) (d : Int) : val B (l ++ [d]) = val B l + (B : Int) ^ l.length * d := by
  rw [val_append]; simp [val]
theorem pow_pos' (hB : 2 ≤ B) (k : Nat) : (0 : Int) < (B : Int) ^ k := Int.pow_pos (by omega)
theorem val_nonneg {l : List Int} (h : Dig B l) : 0 ≤ val B l := by
  induction l with
  | nil => simp [val]
  | cons d l ih =>
    have := dig_cons.1 h
    have h2 := ih this.2
    have h3 : 0 ≤ (B : Int) * val B l := Int.mul_nonneg (by omega) h2
    show 0 ≤ d + B * val B l
    omega
theorem val_lt (hB : 2 ≤ B) {l : List Int} (h : Dig B l) : val B l < (B : Int) ^ l.length := by
  induction l with
  | nil => simp [val]
  | cons d l ih =>
    have hg := dig_cons.1 h
    have h2 := ih hg.2
    have h3 : (B : Int) * (val B l + 1) ≤ B * (B : Int) ^ l.length := Int.mul_le_mul_of_nonneg_left (by omega) (by omega)
    show d + B * val B l < (B : Int) ^ (l.length + 1)
    rw [Int.pow_succ, Int.mul_comm ((B : Int) ^ l.length)]
    rw [Int.mul_add] at h3
    omega
theorem val_wds (hB : 2 ≤ B) (n : Nat) : val B (wds B n) = n := by
  induction n using Nat.strongRecOn with
  | ind n ih =>
    by_cases h : n = 0
    · subst h; rw [wds_zero]; rfl
    · rw [wds_pos hB (by omega)]
      show ((n % B : Nat) : Int) + B * val B (wds B (n / B)) = n
      rw [ih (n / B) (Nat.div_lt_self (by omega) hB)]
      have := Nat.mod_add_div n B
      have h2 : ((n % B + B * (n / B) : Nat) : Int) = n := by rw [this]
      push_cast at h2 ⊢
      exact h2
theorem dig_wds (hB : 2 ≤ B) (n : Nat) : Dig B (wds B n) := by
  induction n using Nat.strongRecOn with
  | ind n ih =>
    by_cases h : n = 0
    · subst h; rw [wds_zero]; exact dig_nil
    · rw [wds_pos hB (by omega)]
      refine dig_cons.2 ⟨?_, ih _ (Nat.div_lt_self (by omega) hB)⟩
      have := Nat.mod_lt n (show B > 0 by omega)
      omega
theorem wds_nil_iff (hB : 2 ≤ B) (n : Nat) : wds B n = [] ↔ n = 0 := by
  constructor
  · intro h
    by_cases hn : n = 0
    · exact hn
    · rw [wds_pos hB (by omega)] at h
      cases h
  · rintro rfl; exact wds_zero
/-- No leading zero. -/
def Top (l : List Int) : Prop := ∀ l' d, l = l' ++ [d] → d ≠ 0
theorem top_nil : Top [] := fun l' d h => by simp at h
theorem top_wds (hB : 2 ≤ B) (n : Nat) : Top (wds B n) := by
  induction n using Nat.strongRecOn with
  | ind n ih =>
    by_cases h : n = 0
    · subst h; rw [wds_zero]; exact top_nil
    · rw [wds_pos hB (by omega)]
      intro l' d he
      cases l' with
      | nil =>
        simp only [List.nil_append, List.cons.injEq] at he
        obtain ⟨h1, h2⟩ := he
        have := (wds_nil_iff hB _).1 h2
        have hlt : n < B := by
          rcases Nat.lt_or_ge n B with c | c
          · exact c
          · have := Nat.div_pos c (by omega); omega
        rw [Nat.mod_eq_of_lt hlt] at h1
        omega
      | cons x l' =>
        simp only [List.cons_append, List.cons.injEq] at he
        exact ih _ (Nat.div_lt_self (by omega) hB) l' d he.2
theorem wds_mul_add (hB : 2 ≤ B) (d m : Nat) (hd : d < B) (h : 0 < d + B * m) : wds B (d + B * m) = (d : Int) :: wds B m := by
  rw [wds_pos hB h, Nat.add_mul_mod_self_left, Nat.mod_eq_of_lt hd, Nat.add_mul_div_left _ _ (by omega), Nat.div_eq_of_lt hd, Nat.zero_add]
theorem wds_val (hB : 2 ≤ B) {l : List Int} (h : Dig B l) (ht : Top l) : l = wds B (val B l).toNat := by
  induction l with
  | nil => simp [val, wds_zero]
  | cons d l ih =>
    have hg := dig_cons.1 h
    have ht2 : Top l := fun l' x he => ht (d :: l') x (by rw [he]; rfl)
    have h2 := ih hg.2 ht2
    obtain ⟨dn, rfl⟩ := Int.eq_ofNat_of_zero_le hg.1.1
    obtain ⟨m, hm⟩ := Int.eq_ofNat_of_zero_le (val_nonneg hg.2)
    have e : (val B ((dn : Int) :: l)).toNat = dn + B * m := by
      show ((dn : Int) + B * val B l).toNat = _
      rw [hm]
      have : ((dn : Int) + B * (m : Int)) = ((dn + B * m : Nat) : Int) := by push_cast; rfl
      rw [this, Int.toNat_natCast]
    rw [hm, Int.toNat_natCast] at h2
    rw [e, wds_mul_add hB dn m (by omega) ?_, ← h2]
    rcases Nat.eq_zero_or_pos m with c | c
    · subst c
      rw [wds_zero] at h2
      subst h2
      have := ht [] dn rfl
      omega
    · have := Nat.mul_pos (show 0 < B by omega) c
      omega
theorem wds_length (hB : 2 ≤ B) (n : Nat) : n < B ^ (wds B n).length := by
  have h := val_lt hB (dig_wds hB n)
  rw [val_wds hB] at h
  have : ((n : Nat) : Int) < ((B ^ (wds B n).length : Nat) : Int) := by push_cast; exact h
  omega
theorem wds_length_le (hB : 2 ≤ B) (k : Nat) : ∀ (n : Nat), n < B ^ k → (wds B n).length ≤ k := by
  induction k with
  | zero => intro n h; have : n = 0 := by simpa using h
            subst this; rw [wds_zero]; simp
  | succ k ih =>
    intro n h
    by_cases hn : n = 0
    · subst hn; rw [wds_zero]; simp
    · rw [wds_pos hB (by omega)]
      have := ih (n / B) (by rw [Nat.pow_succ, Nat.mul_comm] at h; exact Nat.div_lt_of_lt_mul h)
      simp only [List.length_cons]
      omega
theorem wds_length_iff (hB : 2 ≤ B) (n k : Nat) : (wds B n).length ≤ k ↔ n < B ^ k :=
  ⟨fun h => Nat.lt_of_lt_of_le (wds_length hB n) (Nat.pow_le_pow_right (by omega) h), wds_length_le hB k n⟩
theorem wds_inj (hB : 2 ≤ B) {n m : Nat} (h : wds B n = wds B m) : n = m := by
  have := congrArg (val B) h
  rw [val_wds hB, val_wds hB] at this
  omega

/-- Trimming. -/
def trimL (l : List Int) : List Int := if h : l ≠ [] ∧ l.getLast? = some 0 then trimL l.dropLast else l
termination_by l.length
decreasing_by
  have := List.length_pos_iff.2 h.1
  rw [List.length_dropLast]
  omega
theorem trimL_snoc (l : List Int) : trimL (l ++ [0]) = trimL l := by
  conv => lhs; unfold trimL
  rw [dif_pos (by simp)]
  simp
theorem trimL_top {l : List Int} (h : Top l) : trimL l = l := by
  unfold trimL
  rw [dif_neg]
  rintro ⟨h1, h2⟩
  have := List.dropLast_concat_getLast h1
  rw [List.getLast?_eq_some_getLast h1, Option.some.injEq] at h2
  exact h _ _ this.symm h2
theorem trimL_eq (hB : 2 ≤ B) : ∀ (k : Nat) (l : List Int), l.length = k → Dig B l → trimL l = wds B (val B l).toNat
  | 0, l, hl, h => by
    obtain rfl := List.length_eq_zero_iff.1 hl
    rw [trimL_top top_nil]
    simp [val, wds_zero]
  | k + 1, l, hl, h => by
    have hne : l ≠ [] := fun e => by subst e; simp at hl
    have e := (List.dropLast_concat_getLast hne).symm
    by_cases c : l.getLast hne = 0
    · rw [c] at e
      have hg : Dig B l.dropLast := fun d hd => h d (List.dropLast_subset l hd)
      rw [e, trimL_snoc, trimL_eq hB k l.dropLast (by simp; omega) hg, val_snoc]
      simp
    · have ht : Top l := fun l' d he => by
        have : l.getLast? = some d := by rw [he]; simp
        rw [List.getLast?_eq_some_getLast hne, Option.some.injEq] at this
        rw [← this]; exact c
      rw [trimL_top ht]
      exact wds_val hB h ht

end Go.Proofs.YtnkpfaoklkapdaaDoor.NumP
