/- Random: the plain law of a shuffle: the source's list is the reference's, with each number once. -/
import Derived.Test.YtmioondgjolaoaaPrint3
import Derived.Test.YtmioondgjolaoaaPrint4
namespace Go.Proofs.Ytmioondgjolaoaa.Print
open Go.RowKit Go.Proofs.YtmioondgjolaoaaW.PrintWords Go.Proofs.YtmioondgjolaoaaW.PrintLast Go.Proofs.YtmioondgjolaoaaW.PrintMore
set_option linter.unusedVariables false

def rg (m : Nat) : List Int := (List.range m).map Int.ofNat
theorem rg_succ (m : Nat) : rg (m + 1) = rg m ++ [(m : Int)] := by simp [rg, List.range_succ]
theorem rg_length (m : Nat) : (rg m).length = m := by simp [rg]
theorem wrap_small {x : Int} (h0 : -9223372036854775808 ≤ x) (h1 : x < 9223372036854775808) : wrap64 x = x := by unfold wrap64; omega

theorem num_ev (s n : Int) (h0 : 1 ≤ n) (h1 : n ≤ 4611686018427387904) : ∃ s' v, Ev (fun k => bandplanref03_Number.f k s n) (s', v) ∧ 0 ≤ v ∧ v < n ∧ 0 ≤ s' ∧ s' < 18446744073709551616 := by
  obtain ⟨k, s', v, h, h2⟩ := num_ends s n h0 h1
  exact ⟨s', v, Ev.of (bandplanref03_Number.mono _ _) h, h2⟩
theorem src_num (k : Nat) (s n : Int) (h0 : 1 ≤ n) (h1 : n ≤ 4611686018427387904) : random_Source_Number.f k s true n = (bandplanref03_Number.f k s n).bind fun b => some (b.2, 0, b.1, true) := by
  unfold random_Source_Number.f
  rw [if_neg (by decide), if_neg (by omega)]

/-- Each of the numbers below n once. -/
def Once (l : List Int) (n : Nat) : Prop := l.length = n ∧ (∀ i, i < n → 0 ≤ rd l i ∧ rd l i < n) ∧ ∀ i j, i < n → j < n → rd l i = rd l j → i = j
def swp (l : List Int) (i j : Int) : List Int := (l.set i.toNat (rd l j)).set j.toNat (rd l i)
theorem rd_nat (l : List Int) (i : Nat) : rd l (i : Int) = l.getD i 0 := rfl
theorem swp_length (l : List Int) (i j : Int) : (swp l i j).length = l.length := by simp [swp]
theorem swp_rd (l : List Int) (i j k : Nat) (hi : i < l.length) (hj : j < l.length) : rd (swp l i j) k = rd l (if k = j then i else if k = i then j else k : Nat) := by
  unfold swp
  simp only [Int.toNat_natCast]
  show ((l.set i (rd l j)).set j (rd l i)).getD k 0 = l.getD _ 0
  rw [List.getD_eq_getElem?_getD, List.getElem?_set, List.getElem?_set]
  by_cases c : k = j
  · subst c
    rw [if_pos rfl, if_pos (by simpa using hj), if_pos rfl]
    rfl
  · rw [if_neg (fun h => c h.symm), if_neg c]
    by_cases c2 : k = i
    · subst c2
      rw [if_pos rfl, if_pos hi, if_pos rfl]
      rfl
    · rw [if_neg (fun h => c2 h.symm), if_neg c2, List.getD_eq_getElem?_getD]
      rfl
theorem once_swp {l : List Int} {n : Nat} (h : Once l n) (i j : Nat) (hi : i < n) (hj : j < n) : Once (swp l i j) n := by
  obtain ⟨h0, h1, h2⟩ := h
  have e := fun k => swp_rd l i j k (by omega) (by omega)
  refine ⟨by rw [swp_length]; exact h0, fun k hk => ?_, fun k m hk hm hkm => ?_⟩
  · rw [e]
    apply h1
    split
    · exact hi
    · split
      · exact hj
      · exact hk
  · rw [e, e] at hkm
    have := h2 _ _ (by split <;> (try split) <;> assumption) (by split <;> (try split) <;> assumption) hkm
    split at this <;> split at this <;> (try split at this) <;> (try split at this) <;> omega
theorem once_rg (n : Nat) : Once (rg n) n := by
  have e : ∀ i, i < n → rd (rg n) (i : Int) = i := by
    intro i hi
    rw [rd_nat]
    simp [rg, List.getD_eq_getElem?_getD, hi]
  refine ⟨rg_length n, fun i hi => ?_, fun i j hi hj h => ?_⟩
  · rw [e i hi]; omega
  · rw [e i hi, e j hj] at h; omega

theorem refl1_succ (k : Nat) (s : Int) (l : List Int) (i : Int) (n : Nat) (hl : l.length = n) (h0 : 1 ≤ i) (h1 : i < n) (hn : n ≤ 4096) (s' v : Int) (hf : bandplanref03_Number.f k s (i + 1) = some (s', v)) (hv : 0 ≤ v ∧ v < i + 1) :
    bandplanref03_Shuffle.l1 (k + 1) s l i = bandplanref03_Shuffle.l1 k s' (swp l i v) (i - 1) := by
  conv => lhs; unfold bandplanref03_Shuffle.l1
  rw [if_pos h0, wrap_small (x := i + 1) (by omega) (by omega), hf]
  simp only [Option.bind_some]
  rw [if_pos hv.1, if_pos (by omega), if_pos (by omega), if_pos (by omega), wrap_small (by omega) (by omega)]
  rfl
theorem srcl1_succ (k : Nat) (s : Int) (l : List Int) (i : Int) (n : Nat) (hl : l.length = n) (h0 : 1 ≤ i) (h1 : i < n) (hn : n ≤ 4096) (s' v : Int) (hf : bandplanref03_Number.f k s (i + 1) = some (s', v)) (hv : 0 ≤ v ∧ v < i + 1) :
    random_Source_Shuffle.l1 (k + 1) l i s true = random_Source_Shuffle.l1 k (swp l i v) (i - 1) s' true := by
  conv => lhs; unfold random_Source_Shuffle.l1
  rw [if_pos (by omega), wrap_small (x := i + 1) (by omega) (by omega), src_num _ _ _ (by omega) (by omega), hf]
  simp only [Option.bind_some]
  rw [if_pos hv.1, if_pos (by omega), if_pos (by omega), if_pos (by omega), wrap_small (by omega) (by omega)]
  rfl

theorem ev_succ {α : Type} {g : Nat → Option α} {f : Nat → Option α} {r : α} (hf : Ev f r) (h : ∃ K, ∀ k, K ≤ k → g (k + 1) = f k) : Ev g r := by
  obtain ⟨K, hK⟩ := hf
  obtain ⟨L, hL⟩ := h
  refine ⟨K + L + 1, fun k hk => ?_⟩
  obtain ⟨m, rfl⟩ : ∃ m, k = m + 1 := ⟨k - 1, by omega⟩
  rw [hL m (by omega), hK m (by omega)]

theorem l1_ends (n : Nat) (hn : n ≤ 4096) : ∀ (i : Nat) (s : Int) (l : List Int), (n = 0 ∧ i = 0 ∨ i < n) → 0 ≤ s → s < 18446744073709551616 → Once l n →
    ∃ s' l', Ev (fun k => bandplanref03_Shuffle.l1 k s l i) (s', l') ∧ Ev (fun k => random_Source_Shuffle.l1 k l i s true) (l', 0, s', true) ∧ Once l' n ∧ 0 ≤ s' ∧ s' < 18446744073709551616
  | 0, s, l, hi, s0, s1, ho => by
    refine ⟨s, l, ⟨1, fun k hk => ?_⟩, ⟨1, fun k hk => ?_⟩, ho, s0, s1⟩
    · obtain ⟨m, rfl⟩ : ∃ m, k = m + 1 := ⟨k - 1, by omega⟩
      show bandplanref03_Shuffle.l1 (m + 1) s l 0 = _
      unfold bandplanref03_Shuffle.l1
      rw [if_neg (by omega)]
    · obtain ⟨m, rfl⟩ : ∃ m, k = m + 1 := ⟨k - 1, by omega⟩
      show random_Source_Shuffle.l1 (m + 1) l 0 s true = _
      unfold random_Source_Shuffle.l1
      rw [if_neg (by omega)]
  | i + 1, s, l, hi, s0, s1, ho => by
    obtain ⟨s1', v, ⟨K, hK⟩, v0, v1, r0, r1⟩ := num_ev s ((i + 1 : Nat) + 1) (by omega) (by omega)
    obtain ⟨v, rfl⟩ := Int.eq_ofNat_of_zero_le v0
    obtain ⟨s', l', e1, e2, ho', q0, q1⟩ := l1_ends n hn i s1' (swp l (i + 1 : Nat) v) (by omega) r0 r1 (once_swp ho _ _ (by omega) (by omega))
    refine ⟨s', l', ev_succ e1 ⟨K, fun k hk => ?_⟩, ev_succ e2 ⟨K, fun k hk => ?_⟩, ho', q0, q1⟩
    · rw [refl1_succ k s l (i + 1 : Nat) n ho.1 (by omega) (by omega) hn s1' v (hK k hk) ⟨v0, v1⟩, show ((i + 1 : Nat) : Int) - 1 = (i : Nat) by omega]
    · rw [srcl1_succ k s l (i + 1 : Nat) n ho.1 (by omega) (by omega) hn s1' v (hK k hk) ⟨v0, v1⟩, show ((i + 1 : Nat) : Int) - 1 = (i : Nat) by omega]

/-- The last index, in Int's form. -/
theorem l1_start (n : Nat) (hn : n ≤ 4096) (s : Int) (s0 : 0 ≤ s) (s1 : s < 18446744073709551616) :
    ∃ s' l', Ev (fun k => bandplanref03_Shuffle.l1 k s (rg n) (wrap64 ((n : Int) - 1))) (s', l') ∧ Ev (fun k => random_Source_Shuffle.l1 k (rg n) (wrap64 ((n : Int) - 1)) s true) (l', 0, s', true) ∧ Once l' n ∧ 0 ≤ s' ∧ s' < 18446744073709551616 := by
  rw [wrap_small (by omega) (by omega)]
  by_cases c : n = 0
  · subst c
    refine ⟨s, rg 0, ⟨1, fun k hk => ?_⟩, ⟨1, fun k hk => ?_⟩, once_rg 0, s0, s1⟩
    · obtain ⟨m, rfl⟩ : ∃ m, k = m + 1 := ⟨k - 1, by omega⟩
      show bandplanref03_Shuffle.l1 (m + 1) s (rg 0) _ = _
      unfold bandplanref03_Shuffle.l1
      rw [if_neg (by omega)]
    · obtain ⟨m, rfl⟩ : ∃ m, k = m + 1 := ⟨k - 1, by omega⟩
      show random_Source_Shuffle.l1 (m + 1) (rg 0) _ s true = _
      unfold random_Source_Shuffle.l1
      rw [if_neg (by omega)]
  · have := l1_ends n hn (n - 1) s (rg n) (by omega) s0 s1 (once_rg n)
    rw [show ((n - 1 : Nat) : Int) = (n : Int) - 1 by omega] at this
    exact this

theorem refl0_ends (n : Nat) (hn : n ≤ 4096) (s : Int) (r : Int × List Int) (h : Ev (fun k => bandplanref03_Shuffle.l1 k s (rg n) (wrap64 ((n : Int) - 1))) r) :
    ∀ (d m : Nat), m + d = n → Ev (fun k => bandplanref03_Shuffle.l0 k s n (rg m) m) r
  | 0, m, hm => by
    obtain rfl : m = n := by omega
    refine Ev.step (fun k => ?_) h
    show bandplanref03_Shuffle.l0 (k + 1) s m (rg m) m = _
    conv => lhs; unfold bandplanref03_Shuffle.l0
    rw [if_neg (by omega)]
  | d + 1, m, hm => by
    refine Ev.step (fun k => ?_) (refl0_ends n hn s r h d (m + 1) (by omega))
    show bandplanref03_Shuffle.l0 (k + 1) s n (rg m) m = _
    conv => lhs; unfold bandplanref03_Shuffle.l0
    rw [if_pos (by omega), if_pos (by rw [rg_length]; omega), wrap_small (by omega) (by omega), rg_succ, show (m : Int) + 1 = (m + 1 : Nat) by omega]

theorem srcl0_ends (n : Nat) (hn : n ≤ 4096) (s : Int) (r : List Int × Int × Int × Bool) (h : Ev (fun k => random_Source_Shuffle.l1 k (rg n) (wrap64 ((n : Int) - 1)) s true) r) :
    ∀ (d m : Nat), m + d = n → Ev (fun k => random_Source_Shuffle.l0 k n (rg m ++ List.replicate d 0) n m s true) r
  | 0, m, hm => by
    obtain rfl : m = n := by omega
    refine Ev.step (fun k => ?_) h
    show random_Source_Shuffle.l0 (k + 1) m (rg m ++ List.replicate 0 0) m m s true = _
    conv => lhs; unfold random_Source_Shuffle.l0
    rw [if_neg (by omega)]
    simp
  | d + 1, m, hm => by
    refine Ev.step (fun k => ?_) (srcl0_ends n hn s r h d (m + 1) (by omega))
    show random_Source_Shuffle.l0 (k + 1) n (rg m ++ List.replicate (d + 1) 0) n m s true = _
    conv => lhs; unfold random_Source_Shuffle.l0
    have hl : (rg m ++ List.replicate (d + 1) (0 : Int)).length = n := by simp [rg_length]; omega
    rw [if_pos (by omega), if_pos (by omega), if_pos (by rw [hl]; omega), wrap_small (by omega) (by omega), show (m : Int) + 1 = (m + 1 : Nat) by omega]
    congr 1
    rw [rg_succ, Int.toNat_natCast, List.set_append_right _ _ (by rw [rg_length]; omega), rg_length, Nat.sub_self, List.replicate_succ, List.set_cons_zero]
    simp

theorem shuffle_ends (n : Nat) (hn : n ≤ 4096) (s : Int) (s0 : 0 ≤ s) (s1 : s < 18446744073709551616) :
    ∃ s' l', Ev (fun k => bandplanref03_Shuffle.f k s n) (s', l') ∧ Ev (fun k => random_Source_Shuffle.f k s true n) (l', 0, s', true) ∧ Once l' n ∧ 0 ≤ s' ∧ s' < 18446744073709551616 := by
  obtain ⟨s', l', e1, e2, h3⟩ := l1_start n hn s s0 s1
  refine ⟨s', l', refl0_ends n hn s _ e1 n 0 (by omega), Ev.congr (fun k => ?_) (srcl0_ends n hn s _ e2 n 0 (by omega)), h3⟩
  unfold random_Source_Shuffle.f random_Source_none.f
  simp only [Option.bind_some, Bool.not_true]
  rw [if_neg (by decide), if_neg (by omega), if_neg (by omega), if_pos (by omega), if_pos (by omega)]
  simp [rg]

end Go.Proofs.Ytmioondgjolaoaa.Print
