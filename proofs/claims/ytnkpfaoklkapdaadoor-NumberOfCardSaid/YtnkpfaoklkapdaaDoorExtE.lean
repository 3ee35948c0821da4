/- number.abs's row, told by its value. -/
import Derived.Test.YtnkpfaoklkapdaaDoorExtD
namespace Go.Proofs.YtnkpfaoklkapdaaDoor.Print
open Go.RowKit Go.Proofs.YtnkpfaoklkapdaaDoorW.PrintWords Go.Proofs.YtnkpfaoklkapdaaDoorW.PrintLast Go.Proofs.YtnkpfaoklkapdaaDoorW.PrintMore
open Go.Proofs.YtnkpfaoklkapdaaDoor.NumP
set_option linter.unusedVariables false
set_option linter.unusedSimpArgs false

theorem be_ge {d : Int} {l : List Int} (hd : Dig 256 (d :: l)) (h : d ≠ 0) : (256 : Int) ^ l.length ≤ be (d :: l) := by
  have e : be (d :: l) = be l + (256 : Int) ^ l.length * d := by
    have := be_append [d] l
    rw [List.singleton_append] at this
    rw [this]
    congr 2
    unfold be; simp [val]
  rw [e]
  have h1 := (be_lt (fun x hx => hd x (List.mem_cons_of_mem _ hx)) : 0 ≤ be l ∧ _).1
  have h2 : 0 ≤ d := (hd d List.mem_cons_self).1
  have h3 : (256 : Int) ^ l.length * 1 ≤ (256 : Int) ^ l.length * d := Int.mul_le_mul_of_nonneg_left (by omega) (Int.le_of_lt (Int.pow_pos (by omega)))
  rw [Int.mul_one] at h3
  omega
theorem val_top {B : Nat} (hB : 2 ≤ B) {D : List Int} (hg : Dig B D) (h : D ≠ [] → (B : Int) ^ (D.length - 1) ≤ val B D) : D = wds B (val B D).toNat := by
  refine wds_val hB hg (fun l' d e h0 => ?_)
  subst h0
  have h1 := h (by rw [e]; simp)
  rw [e, val_snoc, Int.mul_zero, Int.add_zero, List.length_append, List.length_singleton, Nat.add_sub_cancel] at h1
  have h2 := val_lt hB (dig_append.1 (e ▸ hg)).1
  omega
theorem abs_val {l D : List Int} (hd : Dig 256 l) (hn : l = [] ∨ rd l 0 ≠ 0) (hg : Dig B32 D) (h4 : 4 * D.length < l.length + 4) (hv : val B32 D = be l) : D = wds B32 (be l).toNat := by
  rw [← hv]
  refine val_top b32 hg (fun h0 => ?_)
  rw [hv]
  have hp := List.length_pos_iff.2 h0
  rcases l with _ | ⟨d, l⟩
  · simp at h4; omega
  · rcases hn with hn | hn
    · cases hn
    · refine Int.le_trans ?_ (be_ge hd hn)
      rw [show (B32 : Int) = 256 ^ 4 from rfl, ← Int.pow_mul]
      have : (256 : Nat) ^ (4 * (D.length - 1)) ≤ 256 ^ l.length := Nat.pow_le_pow_right (by omega) (by rw [List.length_cons] at h4; omega)
      have h3 := Int.ofNat_le.2 this
      rw [Int.natCast_pow, Int.natCast_pow] at h3
      exact h3

open Classical in
noncomputable def number_abs.f (a0_0 : Bool) (l0_1 : List Int) : Option (List Int) :=
  if Dig 256 l0_1 ∧ l0_1.length ≤ 1000 ∧ (l0_1 = [] ∨ rd l0_1 0 ≠ 0) then some (wds B32 (be l0_1).toNat) else none
theorem number_abs.calls (a0_0 : Bool) (A0_1 : Option Addr) (c0_1 : Nat) (l0_1 : List Int) (r : List Int) (w : World) (hr0_1 : Kd.C (Kd.int .u8) w A0_1 l0_1.length l0_1) (hc0_1 : l0_1.length ≤ c0_1) (h : number_abs.f a0_0 l0_1 = some r) :
    Calls Tryd.prog 44 #[.agg #[.bool a0_0, .slice A0_1 l0_1.length c0_1]] w fun e w' => ∃ v0_ : Value, e = .returned (v0_) ∧ Kd.R (Kd.int .u32) 57 w' w.heap.size (fun _ => True) v0_ r ∧ Below w.heap.size w w' := by
  unfold number_abs.f at h
  split at h
  · rename_i hc
    obtain ⟨h1, h2, h3⟩ := hc
    cases h
    refine (abs_walk a0_0 A0_1 c0_1 l0_1 w ⟨hr0_1⟩ hc0_1 h2 ⟨h1⟩).mono ?_
    rintro e w' ⟨v, D, rfl, hR, ⟨hg, h4, hv⟩, hB⟩
    rw [abs_val h1 h3 hg h4 hv] at hR
    exact ⟨v, rfl, hR, hB⟩
  · cases h
theorem be_rev (n : Nat) : be (wds 256 n).reverse = n := by unfold be; rw [List.reverse_reverse, val_wds (by omega)]
theorem lead_wds (n : Nat) : (wds 256 n).reverse = [] ∨ rd (wds 256 n).reverse 0 ≠ 0 := by
  by_cases h : (wds 256 n).reverse = []
  · exact .inl h
  · refine .inr (fun h0 => ?_)
    obtain ⟨d, l, e⟩ := List.exists_cons_of_ne_nil h
    have e2 : wds 256 n = l.reverse ++ [d] := by rw [← List.reverse_reverse (wds 256 n), e, List.reverse_cons]
    refine top_wds (B := 256) (by omega) n _ _ e2 ?_
    rw [e] at h0
    exact h0
theorem abs_E (s : Bool) (n : Nat) (hn : (wds 256 n).length ≤ 1000) : number_abs.f s (wds 256 n).reverse = some (wds B32 n) := by
  unfold number_abs.f
  rw [if_pos ⟨dig_rev (dig_wds (by omega) n), by rw [List.length_reverse]; exact hn, lead_wds n⟩, be_rev, Int.toNat_natCast]

end Go.Proofs.YtnkpfaoklkapdaaDoor.Print
