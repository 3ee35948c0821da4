/- nat.digits' row, told by its value. -/
import Derived.Test.YtnkpfaoklkapdaaDoorExtF1
namespace Go.Proofs.YtnkpfaoklkapdaaDoor.Print
open Go.RowKit Go.Proofs.YtnkpfaoklkapdaaDoorW.PrintWords Go.Proofs.YtnkpfaoklkapdaaDoorW.PrintLast Go.Proofs.YtnkpfaoklkapdaaDoorW.PrintMore
open Go.Proofs.YtnkpfaoklkapdaaDoor.NumP
set_option linter.unusedVariables false
set_option linter.unusedSimpArgs false

theorem be_wb {x : Int} (h0 : 0 ≤ x) (h1 : x < 4294967296) : be (wb x) = x := by
  unfold be wb
  simp only [List.reverse_cons, List.reverse_nil, List.nil_append, List.cons_append]
  simp only [val]
  omega
theorem be_bwl {l : List Int} (hd : Dig B32 l) : ∀ k, k ≤ l.length → be (bytesOf (bwl l k)) = val B32 (l.take k)
  | 0, _ => by simp [bwl, bytesOf, be, val]
  | k + 1, hk => by
    have hx := rd_dig hd hk
    rw [bwl, bytesOf, be_append, be_wb hx.1 hx.2, be_bwl hd k (by omega), val_take hk, bytesOf_len, bwl_length, Int.pow_mul]
    rfl
theorem be_strip : ∀ xs : List Int, be (xs.dropWhile (· == 0)) = be xs
  | [] => rfl
  | x :: xs => by
    rw [List.dropWhile_cons]
    by_cases c : x = 0
    · subst c
      rw [if_pos (by rfl), be_strip xs]
      have := be_append [(0 : Int)] xs
      rw [List.singleton_append] at this
      rw [this]
      have e : be [(0 : Int)] = 0 := by simp [be, val]
      rw [e, Int.mul_zero, Int.add_zero]
    · rw [if_neg (by simpa using c)]
theorem strip_top (xs : List Int) : Top (xs.dropWhile (· == 0)).reverse := fun l' d e => by
  have e2 : xs.dropWhile (· == 0) = d :: l'.reverse := by
    rw [← List.reverse_reverse (xs.dropWhile (· == 0)), e, List.reverse_append]; rfl
  have := List.head?_dropWhile_not (· == (0 : Int)) xs
  rw [e2] at this
  simpa using this
theorem strip_wds {xs : List Int} (hd : Dig 256 xs) : xs.dropWhile (· == 0) = (wds 256 (be xs).toNat).reverse := by
  have hg : Dig 256 (xs.dropWhile (· == 0)).reverse := dig_rev (fun d hx => hd d (List.dropWhile_subset _ hx))
  have h := wds_val (B := 256) (by omega) hg (strip_top xs)
  rw [← List.reverse_reverse (xs.dropWhile (· == 0)), h]
  congr 2
  rw [← be_strip xs]
  rfl
theorem trim_len : ∀ xs : List Int, (∀ y ∈ xs, 0 ≤ y ∧ y < 256) → (Lib.trimLeftS (Lib.bytesOf xs) [0]).length = (xs.dropWhile (· == 0)).length
  | [], _ => rfl
  | x :: xs, h => by
    have hx := h x List.mem_cons_self
    have ih := trim_len xs (fun y hy => h y (List.mem_cons_of_mem _ hy))
    unfold Lib.trimLeftS Lib.bytesOf at ih ⊢
    rw [List.map_cons, List.dropWhile_cons, List.dropWhile_cons]
    by_cases c : x = 0
    · subst c
      rw [if_pos (by decide), if_pos (by rfl), ih]
    · have c1 : UInt8.ofNat x.toNat ≠ 0 := fun e => by
        have := congrArg UInt8.toNat e
        rw [UInt8.toNat_ofNat'] at this
        have h0 : (0 : UInt8).toNat = 0 := rfl
        rw [h0] at this
        omega
      rw [if_neg (by simpa using c1), if_neg (by simpa using c)]
      simp
theorem digits_eq {l : List Int} (hd : Dig B32 l) : (bytesOf (bwl l l.length)).drop (4 * l.length - (Lib.trimLeftS (Lib.bytesOf (bytesOf (bwl l l.length))) [0]).length) = (wds 256 (val B32 l).toNat).reverse := by
  have hok := bytesOf_ok (bwl l l.length)
  have hlen : (bytesOf (bwl l l.length)).length = 4 * l.length := by rw [bytesOf_len, bwl_length]
  have hbe := be_bwl hd l.length (Nat.le_refl _)
  rw [List.take_length] at hbe
  rw [trim_len _ hok, ← hlen, ← List.suffix_iff_eq_drop.1 (List.dropWhile_suffix _), strip_wds hok, hbe]

open Classical in
noncomputable def number_nat_digits.f (l0 : List Int) : Option (List Int) := if Dig B32 l0 ∧ l0.length ≤ 1000 then some (wds 256 (val B32 l0).toNat).reverse else none
theorem number_nat_digits.calls (A0 : Option Addr) (c0 : Nat) (l0 : List Int) (r : List Int) (w : World) (hr0 : Kd.C (Kd.int .u32) w A0 l0.length l0) (hc0 : l0.length ≤ c0) (h : number_nat_digits.f l0 = some r) :
    Calls Tryd.prog 68 #[.slice A0 l0.length c0] w fun e w' => ∃ v0_ : Value, e = .returned (v0_) ∧ Kd.Q (Kd.int .u8) 5 w' w.heap.size (fun _ => True) v0_ r ∧ Below w.heap.size w w' := by
  unfold number_nat_digits.f at h
  split at h
  · rename_i hc
    cases h
    have := digits_walk A0 c0 l0 w ⟨hr0⟩ hc0 hc.2 ⟨hc.1⟩
    rw [digits_eq hc.1] at this
    exact this
  · cases h
theorem digits_E (n : Nat) (hn : (wds B32 n).length ≤ 1000) : number_nat_digits.f (wds B32 n) = some (wds 256 n).reverse := by
  unfold number_nat_digits.f
  rw [if_pos ⟨dig_wds b32 n, hn⟩, val_wds b32, Int.toNat_natCast]

end Go.Proofs.YtnkpfaoklkapdaaDoor.Print
