/- What the functions of number answer, told by values, as contracts over rows that are read. -/
import Derived.Test.YtnkpfaoklkapdaaDoorNumU
import Derived.Test.YtnkpfaoklkapdaaDoorEnv
namespace Go.Proofs.YtnkpfaoklkapdaaDoor.Print
open Go.RowKit Go.Proofs.YtnkpfaoklkapdaaDoorW.PrintWords Go.Proofs.YtnkpfaoklkapdaaDoorW.PrintLast Go.Proofs.YtnkpfaoklkapdaaDoorW.PrintMore
open Go.Proofs.YtnkpfaoklkapdaaDoor.NumP
set_option linter.unusedVariables false
set_option linter.unusedSimpArgs false
set_option exponentiation.threshold 2000

theorem dg_len (n : Nat) : (dg n).length = (wds 256 n).length := by unfold dg; rw [List.length_reverse]
theorem dg_nil {n : Nat} : dg n = [] ↔ n = 0 := by unfold dg; rw [List.reverse_eq_nil_iff, wds_nil_iff (by omega)]
/-- A sign and a value of an API Int. -/
def Good (s : Bool) (n : Nat) : Prop := (n = 0 → s = false) ∧ (wds 256 n).length ≤ 64
/-- Is an API Int valid? -/
def validB (s : Bool) (l : List Int) : Bool := if l.length = 0 then !s else decide (l.length ≤ 64) && (rd l 0 != 0)
theorem valid_f (s : Bool) (l : List Int) : number_Valid.f s l = some (validB s l) := by
  unfold number_Valid.f validB
  by_cases h0 : l.length = 0
  · rw [if_pos (by omega), if_pos h0]
  · rw [if_neg (by omega), if_neg h0]
    by_cases h1 : l.length ≤ 64
    · rw [if_pos (by omega), if_pos (by omega), decide_eq_true h1, Bool.true_and]
    · rw [if_neg (by omega), decide_eq_false h1, Bool.false_and]
theorem valid_good {s : Bool} {n : Nat} (h : Good s n) : validB s (dg n) = true := by
  unfold validB
  by_cases h0 : n = 0
  · rw [dg_nil.2 h0, h.1 h0]; rfl
  · have h1 : dg n ≠ [] := fun e => h0 (dg_nil.1 e)
    have h2 := List.length_pos_iff.2 h1
    have h3 := h.2
    rw [← dg_len] at h3
    rw [if_neg (by omega), decide_eq_true h3, Bool.true_and, bne_iff_ne]
    exact (lead_wds n).resolve_left h1
theorem good_of {s : Bool} {l : List Int} (hd : Dig 256 l) (h : validB s l = true) : l = dg (be l).toNat ∧ Good s (be l).toNat := by
  have e : l = dg (be l).toNat := by
    unfold dg
    by_cases h0 : l.length = 0
    · rw [List.length_eq_zero_iff.1 h0]; show _ = (wds 256 (Int.toNat 0)).reverse; rw [Int.toNat_zero, wds_zero]; rfl
    · unfold validB at h
      rw [if_neg h0] at h
      simp only [Bool.and_eq_true, bne_iff_ne, ne_eq] at h
      have := val_top (B := 256) (by omega) (dig_rev hd) (fun _ => by
        rcases l with _ | ⟨d, l⟩
        · simp at h0
        · have := be_ge hd h.2
          rw [List.length_reverse, List.length_cons, Nat.add_sub_cancel]
          exact this)
      unfold be
      rw [← this, List.reverse_reverse]
  refine ⟨e, fun h0 => ?_, ?_⟩
  · rw [h0, dg_nil.2 rfl] at e
    subst e
    simpa [validB] using h
  · have h2 : l.length ≤ 64 := by
      by_cases h0 : l.length = 0
      · omega
      · unfold validB at h
        rw [if_neg h0] at h
        simp only [Bool.and_eq_true, decide_eq_true_eq] at h
        exact h.1
    rw [← dg_len, ← e]; exact h2
theorem good_bl {s : Bool} {n : Nat} (h : Good s n) : bl n ≤ 512 := by
  apply (bl_le n 512).2
  have := (wds_length_iff (B := 256) (by omega) n 64).1 h.2
  rw [show (256 : Nat) = 2 ^ 8 from rfl, ← Nat.pow_mul] at this
  exact this
theorem bl_good {n : Nat} (h : bl n ≤ 512) : (wds 256 n).length ≤ 64 := by
  apply (wds_length_iff (B := 256) (by omega) n 64).2
  have := (bl_le n 512).1 h
  rw [show (256 : Nat) = 2 ^ 8 from rfl, ← Nat.pow_mul]
  exact this
theorem bl_w {n m : Nat} (h : bl n ≤ 32 * m) : (wds B32 n).length ≤ m := bl_len n m h
theorem one_wds : wds B32 1 = [1] := by rw [wds_pos b32 (by omega), show 1 / B32 = 0 from rfl, wds_zero]; rfl

/-- A natural number in memory. -/
def NR (w : World) (A : Option Addr) (c n : Nat) : Prop := Rw.on ⟨.u32, A, c, wds B32 n⟩ w
/-- An API Int in memory, by its digits. -/
def IR (w : World) (A : Option Addr) (c : Nat) (l : List Int) : Prop := Rw.on ⟨.u8, A, c, l⟩ w
/-- The row that a call hands back. -/
def Row (w0 w' : World) (v : Value) (n : Nat) : Prop := Kd.R (Kd.int .u32) 57 w' w0.heap.size (fun _ => True) v (wds B32 n)
/-- A struct (a sign and digits) that a call hands back. -/
def AnInt (w' : World) (v : Value) (s : Bool) (l : List Int) : Prop := ∃ A c, v = .agg #[.bool s, .slice A l.length c] ∧ IR w' A c l

section
variable {w wd : World} {A B : Option Addr} {c c' : Nat}
theorem plusV (a b : Nat) (hA : NR w A c a) (hB : NR w B c' b) (ha : bl a ≤ 20000) (hb : bl b ≤ 20000) :
    Calls Tryd.prog 54 #[.slice A (wds B32 a).length c, .slice B (wds B32 b).length c'] w fun e w' => ∃ v, e = .returned v ∧ Row w w' v (a + b) ∧ Below w.heap.size w w' :=
  number_plus.calls A c _ B c' _ _ w hA.1 hA.2 hB.1 hB.2 (plus_E a b (Nat.le_trans (bl_len a 625 (by omega)) (by omega)) (Nat.le_trans (bl_len b 625 (by omega)) (by omega)))
theorem minusV (a b : Nat) (hA : NR w A c a) (hB : NR w B c' b) (ha : bl a ≤ 20000) (hb : b ≤ a) :
    Calls Tryd.prog 62 #[.slice A (wds B32 a).length c, .slice B (wds B32 b).length c'] w fun e w' => ∃ v, e = .returned v ∧ Row w w' v (a - b) ∧ Below w.heap.size w w' := by
  obtain ⟨K, hK⟩ := (minus_E a b hb (Nat.le_trans (bl_len a 625 (by omega)) (by omega))).rounds
  exact number_minus.calls K A c _ B c' _ _ w hA.1 hA.2 hB.1 hB.2 hK
theorem timesV (a b : Nat) (hA : NR w A c a) (hB : NR w B c' b) (ha : bl a ≤ 20000) (hb : bl b ≤ 20000) :
    Calls Tryd.prog 48 #[.slice A (wds B32 a).length c, .slice B (wds B32 b).length c'] w fun e w' => ∃ v, e = .returned v ∧ Row w w' v (a * b) ∧ Below w.heap.size w w' := by
  obtain ⟨K, hK⟩ := (times_E a b (Nat.le_trans (bl_len a 625 (by omega)) (by omega)) (Nat.le_trans (bl_len b 625 (by omega)) (by omega))).rounds
  exact number_times.calls K A c _ B c' _ _ w hA.1 hA.2 hB.1 hB.2 hK
theorem compareV (a b : Nat) (hA : NR w A c a) (hB : NR w B c' b) (ha : bl a ≤ 20000) (hb : bl b ≤ 20000) :
    Calls Tryd.prog 66 #[.slice A (wds B32 a).length c, .slice B (wds B32 b).length c'] w fun e w' => e = .returned (.int .i64 (cmpN a b)) ∧ Drawn0 w w' := by
  obtain ⟨K, hK⟩ := (compare_E a b (Nat.le_trans (bl_len a 625 (by omega)) (by omega)) (Nat.le_trans (bl_len b 625 (by omega)) (by omega))).rounds
  exact number_compare.calls K A c _ B c' _ _ w hA.1 hA.2 hB.1 hB.2 hK
theorem bitLenV (a : Nat) (hA : NR w A c a) (ha : bl a ≤ 20000) :
    Calls Tryd.prog 47 #[.slice A (wds B32 a).length c] w fun e w' => e = .returned (.int .i64 (bl a)) ∧ Below w.heap.size w w' :=
  number_nat_bitLen.calls A c _ _ w hA.1 hA.2 (bitLen_E a (Nat.le_trans (bl_len a 625 (by omega)) (by omega)))
theorem absV (s : Bool) (n : Nat) (hA : IR w A c (dg n)) (hn : bl n ≤ 512) :
    Calls Tryd.prog 44 #[.agg #[.bool s, .slice A (dg n).length c]] w fun e w' => ∃ v, e = .returned v ∧ Row w w' v n ∧ Below w.heap.size w w' :=
  number_abs.calls s A c _ _ w hA.1 hA.2 (abs_E s n (Nat.le_trans (bl_good hn) (by omega)))
theorem validV (s : Bool) (l : List Int) (hA : IR w A c l) :
    Calls Tryd.prog 33 #[.agg #[.bool s, .slice A l.length c]] w fun e w' => e = .returned (.bool (validB s l)) ∧ Below w.heap.size w w' :=
  number_Valid.calls s A c l _ w hA.1 hA.2 (valid_f s l)
theorem AnInt.of {w' : World} {v : Value} {s : Bool} {e base : Nat} {ok : Nat → Prop} {l : List Int} (h : Kd.Q (Kd.int .u8) e w' base ok v l) : AnInt w' (.agg #[.bool s, v]) s l := by
  obtain ⟨A, c, rfl, _⟩ := Kd.Q_slice h
  exact ⟨A, c, rfl, (Kd.Q_reads' h).2.2, (Kd.Q_reads' h).2.1⟩
theorem AnInt.ofR {w' : World} {v : Value} {s : Bool} {e base : Nat} {ok : Nat → Prop} {l : List Int} (h : Kd.R (Kd.int .u8) e w' base ok v l) : AnInt w' (.agg #[.bool s, v]) s l := by
  obtain ⟨A, c, rfl⟩ := Kd.R_slice h
  exact ⟨A, c, rfl, (Kd.R_reads' h).2.2, (Kd.R_reads' h).2.1⟩
/-- What signed answers. -/
def sgn (s : Bool) (n : Nat) : Bool × List Int × Int := if bl n > 512 then (false, [], 7) else if n = 0 then (false, [], 0) else (s, dg n, 0)
theorem signedV (s : Bool) (n : Nat) (hA : NR w A c n) (hn : bl n ≤ 10000) :
    Calls Tryd.prog 42 #[.bool s, .slice A (wds B32 n).length c] w fun e w' => ∃ v, e = .returned (.tuple #[v, .int .i64 (sgn s n).2.2]) ∧ AnInt w' v (sgn s n).1 (sgn s n).2.1 ∧ Below w.heap.size w w' := by
  refine (number_signed.calls s A c _ (sgn s n).1 (sgn s n).2.1 (sgn s n).2.2 w hA.1 hA.2 (signed_E s n hn)).mono ?_
  rintro e w' ⟨v, rfl, h1, h2⟩
  exact ⟨_, rfl, AnInt.of h1, h2⟩
theorem kept_below {w W : World} {n : Nat} (h : Kept w W (fun k => n ≤ k)) (hb : Below n wd w) : ∀ k, k < n → k < w.heap.size → W.heap[k]? = wd.heap[k]? := fun k hk hl =>
  (h.2 k hl (by omega)).trans (hb.block k hk)
theorem divideV (a b : Nat) {v : Value} (hw : Below wd.heap.size wd w) (hR : Row wd w v a) (hB : NR wd B c' b) (h0 : 0 < b) (ha : bl a ≤ 10000) (hb : bl b ≤ 10000) :
    Calls Tryd.prog 61 #[v, .slice B (wds B32 b).length c'] w fun e w' => ∃ v0 v1, e = .returned (.tuple #[v0, v1]) ∧ Row wd w' v0 (a / b) ∧ Row wd w' v1 (a % b) ∧ Below wd.heap.size wd w' := by
  obtain ⟨K, hK⟩ := (divide_E a b h0 ha hb).rounds
  have hR' := Kd.R_mono (Kd.R_bound hR) (ok' := fun k => wd.heap.size ≤ k) (fun k hk => hk.2.1)
  refine (number_divide.calls K (fun k => wd.heap.size ≤ k) v (wds B32 a) B c' (wds B32 b) _ _ wd w hw hR' (fun W hk => ?_) hB.2 hK).mono ?_
  · refine ⟨hB.1.1, hB.1.2.1, fun hn => ?_⟩
    obtain ⟨ad, e, hc⟩ := hB.1.2.2 hn
    refine ⟨ad, e, fun j p hp => ?_⟩
    obtain ⟨cs, hl, hk2, hcell⟩ := hc j p hp
    refine ⟨cs, hl, hk2, fun i u hu => ?_⟩
    have h1 := hcell i u hu
    have h2 := World.block_lt_of_cell? wd _ h1
    have h3 := pw_cell_below hw h1
    have h4 := hk.2 _ (World.block_lt_of_cell? w _ h3) (show ¬ wd.heap.size ≤ _ by omega)
    rw [← h3]
    unfold World.cell?
    rw [h4]
  · rintro e w' ⟨v0, v1, rfl, h1, h2, h3, h4⟩
    exact ⟨v0, v1, rfl, Kd.R_mono h1 (fun _ _ => trivial), Kd.R_mono h2 (fun _ _ => trivial), h3⟩
end
end Go.Proofs.YtnkpfaoklkapdaaDoor.Print
