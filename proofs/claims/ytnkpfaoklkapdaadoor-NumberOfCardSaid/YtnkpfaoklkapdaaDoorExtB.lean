/- Contract of number.shift: a number times a power of two, told by its value. -/
import Derived.Test.YtnkpfaoklkapdaaDoorExtA
import Derived.Test.YtnkpfaoklkapdaaDoorNumP
import Derived.Test.YtnkpfaoklkapdaaDoorPrint1
import Derived.Laws.BitsAllLaws
namespace Go.Proofs.YtnkpfaoklkapdaaDoor.Print
open Go.RowKit Go.Proofs.YtnkpfaoklkapdaaDoorW.PrintWords Go.Proofs.YtnkpfaoklkapdaaDoorW.PrintLast Go.Proofs.YtnkpfaoklkapdaaDoorW.PrintMore
open Go.Proofs.YtnkpfaoklkapdaaDoor.NumP
set_option linter.unusedVariables false
set_option linter.unusedSimpArgs false

/-- The base of a row of words. -/
abbrev B32 : Nat := 4294967296
theorem b32 : 2 ≤ B32 := by decide
theorem wrap_small {x : Int} (h0 : -9223372036854775808 ≤ x) (h1 : x < 9223372036854775808) : wrap64 x = x := by unfold wrap64; omega
theorem u64_id {n : Int} (h0 : 0 ≤ n) (h1 : n < 18446744073709551616) : IntKind.u64.wrap n = n := by rw [IntKind.wrap_u64]; exact Int.emod_eq_of_lt h0 h1

/-! ### trim -/
theorem trim_ev (k : Nat) : ∀ (n : Nat) (l : List Int), l.length = n → n < k → (l.length : Int) < 9223372036854775807 → number_nat_trim.l0 k l = some (trimL l) := by
  induction k with
  | zero => intro n l hl hk; omega
  | succ k ih =>
    intro n l hl hk hb
    unfold number_nat_trim.l0
    by_cases h0 : l = []
    · subst h0
      rw [if_neg (by simp), trimL_top top_nil]
    · have hp := List.length_pos_iff.2 h0
      have e1 : wrap64 ((l.length : Int) - 1) = (l.length : Int) - 1 := wrap_small (by omega) (by omega)
      rw [if_pos (by omega), e1, if_pos (by omega), if_pos (by omega)]
      have e2 : rd l ((l.length : Int) - 1) = l.getLast h0 := by
        show l.getD ((l.length : Int) - 1).toNat 0 = _
        rw [show ((l.length : Int) - 1).toNat = l.length - 1 by omega, List.getLast_eq_getElem, List.getD_eq_getElem?_getD, List.getElem?_eq_getElem (by omega)]
        rfl
      rw [e2]
      have e := (List.dropLast_concat_getLast h0).symm
      by_cases c : l.getLast h0 = 0
      · rw [if_pos c, if_pos (by omega)]
        rw [c] at e
        rw [show ((l.length : Int) - 1).toNat = l.length - 1 by omega, ← List.dropLast_eq_take, ih (n - 1) l.dropLast (by simp; omega) (by omega) (by simp; omega)]
        conv => rhs; rw [e, trimL_snoc]
      · rw [if_neg c, trimL_top]
        intro l' d he
        have : l.getLast? = some d := by rw [he]; simp
        rw [List.getLast?_eq_some_getLast h0, Option.some.injEq] at this
        rw [← this]; exact c
theorem trim_val (l : List Int) (hg : Dig B32 l) (hb : (l.length : Int) < 9223372036854775807) : ∃ k, number_nat_trim.f k l = some (wds B32 (val B32 l).toNat) := by
  refine ⟨l.length + 1, ?_⟩
  unfold number_nat_trim.f
  rw [trim_ev (l.length + 1) l.length l rfl (by omega) hb, trimL_eq b32 l.length l rfl hg]

/-! ### make with a length and a capacity -/
theorem run_maken {P : Program} {W : World} {t e : TypeId} {bytes : Nat} {z : Value} (hz1 : z.cells = #[z]) (n m : Nat) (hnm : n ≤ m) (ht : P.underlying t = some (.slice e)) (hinfo : (P.info? e).map (fun i => (i.zero, i.size, i.bytes)) = some (some z, 1, bytes))
    (hb0 : 0 < bytes) (hl : m * bytes ≤ 281474976710656) :
    (Instr.makeSlice t (.int .i64 (n : Int)) (.int .i64 (m : Int))).run P W = .ok (.slice (some ⟨W.heap.size, 0, none⟩) n m) (W.alloc (.cells (madeCells #[z] m) e)) := by
  obtain ⟨i0, hi, hzz⟩ := Option.map_eq_some_iff.1 hinfo
  simp only [Prod.mk.injEq] at hzz
  obtain ⟨hz0, hz2, hz3⟩ := hzz
  have hm : m ≤ 281474976710656 := Nat.le_trans (Nat.le_mul_of_pos_right _ hb0) hl
  have hr := run_make (P := P) W t e i0 z ht hi hz0 .i64 .i64 (n : Int) (m : Int) (by omega) (by omega)
    (by
      have h3 : ((i0.bytes * m : Nat) : Int) ≤ 281474976710656 := by rw [hz3, Nat.mul_comm]; omega
      rwa [Int.natCast_mul] at h3) (by omega)
  simp only [Int.toNat_natCast] at hr
  rw [hz2, Nat.mul_one, hz1] at hr
  exact hr
theorem row_maken (W : World) (k : IntKind) (e n m : Nat) (hnm : n ≤ m) (hm : m ≤ 140737488355328) :
    Kd.R (Kd.int k) e (W.alloc (.cells (madeCells #[.int k 0] m) e)) W.heap.size (fun _ => True) (.slice (some ⟨W.heap.size, 0, none⟩) n m) (List.replicate n 0) := by
  have ho : (W.alloc (.cells (madeCells #[.int k 0] m) e)).ownsRow W.heap.size e 1 (.slice (some ⟨W.heap.size, 0, none⟩) n m) (List.replicate n (0 : Int)).length (encs (Value.int k) (List.replicate n 0)) := by
    refine ⟨by simp [encs], .inr ⟨W.heap.size, m, _, by simp, Nat.le_refl _, blk_new _ _, by simpa using hnm, by simp [maxLen]; omega, by simp [size_madeCells], ?_⟩⟩
    rw [toList_madeCells_one]
    simp [encs, Nat.min_eq_left hnm]
  exact Kd.R_of_own (h1 := fun _ => rfl) ho (fun _ _ => trivial)

theorem or_shift (m x s : Nat) (hm : m < 2 ^ s) (hs : s < 32) (hx : x < 4294967296) : Go.bits .or .u64 (m : Int) (IntKind.u64.wrap ((x : Int) * 2 ^ s)) = ((x * 2 ^ s + m : Nat) : Int) := by
  have h2 : 2 ^ s ≤ 2 ^ 31 := Nat.pow_le_pow_right (by omega) (by omega)
  have h3 : x * 2 ^ s ≤ 4294967295 * 2 ^ 31 := Nat.mul_le_mul (by omega) h2
  have e : (x : Int) * 2 ^ s = ((x * 2 ^ s : Nat) : Int) := by push_cast; rfl
  rw [e, u64_id (by omega) (by omega), u64_or_nat _ _ (by omega) (by omega), Nat.or_comm, Nat.mul_comm x, ← Nat.two_pow_add_eq_or_of_lt hm]
/-- One word more. -/
theorem shift_step {l D : List Int} {j m x s : Nat} (hj : j < l.length) (hx : rd l j = x) (hx1 : x < 4294967296) (hm : m < 2 ^ s) (hD : D.length = j) (hg : Dig B32 D) (hv : val B32 D + (B32 : Int) ^ j * m = val B32 (l.take j) * 2 ^ s) :
    (x * 2 ^ s + m) / 4294967296 < 2 ^ s ∧ (D ++ [(((x * 2 ^ s + m) % 4294967296 : Nat) : Int)]).length = j + 1 ∧ Dig B32 (D ++ [(((x * 2 ^ s + m) % 4294967296 : Nat) : Int)]) ∧ val B32 (D ++ [(((x * 2 ^ s + m) % 4294967296 : Nat) : Int)]) + (B32 : Int) ^ (j + 1) * (((x * 2 ^ s + m) / 4294967296 : Nat) : Int) = val B32 (l.take (j + 1)) * 2 ^ s := by
  have h3 : x * 2 ^ s ≤ 4294967295 * 2 ^ s := Nat.mul_le_mul_right _ (by omega)
  refine ⟨by omega, by simp [hD], dig_append.2 ⟨hg, dig_one (by omega) (by show _ < ((4294967296 : Nat) : Int); omega)⟩, ?_⟩
  have e : l.take (j + 1) = l.take j ++ [(x : Int)] := by
    rw [List.take_succ_eq_append_getElem hj]
    congr 2
    rw [← hx]
    show l[j] = l.getD j 0
    rw [List.getD_eq_getElem?_getD, List.getElem?_eq_getElem hj]
    rfl
  rw [e, val_snoc, val_snoc, hD, List.length_take, Nat.min_eq_left (by omega), Int.add_mul, ← hv, Int.pow_succ]
  have h4 := Nat.mod_add_div (x * 2 ^ s + m) 4294967296
  have h5 : (x : Int) * 2 ^ s + m = (((x * 2 ^ s + m) % 4294967296 : Nat) : Int) + 4294967296 * (((x * 2 ^ s + m) / 4294967296 : Nat) : Int) := by
    have : ((x * 2 ^ s + m : Nat) : Int) = (x : Int) * 2 ^ s + m := by push_cast; rfl
    omega
  have e2 : (B32 : Int) ^ j * (x : Int) * 2 ^ s = (B32 : Int) ^ j * ((x : Int) * 2 ^ s) := Int.mul_assoc _ _ _
  have e3 : (x : Int) * 2 ^ s = (((x * 2 ^ s + m) % 4294967296 : Nat) : Int) + 4294967296 * (((x * 2 ^ s + m) / 4294967296 : Nat) : Int) - m := by omega
  rw [e2, e3, Int.mul_sub, Int.mul_add, ← Int.mul_assoc]
  show _ + _ + (B32 : Int) ^ j * 4294967296 * _ = _
  omega

theorem val_zeros (B : Nat) (q : Nat) (l : List Int) : val B (List.replicate q 0 ++ l) = (B : Int) ^ q * val B l := by
  induction q with
  | zero => simp
  | succ q ih =>
    rw [List.replicate_succ, List.cons_append]
    show (0 : Int) + B * val B (List.replicate q 0 ++ l) = _
    rw [ih, Int.pow_succ, Int.zero_add, ← Int.mul_assoc, Int.mul_comm (B : Int)]
theorem shift_val {l D : List Int} {m s q n : Nat} (hm : m < 4294967296) (hl : D.length = l.length) (hg : Dig B32 D) (hdl : Dig B32 l) (hv : val B32 D + (B32 : Int) ^ l.length * m = val B32 l * 2 ^ s) (hq : (n : Int) / 32 = q) (hs : (n : Int) % 32 = s) :
    Dig B32 ((List.replicate q 0 ++ D) ++ [(m : Int)]) ∧ (val B32 ((List.replicate q 0 ++ D) ++ [(m : Int)])).toNat = (val B32 l).toNat * 2 ^ n := by
  refine ⟨dig_append.2 ⟨dig_append.2 ⟨dig_rep b32 q, hg⟩, dig_one (by omega) (by show _ < ((4294967296 : Nat) : Int); omega)⟩, ?_⟩
  have e : val B32 ((List.replicate q 0 ++ D) ++ [(m : Int)]) = val B32 l * 2 ^ n := by
    rw [List.append_assoc, val_zeros, val_snoc, hl, hv]
    have en : n = 32 * q + s := by omega
    rw [en, Int.pow_add, Int.pow_mul]
    show (4294967296 : Int) ^ q * _ = _ * ((4294967296 : Int) ^ q * _)
    rw [← Int.mul_assoc, Int.mul_comm _ (val B32 l), Int.mul_assoc]
  rw [e]
  obtain ⟨v, hv2⟩ := Int.eq_ofNat_of_zero_le (val_nonneg hdl)
  rw [hv2]
  have : (v : Int) * 2 ^ n = ((v * 2 ^ n : Nat) : Int) := by push_cast; rfl
  rw [this, Int.toNat_natCast, Int.toNat_natCast]

set_option maxHeartbeats 4000000 in
set_option maxRecDepth 100000 in
theorem shift_walk (A0 : Option Addr) (c0 : Nat) (l : List Int) (n q s : Nat) (w : World) (hr : Aside0 (Kd.C (Kd.int .u32) w A0 l.length l)) (hlen : l.length ≤ 1000) (hn : n ≤ 10000) (hq : (n : Int) / 32 = q) (hs : (n : Int) % 32 = s) (hd : Aside0 (Dig B32 l)) (hl0 : 0 < l.length) :
    Calls Tryd.prog 80 #[.slice A0 l.length c0, .int .i64 n] w fun e w' => ∃ v : Value, e = .returned v ∧ Kd.R (Kd.int .u32) 57 w' w.heap.size (fun _ => True) v (wds B32 ((val B32 l).toNat * 2 ^ n)) ∧ Below w.heap.size w w' := by
  have hq1 : q ≤ 400 := by omega
  have hs1 : s < 32 := by omega
  have hmk := fun (W : World) (m : Nat) (hqm : q ≤ m) (hm : m ≤ 2000) => run_maken (P := Tryd.prog) (W := W) (t := 56) (e := 57) (z := .int .u32 0) (bytes := 4) rfl q m hqm Tryd.underlying56 info57 (by omega) (by omega)
  have hl1 : (l.length : Int) ≠ 0 := by omega
  have hl2 : ((l.length : Int) == 0) = false := by rw [beq_eq_false_iff_ne]; exact hl1
  have hm1 : ∀ W : World, (Instr.makeSlice 56 (.int .i64 (q : Int)) (.int .i64 ((q : Int) + (l.length : Int) + 1))).run Tryd.prog W = .ok (.slice (some ⟨W.heap.size, 0, none⟩) q (q + l.length + 1)) (W.alloc (.cells (madeCells #[.int .u32 0] (q + l.length + 1)) 57)) := fun W => by
    have h := hmk W (q + l.length + 1) (by omega) (by omega)
    push_cast at h
    exact h
  have HR0 := Aside0.mk (row_maken w .u32 57 q (q + l.length + 1) (by omega) (by omega))
  clear hmk hl1
  go_enter Tryd.func80, Tryd.ntmps80
  go_wp2
  go_loopw [5, 6, 23] (fun v low i wr => ∃ (j m : Nat) (D : List Int), j ≤ l.length ∧ i = .int .i64 j ∧ low = .int .u64 m ∧ m < 4294967296 ∧ Aside0 (m < 2 ^ s ∧ D.length = j ∧ Dig B32 D ∧ val B32 D + (B32 : Int) ^ j * m = val B32 (l.take j) * 2 ^ s) ∧ Aside0 (Kd.R (Kd.int .u32) 57 wr w.heap.size (fun _ => True) v (List.replicate q 0 ++ D)) ∧ Aside0 (Below w.heap.size w wr)) (fun _ _ i _ => l.length - (intOf i).toNat)
  case atStart => exact ⟨0, 0, [], by omega, rfl, rfl, by omega, ⟨Nat.pow_pos (by omega), rfl, dig_nil, by simp [val]⟩, ⟨by rw [List.append_nil]; exact HR0.out⟩, ⟨below_alloc (Below.refl _ _) _⟩⟩
  case round =>
    clear HR0 hm1
    obtain ⟨j, m, D, hj, rfl, rfl, hm, HI, HO, HB⟩ := hrel
    by_cases hlt : j < l.length
    · obtain ⟨ad, he, hc⟩ := Kd.at_int (Kd.C_below hr.out HB.out) (j : Int) (by omega) (by omega)
      subst he
      have hx := hd.out (rd l j) (by rw [show rd l (j : Int) = l[j] by show l.getD j 0 = _; rw [List.getD_eq_getElem?_getD, List.getElem?_eq_getElem hlt]; rfl]; exact List.getElem_mem hlt)
      obtain ⟨x, hxe⟩ : ∃ x : Nat, rd l j = x := Int.eq_ofNat_of_zero_le hx.1
      have hx1 : x < 4294967296 := by have h : (x : Int) < 4294967296 := by rw [← hxe]; exact hx.2
                                      omega
      rw [hxe] at hc
      have hc' : wr.cell? (ad.add j) = some (.int .u32 x) := hc
      have HXE := Aside0.mk hxe
      have HS := Aside0.mk (shift_step hlt HXE.out hx1 HI.out.1 HI.out.2.1 HI.out.2.2.1 HI.out.2.2.2)
      obtain ⟨y, hy⟩ : ∃ y : Nat, x * 2 ^ s + m = y := ⟨_, rfl⟩
      rw [hy] at HS
      have ey : Go.bits .or .u64 (m : Int) (IntKind.u64.wrap ((x : Int) * 2 ^ s)) = (y : Int) := by rw [or_shift m x s HI.out.1 hs1 hx1, hy]
      have hy1 : y < 18446744073709551616 := by
        rw [← hy]
        have h2 : 2 ^ s ≤ 2 ^ 31 := Nat.pow_le_pow_right (by omega) (by omega)
        have h3 : x * 2 ^ s ≤ 4294967295 * 2 ^ 31 := Nat.mul_le_mul (by omega) h2
        omega
      have e1 : (y : Int) % 4294967296 = ((y % 4294967296 : Nat) : Int) := by omega
      have e2 : (y : Int) / 4294967296 = ((y / 4294967296 : Nat) : Int) := by omega
      have hs0 := HS.out
      rw [← e1] at hs0
      have HS := Aside0.mk hs0
      have HD := Aside0.mk HI.out.2.1
      clear hy HI hs0 e1 e2
      go_wp2_with ((with_reducible refine gate_builtin (b := .append) (xs := #[.tmp 34, .tmp 37]) rfl ?_); at_builtin; refine Kd.R_append (Kd.int .u32) (w0 := w) w.heap.size rfl (.tmp 34) (.tmp 37) 56 57 (.int .u32 0) 4 rfl Tryd.underlying56 info57 rfl (by decide) (by omega) u5 (List.replicate q 0 ++ D) ((y : Int) % 4294967296) [.int .u32 ((y : Int) % 4294967296)] (fun _ => True) (fun _ => False) rfl rfl ?aP (fun _ hk => hk.elim) ?aF ?aO ?aB ?aS ?aL ?_; (case aP => exact rfl); (case aB => exact HB.out); (case aF => exact (fun k hk => trivial)); (case aO => exact HO.out); (case aS => exact HB.out.size); (case aL => rw [List.length_append, List.length_replicate, HD.out]; omega); intro v125 w5 ho hb hg hat; rw [List.append_assoc] at ho; have n0_ := Aside0.mk (hb); have n1_ := Aside0.mk (ho); clear HB; clear HO; have HB := n0_; have HO := n1_; clear n0_ n1_; clear ho hb hg hat)
      go_roundw
      case rel => exact ⟨j + 1, y / 4294967296, _, by omega, by go_num, by go_num, by omega, HS, HO, HB⟩
      case measure => simp [intOf]; omega
    · obtain rfl : j = l.length := by omega
      have h1 := HI.out
      rw [List.take_length] at h1
      have HV := Aside0.mk (shift_val hm h1.2.1 h1.2.2.1 hd.out h1.2.2.2 hq hs)
      have HD := Aside0.mk h1.2.1
      obtain ⟨k, hk⟩ := trim_val _ HV.out.1 (by simp only [List.length_append, List.length_replicate, List.length_singleton, HD.out]; omega)
      rw [HV.out.2] at hk
      have HK := Aside0.mk hk
      clear h1 hk HI hq hs
      go_wp2_with (first
        | ((with_reducible refine gate_builtin (b := .append) (xs := #[.tmp 42, .tmp 45]) rfl ?_); at_builtin; refine Kd.R_append (Kd.int .u32) (w0 := w) w.heap.size rfl (.tmp 42) (.tmp 45) 56 57 (.int .u32 0) 4 rfl Tryd.underlying56 info57 rfl (by decide) (by omega) u5 (List.replicate q 0 ++ D) (m : Int) [.int .u32 (m : Int)] (fun _ => True) (fun _ => False) rfl rfl ?aP (fun _ hk => hk.elim) ?aF ?aO ?aB ?aS ?aL ?_; (case aP => exact rfl); (case aB => exact HB.out); (case aF => exact (fun k hk => trivial)); (case aO => exact HO.out); (case aS => exact HB.out.size); (case aL => rw [List.length_append, List.length_replicate, HD.out]; omega); intro v125 w5 ho hb hg hat; have n0_ := Aside0.mk (hb); have n1_ := Aside0.mk (ho); clear HB; clear HO; have HB := n0_; have HO := n1_; clear n0_ n1_; clear ho hb hg hat)
        | (go_at_call 43; (with_reducible refine (number_nat_trim.calls k _ _ _ _ w _ HB.out HO.out HK.out).mono ?_); rintro e w6 ⟨v6, rfl, k1, k2, k3⟩; have HO6 := Aside0.mk k1; have HB6 := Aside0.mk k2; clear k1 k2 k3))
      go_ret
      exact ⟨_, rfl, Kd.R_mono HO6.out (fun _ _ => trivial), HB6.out⟩

open Classical in
noncomputable def number_shift.f (k : Nat) (l0 : List Int) (n : Int) : Option (List Int) :=
  if Dig B32 l0 ∧ l0.length ≤ 1000 ∧ 0 ≤ n ∧ n ≤ 10000 then some (if l0 = [] then [] else wds B32 ((val B32 l0).toNat * 2 ^ n.toNat)) else none
theorem number_shift.mono : ∀ a0 a1 k, LeO (number_shift.f k a0 a1) (number_shift.f (k + 1) a0 a1) := fun _ _ _ => LeO.refl _
theorem number_shift.calls (k : Nat) (A0 : Option Addr) (c0 : Nat) (l0 : List Int) (a1 : Int) (r : List Int) (w : World) (hr0 : Kd.C (Kd.int .u32) w A0 l0.length l0) (hc0 : l0.length ≤ c0) (h : number_shift.f k l0 a1 = some r) :
    Calls Tryd.prog 80 #[.slice A0 l0.length c0, .int .i64 a1] w fun e w' => ∃ v0_ : Value, e = .returned (v0_) ∧ Kd.R (Kd.int .u32) 57 w' w.heap.size (fun _ => True) v0_ r ∧ Below w.heap.size w w' := by
  unfold number_shift.f at h
  split at h
  · rename_i hc
    obtain ⟨h1, h2, h3, h4⟩ := hc
    cases h
    obtain ⟨n, rfl⟩ := Int.eq_ofNat_of_zero_le h3
    by_cases he : l0 = []
    · subst he
      rw [if_pos rfl]
      go_enter Tryd.func80, Tryd.ntmps80
      go_wp2
      go_ret
      exact ⟨_, rfl, Kd.R_nil _ _ _ _ _, Below.refl _ _⟩
    · rw [if_neg he, Int.toNat_natCast]
      exact shift_walk A0 c0 l0 n (n / 32) (n % 32) w ⟨hr0⟩ h2 (by omega) (by omega) (by omega) ⟨h1⟩ (List.length_pos_iff.2 he)
  · cases h

end Go.Proofs.YtnkpfaoklkapdaaDoor.Print
