/- Contract of number.plus, told by its value. -/
import Derived.Test.YtnkpfaoklkapdaaDoorExtB
import Derived.Test.YtnkpfaoklkapdaaDoorNumL
import Derived.Test.YtnkpfaoklkapdaaDoorPrint2
namespace Go.Proofs.YtnkpfaoklkapdaaDoor.Print
open Go.RowKit Go.Proofs.YtnkpfaoklkapdaaDoorW.PrintWords Go.Proofs.YtnkpfaoklkapdaaDoorW.PrintLast Go.Proofs.YtnkpfaoklkapdaaDoorW.PrintMore
open Go.Proofs.YtnkpfaoklkapdaaDoor.NumP
set_option linter.unusedVariables false
set_option linter.unusedSimpArgs false

theorem rd_beyond {l : List Int} {i : Nat} (h : l.length ≤ i) : rd l i = 0 := by
  show l.getD i 0 = 0
  rw [List.getD_eq_getElem?_getD, List.getElem?_eq_none h]; rfl
theorem rd_any {l : List Int} (hd : Dig B32 l) (i : Nat) : ∃ x : Nat, rd l i = x ∧ x < 4294967296 := by
  by_cases h : i < l.length
  · have hx := rd_dig hd h
    obtain ⟨x, hx2⟩ := Int.eq_ofNat_of_zero_le hx.1
    refine ⟨x, hx2, ?_⟩
    have h2 : (x : Int) < 4294967296 := by rw [← hx2]; exact hx.2
    omega
  · exact ⟨0, rd_beyond (by omega), by omega⟩
theorem val_take' {B : Nat} {l : List Int} (i : Nat) : val B (l.take (i + 1)) = val B (l.take i) + (B : Int) ^ i * rd l i := by
  by_cases h : i < l.length
  · exact val_take h
  · rw [take_all (by omega), take_all (by omega), rd_beyond (by omega), Int.mul_zero, Int.add_zero]
theorem word_E {l : List Int} (hd : Dig B32 l) (i : Nat) {x : Nat} (hx : rd l i = x) (hx1 : x < 4294967296) : number_nat_word.f l (i : Int) = some (x : Int) := by
  unfold number_nat_word.f
  by_cases h : i < l.length
  · rw [if_pos (by omega), if_pos (by omega), hx, u64_id (by omega) (by omega)]
  · rw [if_neg (by omega)]
    rw [rd_beyond (by omega)] at hx
    rw [← hx]

theorem plus_step {a b D : List Int} {j m x y z : Nat} (hl : D.length = j) (hg : Dig B32 D) (hv : val B32 D + (B32 : Int) ^ j * m = val B32 (a.take j) + val B32 (b.take j)) (hx : rd a j = x) (hy : rd b j = y) (hz : m + (x + y) = z) :
    (D ++ [(z : Int) % 4294967296]).length = j + 1 ∧ Dig B32 (D ++ [(z : Int) % 4294967296]) ∧ val B32 (D ++ [(z : Int) % 4294967296]) + (B32 : Int) ^ (j + 1) * ((z / 4294967296 : Nat) : Int) = val B32 (a.take (j + 1)) + val B32 (b.take (j + 1)) := by
  refine ⟨by simp [hl], dig_append.2 ⟨hg, dig_one (by omega) (by show _ < ((4294967296 : Nat) : Int); omega)⟩, ?_⟩
  rw [val_take', val_take', val_snoc, hl, hx, hy, Int.pow_succ]
  have e : (z : Int) = (z : Int) % 4294967296 + 4294967296 * ((z / 4294967296 : Nat) : Int) := by omega
  have e2 : (z : Int) = m + (x + y) := by omega
  have e3 : (B32 : Int) ^ j * (z : Int) = (B32 : Int) ^ j * ((z : Int) % 4294967296) + (B32 : Int) ^ j * (4294967296 * ((z / 4294967296 : Nat) : Int)) := by rw [← Int.mul_add, ← e]
  have e4 : (B32 : Int) ^ j * (z : Int) = (B32 : Int) ^ j * m + ((B32 : Int) ^ j * x + (B32 : Int) ^ j * y) := by rw [e2, Int.mul_add, Int.mul_add]
  rw [Int.mul_assoc]
  show _ + _ + (B32 : Int) ^ j * (4294967296 * _) = _
  omega
theorem plus_val {a b D : List Int} {m n : Nat} (hm : m < 4294967296) (hl : D.length = n) (hg : Dig B32 D) (hv : val B32 D + (B32 : Int) ^ n * m = val B32 (a.take n) + val B32 (b.take n)) (ha : a.length ≤ n) (hb : b.length ≤ n) :
    Dig B32 (D ++ [(m : Int)]) ∧ val B32 (D ++ [(m : Int)]) = val B32 a + val B32 b := by
  refine ⟨dig_append.2 ⟨hg, dig_one (by omega) (by show _ < ((4294967296 : Nat) : Int); omega)⟩, ?_⟩
  rw [val_snoc, hl, hv, take_all ha, take_all hb]

set_option maxHeartbeats 4000000 in
set_option maxRecDepth 100000 in
theorem plus_walk (A0 : Option Addr) (c0 : Nat) (a : List Int) (A1 : Option Addr) (c1 : Nat) (b : List Int) (n : Nat) (w : World) (hr : Aside0 (Kd.C (Kd.int .u32) w A0 a.length a)) (hc0 : Aside0 (a.length ≤ c0)) (hr1 : Aside0 (Kd.C (Kd.int .u32) w A1 b.length b)) (hc1 : Aside0 (b.length ≤ c1)) (hn : max (a.length : Int) (b.length : Int) = (n : Int)) (hn1 : n ≤ 1000) (hd : Aside0 (Dig B32 a)) (hd1 : Aside0 (Dig B32 b)) :
    Calls Tryd.prog 54 #[.slice A0 a.length c0, .slice A1 b.length c1] w fun e w' => ∃ v : Value, e = .returned v ∧ Kd.R (Kd.int .u32) 57 w' w.heap.size (fun _ => True) v (wds B32 (val B32 a + val B32 b).toNat) ∧ Below w.heap.size w w' := by
  have hl0 := Aside0.mk (show a.length ≤ n ∧ b.length ≤ n by omega)
  have hm1 : ∀ W : World, (Instr.makeSlice 56 (.int .i64 0) (.int .i64 ((n : Int) + 1))).run Tryd.prog W = .ok (.slice (some ⟨W.heap.size, 0, none⟩) 0 (n + 1)) (W.alloc (.cells (madeCells #[.int .u32 0] (n + 1)) 57)) := fun W => by
    have h := run_maken (P := Tryd.prog) (W := W) (t := 56) (e := 57) (z := .int .u32 0) (bytes := 4) rfl 0 (n + 1) (by omega) Tryd.underlying56 info57 (by omega) (by omega)
    push_cast at h
    exact h
  have HR0 := Aside0.mk (row_maken w .u32 57 0 (n + 1) (by omega) (by omega))
  go_enter Tryd.func54, Tryd.ntmps54
  go_wp2
  go_loopw [6, 7, 18] (fun v low i wr => ∃ (j m : Nat) (D : List Int), j ≤ n ∧ i = .int .i64 j ∧ low = .int .u64 m ∧ m ≤ 1 ∧ Aside0 (D.length = j ∧ Dig B32 D ∧ val B32 D + (B32 : Int) ^ j * m = val B32 (a.take j) + val B32 (b.take j)) ∧ Aside0 (Kd.R (Kd.int .u32) 57 wr w.heap.size (fun _ => True) v D) ∧ Aside0 (Below w.heap.size w wr)) (fun _ _ i _ => n - (intOf i).toNat)
  case atStart => exact ⟨0, 0, [], by omega, rfl, rfl, by omega, ⟨rfl, dig_nil, by simp [val]⟩, ⟨HR0.out⟩, ⟨below_alloc (Below.refl _ _) _⟩⟩
  case round =>
    clear HR0 hm1
    obtain ⟨j, m, D, hj, rfl, rfl, hm, HI, HO, HB⟩ := hrel
    by_cases hlt : j < n
    · obtain ⟨x, hx, hx1⟩ := rd_any hd.out j
      obtain ⟨y, hy, hy1⟩ := rd_any hd1.out j
      have W0 := Aside0.mk (word_E hd.out j hx hx1)
      have W1 := Aside0.mk (word_E hd1.out j hy hy1)
      obtain ⟨u, hu⟩ : ∃ u : Nat, x + y = u := ⟨_, rfl⟩
      obtain ⟨z, hz⟩ : ∃ z : Nat, m + u = z := ⟨_, rfl⟩
      have e1 : IntKind.u64.wrap ((x : Int) + (y : Int)) = (u : Int) := by rw [u64_id (by omega) (by omega)]; omega
      have e2 : IntKind.u64.wrap ((m : Int) + (u : Int)) = (z : Int) := by rw [u64_id (by omega) (by omega)]; omega
      have hz1 : z < 18446744073709551616 := by omega
      have hz2 : z / 4294967296 ≤ 1 := by omega
      have HS := Aside0.mk (plus_step HI.out.1 HI.out.2.1 HI.out.2.2 hx hy (by omega : m + (x + y) = z))
      have HD := Aside0.mk HI.out.1
      clear hx hy hu hz HI
      go_wp2_with (first
        | (go_at_call_of 45 (Value.slice A0 a.length c0); (with_reducible refine (number_nat_word.calls A0 c0 a _ _ _ (Kd.C_below hr.out HB.out) hc0.out W0.out).mono ?_); rintro e w6 ⟨rfl, ⟨nd, rfl⟩⟩)
        | (go_at_call_of 45 (Value.slice A1 b.length c1); (with_reducible refine (number_nat_word.calls A1 c1 b _ _ _ (Kd.C_below hr1.out (pw_below_drewN HB.out _)) hc1.out W1.out).mono ?_); rintro e w6 ⟨rfl, ⟨nd, rfl⟩⟩)
        | ((with_reducible refine gate_builtin (b := .append) (xs := #[.tmp 30, .tmp 33]) rfl ?_); at_builtin; refine Kd.R_append (Kd.int .u32) (w0 := w) w.heap.size rfl (.tmp 30) (.tmp 33) 56 57 (.int .u32 0) 4 rfl Tryd.underlying56 info57 rfl (by decide) (by omega) u6 D ((z : Int) % 4294967296) [.int .u32 ((z : Int) % 4294967296)] (fun _ => True) (fun _ => False) rfl rfl ?aP (fun _ hk => hk.elim) ?aF ?aO ?aB ?aS ?aL ?_; (case aP => exact rfl); (case aB => exact (pw_below_drewN HB.out _)); (case aF => exact (fun k hk => trivial)); (case aO => exact (Kd.R_drewN HO.out _)); (case aS => exact (pw_below_drewN HB.out _).size); (case aL => rw [HD.out]; omega); intro v125 w5 ho hb hg hat; have n0_ := Aside0.mk (hb); have n1_ := Aside0.mk (ho); clear HB; clear HO; have HB := n0_; have HO := n1_; clear n0_ n1_; clear ho hb hg hat))
      go_roundw
      case rel => exact ⟨j + 1, z / 4294967296, _, by omega, by go_num, by go_num, by omega, HS, HO, HB⟩
      case measure => simp [intOf]; omega
    · obtain rfl : j = n := by omega
      have HV := Aside0.mk (plus_val (by omega) HI.out.1 HI.out.2.1 HI.out.2.2 hl0.out.1 hl0.out.2)
      have HD := Aside0.mk HI.out.1
      obtain ⟨k, hk⟩ := trim_val _ HV.out.1 (by simp only [List.length_append, List.length_singleton, HD.out]; omega)
      rw [HV.out.2] at hk
      have HK := Aside0.mk hk
      clear hk HI
      go_wp2_with (first
        | ((with_reducible refine gate_builtin (b := .append) (xs := #[.tmp 38, .tmp 41]) rfl ?_); at_builtin; refine Kd.R_append (Kd.int .u32) (w0 := w) w.heap.size rfl (.tmp 38) (.tmp 41) 56 57 (.int .u32 0) 4 rfl Tryd.underlying56 info57 rfl (by decide) (by omega) u6 D (m : Int) [.int .u32 (m : Int)] (fun _ => True) (fun _ => False) rfl rfl ?aP (fun _ hk => hk.elim) ?aF ?aO ?aB ?aS ?aL ?_; (case aP => exact rfl); (case aB => exact HB.out); (case aF => exact (fun k hk => trivial)); (case aO => exact HO.out); (case aS => exact HB.out.size); (case aL => rw [HD.out]; omega); intro v125 w5 ho hb hg hat; have n0_ := Aside0.mk (hb); have n1_ := Aside0.mk (ho); clear HB; clear HO; have HB := n0_; have HO := n1_; clear n0_ n1_; clear ho hb hg hat)
        | (go_at_call 43; (with_reducible refine (number_nat_trim.calls k _ _ _ _ w _ HB.out HO.out HK.out).mono ?_); rintro e w6 ⟨v6, rfl, k1, k2, k3⟩; have HO6 := Aside0.mk k1; have HB6 := Aside0.mk k2; clear k1 k2 k3))
      go_ret
      exact ⟨_, rfl, Kd.R_mono HO6.out (fun _ _ => trivial), HB6.out⟩

open Classical in
noncomputable def number_plus.f (l0 l1 : List Int) : Option (List Int) :=
  if Dig B32 l0 ∧ Dig B32 l1 ∧ l0.length ≤ 1000 ∧ l1.length ≤ 1000 then some (wds B32 (val B32 l0 + val B32 l1).toNat) else none
theorem number_plus.calls (A0 : Option Addr) (c0 : Nat) (l0 : List Int) (A1 : Option Addr) (c1 : Nat) (l1 : List Int) (r : List Int) (w : World) (hr0 : Kd.C (Kd.int .u32) w A0 l0.length l0) (hc0 : l0.length ≤ c0) (hr1 : Kd.C (Kd.int .u32) w A1 l1.length l1) (hc1 : l1.length ≤ c1) (h : number_plus.f l0 l1 = some r) :
    Calls Tryd.prog 54 #[.slice A0 l0.length c0, .slice A1 l1.length c1] w fun e w' => ∃ v0_ : Value, e = .returned (v0_) ∧ Kd.R (Kd.int .u32) 57 w' w.heap.size (fun _ => True) v0_ r ∧ Below w.heap.size w w' := by
  unfold number_plus.f at h
  split at h
  · rename_i hc
    obtain ⟨h1, h2, h3, h4⟩ := hc
    cases h
    exact plus_walk A0 c0 l0 A1 c1 l1 (max l0.length l1.length) w ⟨hr0⟩ ⟨hc0⟩ ⟨hr1⟩ ⟨hc1⟩ (by omega) (by omega) ⟨h1⟩ ⟨h2⟩
  · cases h
theorem plus_E (a b : Nat) (ha : (wds B32 a).length ≤ 1000) (hb : (wds B32 b).length ≤ 1000) : number_plus.f (wds B32 a) (wds B32 b) = some (wds B32 (a + b)) := by
  unfold number_plus.f
  rw [if_pos ⟨dig_wds b32 a, dig_wds b32 b, ha, hb⟩, val_wds b32, val_wds b32]
  congr 2

end Go.Proofs.YtnkpfaoklkapdaaDoor.Print
