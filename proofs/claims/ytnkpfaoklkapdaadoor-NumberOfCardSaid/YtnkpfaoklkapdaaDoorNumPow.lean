/- number.Power, walked by values. -/
import Derived.Test.YtnkpfaoklkapdaaDoorNumX
namespace Go.Proofs.YtnkpfaoklkapdaaDoor.Print
open Go.RowKit Go.Proofs.YtnkpfaoklkapdaaDoorW.PrintWords Go.Proofs.YtnkpfaoklkapdaaDoorW.PrintLast Go.Proofs.YtnkpfaoklkapdaaDoorW.PrintMore
open Go.Proofs.YtnkpfaoklkapdaaDoor.NumP
attribute [local go_sem] max2_int min2_int max_two min_two
set_option linter.unusedVariables false
set_option linter.unusedSimpArgs false
set_option exponentiation.threshold 2000

/-- The factors that are left, from a product on; none: it is too large. -/
def powL (a : Nat) : Nat → Nat → Option Nat
  | 0, p => some p
  | k + 1, p => if bl (p * a) > 512 then none else powL a k (p * a)
def powN (a n : Nat) : Nat := if bl a ≤ 1 then (if n ≤ 2 - n % 2 then n else 2 - n % 2) else n
def powA (s : Bool) (a n : Nat) : Bool × List Int × Int :=
  if 1 < bl a ∧ 512 < n then (false, [], 7) else
  match powL a (powN a n) 1 with
  | none => (false, [], 7)
  | some p => sgn (s && decide (powN a n % 2 = 1)) p
theorem IR_nil (w' : World) : AnInt w' (.agg #[.bool false, .slice none 0 0]) false [] := ⟨none, 0, rfl, Kd.C_nil _ _, Nat.le_refl _⟩
theorem bl_mul {a b : Nat} (ha : bl a ≤ 512) (hb : bl b ≤ 512) : bl (a * b) ≤ 1024 := by
  apply (bl_le _ 1024).2
  have h1 := (bl_le _ 512).1 ha
  have h2 := (bl_le _ 512).1 hb
  rw [show (1024 : Nat) = 512 + 512 from rfl, Nat.pow_add]
  exact Nat.mul_lt_mul'' h1 h2

set_option maxHeartbeats 8000000 in
set_option maxRecDepth 100000 in
theorem Power.full (s : Bool) (a n : Nat) (A : Option Addr) (c : Nat) (w : World) (ga : Good s a) (hA : IR w A c (dg a)) (h1 : 1 < bl a) (h2 : 512 < n) (hn : n ≤ 9223372036854775807) :
    Calls Tryd.prog 17 #[.agg #[.bool s, .slice A (dg a).length c], .int .i64 (n : Int)] w fun e w' => ∃ v, e = .returned (.tuple #[v, .int .i64 (powA s a n).2.2]) ∧ AnInt w' v (powA s a n).1 (powA s a n).2.1 ∧ Below w.heap.size w w' := by
  have HP := Aside0.mk (show powA s a n = (false, [], 7) by unfold powA; rw [if_pos ⟨h1, h2⟩])
  have hu24 := Tryd.underlying24
  have hva := valid_good ga
  have Ba := Aside0.mk (good_bl ga)
  have E := Aside0.mk (Env.start1 hA)
  clear hA ga
  have t1 : decide ((bl a : Int) > 1) = true := decide_eq_true (by omega)
  have t2 : decide (1 < (bl a : Int)) = true := decide_eq_true (by omega)
  have t3 : decide (512 < (n : Int)) = true := decide_eq_true (by omega)
  have t4 : decide ((n : Int) < 0) = false := decide_eq_false (by omega)
  go_enter Tryd.func17, Tryd.ntmps17
  go_wp2_with (first
    | ((with_reducible refine gate_dst (N := 2) rfl ?_); refine box_event ?hg (N := 2) ?hd (cs := #[.bool s, .slice A (dg a).length c]) (t := 24) ?hr ?_; (case hd => rfl); (case hg => rfl); (case hr => first | (go_simp; done) | (go_simp; rfl)); intro g0 hg wb hbox hb; have E' := Aside0.mk (E.out.newBox hg hbox hb); clear E hg hbox hb; have E := E'; clear E')
    | ((with_reducible refine gate_dst (N := 4) rfl ?_); refine box_event ?hg (N := 4) ?hd (cs := #[.bool false, .slice none 0 0]) (t := 24) ?hr ?_; (case hd => rfl); (case hg => rfl); (case hr => first | (go_simp; done) | (go_simp; rfl)); intro g1 hg wb hbox hb; have E' := Aside0.mk (E.out.newBox hg hbox hb); clear E hg hbox hb; have E := E'; clear E'; obtain ⟨p1, p2, p3, p4⟩ := E.out.two 0 rfl; obtain ⟨q1, q2, q3, q4⟩ := E.out.two 1 rfl)
    | (go_at_call 33; refine (validV s (dg a) (E.out.at_ 0 rfl)).mono ?_; rintro e w2 ⟨rfl, hb⟩; have E' := Aside0.mk (E.out.call hb); clear E hb; have E := E'; clear E'; clear p1 p2 p3 p4; clear q1 q2 q3 q4; obtain ⟨p1, p2, p3, p4⟩ := E.out.two 0 rfl; obtain ⟨q1, q2, q3, q4⟩ := E.out.two 1 rfl)
    | (go_at_call 44; refine (absV s a (E.out.at_ 0 rfl) Ba.out).mono ?_; rintro e w3 ⟨v3, rfl, hR, hb⟩; obtain ⟨A3, c3, rfl, E1⟩ := E.out.addR hR hb; have E' := Aside0.mk E1; clear E E1 hR hb; have E := E'; clear E'; clear p1 p2 p3 p4; clear q1 q2 q3 q4; obtain ⟨p1, p2, p3, p4⟩ := E.out.two 0 rfl; obtain ⟨q1, q2, q3, q4⟩ := E.out.two 1 rfl)
    | (go_at_call 47; refine (bitLenV a (E.out.at_ 1 rfl) (by have := Ba.out; omega)).mono ?_; rintro e w4 ⟨rfl, hb⟩; have E' := Aside0.mk (E.out.call hb); clear E hb; have E := E'; clear E'; clear p1 p2 p3 p4; clear q1 q2 q3 q4; obtain ⟨p1, p2, p3, p4⟩ := E.out.two 0 rfl; obtain ⟨q1, q2, q3, q4⟩ := E.out.two 1 rfl))
  have EF := E.out.set2 1 rfl rfl (.bool false) (.slice none 0 0) rfl
  have k1 := EF.blk2 1 g1 (.bool false) (.slice none 0 0) 24 rfl
  refine bodyPost_ret (results_list (rs := [.cell 4 24, .tmp 5]) rfl (by simp) (.cell g1 24 #[.bool false, .slice none 0 0] (0, 0) _ rfl k1 Tryd.underlying24 rfl (by kernel_rfl) (.tmp .nil))) rfl ?_
  rw [HP.out]
  exact ⟨_, rfl, IR_nil _, EF.below⟩
set_option maxHeartbeats 8000000 in
set_option maxRecDepth 100000 in
theorem Power.big (s : Bool) (a n : Nat) (A : Option Addr) (c : Nat) (w : World) (ga : Good s a) (hA : IR w A c (dg a)) (h1 : 1 < bl a) (h2 : n ≤ 512) :
    Calls Tryd.prog 17 #[.agg #[.bool s, .slice A (dg a).length c], .int .i64 (n : Int)] w fun e w' => ∃ v, e = .returned (.tuple #[v, .int .i64 (powA s a n).2.2]) ∧ AnInt w' v (powA s a n).1 (powA s a n).2.1 ∧ Below w.heap.size w w' := by
  have HP := Aside0.mk (show powA s a n = (match powL a n 1 with | none => (false, [], 7) | some p => sgn (s && decide (n % 2 = 1)) p) by unfold powA powN; rw [if_neg (by omega), if_neg (by omega)])
  have hu24 := Tryd.underlying24
  have hva := valid_good ga
  have Ba := Aside0.mk (good_bl ga)
  have E := Aside0.mk (Env.start1 hA)
  clear hA ga
  have t2 : decide (1 < (bl a : Int)) = true := decide_eq_true (by omega)
  have t3 : decide (512 < (n : Int)) = false := decide_eq_false (by omega)
  have t4 : decide ((n : Int) < 0) = false := decide_eq_false (by omega)
  have t5 : decide ((bl a : Int) ≤ 1) = false := decide_eq_false (by omega)
  go_enter Tryd.func17, Tryd.ntmps17
  go_wp2_with (first
    | ((with_reducible refine gate_dst (N := 2) rfl ?_); refine box_event ?hg (N := 2) ?hd (cs := #[.bool s, .slice A (dg a).length c]) (t := 24) ?hr ?_; (case hd => rfl); (case hg => rfl); (case hr => first | (go_simp; done) | (go_simp; rfl)); intro g0 hg wb hbox hb; have E' := Aside0.mk (E.out.newBox hg hbox hb); clear E hg hbox hb; have E := E'; clear E')
    | ((with_reducible refine gate_dst (N := 4) rfl ?_); refine box_event ?hg (N := 4) ?hd (cs := #[.bool false, .slice none 0 0]) (t := 24) ?hr ?_; (case hd => rfl); (case hg => rfl); (case hr => first | (go_simp; done) | (go_simp; rfl)); intro g1 hg wb hbox hb; have E' := Aside0.mk (E.out.newBox hg hbox hb); clear E hg hbox hb; have E := E'; clear E'; obtain ⟨p1, p2, p3, p4⟩ := E.out.two 0 rfl; obtain ⟨q1, q2, q3, q4⟩ := E.out.two 1 rfl)
    | (go_at_call 33; refine (validV s (dg a) (E.out.at_ 0 rfl)).mono ?_; rintro e w2 ⟨rfl, hb⟩; have E' := Aside0.mk (E.out.call hb); clear E hb; have E := E'; clear E'; clear p1 p2 p3 p4; clear q1 q2 q3 q4; obtain ⟨p1, p2, p3, p4⟩ := E.out.two 0 rfl; obtain ⟨q1, q2, q3, q4⟩ := E.out.two 1 rfl)
    | (go_at_call 44; refine (absV s a (E.out.at_ 0 rfl) Ba.out).mono ?_; rintro e w3 ⟨v3, rfl, hR, hb⟩; obtain ⟨A3, c3, rfl, E1⟩ := E.out.addR hR hb; have E' := Aside0.mk E1; clear E E1 hR hb; have E := E'; clear E'; clear p1 p2 p3 p4; clear q1 q2 q3 q4; obtain ⟨p1, p2, p3, p4⟩ := E.out.two 0 rfl; obtain ⟨q1, q2, q3, q4⟩ := E.out.two 1 rfl)
    | (go_at_call 47; refine (bitLenV a (E.out.at_ 1 rfl) (by have := Ba.out; omega)).mono ?_; rintro e w4 ⟨rfl, hb⟩; have E' := Aside0.mk (E.out.call hb); clear E hb; have E := E'; clear E'; clear p1 p2 p3 p4; clear q1 q2 q3 q4; obtain ⟨p1, p2, p3, p4⟩ := E.out.two 0 rfl; obtain ⟨q1, q2, q3, q4⟩ := E.out.two 1 rfl)
    | ((with_reducible refine gate_dst (N := 34) rfl ?_); refine Kd.R_lit (Kd.int .u32) _ 57 ?hg (N := 34) ?hd (xs := ([1] : List Int)) (inner := [.int .u32 1]) (ok := fun _ => True) (okp := fun _ => True) ?hr ?hp (fun _ hk => hk) trivial (Below.refl _ _) (Nat.le_refl _) (by simp) ?_; (case hd => rfl); (case hg => rfl); (case hr => first | (go_simp; done) | (go_simp; rfl)); (case hp => exact (Reps.one (show Kd.M (Kd.int .u32) _ _ _ 1 [.int .u32 1] from rfl) (Reps.none _ _))); intro v5 w5 hR hb hg_ hnew_; rw [← one_wds] at hR; obtain ⟨A5, c5, rfl, E1⟩ := E.out.addR hR hb; have E' := Aside0.mk E1; clear E E1 hR hb hg_ hnew_; have E := E'; clear E'; clear p1 p2 p3 p4; clear q1 q2 q3 q4; obtain ⟨p1, p2, p3, p4⟩ := E.out.two 0 rfl; obtain ⟨q1, q2, q3, q4⟩ := E.out.two 1 rfl))
  go_loopw [7, 36] (fun v7 v36 wr => ∃ (j p : Nat) (Ap : Option Addr) (cp : Nat), j ≤ n ∧ v36 = .int .i64 (j : Int) ∧ v7 = .slice Ap (wds B32 p).length cp ∧ Aside0 (bl p ≤ 512 ∧ powL a n 1 = powL a (n - j) p) ∧ Aside0 (Env w wr [⟨.u8, A, c, dg a⟩, ⟨.u32, A3, c3, wds B32 a⟩, ⟨.u32, Ap, cp, wds B32 p⟩] [⟨g0, #[.bool s, .slice A (dg a).length c], 24⟩, ⟨g1, #[.bool false, .slice none 0 0], 24⟩])) (fun _ i _ => n - (intOf i).toNat)
  case atStart => exact ⟨0, 1, A5, c5, Nat.zero_le _, rfl, rfl, ⟨⟨Nat.le_trans bl_one (by omega), rfl⟩⟩, ⟨E.out.sub [0, 1, 2]⟩⟩
  case round =>
    clear p1 p2 p3 p4 q1 q2 q3 q4 E
    obtain ⟨j, p, Ap, cp, hj, rfl, rfl, HI, E⟩ := hrel
    obtain ⟨p1, p2, p3, p4⟩ := E.out.two 0 rfl
    obtain ⟨q1, q2, q3, q4⟩ := E.out.two 1 rfl
    by_cases hlt : j < n
    · have Bp := Aside0.mk HI.out.1
      have Bm := Aside0.mk (bl_mul HI.out.1 Ba.out)
      by_cases hf : 512 < bl (p * a)
      · have HP2 := Aside0.mk (show powA s a n = (false, [], 7) by rw [HP.out, HI.out.2, show n - j = (n - (j + 1)) + 1 by omega, powL, if_pos hf])
        have t1 : decide (512 < (bl (p * a) : Int)) = true := decide_eq_true (by omega)
        clear HP HI hf
        go_wp2_with (first
          | (go_at_call 48; refine (timesV p a (E.out.at_ 2 rfl) (E.out.at_ 1 rfl) (by have := Bp.out; omega) (by have := Ba.out; omega)).mono ?_; rintro e w6 ⟨v6, rfl, hR, hb⟩; obtain ⟨A6, c6, rfl, E1⟩ := E.out.addR hR hb; have E' := Aside0.mk E1; clear E E1 hR hb; have E := E'; clear E')
          | (go_at_call 47; refine (bitLenV (p * a) (E.out.at_ 3 rfl) (by have := Bm.out; omega)).mono ?_; rintro e w7 ⟨rfl, hb⟩; have E' := Aside0.mk (E.out.call hb); clear E hb; have E := E'; clear E'; clear p1 p2 p3 p4; clear q1 q2 q3 q4; obtain ⟨p1, p2, p3, p4⟩ := E.out.two 0 rfl; obtain ⟨q1, q2, q3, q4⟩ := E.out.two 1 rfl))
        have EF := E.out.set2 1 rfl rfl (.bool false) (.slice none 0 0) rfl
        have k1 := EF.blk2 1 g1 (.bool false) (.slice none 0 0) 24 rfl
        refine bodyPost_ret (results_list (rs := [.cell 4 24, .tmp 5]) rfl (by simp) (.cell g1 24 #[.bool false, .slice none 0 0] (0, 0) _ rfl k1 Tryd.underlying24 rfl (by kernel_rfl) (.tmp .nil))) rfl ?_
        rw [HP2.out]
        exact ⟨_, rfl, IR_nil _, EF.below⟩
      · have HI2 := Aside0.mk (show bl (p * a) ≤ 512 ∧ powL a n 1 = powL a (n - (j + 1)) (p * a) from ⟨by omega, by rw [HI.out.2, show n - j = (n - (j + 1)) + 1 by omega, powL, if_neg hf]⟩)
        have t1 : decide (512 < (bl (p * a) : Int)) = false := decide_eq_false (by omega)
        clear HI hf
        go_wp2_with (first
          | (go_at_call 48; refine (timesV p a (E.out.at_ 2 rfl) (E.out.at_ 1 rfl) (by have := Bp.out; omega) (by have := Ba.out; omega)).mono ?_; rintro e w6 ⟨v6, rfl, hR, hb⟩; obtain ⟨A6, c6, rfl, E1⟩ := E.out.addR hR hb; have E' := Aside0.mk E1; clear E E1 hR hb; have E := E'; clear E')
          | (go_at_call 47; refine (bitLenV (p * a) (E.out.at_ 3 rfl) (by have := Bm.out; omega)).mono ?_; rintro e w7 ⟨rfl, hb⟩; have E' := Aside0.mk (E.out.call hb); clear E hb; have E := E'; clear E'; clear p1 p2 p3 p4; clear q1 q2 q3 q4; obtain ⟨p1, p2, p3, p4⟩ := E.out.two 0 rfl; obtain ⟨q1, q2, q3, q4⟩ := E.out.two 1 rfl))
        go_roundw
        case rel => exact ⟨j + 1, p * a, A6, c6, by omega, by go_num, rfl, HI2, ⟨E.out.sub [0, 1, 3]⟩⟩
        case measure => simp [intOf]; omega
    · have hjM : j = n := by omega
      subst hjM
      have HI2 := Aside0.mk (show powL a j 1 = some p by have h := HI.out.2; rw [Nat.sub_self] at h; exact h)
      have Bp := Aside0.mk HI.out.1
      by_cases hs : s = true
      · by_cases hp : j % 2 = 1
        · have HP2 := Aside0.mk (show powA s a j = sgn true p by rw [HP.out, HI2.out, hs, decide_eq_true hp]; rfl)
          have t1 : ((j : Int) % 2 == 1) = true := by rw [beq_iff_eq]; omega
          have t2 : 0 ≤ (j : Int) := by omega
          clear HI HP HI2 hlt hp
          go_wp2_with (first
            | (go_at_call 42; refine (signedV _ p (E.out.at_ 2 rfl) (by have := Bp.out; omega)).mono ?_; rintro e w8 ⟨v8, rfl, ⟨A8, c8, rfl, r8⟩, hb⟩; have E' := Aside0.mk ((E.out.call hb).add r8); clear E hb r8; have E := E'; clear E'; clear p1 p2 p3 p4; clear q1 q2 q3 q4; obtain ⟨q1, q2, q3, q4⟩ := E.out.two 1 rfl))
          have EF := E.out.set2 1 rfl rfl (.bool (sgn true p).1) (.slice A8 (sgn true p).2.1.length c8) rfl
          have k1 := EF.blk2 1 g1 (.bool (sgn true p).1) (.slice A8 (sgn true p).2.1.length c8) 24 rfl
          refine bodyPost_ret (results_list (rs := [.cell 4 24, .tmp 5]) rfl (by simp) (.cell g1 24 #[.bool (sgn true p).1, .slice A8 (sgn true p).2.1.length c8] (0, 0) _ rfl k1 Tryd.underlying24 rfl (by kernel_rfl) (.tmp .nil))) rfl ?_
          rw [HP2.out]
          exact ⟨_, rfl, ⟨_, _, rfl, EF.at_ 3 rfl⟩, EF.below⟩
        · have HP2 := Aside0.mk (show powA s a j = sgn false p by rw [HP.out, HI2.out, hs, decide_eq_false hp]; rfl)
          have t1 : ((j : Int) % 2 == 1) = false := by rw [beq_eq_false_iff_ne]; omega
          have t2 : 0 ≤ (j : Int) := by omega
          clear HI HP HI2 hlt hp
          go_wp2_with (first
            | (go_at_call 42; refine (signedV _ p (E.out.at_ 2 rfl) (by have := Bp.out; omega)).mono ?_; rintro e w8 ⟨v8, rfl, ⟨A8, c8, rfl, r8⟩, hb⟩; have E' := Aside0.mk ((E.out.call hb).add r8); clear E hb r8; have E := E'; clear E'; clear p1 p2 p3 p4; clear q1 q2 q3 q4; obtain ⟨q1, q2, q3, q4⟩ := E.out.two 1 rfl))
          have EF := E.out.set2 1 rfl rfl (.bool (sgn false p).1) (.slice A8 (sgn false p).2.1.length c8) rfl
          have k1 := EF.blk2 1 g1 (.bool (sgn false p).1) (.slice A8 (sgn false p).2.1.length c8) 24 rfl
          refine bodyPost_ret (results_list (rs := [.cell 4 24, .tmp 5]) rfl (by simp) (.cell g1 24 #[.bool (sgn false p).1, .slice A8 (sgn false p).2.1.length c8] (0, 0) _ rfl k1 Tryd.underlying24 rfl (by kernel_rfl) (.tmp .nil))) rfl ?_
          rw [HP2.out]
          exact ⟨_, rfl, ⟨_, _, rfl, EF.at_ 3 rfl⟩, EF.below⟩
      · have hs2 : s = false := by revert hs; cases s <;> simp
        clear hs
        have hs := hs2
        have HP2 := Aside0.mk (show powA s a j = sgn false p by rw [HP.out, HI2.out, hs]; rfl)
        clear hs2
        clear HI HP HI2 hlt
        go_wp2_with (first
          | (go_at_call 42; refine (signedV _ p (E.out.at_ 2 rfl) (by have := Bp.out; omega)).mono ?_; rintro e w8 ⟨v8, rfl, ⟨A8, c8, rfl, r8⟩, hb⟩; have E' := Aside0.mk ((E.out.call hb).add r8); clear E hb r8; have E := E'; clear E'; clear p1 p2 p3 p4; clear q1 q2 q3 q4; obtain ⟨q1, q2, q3, q4⟩ := E.out.two 1 rfl))
        have EF := E.out.set2 1 rfl rfl (.bool (sgn false p).1) (.slice A8 (sgn false p).2.1.length c8) rfl
        have k1 := EF.blk2 1 g1 (.bool (sgn false p).1) (.slice A8 (sgn false p).2.1.length c8) 24 rfl
        refine bodyPost_ret (results_list (rs := [.cell 4 24, .tmp 5]) rfl (by simp) (.cell g1 24 #[.bool (sgn false p).1, .slice A8 (sgn false p).2.1.length c8] (0, 0) _ rfl k1 Tryd.underlying24 rfl (by kernel_rfl) (.tmp .nil))) rfl ?_
        rw [HP2.out]
        exact ⟨_, rfl, ⟨_, _, rfl, EF.at_ 3 rfl⟩, EF.below⟩
set_option maxHeartbeats 8000000 in
set_option maxRecDepth 100000 in
theorem Power.small (s : Bool) (a n : Nat) (A : Option Addr) (c : Nat) (w : World) (ga : Good s a) (hA : IR w A c (dg a)) (h1 : bl a ≤ 1) (hn : n ≤ 9223372036854775807) :
    Calls Tryd.prog 17 #[.agg #[.bool s, .slice A (dg a).length c], .int .i64 (n : Int)] w fun e w' => ∃ v, e = .returned (.tuple #[v, .int .i64 (powA s a n).2.2]) ∧ AnInt w' v (powA s a n).1 (powA s a n).2.1 ∧ Below w.heap.size w w' := by
  obtain ⟨M, hM⟩ : ∃ M, M = powN a n := ⟨_, rfl⟩
  have HP := Aside0.mk (show powA s a n = (match powL a M 1 with | none => (false, [], 7) | some p => sgn (s && decide (M % 2 = 1)) p) by subst hM; unfold powA; rw [if_neg (by omega)])
  have hM2 : M ≤ 2 := by subst hM; unfold powN; rw [if_pos h1]; split <;> omega
  have hu24 := Tryd.underlying24
  have hva := valid_good ga
  have Ba := Aside0.mk (good_bl ga)
  have E := Aside0.mk (Env.start1 hA)
  clear hA ga
  have t2 : decide (1 < (bl a : Int)) = false := decide_eq_false (by omega)
  have t4 : decide ((n : Int) < 0) = false := decide_eq_false (by omega)
  have t5 : decide ((bl a : Int) ≤ 1) = true := decide_eq_true (by omega)
  have t7 : 0 ≤ (n : Int) := by omega
  have t8 : (n : Int) ≤ 9223372036854775807 := by omega
  by_cases hle : (n : Int) ≤ 2 - (n : Int) % 2
  · have hMn : M = n := by subst hM; unfold powN; rw [if_pos h1, if_pos (by omega)]
    clear hM
    subst hMn
    clear h1
    go_enter Tryd.func17, Tryd.ntmps17
    go_wp2_with (first
      | ((with_reducible refine gate_dst (N := 2) rfl ?_); refine box_event ?hg (N := 2) ?hd (cs := #[.bool s, .slice A (dg a).length c]) (t := 24) ?hr ?_; (case hd => rfl); (case hg => rfl); (case hr => first | (go_simp; done) | (go_simp; rfl)); intro g0 hg wb hbox hb; have E' := Aside0.mk (E.out.newBox hg hbox hb); clear E hg hbox hb; have E := E'; clear E')
      | ((with_reducible refine gate_dst (N := 4) rfl ?_); refine box_event ?hg (N := 4) ?hd (cs := #[.bool false, .slice none 0 0]) (t := 24) ?hr ?_; (case hd => rfl); (case hg => rfl); (case hr => first | (go_simp; done) | (go_simp; rfl)); intro g1 hg wb hbox hb; have E' := Aside0.mk (E.out.newBox hg hbox hb); clear E hg hbox hb; have E := E'; clear E'; obtain ⟨p1, p2, p3, p4⟩ := E.out.two 0 rfl; obtain ⟨q1, q2, q3, q4⟩ := E.out.two 1 rfl)
      | (go_at_call 33; refine (validV s (dg a) (E.out.at_ 0 rfl)).mono ?_; rintro e w2 ⟨rfl, hb⟩; have E' := Aside0.mk (E.out.call hb); clear E hb; have E := E'; clear E'; clear p1 p2 p3 p4; clear q1 q2 q3 q4; obtain ⟨p1, p2, p3, p4⟩ := E.out.two 0 rfl; obtain ⟨q1, q2, q3, q4⟩ := E.out.two 1 rfl)
      | (go_at_call 44; refine (absV s a (E.out.at_ 0 rfl) Ba.out).mono ?_; rintro e w3 ⟨v3, rfl, hR, hb⟩; obtain ⟨A3, c3, rfl, E1⟩ := E.out.addR hR hb; have E' := Aside0.mk E1; clear E E1 hR hb; have E := E'; clear E'; clear p1 p2 p3 p4; clear q1 q2 q3 q4; obtain ⟨p1, p2, p3, p4⟩ := E.out.two 0 rfl; obtain ⟨q1, q2, q3, q4⟩ := E.out.two 1 rfl)
      | (go_at_call 47; refine (bitLenV a (E.out.at_ 1 rfl) (by have := Ba.out; omega)).mono ?_; rintro e w4 ⟨rfl, hb⟩; have E' := Aside0.mk (E.out.call hb); clear E hb; have E := E'; clear E'; clear p1 p2 p3 p4; clear q1 q2 q3 q4; obtain ⟨p1, p2, p3, p4⟩ := E.out.two 0 rfl; obtain ⟨q1, q2, q3, q4⟩ := E.out.two 1 rfl)
      | ((with_reducible refine gate_dst (N := 34) rfl ?_); refine Kd.R_lit (Kd.int .u32) _ 57 ?hg (N := 34) ?hd (xs := ([1] : List Int)) (inner := [.int .u32 1]) (ok := fun _ => True) (okp := fun _ => True) ?hr ?hp (fun _ hk => hk) trivial (Below.refl _ _) (Nat.le_refl _) (by simp) ?_; (case hd => rfl); (case hg => rfl); (case hr => first | (go_simp; done) | (go_simp; rfl)); (case hp => exact (Reps.one (show Kd.M (Kd.int .u32) _ _ _ 1 [.int .u32 1] from rfl) (Reps.none _ _))); intro v5 w5 hR hb hg_ hnew_; rw [← one_wds] at hR; obtain ⟨A5, c5, rfl, E1⟩ := E.out.addR hR hb; have E' := Aside0.mk E1; clear E E1 hR hb hg_ hnew_; have E := E'; clear E'; clear p1 p2 p3 p4; clear q1 q2 q3 q4; obtain ⟨p1, p2, p3, p4⟩ := E.out.two 0 rfl; obtain ⟨q1, q2, q3, q4⟩ := E.out.two 1 rfl))
    go_loopw [7, 36] (fun v7 v36 wr => ∃ (j p : Nat) (Ap : Option Addr) (cp : Nat), j ≤ M ∧ v36 = .int .i64 (j : Int) ∧ v7 = .slice Ap (wds B32 p).length cp ∧ Aside0 (bl p ≤ 512 ∧ powL a M 1 = powL a (M - j) p) ∧ Aside0 (Env w wr [⟨.u8, A, c, dg a⟩, ⟨.u32, A3, c3, wds B32 a⟩, ⟨.u32, Ap, cp, wds B32 p⟩] [⟨g0, #[.bool s, .slice A (dg a).length c], 24⟩, ⟨g1, #[.bool false, .slice none 0 0], 24⟩])) (fun _ i _ => M - (intOf i).toNat)
    case atStart => exact ⟨0, 1, A5, c5, Nat.zero_le _, rfl, rfl, ⟨⟨Nat.le_trans bl_one (by omega), rfl⟩⟩, ⟨E.out.sub [0, 1, 2]⟩⟩
    case round =>
      clear p1 p2 p3 p4 q1 q2 q3 q4 E
      obtain ⟨j, p, Ap, cp, hj, rfl, rfl, HI, E⟩ := hrel
      obtain ⟨p1, p2, p3, p4⟩ := E.out.two 0 rfl
      obtain ⟨q1, q2, q3, q4⟩ := E.out.two 1 rfl
      by_cases hlt : j < M
      · have Bp := Aside0.mk HI.out.1
        have Bm := Aside0.mk (bl_mul HI.out.1 Ba.out)
        by_cases hf : 512 < bl (p * a)
        · have HP2 := Aside0.mk (show powA s a M = (false, [], 7) by rw [HP.out, HI.out.2, show M - j = (M - (j + 1)) + 1 by omega, powL, if_pos hf])
          have t1 : decide (512 < (bl (p * a) : Int)) = true := decide_eq_true (by omega)
          clear HP HI hf
          go_wp2_with (first
            | (go_at_call 48; refine (timesV p a (E.out.at_ 2 rfl) (E.out.at_ 1 rfl) (by have := Bp.out; omega) (by have := Ba.out; omega)).mono ?_; rintro e w6 ⟨v6, rfl, hR, hb⟩; obtain ⟨A6, c6, rfl, E1⟩ := E.out.addR hR hb; have E' := Aside0.mk E1; clear E E1 hR hb; have E := E'; clear E')
            | (go_at_call 47; refine (bitLenV (p * a) (E.out.at_ 3 rfl) (by have := Bm.out; omega)).mono ?_; rintro e w7 ⟨rfl, hb⟩; have E' := Aside0.mk (E.out.call hb); clear E hb; have E := E'; clear E'; clear p1 p2 p3 p4; clear q1 q2 q3 q4; obtain ⟨p1, p2, p3, p4⟩ := E.out.two 0 rfl; obtain ⟨q1, q2, q3, q4⟩ := E.out.two 1 rfl))
          have EF := E.out.set2 1 rfl rfl (.bool false) (.slice none 0 0) rfl
          have k1 := EF.blk2 1 g1 (.bool false) (.slice none 0 0) 24 rfl
          refine bodyPost_ret (results_list (rs := [.cell 4 24, .tmp 5]) rfl (by simp) (.cell g1 24 #[.bool false, .slice none 0 0] (0, 0) _ rfl k1 Tryd.underlying24 rfl (by kernel_rfl) (.tmp .nil))) rfl ?_
          rw [HP2.out]
          exact ⟨_, rfl, IR_nil _, EF.below⟩
        · have HI2 := Aside0.mk (show bl (p * a) ≤ 512 ∧ powL a M 1 = powL a (M - (j + 1)) (p * a) from ⟨by omega, by rw [HI.out.2, show M - j = (M - (j + 1)) + 1 by omega, powL, if_neg hf]⟩)
          have t1 : decide (512 < (bl (p * a) : Int)) = false := decide_eq_false (by omega)
          clear HI hf
          go_wp2_with (first
            | (go_at_call 48; refine (timesV p a (E.out.at_ 2 rfl) (E.out.at_ 1 rfl) (by have := Bp.out; omega) (by have := Ba.out; omega)).mono ?_; rintro e w6 ⟨v6, rfl, hR, hb⟩; obtain ⟨A6, c6, rfl, E1⟩ := E.out.addR hR hb; have E' := Aside0.mk E1; clear E E1 hR hb; have E := E'; clear E')
            | (go_at_call 47; refine (bitLenV (p * a) (E.out.at_ 3 rfl) (by have := Bm.out; omega)).mono ?_; rintro e w7 ⟨rfl, hb⟩; have E' := Aside0.mk (E.out.call hb); clear E hb; have E := E'; clear E'; clear p1 p2 p3 p4; clear q1 q2 q3 q4; obtain ⟨p1, p2, p3, p4⟩ := E.out.two 0 rfl; obtain ⟨q1, q2, q3, q4⟩ := E.out.two 1 rfl))
          go_roundw
          case rel => exact ⟨j + 1, p * a, A6, c6, by omega, by go_num, rfl, HI2, ⟨E.out.sub [0, 1, 3]⟩⟩
          case measure => simp [intOf]; omega
      · have hjM : j = M := by omega
        subst hjM
        have HI2 := Aside0.mk (show powL a j 1 = some p by have h := HI.out.2; rw [Nat.sub_self] at h; exact h)
        have Bp := Aside0.mk HI.out.1
        by_cases hs : s = true
        · by_cases hp : j % 2 = 1
          · have HP2 := Aside0.mk (show powA s a j = sgn true p by rw [HP.out, HI2.out, hs, decide_eq_true hp]; rfl)
            have t1 : ((j : Int) % 2 == 1) = true := by rw [beq_iff_eq]; omega
            have t2 : 0 ≤ (j : Int) := by omega
            clear HI HP HI2 hlt hp
            go_wp2_with (first
              | (go_at_call 42; refine (signedV _ p (E.out.at_ 2 rfl) (by have := Bp.out; omega)).mono ?_; rintro e w8 ⟨v8, rfl, ⟨A8, c8, rfl, r8⟩, hb⟩; have E' := Aside0.mk ((E.out.call hb).add r8); clear E hb r8; have E := E'; clear E'; clear p1 p2 p3 p4; clear q1 q2 q3 q4; obtain ⟨q1, q2, q3, q4⟩ := E.out.two 1 rfl))
            have EF := E.out.set2 1 rfl rfl (.bool (sgn true p).1) (.slice A8 (sgn true p).2.1.length c8) rfl
            have k1 := EF.blk2 1 g1 (.bool (sgn true p).1) (.slice A8 (sgn true p).2.1.length c8) 24 rfl
            refine bodyPost_ret (results_list (rs := [.cell 4 24, .tmp 5]) rfl (by simp) (.cell g1 24 #[.bool (sgn true p).1, .slice A8 (sgn true p).2.1.length c8] (0, 0) _ rfl k1 Tryd.underlying24 rfl (by kernel_rfl) (.tmp .nil))) rfl ?_
            rw [HP2.out]
            exact ⟨_, rfl, ⟨_, _, rfl, EF.at_ 3 rfl⟩, EF.below⟩
          · have HP2 := Aside0.mk (show powA s a j = sgn false p by rw [HP.out, HI2.out, hs, decide_eq_false hp]; rfl)
            have t1 : ((j : Int) % 2 == 1) = false := by rw [beq_eq_false_iff_ne]; omega
            have t2 : 0 ≤ (j : Int) := by omega
            clear HI HP HI2 hlt hp
            go_wp2_with (first
              | (go_at_call 42; refine (signedV _ p (E.out.at_ 2 rfl) (by have := Bp.out; omega)).mono ?_; rintro e w8 ⟨v8, rfl, ⟨A8, c8, rfl, r8⟩, hb⟩; have E' := Aside0.mk ((E.out.call hb).add r8); clear E hb r8; have E := E'; clear E'; clear p1 p2 p3 p4; clear q1 q2 q3 q4; obtain ⟨q1, q2, q3, q4⟩ := E.out.two 1 rfl))
            have EF := E.out.set2 1 rfl rfl (.bool (sgn false p).1) (.slice A8 (sgn false p).2.1.length c8) rfl
            have k1 := EF.blk2 1 g1 (.bool (sgn false p).1) (.slice A8 (sgn false p).2.1.length c8) 24 rfl
            refine bodyPost_ret (results_list (rs := [.cell 4 24, .tmp 5]) rfl (by simp) (.cell g1 24 #[.bool (sgn false p).1, .slice A8 (sgn false p).2.1.length c8] (0, 0) _ rfl k1 Tryd.underlying24 rfl (by kernel_rfl) (.tmp .nil))) rfl ?_
            rw [HP2.out]
            exact ⟨_, rfl, ⟨_, _, rfl, EF.at_ 3 rfl⟩, EF.below⟩
        · have hs2 : s = false := by revert hs; cases s <;> simp
          clear hs
          have hs := hs2
          have HP2 := Aside0.mk (show powA s a j = sgn false p by rw [HP.out, HI2.out, hs]; rfl)
          clear hs2
          clear HI HP HI2 hlt
          go_wp2_with (first
            | (go_at_call 42; refine (signedV _ p (E.out.at_ 2 rfl) (by have := Bp.out; omega)).mono ?_; rintro e w8 ⟨v8, rfl, ⟨A8, c8, rfl, r8⟩, hb⟩; have E' := Aside0.mk ((E.out.call hb).add r8); clear E hb r8; have E := E'; clear E'; clear p1 p2 p3 p4; clear q1 q2 q3 q4; obtain ⟨q1, q2, q3, q4⟩ := E.out.two 1 rfl))
          have EF := E.out.set2 1 rfl rfl (.bool (sgn false p).1) (.slice A8 (sgn false p).2.1.length c8) rfl
          have k1 := EF.blk2 1 g1 (.bool (sgn false p).1) (.slice A8 (sgn false p).2.1.length c8) 24 rfl
          refine bodyPost_ret (results_list (rs := [.cell 4 24, .tmp 5]) rfl (by simp) (.cell g1 24 #[.bool (sgn false p).1, .slice A8 (sgn false p).2.1.length c8] (0, 0) _ rfl k1 Tryd.underlying24 rfl (by kernel_rfl) (.tmp .nil))) rfl ?_
          rw [HP2.out]
          exact ⟨_, rfl, ⟨_, _, rfl, EF.at_ 3 rfl⟩, EF.below⟩
  · have hMn : 2 - (n : Int) % 2 = (M : Int) := by subst hM; unfold powN; rw [if_pos h1, if_neg (by omega)]; omega
    clear hM h1
    go_enter Tryd.func17, Tryd.ntmps17
    go_wp2_with (first
      | ((with_reducible refine gate_dst (N := 2) rfl ?_); refine box_event ?hg (N := 2) ?hd (cs := #[.bool s, .slice A (dg a).length c]) (t := 24) ?hr ?_; (case hd => rfl); (case hg => rfl); (case hr => first | (go_simp; done) | (go_simp; rfl)); intro g0 hg wb hbox hb; have E' := Aside0.mk (E.out.newBox hg hbox hb); clear E hg hbox hb; have E := E'; clear E')
      | ((with_reducible refine gate_dst (N := 4) rfl ?_); refine box_event ?hg (N := 4) ?hd (cs := #[.bool false, .slice none 0 0]) (t := 24) ?hr ?_; (case hd => rfl); (case hg => rfl); (case hr => first | (go_simp; done) | (go_simp; rfl)); intro g1 hg wb hbox hb; have E' := Aside0.mk (E.out.newBox hg hbox hb); clear E hg hbox hb; have E := E'; clear E'; obtain ⟨p1, p2, p3, p4⟩ := E.out.two 0 rfl; obtain ⟨q1, q2, q3, q4⟩ := E.out.two 1 rfl)
      | (go_at_call 33; refine (validV s (dg a) (E.out.at_ 0 rfl)).mono ?_; rintro e w2 ⟨rfl, hb⟩; have E' := Aside0.mk (E.out.call hb); clear E hb; have E := E'; clear E'; clear p1 p2 p3 p4; clear q1 q2 q3 q4; obtain ⟨p1, p2, p3, p4⟩ := E.out.two 0 rfl; obtain ⟨q1, q2, q3, q4⟩ := E.out.two 1 rfl)
      | (go_at_call 44; refine (absV s a (E.out.at_ 0 rfl) Ba.out).mono ?_; rintro e w3 ⟨v3, rfl, hR, hb⟩; obtain ⟨A3, c3, rfl, E1⟩ := E.out.addR hR hb; have E' := Aside0.mk E1; clear E E1 hR hb; have E := E'; clear E'; clear p1 p2 p3 p4; clear q1 q2 q3 q4; obtain ⟨p1, p2, p3, p4⟩ := E.out.two 0 rfl; obtain ⟨q1, q2, q3, q4⟩ := E.out.two 1 rfl)
      | (go_at_call 47; refine (bitLenV a (E.out.at_ 1 rfl) (by have := Ba.out; omega)).mono ?_; rintro e w4 ⟨rfl, hb⟩; have E' := Aside0.mk (E.out.call hb); clear E hb; have E := E'; clear E'; clear p1 p2 p3 p4; clear q1 q2 q3 q4; obtain ⟨p1, p2, p3, p4⟩ := E.out.two 0 rfl; obtain ⟨q1, q2, q3, q4⟩ := E.out.two 1 rfl)
      | ((with_reducible refine gate_dst (N := 34) rfl ?_); refine Kd.R_lit (Kd.int .u32) _ 57 ?hg (N := 34) ?hd (xs := ([1] : List Int)) (inner := [.int .u32 1]) (ok := fun _ => True) (okp := fun _ => True) ?hr ?hp (fun _ hk => hk) trivial (Below.refl _ _) (Nat.le_refl _) (by simp) ?_; (case hd => rfl); (case hg => rfl); (case hr => first | (go_simp; done) | (go_simp; rfl)); (case hp => exact (Reps.one (show Kd.M (Kd.int .u32) _ _ _ 1 [.int .u32 1] from rfl) (Reps.none _ _))); intro v5 w5 hR hb hg_ hnew_; rw [← one_wds] at hR; obtain ⟨A5, c5, rfl, E1⟩ := E.out.addR hR hb; have E' := Aside0.mk E1; clear E E1 hR hb hg_ hnew_; have E := E'; clear E'; clear p1 p2 p3 p4; clear q1 q2 q3 q4; obtain ⟨p1, p2, p3, p4⟩ := E.out.two 0 rfl; obtain ⟨q1, q2, q3, q4⟩ := E.out.two 1 rfl))
    go_loopw [7, 36] (fun v7 v36 wr => ∃ (j p : Nat) (Ap : Option Addr) (cp : Nat), j ≤ M ∧ v36 = .int .i64 (j : Int) ∧ v7 = .slice Ap (wds B32 p).length cp ∧ Aside0 (bl p ≤ 512 ∧ powL a M 1 = powL a (M - j) p) ∧ Aside0 (Env w wr [⟨.u8, A, c, dg a⟩, ⟨.u32, A3, c3, wds B32 a⟩, ⟨.u32, Ap, cp, wds B32 p⟩] [⟨g0, #[.bool s, .slice A (dg a).length c], 24⟩, ⟨g1, #[.bool false, .slice none 0 0], 24⟩])) (fun _ i _ => M - (intOf i).toNat)
    case atStart => exact ⟨0, 1, A5, c5, Nat.zero_le _, rfl, rfl, ⟨⟨Nat.le_trans bl_one (by omega), rfl⟩⟩, ⟨E.out.sub [0, 1, 2]⟩⟩
    case round =>
      clear p1 p2 p3 p4 q1 q2 q3 q4 E
      obtain ⟨j, p, Ap, cp, hj, rfl, rfl, HI, E⟩ := hrel
      obtain ⟨p1, p2, p3, p4⟩ := E.out.two 0 rfl
      obtain ⟨q1, q2, q3, q4⟩ := E.out.two 1 rfl
      by_cases hlt : j < M
      · have Bp := Aside0.mk HI.out.1
        have Bm := Aside0.mk (bl_mul HI.out.1 Ba.out)
        by_cases hf : 512 < bl (p * a)
        · have HP2 := Aside0.mk (show powA s a n = (false, [], 7) by rw [HP.out, HI.out.2, show M - j = (M - (j + 1)) + 1 by omega, powL, if_pos hf])
          have t1 : decide (512 < (bl (p * a) : Int)) = true := decide_eq_true (by omega)
          clear HP HI hf
          go_wp2_with (first
            | (go_at_call 48; refine (timesV p a (E.out.at_ 2 rfl) (E.out.at_ 1 rfl) (by have := Bp.out; omega) (by have := Ba.out; omega)).mono ?_; rintro e w6 ⟨v6, rfl, hR, hb⟩; obtain ⟨A6, c6, rfl, E1⟩ := E.out.addR hR hb; have E' := Aside0.mk E1; clear E E1 hR hb; have E := E'; clear E')
            | (go_at_call 47; refine (bitLenV (p * a) (E.out.at_ 3 rfl) (by have := Bm.out; omega)).mono ?_; rintro e w7 ⟨rfl, hb⟩; have E' := Aside0.mk (E.out.call hb); clear E hb; have E := E'; clear E'; clear p1 p2 p3 p4; clear q1 q2 q3 q4; obtain ⟨p1, p2, p3, p4⟩ := E.out.two 0 rfl; obtain ⟨q1, q2, q3, q4⟩ := E.out.two 1 rfl))
          have EF := E.out.set2 1 rfl rfl (.bool false) (.slice none 0 0) rfl
          have k1 := EF.blk2 1 g1 (.bool false) (.slice none 0 0) 24 rfl
          refine bodyPost_ret (results_list (rs := [.cell 4 24, .tmp 5]) rfl (by simp) (.cell g1 24 #[.bool false, .slice none 0 0] (0, 0) _ rfl k1 Tryd.underlying24 rfl (by kernel_rfl) (.tmp .nil))) rfl ?_
          rw [HP2.out]
          exact ⟨_, rfl, IR_nil _, EF.below⟩
        · have HI2 := Aside0.mk (show bl (p * a) ≤ 512 ∧ powL a M 1 = powL a (M - (j + 1)) (p * a) from ⟨by omega, by rw [HI.out.2, show M - j = (M - (j + 1)) + 1 by omega, powL, if_neg hf]⟩)
          have t1 : decide (512 < (bl (p * a) : Int)) = false := decide_eq_false (by omega)
          clear HI hf
          go_wp2_with (first
            | (go_at_call 48; refine (timesV p a (E.out.at_ 2 rfl) (E.out.at_ 1 rfl) (by have := Bp.out; omega) (by have := Ba.out; omega)).mono ?_; rintro e w6 ⟨v6, rfl, hR, hb⟩; obtain ⟨A6, c6, rfl, E1⟩ := E.out.addR hR hb; have E' := Aside0.mk E1; clear E E1 hR hb; have E := E'; clear E')
            | (go_at_call 47; refine (bitLenV (p * a) (E.out.at_ 3 rfl) (by have := Bm.out; omega)).mono ?_; rintro e w7 ⟨rfl, hb⟩; have E' := Aside0.mk (E.out.call hb); clear E hb; have E := E'; clear E'; clear p1 p2 p3 p4; clear q1 q2 q3 q4; obtain ⟨p1, p2, p3, p4⟩ := E.out.two 0 rfl; obtain ⟨q1, q2, q3, q4⟩ := E.out.two 1 rfl))
          go_roundw
          case rel => exact ⟨j + 1, p * a, A6, c6, by omega, by go_num, rfl, HI2, ⟨E.out.sub [0, 1, 3]⟩⟩
          case measure => simp [intOf]; omega
      · have hjM : j = M := by omega
        subst hjM
        have HI2 := Aside0.mk (show powL a j 1 = some p by have h := HI.out.2; rw [Nat.sub_self] at h; exact h)
        have Bp := Aside0.mk HI.out.1
        by_cases hs : s = true
        · by_cases hp : j % 2 = 1
          · have HP2 := Aside0.mk (show powA s a n = sgn true p by rw [HP.out, HI2.out, hs, decide_eq_true hp]; rfl)
            have t1 : ((j : Int) % 2 == 1) = true := by rw [beq_iff_eq]; omega
            have t2 : 0 ≤ (j : Int) := by omega
            clear HI HP HI2 hlt hp
            go_wp2_with (first
              | (go_at_call 42; refine (signedV _ p (E.out.at_ 2 rfl) (by have := Bp.out; omega)).mono ?_; rintro e w8 ⟨v8, rfl, ⟨A8, c8, rfl, r8⟩, hb⟩; have E' := Aside0.mk ((E.out.call hb).add r8); clear E hb r8; have E := E'; clear E'; clear p1 p2 p3 p4; clear q1 q2 q3 q4; obtain ⟨q1, q2, q3, q4⟩ := E.out.two 1 rfl))
            have EF := E.out.set2 1 rfl rfl (.bool (sgn true p).1) (.slice A8 (sgn true p).2.1.length c8) rfl
            have k1 := EF.blk2 1 g1 (.bool (sgn true p).1) (.slice A8 (sgn true p).2.1.length c8) 24 rfl
            refine bodyPost_ret (results_list (rs := [.cell 4 24, .tmp 5]) rfl (by simp) (.cell g1 24 #[.bool (sgn true p).1, .slice A8 (sgn true p).2.1.length c8] (0, 0) _ rfl k1 Tryd.underlying24 rfl (by kernel_rfl) (.tmp .nil))) rfl ?_
            rw [HP2.out]
            exact ⟨_, rfl, ⟨_, _, rfl, EF.at_ 3 rfl⟩, EF.below⟩
          · have HP2 := Aside0.mk (show powA s a n = sgn false p by rw [HP.out, HI2.out, hs, decide_eq_false hp]; rfl)
            have t1 : ((j : Int) % 2 == 1) = false := by rw [beq_eq_false_iff_ne]; omega
            have t2 : 0 ≤ (j : Int) := by omega
            clear HI HP HI2 hlt hp
            go_wp2_with (first
              | (go_at_call 42; refine (signedV _ p (E.out.at_ 2 rfl) (by have := Bp.out; omega)).mono ?_; rintro e w8 ⟨v8, rfl, ⟨A8, c8, rfl, r8⟩, hb⟩; have E' := Aside0.mk ((E.out.call hb).add r8); clear E hb r8; have E := E'; clear E'; clear p1 p2 p3 p4; clear q1 q2 q3 q4; obtain ⟨q1, q2, q3, q4⟩ := E.out.two 1 rfl))
            have EF := E.out.set2 1 rfl rfl (.bool (sgn false p).1) (.slice A8 (sgn false p).2.1.length c8) rfl
            have k1 := EF.blk2 1 g1 (.bool (sgn false p).1) (.slice A8 (sgn false p).2.1.length c8) 24 rfl
            refine bodyPost_ret (results_list (rs := [.cell 4 24, .tmp 5]) rfl (by simp) (.cell g1 24 #[.bool (sgn false p).1, .slice A8 (sgn false p).2.1.length c8] (0, 0) _ rfl k1 Tryd.underlying24 rfl (by kernel_rfl) (.tmp .nil))) rfl ?_
            rw [HP2.out]
            exact ⟨_, rfl, ⟨_, _, rfl, EF.at_ 3 rfl⟩, EF.below⟩
        · have hs2 : s = false := by revert hs; cases s <;> simp
          clear hs
          have hs := hs2
          have HP2 := Aside0.mk (show powA s a n = sgn false p by rw [HP.out, HI2.out, hs]; rfl)
          clear hs2
          clear HI HP HI2 hlt
          go_wp2_with (first
            | (go_at_call 42; refine (signedV _ p (E.out.at_ 2 rfl) (by have := Bp.out; omega)).mono ?_; rintro e w8 ⟨v8, rfl, ⟨A8, c8, rfl, r8⟩, hb⟩; have E' := Aside0.mk ((E.out.call hb).add r8); clear E hb r8; have E := E'; clear E'; clear p1 p2 p3 p4; clear q1 q2 q3 q4; obtain ⟨q1, q2, q3, q4⟩ := E.out.two 1 rfl))
          have EF := E.out.set2 1 rfl rfl (.bool (sgn false p).1) (.slice A8 (sgn false p).2.1.length c8) rfl
          have k1 := EF.blk2 1 g1 (.bool (sgn false p).1) (.slice A8 (sgn false p).2.1.length c8) 24 rfl
          refine bodyPost_ret (results_list (rs := [.cell 4 24, .tmp 5]) rfl (by simp) (.cell g1 24 #[.bool (sgn false p).1, .slice A8 (sgn false p).2.1.length c8] (0, 0) _ rfl k1 Tryd.underlying24 rfl (by kernel_rfl) (.tmp .nil))) rfl ?_
          rw [HP2.out]
          exact ⟨_, rfl, ⟨_, _, rfl, EF.at_ 3 rfl⟩, EF.below⟩
end Go.Proofs.YtnkpfaoklkapdaaDoor.Print
