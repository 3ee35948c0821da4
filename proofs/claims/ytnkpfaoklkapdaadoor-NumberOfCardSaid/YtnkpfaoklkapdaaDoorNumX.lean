/- number.DivMod, walked by values. -/
import Derived.Test.YtnkpfaoklkapdaaDoorNumW
namespace Go.Proofs.YtnkpfaoklkapdaaDoor.Print
open Go.RowKit Go.Proofs.YtnkpfaoklkapdaaDoorW.PrintWords Go.Proofs.YtnkpfaoklkapdaaDoorW.PrintLast Go.Proofs.YtnkpfaoklkapdaaDoorW.PrintMore
open Go.Proofs.YtnkpfaoklkapdaaDoor.NumP
set_option linter.unusedVariables false
set_option linter.unusedSimpArgs false
set_option exponentiation.threshold 2000

theorem bl_one : bl 1 ≤ 1 := (bl_le 1 1).2 (by omega)
theorem dm_bounds (a b : Nat) (h0 : 0 < b) (hba : bl a ≤ 512) (hbb : bl b ≤ 512) : bl a ≤ 512 ∧ bl b ≤ 512 ∧ bl (a / b) ≤ 512 ∧ a % b < b ∧ bl (a / b + 1) ≤ 1000 ∧ bl (b - a % b) ≤ 1000 := by
  have hq : bl (a / b) ≤ 512 := Nat.le_trans (bl_mono (Nat.div_le_self _ _)) hba
  refine ⟨hba, hbb, hq, Nat.mod_lt _ h0, ?_, Nat.le_trans (Nat.le_trans (bl_mono (Nat.sub_le _ _)) hbb) (by omega)⟩
  apply (bl_le _ 1000).2
  have h1 := (bl_le _ 512).1 hq
  exact Nat.lt_of_le_of_lt h1 (Nat.pow_lt_pow_right (by omega) (by omega))

/-- What DivMod answers: quotient and remainder. -/
def dmA (sa sb : Bool) (a b : Nat) : (Bool × List Int) × (Bool × List Int) :=
  if (sa != sb) = true ∧ 0 < a % b then (((sgn (sa != sb) (a / b + 1)).1, (sgn (sa != sb) (a / b + 1)).2.1), ((sgn sb (b - a % b)).1, (sgn sb (b - a % b)).2.1))
  else (((sgn (sa != sb) (a / b)).1, (sgn (sa != sb) (a / b)).2.1), ((sgn sb (a % b)).1, (sgn sb (a % b)).2.1))

set_option maxHeartbeats 8000000 in
set_option maxRecDepth 100000 in
theorem DivMod.good (sa sb : Bool) (a b : Nat) (A B : Option Addr) (c c' : Nat) (w : World) (ga : Good sa a) (gb : Good sb b) (h0 : 0 < b) (hA : IR w A c (dg a)) (hB : IR w B c' (dg b)) :
    Calls Tryd.prog 28 #[.agg #[.bool sa, .slice A (dg a).length c], .agg #[.bool sb, .slice B (dg b).length c']] w fun e w' => ∃ v1 v2, e = .returned (.tuple #[v1, v2, .int .i64 0]) ∧ AnInt w' v1 (dmA sa sb a b).1.1 (dmA sa sb a b).1.2 ∧ AnInt w' v2 (dmA sa sb a b).2.1 (dmA sa sb a b).2.2 ∧ Below w.heap.size w w' := by
  have hu24 := Tryd.underlying24
  have hva := valid_good ga
  have hvb := valid_good gb
  have hba := good_bl ga
  have hbb := good_bl gb
  have hlb : (((dg b).length : Int) == 0) = false := by
    rw [beq_eq_false_iff_ne]
    have : dg b ≠ [] := fun e => by have := dg_nil.1 e; omega
    have := List.length_pos_iff.2 this
    omega
  have E := Aside0.mk (Env.start2 hA hB)
  have G := Aside0.mk (And.intro hba hbb)
  clear hA hB ga gb hba hbb
  have tok1 : True := trivial
  have tok2 : True := trivial
  have tok3 : True := trivial
  by_cases cs : (sa != sb) = true
  · have cs1 : (sa == sb) = false := by revert cs; cases sa <;> cases sb <;> decide
    have cs2 : ¬ sa = sb := by revert cs; cases sa <;> cases sb <;> decide
    by_cases cr : 0 < a % b
    · have hrn : 0 < (wds B32 (a % b)).length := List.length_pos_iff.2 (fun e => by have := (wds_nil_iff b32 _).1 e; omega)
      have hrl : decide (0 < ((wds B32 (a % b)).length : Int)) = true := by rw [decide_eq_true (by omega)]
      have HD := Aside0.mk (show dmA sa sb a b = (((sgn true (a / b + 1)).1, (sgn true (a / b + 1)).2.1), ((sgn sb (b - a % b)).1, (sgn sb (b - a % b)).2.1)) by unfold dmA; rw [if_pos ⟨cs, cr⟩, cs])
      obtain ⟨y1, y2, y3, y4, y5, y6⟩ := dm_bounds a b h0 G.out.1 G.out.2
      have y7 : bl (a % b) ≤ 1000 := by have := bl_mono (Nat.le_of_lt y4); omega
      have Ba := Aside0.mk y1
      have Bb := Aside0.mk y2
      have Bq := Aside0.mk y3
      have Br := Aside0.mk y4
      have B1 := Aside0.mk y5
      have B2 := Aside0.mk y6
      clear G cr y1 y2 y3 y4 y5 y6 y7
      go_enter Tryd.func28, Tryd.ntmps28
      go_wp2_with (first
    | ((with_reducible refine gate_dst (N := 2) rfl ?_); refine box_event ?hg (N := 2) ?hd (cs := #[.bool sa, .slice A (dg a).length c]) (t := 24) ?hr ?_; (case hd => rfl); (case hg => rfl); (case hr => first | (go_simp; done) | (go_simp; rfl)); intro g0 hg wb hbox hb; have E' := Aside0.mk (E.out.newBox hg hbox hb); clear E hg hbox hb; have E := E'; clear E')
    | ((with_reducible refine gate_dst (N := 3) rfl ?_); refine box_event ?hg (N := 3) ?hd (cs := #[.bool sb, .slice B (dg b).length c']) (t := 24) ?hr ?_; (case hd => rfl); (case hg => rfl); (case hr => first | (go_simp; done) | (go_simp; rfl)); intro g1 hg wb hbox hb; have E' := Aside0.mk (E.out.newBox hg hbox hb); clear E hg hbox hb; have E := E'; clear E')
    | ((with_reducible refine gate_dst (N := 4) rfl ?_); refine box_event ?hg (N := 4) ?hd (cs := #[.bool false, .slice none 0 0]) (t := 24) ?hr ?_; (case hd => rfl); (case hg => rfl); (case hr => first | (go_simp; done) | (go_simp; rfl)); intro g2 hg wb hbox hb; have E' := Aside0.mk (E.out.newBox hg hbox hb); clear E hg hbox hb; have E := E'; clear E')
    | ((with_reducible refine gate_dst (N := 5) rfl ?_); refine box_event ?hg (N := 5) ?hd (cs := #[.bool false, .slice none 0 0]) (t := 24) ?hr ?_; (case hd => rfl); (case hg => rfl); (case hr => first | (go_simp; done) | (go_simp; rfl)); intro g3 hg wb hbox hb; have E' := Aside0.mk (E.out.newBox hg hbox hb); clear E hg hbox hb; have E := E'; clear E'; obtain ⟨p1, p2, p3, p4⟩ := E.out.two 0 rfl; obtain ⟨q1, q2, q3, q4⟩ := E.out.two 1 rfl)
    | (go_at_call 33; have _t := tok1; refine (validV sa (dg a) (E.out.at_ 0 rfl)).mono ?_; rintro e w5 ⟨rfl, hb⟩; have E' := Aside0.mk (E.out.call hb); clear E hb tok1 _t p1 p2 p3 p4 q1 q2 q3 q4; have E := E'; clear E'; obtain ⟨p1, p2, p3, p4⟩ := E.out.two 0 rfl; obtain ⟨q1, q2, q3, q4⟩ := E.out.two 1 rfl)
    | (go_at_call 33; refine (validV sb (dg b) (E.out.at_ 1 rfl)).mono ?_; rintro e w6 ⟨rfl, hb⟩; have E' := Aside0.mk (E.out.call hb); clear E hb p1 p2 p3 p4 q1 q2 q3 q4; have E := E'; clear E'; obtain ⟨p1, p2, p3, p4⟩ := E.out.two 0 rfl; obtain ⟨q1, q2, q3, q4⟩ := E.out.two 1 rfl)
    | (go_at_call 44; have _t := tok2; refine (absV sb b (E.out.at_ 1 rfl) Bb.out).mono ?_; rintro e w7 ⟨v7, rfl, hR, hb⟩; obtain ⟨A7, c7, rfl, E'⟩ := E.out.addR hR hb; have E1 := Aside0.mk E'; clear E E' hR hb tok2 _t p1 p2 p3 p4 q1 q2 q3 q4; have E := E1; clear E1; obtain ⟨p1, p2, p3, p4⟩ := E.out.two 0 rfl; obtain ⟨q1, q2, q3, q4⟩ := E.out.two 1 rfl)
    | (go_at_call 44; refine (absV sa a (E.out.at_ 0 rfl) Ba.out).mono ?_; rintro e w8 ⟨v8, rfl, hR, hb⟩; have HD := Aside0.mk hR; have HDB := Aside0.mk hb; clear hR hb)
    | (go_at_call 61; refine (divideV a b HDB.out HD.out (E.out.at_ 2 rfl) h0 (by have := Ba.out; omega) (by have := Bb.out; omega)).mono ?_; rintro e w9 ⟨v9, v10, rfl, hR, hR2, hb⟩; obtain ⟨A9, c9, rfl, E1⟩ := E.out.addR hR hb; obtain ⟨A10, c10, rfl, E2⟩ := E1.addR hR2 (Below.refl _ _); have E' := Aside0.mk E2; clear E E1 E2 hR hR2 hb HD HDB p1 p2 p3 p4 q1 q2 q3 q4; have E := E'; clear E'; obtain ⟨p1, p2, p3, p4⟩ := E.out.two 0 rfl; obtain ⟨q1, q2, q3, q4⟩ := E.out.two 1 rfl)
    | ((with_reducible refine gate_dst (N := 50) rfl ?_); refine Kd.R_lit (Kd.int .u32) _ 57 ?hg (N := 50) ?hd (xs := ([1] : List Int)) (inner := [.int .u32 1]) (ok := fun _ => True) (okp := fun _ => True) ?hr ?hp (fun _ hk => hk) trivial (Below.refl _ _) (Nat.le_refl _) (by simp) ?_; (case hd => rfl); (case hg => rfl); (case hr => first | (go_simp; done) | (go_simp; rfl)); (case hp => exact (Reps.one (show Kd.M (Kd.int .u32) _ _ _ 1 [.int .u32 1] from rfl) (Reps.none _ _))); intro v11 w11 hR hb hg_ hnew_; rw [← one_wds] at hR; obtain ⟨A11, c11, rfl, E'⟩ := E.out.addR hR hb; have E1 := Aside0.mk E'; clear E E' hR hb hg_ hnew_ p1 p2 p3 p4 q1 q2 q3 q4; have E := E1; clear E1)
    | (go_at_call 54; refine (plusV (a / b) 1 (E.out.at_ 3 rfl) (E.out.at_ 5 rfl) (by have := Bq.out; omega) (by have := bl_one; omega)).mono ?_; rintro e w12 ⟨v12, rfl, hR, hb⟩; obtain ⟨A12, c12, rfl, E'⟩ := E.out.addR hR hb; have E1 := Aside0.mk E'; clear E E' hR hb; have E := E1; clear E1)
    | (go_at_call 62; refine (minusV b (a % b) (E.out.at_ 2 rfl) (E.out.at_ 4 rfl) (by have := Bb.out; omega) (by have := Br.out; omega)).mono ?_; rintro e w13 ⟨v13, rfl, hR, hb⟩; obtain ⟨A13, c13, rfl, E'⟩ := E.out.addR hR hb; have E1 := Aside0.mk E'; clear E E' hR hb; have E := E1; clear E1; obtain ⟨p1, p2, p3, p4⟩ := E.out.two 0 rfl; obtain ⟨q1, q2, q3, q4⟩ := E.out.two 1 rfl)
    | (go_at_call 42; have _t := tok3; refine (signedV _ (a / b + 1) (E.out.at_ 6 rfl) (by have := B1.out; omega)).mono ?_; rintro e w14 ⟨v14, rfl, ⟨A14, c14, rfl, r14⟩, hb⟩; have E' := Aside0.mk ((E.out.call hb).add r14); clear E hb r14 tok3 _t p1 p2 p3 p4 q1 q2 q3 q4; have E := E'; clear E'; obtain ⟨p1, p2, p3, p4⟩ := E.out.two 0 rfl; obtain ⟨q1, q2, q3, q4⟩ := E.out.two 1 rfl)
    | ((with_reducible refine gate_dst (N := 10) rfl ?_); refine box_event ?hg (N := 10) ?hd (cs := #[.bool false, .slice none 0 0]) (t := 24) ?hr ?_; (case hd => rfl); (case hg => rfl); (case hr => first | (go_simp; done) | (go_simp; rfl)); intro g4 hg wb hbox hb; have E' := Aside0.mk (E.out.newBox hg hbox hb); clear E hg hbox hb; have E := E'; clear E'; clear p1 p2 p3 p4 q1 q2 q3 q4; obtain ⟨p1, p2, p3, p4⟩ := E.out.two 0 rfl; obtain ⟨q1, q2, q3, q4⟩ := E.out.two 1 rfl; obtain ⟨r1, r2, r3, r4⟩ := E.out.two 4 rfl; have n14 : g1 ≠ g4 := E.out.ne 1 4 rfl rfl (by decide))
    | (go_at_call 42; refine (signedV _ (b - a % b) ((E.out.set2 4 rfl rfl _ _ (by rfl)).at_ 7 rfl) (by have := B2.out; omega)).mono ?_; rintro e w15 ⟨v15, rfl, ⟨A15, c15, rfl, r15⟩, hb⟩; have E' := Aside0.mk (((E.out.set2 4 rfl rfl _ _ (by rfl)).call hb).add r15); clear E hb r15 p1 p2 p3 p4 q1 q2 q3 q4 r1 r2 r3 r4; have E := E'; clear E')
    | ((with_reducible refine gate_dst (N := 12) rfl ?_); refine box_event ?hg (N := 12) ?hd (cs := #[.bool false, .slice none 0 0]) (t := 24) ?hr ?_; (case hd => rfl); (case hg => rfl); (case hr => first | (go_simp; done) | (go_simp; rfl)); intro g5 hg wb hbox hb; have E' := Aside0.mk (E.out.newBox hg hbox hb); clear E hg hbox hb; have E := E'; clear E'; obtain ⟨r1, r2, r3, r4⟩ := E.out.two 5 rfl; obtain ⟨s1, s2, s3, s4⟩ := E.out.two 4 rfl; obtain ⟨t1, t2, t3, t4⟩ := E.out.two 2 rfl; obtain ⟨u1, u2, u3, u4⟩ := E.out.two 3 rfl; have n45 : g4 ≠ g5 := E.out.ne 4 5 rfl rfl (by decide); have n25 : g2 ≠ g5 := E.out.ne 2 5 rfl rfl (by decide); have n35 : g3 ≠ g5 := E.out.ne 3 5 rfl rfl (by decide); have n23 : g2 ≠ g3 := E.out.ne 2 3 rfl rfl (by decide); have n24 : g2 ≠ g4 := E.out.ne 2 4 rfl rfl (by decide); have n34 : g3 ≠ g4 := E.out.ne 3 4 rfl rfl (by decide)))
      go_region
      go_wp2
      have EF := (((E.out.set2 5 rfl rfl (.bool (sgn sb (b - a % b)).1) (.slice A15 (sgn sb (b - a % b)).2.1.length c15) rfl).set2 2 rfl rfl (.bool (sgn true (a / b + 1)).1) (.slice A14 (sgn true (a / b + 1)).2.1.length c14) rfl).set2 3 rfl rfl (.bool (sgn sb (b - a % b)).1) (.slice A15 (sgn sb (b - a % b)).2.1.length c15) rfl).drew
      have k2 := EF.blk2 2 g2 (.bool (sgn true (a / b + 1)).1) (.slice A14 (sgn true (a / b + 1)).2.1.length c14) 24 rfl
      have k3 := EF.blk2 3 g3 (.bool (sgn sb (b - a % b)).1) (.slice A15 (sgn sb (b - a % b)).2.1.length c15) 24 rfl
      refine bodyPost_ret (results_list (rs := [.cell 4 24, .cell 5 24, .tmp 6]) rfl (by simp) (.cell g2 24 #[.bool (sgn true (a / b + 1)).1, .slice A14 (sgn true (a / b + 1)).2.1.length c14] (0, 0) _ rfl k2 Tryd.underlying24 rfl (by kernel_rfl) (.cell g3 24 #[.bool (sgn sb (b - a % b)).1, .slice A15 (sgn sb (b - a % b)).2.1.length c15] (0, 0) _ rfl k3 Tryd.underlying24 rfl (by kernel_rfl) (.tmp .nil)))) rfl ?_
      rw [HD.out]
      exact ⟨_, _, rfl, ⟨_, _, rfl, EF.at_ 8 rfl⟩, ⟨_, _, rfl, EF.at_ 9 rfl⟩, EF.below⟩
    · have hrn : ¬ 0 < (wds B32 (a % b)).length := by rw [show a % b = 0 by omega, wds_zero]; simp
      have hrl : decide (0 < ((wds B32 (a % b)).length : Int)) = false := by rw [decide_eq_false (by omega)]
      have HD := Aside0.mk (show dmA sa sb a b = (((sgn true (a / b)).1, (sgn true (a / b)).2.1), ((sgn sb (a % b)).1, (sgn sb (a % b)).2.1)) by unfold dmA; rw [if_neg (fun h => cr h.2), cs])
      obtain ⟨y1, y2, y3, y4, y5, y6⟩ := dm_bounds a b h0 G.out.1 G.out.2
      have y7 : bl (a % b) ≤ 1000 := by have := bl_mono (Nat.le_of_lt y4); omega
      have Ba := Aside0.mk y1
      have Bb := Aside0.mk y2
      have Bq := Aside0.mk y3
      have Br := Aside0.mk y4
      have B1 := Aside0.mk (show bl (a / b) ≤ 1000 by omega)
      have B2 := Aside0.mk y7
      clear G cr y1 y2 y3 y4 y5 y6 y7
      go_enter Tryd.func28, Tryd.ntmps28
      go_wp2_with (first
    | ((with_reducible refine gate_dst (N := 2) rfl ?_); refine box_event ?hg (N := 2) ?hd (cs := #[.bool sa, .slice A (dg a).length c]) (t := 24) ?hr ?_; (case hd => rfl); (case hg => rfl); (case hr => first | (go_simp; done) | (go_simp; rfl)); intro g0 hg wb hbox hb; have E' := Aside0.mk (E.out.newBox hg hbox hb); clear E hg hbox hb; have E := E'; clear E')
    | ((with_reducible refine gate_dst (N := 3) rfl ?_); refine box_event ?hg (N := 3) ?hd (cs := #[.bool sb, .slice B (dg b).length c']) (t := 24) ?hr ?_; (case hd => rfl); (case hg => rfl); (case hr => first | (go_simp; done) | (go_simp; rfl)); intro g1 hg wb hbox hb; have E' := Aside0.mk (E.out.newBox hg hbox hb); clear E hg hbox hb; have E := E'; clear E')
    | ((with_reducible refine gate_dst (N := 4) rfl ?_); refine box_event ?hg (N := 4) ?hd (cs := #[.bool false, .slice none 0 0]) (t := 24) ?hr ?_; (case hd => rfl); (case hg => rfl); (case hr => first | (go_simp; done) | (go_simp; rfl)); intro g2 hg wb hbox hb; have E' := Aside0.mk (E.out.newBox hg hbox hb); clear E hg hbox hb; have E := E'; clear E')
    | ((with_reducible refine gate_dst (N := 5) rfl ?_); refine box_event ?hg (N := 5) ?hd (cs := #[.bool false, .slice none 0 0]) (t := 24) ?hr ?_; (case hd => rfl); (case hg => rfl); (case hr => first | (go_simp; done) | (go_simp; rfl)); intro g3 hg wb hbox hb; have E' := Aside0.mk (E.out.newBox hg hbox hb); clear E hg hbox hb; have E := E'; clear E'; obtain ⟨p1, p2, p3, p4⟩ := E.out.two 0 rfl; obtain ⟨q1, q2, q3, q4⟩ := E.out.two 1 rfl)
    | (go_at_call 33; have _t := tok1; refine (validV sa (dg a) (E.out.at_ 0 rfl)).mono ?_; rintro e w5 ⟨rfl, hb⟩; have E' := Aside0.mk (E.out.call hb); clear E hb tok1 _t p1 p2 p3 p4 q1 q2 q3 q4; have E := E'; clear E'; obtain ⟨p1, p2, p3, p4⟩ := E.out.two 0 rfl; obtain ⟨q1, q2, q3, q4⟩ := E.out.two 1 rfl)
    | (go_at_call 33; refine (validV sb (dg b) (E.out.at_ 1 rfl)).mono ?_; rintro e w6 ⟨rfl, hb⟩; have E' := Aside0.mk (E.out.call hb); clear E hb p1 p2 p3 p4 q1 q2 q3 q4; have E := E'; clear E'; obtain ⟨p1, p2, p3, p4⟩ := E.out.two 0 rfl; obtain ⟨q1, q2, q3, q4⟩ := E.out.two 1 rfl)
    | (go_at_call 44; have _t := tok2; refine (absV sb b (E.out.at_ 1 rfl) Bb.out).mono ?_; rintro e w7 ⟨v7, rfl, hR, hb⟩; obtain ⟨A7, c7, rfl, E'⟩ := E.out.addR hR hb; have E1 := Aside0.mk E'; clear E E' hR hb tok2 _t p1 p2 p3 p4 q1 q2 q3 q4; have E := E1; clear E1; obtain ⟨p1, p2, p3, p4⟩ := E.out.two 0 rfl; obtain ⟨q1, q2, q3, q4⟩ := E.out.two 1 rfl)
    | (go_at_call 44; refine (absV sa a (E.out.at_ 0 rfl) Ba.out).mono ?_; rintro e w8 ⟨v8, rfl, hR, hb⟩; have HD := Aside0.mk hR; have HDB := Aside0.mk hb; clear hR hb)
    | (go_at_call 61; refine (divideV a b HDB.out HD.out (E.out.at_ 2 rfl) h0 (by have := Ba.out; omega) (by have := Bb.out; omega)).mono ?_; rintro e w9 ⟨v9, v10, rfl, hR, hR2, hb⟩; obtain ⟨A9, c9, rfl, E1⟩ := E.out.addR hR hb; obtain ⟨A10, c10, rfl, E2⟩ := E1.addR hR2 (Below.refl _ _); have E' := Aside0.mk E2; clear E E1 E2 hR hR2 hb HD HDB p1 p2 p3 p4 q1 q2 q3 q4; have E := E'; clear E'; obtain ⟨p1, p2, p3, p4⟩ := E.out.two 0 rfl; obtain ⟨q1, q2, q3, q4⟩ := E.out.two 1 rfl)
    | (go_at_call 42; have _t := tok3; refine (signedV _ (a / b) (E.out.at_ 3 rfl) (by have := B1.out; omega)).mono ?_; rintro e w14 ⟨v14, rfl, ⟨A14, c14, rfl, r14⟩, hb⟩; have E' := Aside0.mk ((E.out.call hb).add r14); clear E hb r14 tok3 _t p1 p2 p3 p4 q1 q2 q3 q4; have E := E'; clear E'; obtain ⟨p1, p2, p3, p4⟩ := E.out.two 0 rfl; obtain ⟨q1, q2, q3, q4⟩ := E.out.two 1 rfl)
    | ((with_reducible refine gate_dst (N := 10) rfl ?_); refine box_event ?hg (N := 10) ?hd (cs := #[.bool false, .slice none 0 0]) (t := 24) ?hr ?_; (case hd => rfl); (case hg => rfl); (case hr => first | (go_simp; done) | (go_simp; rfl)); intro g4 hg wb hbox hb; have E' := Aside0.mk (E.out.newBox hg hbox hb); clear E hg hbox hb; have E := E'; clear E'; clear p1 p2 p3 p4 q1 q2 q3 q4; obtain ⟨p1, p2, p3, p4⟩ := E.out.two 0 rfl; obtain ⟨q1, q2, q3, q4⟩ := E.out.two 1 rfl; obtain ⟨r1, r2, r3, r4⟩ := E.out.two 4 rfl; have n14 : g1 ≠ g4 := E.out.ne 1 4 rfl rfl (by decide))
    | (go_at_call 42; refine (signedV _ (a % b) ((E.out.set2 4 rfl rfl _ _ (by rfl)).at_ 4 rfl) (by have := B2.out; omega)).mono ?_; rintro e w15 ⟨v15, rfl, ⟨A15, c15, rfl, r15⟩, hb⟩; have E' := Aside0.mk (((E.out.set2 4 rfl rfl _ _ (by rfl)).call hb).add r15); clear E hb r15 p1 p2 p3 p4 q1 q2 q3 q4 r1 r2 r3 r4; have E := E'; clear E')
    | ((with_reducible refine gate_dst (N := 12) rfl ?_); refine box_event ?hg (N := 12) ?hd (cs := #[.bool false, .slice none 0 0]) (t := 24) ?hr ?_; (case hd => rfl); (case hg => rfl); (case hr => first | (go_simp; done) | (go_simp; rfl)); intro g5 hg wb hbox hb; have E' := Aside0.mk (E.out.newBox hg hbox hb); clear E hg hbox hb; have E := E'; clear E'; obtain ⟨r1, r2, r3, r4⟩ := E.out.two 5 rfl; obtain ⟨s1, s2, s3, s4⟩ := E.out.two 4 rfl; obtain ⟨t1, t2, t3, t4⟩ := E.out.two 2 rfl; obtain ⟨u1, u2, u3, u4⟩ := E.out.two 3 rfl; have n45 : g4 ≠ g5 := E.out.ne 4 5 rfl rfl (by decide); have n25 : g2 ≠ g5 := E.out.ne 2 5 rfl rfl (by decide); have n35 : g3 ≠ g5 := E.out.ne 3 5 rfl rfl (by decide); have n23 : g2 ≠ g3 := E.out.ne 2 3 rfl rfl (by decide); have n24 : g2 ≠ g4 := E.out.ne 2 4 rfl rfl (by decide); have n34 : g3 ≠ g4 := E.out.ne 3 4 rfl rfl (by decide)))
      go_region
      go_wp2
      have EF := (((E.out.set2 5 rfl rfl (.bool (sgn sb (a % b)).1) (.slice A15 (sgn sb (a % b)).2.1.length c15) rfl).set2 2 rfl rfl (.bool (sgn true (a / b)).1) (.slice A14 (sgn true (a / b)).2.1.length c14) rfl).set2 3 rfl rfl (.bool (sgn sb (a % b)).1) (.slice A15 (sgn sb (a % b)).2.1.length c15) rfl).drew
      have k2 := EF.blk2 2 g2 (.bool (sgn true (a / b)).1) (.slice A14 (sgn true (a / b)).2.1.length c14) 24 rfl
      have k3 := EF.blk2 3 g3 (.bool (sgn sb (a % b)).1) (.slice A15 (sgn sb (a % b)).2.1.length c15) 24 rfl
      refine bodyPost_ret (results_list (rs := [.cell 4 24, .cell 5 24, .tmp 6]) rfl (by simp) (.cell g2 24 #[.bool (sgn true (a / b)).1, .slice A14 (sgn true (a / b)).2.1.length c14] (0, 0) _ rfl k2 Tryd.underlying24 rfl (by kernel_rfl) (.cell g3 24 #[.bool (sgn sb (a % b)).1, .slice A15 (sgn sb (a % b)).2.1.length c15] (0, 0) _ rfl k3 Tryd.underlying24 rfl (by kernel_rfl) (.tmp .nil)))) rfl ?_
      rw [HD.out]
      exact ⟨_, _, rfl, ⟨_, _, rfl, EF.at_ 5 rfl⟩, ⟨_, _, rfl, EF.at_ 6 rfl⟩, EF.below⟩
  · have cs1 : (sa == sb) = true := by revert cs; cases sa <;> cases sb <;> decide
    have cs3 : (sa != sb) = false := by revert cs; cases sa <;> cases sb <;> decide
    have cs2 : sa = sb := by revert cs; cases sa <;> cases sb <;> decide
    have HD := Aside0.mk (show dmA sa sb a b = (((sgn false (a / b)).1, (sgn false (a / b)).2.1), ((sgn sb (a % b)).1, (sgn sb (a % b)).2.1)) by unfold dmA; rw [if_neg (fun h => cs h.1), cs3])
    have cr : True := trivial
    clear cs
    have cs := Aside0.mk cs2
    clear cs2
    obtain ⟨y1, y2, y3, y4, y5, y6⟩ := dm_bounds a b h0 G.out.1 G.out.2
    have y7 : bl (a % b) ≤ 1000 := by have := bl_mono (Nat.le_of_lt y4); omega
    have Ba := Aside0.mk y1
    have Bb := Aside0.mk y2
    have Bq := Aside0.mk y3
    have Br := Aside0.mk y4
    have B1 := Aside0.mk (show bl (a / b) ≤ 1000 by omega)
    have B2 := Aside0.mk y7
    clear G cr y1 y2 y3 y4 y5 y6 y7
    go_enter Tryd.func28, Tryd.ntmps28
    go_wp2_with (first
    | ((with_reducible refine gate_dst (N := 2) rfl ?_); refine box_event ?hg (N := 2) ?hd (cs := #[.bool sa, .slice A (dg a).length c]) (t := 24) ?hr ?_; (case hd => rfl); (case hg => rfl); (case hr => first | (go_simp; done) | (go_simp; rfl)); intro g0 hg wb hbox hb; have E' := Aside0.mk (E.out.newBox hg hbox hb); clear E hg hbox hb; have E := E'; clear E')
    | ((with_reducible refine gate_dst (N := 3) rfl ?_); refine box_event ?hg (N := 3) ?hd (cs := #[.bool sb, .slice B (dg b).length c']) (t := 24) ?hr ?_; (case hd => rfl); (case hg => rfl); (case hr => first | (go_simp; done) | (go_simp; rfl)); intro g1 hg wb hbox hb; have E' := Aside0.mk (E.out.newBox hg hbox hb); clear E hg hbox hb; have E := E'; clear E')
    | ((with_reducible refine gate_dst (N := 4) rfl ?_); refine box_event ?hg (N := 4) ?hd (cs := #[.bool false, .slice none 0 0]) (t := 24) ?hr ?_; (case hd => rfl); (case hg => rfl); (case hr => first | (go_simp; done) | (go_simp; rfl)); intro g2 hg wb hbox hb; have E' := Aside0.mk (E.out.newBox hg hbox hb); clear E hg hbox hb; have E := E'; clear E')
    | ((with_reducible refine gate_dst (N := 5) rfl ?_); refine box_event ?hg (N := 5) ?hd (cs := #[.bool false, .slice none 0 0]) (t := 24) ?hr ?_; (case hd => rfl); (case hg => rfl); (case hr => first | (go_simp; done) | (go_simp; rfl)); intro g3 hg wb hbox hb; have E' := Aside0.mk (E.out.newBox hg hbox hb); clear E hg hbox hb; have E := E'; clear E'; obtain ⟨p1, p2, p3, p4⟩ := E.out.two 0 rfl; obtain ⟨q1, q2, q3, q4⟩ := E.out.two 1 rfl)
    | (go_at_call 33; have _t := tok1; refine (validV sa (dg a) (E.out.at_ 0 rfl)).mono ?_; rintro e w5 ⟨rfl, hb⟩; have E' := Aside0.mk (E.out.call hb); clear E hb tok1 _t p1 p2 p3 p4 q1 q2 q3 q4; have E := E'; clear E'; obtain ⟨p1, p2, p3, p4⟩ := E.out.two 0 rfl; obtain ⟨q1, q2, q3, q4⟩ := E.out.two 1 rfl)
    | (go_at_call 33; refine (validV sb (dg b) (E.out.at_ 1 rfl)).mono ?_; rintro e w6 ⟨rfl, hb⟩; have E' := Aside0.mk (E.out.call hb); clear E hb p1 p2 p3 p4 q1 q2 q3 q4; have E := E'; clear E'; obtain ⟨p1, p2, p3, p4⟩ := E.out.two 0 rfl; obtain ⟨q1, q2, q3, q4⟩ := E.out.two 1 rfl)
    | (go_at_call 44; have _t := tok2; refine (absV sb b (E.out.at_ 1 rfl) Bb.out).mono ?_; rintro e w7 ⟨v7, rfl, hR, hb⟩; obtain ⟨A7, c7, rfl, E'⟩ := E.out.addR hR hb; have E1 := Aside0.mk E'; clear E E' hR hb tok2 _t p1 p2 p3 p4 q1 q2 q3 q4; have E := E1; clear E1; obtain ⟨p1, p2, p3, p4⟩ := E.out.two 0 rfl; obtain ⟨q1, q2, q3, q4⟩ := E.out.two 1 rfl)
    | (go_at_call 44; refine (absV sa a (E.out.at_ 0 rfl) Ba.out).mono ?_; rintro e w8 ⟨v8, rfl, hR, hb⟩; have HD := Aside0.mk hR; have HDB := Aside0.mk hb; clear hR hb)
    | (go_at_call 61; refine (divideV a b HDB.out HD.out (E.out.at_ 2 rfl) h0 (by have := Ba.out; omega) (by have := Bb.out; omega)).mono ?_; rintro e w9 ⟨v9, v10, rfl, hR, hR2, hb⟩; obtain ⟨A9, c9, rfl, E1⟩ := E.out.addR hR hb; obtain ⟨A10, c10, rfl, E2⟩ := E1.addR hR2 (Below.refl _ _); have E' := Aside0.mk E2; clear E E1 E2 hR hR2 hb HD HDB p1 p2 p3 p4 q1 q2 q3 q4; have E := E'; clear E'; obtain ⟨p1, p2, p3, p4⟩ := E.out.two 0 rfl; obtain ⟨q1, q2, q3, q4⟩ := E.out.two 1 rfl)
    | (go_at_call 42; have _t := tok3; refine (signedV _ (a / b) (E.out.at_ 3 rfl) (by have := B1.out; omega)).mono ?_; rintro e w14 ⟨v14, rfl, ⟨A14, c14, rfl, r14⟩, hb⟩; have E' := Aside0.mk ((E.out.call hb).add r14); clear E hb r14 tok3 _t p1 p2 p3 p4 q1 q2 q3 q4; have E := E'; clear E'; obtain ⟨p1, p2, p3, p4⟩ := E.out.two 0 rfl; obtain ⟨q1, q2, q3, q4⟩ := E.out.two 1 rfl)
    | ((with_reducible refine gate_dst (N := 10) rfl ?_); refine box_event ?hg (N := 10) ?hd (cs := #[.bool false, .slice none 0 0]) (t := 24) ?hr ?_; (case hd => rfl); (case hg => rfl); (case hr => first | (go_simp; done) | (go_simp; rfl)); intro g4 hg wb hbox hb; have E' := Aside0.mk (E.out.newBox hg hbox hb); clear E hg hbox hb; have E := E'; clear E'; clear p1 p2 p3 p4 q1 q2 q3 q4; obtain ⟨p1, p2, p3, p4⟩ := E.out.two 0 rfl; obtain ⟨q1, q2, q3, q4⟩ := E.out.two 1 rfl; obtain ⟨r1, r2, r3, r4⟩ := E.out.two 4 rfl; have n14 : g1 ≠ g4 := E.out.ne 1 4 rfl rfl (by decide))
    | (go_at_call 42; refine (signedV _ (a % b) ((E.out.set2 4 rfl rfl _ _ (by rfl)).at_ 4 rfl) (by have := B2.out; omega)).mono ?_; rintro e w15 ⟨v15, rfl, ⟨A15, c15, rfl, r15⟩, hb⟩; have E' := Aside0.mk (((E.out.set2 4 rfl rfl _ _ (by rfl)).call hb).add r15); clear E hb r15 p1 p2 p3 p4 q1 q2 q3 q4 r1 r2 r3 r4; have E := E'; clear E')
    | ((with_reducible refine gate_dst (N := 12) rfl ?_); refine box_event ?hg (N := 12) ?hd (cs := #[.bool false, .slice none 0 0]) (t := 24) ?hr ?_; (case hd => rfl); (case hg => rfl); (case hr => first | (go_simp; done) | (go_simp; rfl)); intro g5 hg wb hbox hb; have E' := Aside0.mk (E.out.newBox hg hbox hb); clear E hg hbox hb; have E := E'; clear E'; obtain ⟨r1, r2, r3, r4⟩ := E.out.two 5 rfl; obtain ⟨s1, s2, s3, s4⟩ := E.out.two 4 rfl; obtain ⟨t1, t2, t3, t4⟩ := E.out.two 2 rfl; obtain ⟨u1, u2, u3, u4⟩ := E.out.two 3 rfl; have n45 : g4 ≠ g5 := E.out.ne 4 5 rfl rfl (by decide); have n25 : g2 ≠ g5 := E.out.ne 2 5 rfl rfl (by decide); have n35 : g3 ≠ g5 := E.out.ne 3 5 rfl rfl (by decide); have n23 : g2 ≠ g3 := E.out.ne 2 3 rfl rfl (by decide); have n24 : g2 ≠ g4 := E.out.ne 2 4 rfl rfl (by decide); have n34 : g3 ≠ g4 := E.out.ne 3 4 rfl rfl (by decide)))
    go_region
    go_wp2
    have EF := (((E.out.set2 5 rfl rfl (.bool (sgn sb (a % b)).1) (.slice A15 (sgn sb (a % b)).2.1.length c15) rfl).set2 2 rfl rfl (.bool (sgn false (a / b)).1) (.slice A14 (sgn false (a / b)).2.1.length c14) rfl).set2 3 rfl rfl (.bool (sgn sb (a % b)).1) (.slice A15 (sgn sb (a % b)).2.1.length c15) rfl).drew
    have k2 := EF.blk2 2 g2 (.bool (sgn false (a / b)).1) (.slice A14 (sgn false (a / b)).2.1.length c14) 24 rfl
    have k3 := EF.blk2 3 g3 (.bool (sgn sb (a % b)).1) (.slice A15 (sgn sb (a % b)).2.1.length c15) 24 rfl
    refine bodyPost_ret (results_list (rs := [.cell 4 24, .cell 5 24, .tmp 6]) rfl (by simp) (.cell g2 24 #[.bool (sgn false (a / b)).1, .slice A14 (sgn false (a / b)).2.1.length c14] (0, 0) _ rfl k2 Tryd.underlying24 rfl (by kernel_rfl) (.cell g3 24 #[.bool (sgn sb (a % b)).1, .slice A15 (sgn sb (a % b)).2.1.length c15] (0, 0) _ rfl k3 Tryd.underlying24 rfl (by kernel_rfl) (.tmp .nil)))) rfl ?_
    rw [HD.out]
    exact ⟨_, _, rfl, ⟨_, _, rfl, EF.at_ 5 rfl⟩, ⟨_, _, rfl, EF.at_ 6 rfl⟩, EF.below⟩
end Go.Proofs.YtnkpfaoklkapdaaDoor.Print
