/- The statement NumberOf, walked. -/
import Derived.Test.YtnkpfaoklkapdaaDoorNumVal
import Derived.Test.YtnkpfaoklkapdaaDoorExtK
namespace Go.Proofs.YtnkpfaoklkapdaaDoor.Print
open Go.RowKit Go.Proofs.YtnkpfaoklkapdaaDoorW.PrintWords Go.Proofs.YtnkpfaoklkapdaaDoorW.PrintLast Go.Proofs.YtnkpfaoklkapdaaDoorW.PrintMore
open Go.Proofs.YtnkpfaoklkapdaaDoor.NumP
set_option linter.unusedVariables false
set_option linter.unusedSimpArgs false

theorem int_good (n : Int) (h0 : -9223372036854775808 ≤ n) (h1 : n < 9223372036854775808) : Good (decide (n < 0)) n.natAbs := by
  refine ⟨fun e => decide_eq_false (by omega), bl_good ?_⟩
  have := bl_small (show n.natAbs < 18446744073709551616 by omega)
  omega
theorem int_val (n : Int) (h0 : -9223372036854775808 ≤ n) (h1 : n < 9223372036854775808) : valA (decide (n < 0)) n.natAbs = (n, 0) := by
  unfold valA
  by_cases c : n < 0
  · rw [decide_eq_true c, if_pos rfl, if_pos rfl, if_pos (by omega)]
    congr 1; omega
  · rw [decide_eq_false c, if_pos (by simp; omega), if_neg (by simp)]
    congr 1; omega
theorem valueV (s : Bool) (n : Nat) {A : Option Addr} {c : Nat} {w : World} (h : Good s n) (hA : IR w A c (dg n)) :
    Calls Tryd.prog 12 #[.agg #[.bool s, .slice A (dg n).length c]] w fun e w' => e = .returned (.tuple #[.int .i64 (valA s n).1, .int .i64 (valA s n).2]) ∧ Below w.heap.size w w' := by
  obtain ⟨K, hK⟩ := (Value_E s n h).rounds
  exact number_Value.calls K s A c _ _ _ w hA.1 hA.2 hK
set_option maxHeartbeats 8000000 in
set_option maxRecDepth 100000 in
theorem NumberOf.walk (n : Int) (w : World) (h0 : -9223372036854775808 ≤ n) (h1 : n < 9223372036854775808) : Calls Tryd.prog 3 #[.int .i64 n] w fun e w' => e = .returned (.bool true) ∧ Below w.heap.size w w' := by
  have hu24 := Tryd.underlying24
  have E := Aside0.mk (Env.start0 w)
  have G := Aside0.mk (int_good n h0 h1)
  have H0 := Aside0.mk h0
  have H1 := Aside0.mk h1
  have V := Aside0.mk (int_val n h0 h1)
  obtain ⟨s, hs⟩ : ∃ s, s = decide (n < 0) := ⟨_, rfl⟩
  obtain ⟨a, ha⟩ : ∃ a, a = n.natAbs := ⟨_, rfl⟩
  have F1 := Aside0.mk (ofV n · h0 h1)
  have F2 := Aside0.mk (refOfV n · h0 h1)
  rw [← hs, ← ha] at G V F1 F2
  clear h0 h1 hs ha
  go_enter Tryd.func3, Tryd.ntmps3
  go_wp2_with (first
    | (go_at_call 11; refine (F1.out _).mono ?_; rintro e w1 ⟨v1, rfl, ⟨A1, c1, rfl, r1⟩, hb⟩; have E' := Aside0.mk ((E.out.call hb).add r1); clear E hb r1; have E := E'; clear E')
    | ((with_reducible refine gate_dst (N := 3) rfl ?_); refine box_event ?hg (N := 3) ?hd (cs := #[.bool false, .slice none 0 0]) (t := 24) ?hr ?_; (case hd => rfl); (case hg => rfl); (case hr => first | (go_simp; done) | (go_simp; rfl)); intro g3 hg wb hbox hb; have E' := Aside0.mk (E.out.newBox hg hbox hb); clear E hg hbox hb; have E := E'; clear E'; obtain ⟨p1, p2, p3, p4⟩ := E.out.two 0 rfl)
    | (go_at_call 12; refine (valueV s a G.out ((E.out.set2 0 rfl rfl _ _ (by rfl)).at_ 0 rfl)).mono ?_; rw [V.out]; rintro e w2 ⟨rfl, hb⟩; have E' := Aside0.mk ((E.out.set2 0 rfl rfl _ _ (by rfl)).call hb); clear E hb; have E := E'; clear E'; clear p1 p2 p3 p4))
  have E' := Aside0.mk E.out.drew
  clear E
  have E := E'
  clear E'
  go_region_held3 (fun w' => w'.cell? ⟨g3, 0, none⟩ = some (.bool s) ∧ w'.cell? ⟨g3, 1, none⟩ = some (.slice A1 (dg a).length c1)) (exact ⟨(E.out.two 0 rfl).1, (E.out.two 0 rfl).2.1⟩) (first
    | (go_at_call 14; refine (F2.out _).mono ?_; rintro e w3 ⟨v3, rfl, ⟨A3, c3, rfl, r3⟩, hb⟩; have E' := Aside0.mk ((E.out.call hb).add r3); clear E hb r3; have E := E'; clear E')
    | (go_at_call 13; refine (sameV s s (dg a) (dg a) true (E.out.at_ 0 rfl) (E.out.at_ 1 rfl) (same_refl _ _)).mono ?_; rintro e w4 ⟨rfl, hb⟩; have E' := Aside0.mk (E.out.call hb); clear E hb; have E := E'; clear E')
    | (go_at_call 15; refine (known_walk _).mono ?_; rintro e w5 ⟨rfl, hb⟩; have E' := Aside0.mk (E.out.call hb); clear E hb; have E := E'; clear E'))
  all_goals go_wp2
  all_goals go_ret
  all_goals exact ⟨rfl, E.out.below⟩
def bandplanlaw01_NumberOf.f (a0 : Int) : Option Bool := if -9223372036854775808 ≤ a0 ∧ a0 < 9223372036854775808 then some true else none
theorem bandplanlaw01_NumberOf.calls (a0 : Int) (r : Bool) (w : World) (h : bandplanlaw01_NumberOf.f a0 = some r) :
    Calls Tryd.prog 3 #[.int .i64 a0] w fun e w' => e = .returned (.bool r) ∧ Below w.heap.size w w' := by
  unfold bandplanlaw01_NumberOf.f at h
  split at h
  · rename_i hc
    cases h
    exact NumberOf.walk a0 w hc.1 hc.2
  · cases h
theorem wf_i64 {a : Int} (h : (Lit.int .i64 a).wf = true) : -9223372036854775808 ≤ a ∧ a ≤ 9223372036854775807 := by
  have e1 : IntKind.i64.min = -9223372036854775808 := rfl
  have e2 : IntKind.i64.max = 9223372036854775807 := rfl
  simp [Lit.wf, e1, e2] at h
  omega
theorem pure_NumberOf (a0 : Int) (h : (Lit.int .i64 a0).wf = true) : bandplanlaw01_NumberOf.f a0 = some true := by
  have := wf_i64 h
  unfold bandplanlaw01_NumberOf.f
  rw [if_pos ⟨this.1, by omega⟩]
end Go.Proofs.YtnkpfaoklkapdaaDoor.Print
