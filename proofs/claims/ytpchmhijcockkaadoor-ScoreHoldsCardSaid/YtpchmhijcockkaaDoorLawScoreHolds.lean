/- ScoreHolds: the row: the law answers true for every input, out of its plain law and the walk of its code; and its tied card. -/
import Derived.Test.YtpchmhijcockkaaDoorRows
import Derived.Test.YtpchmhijcockkaaDoorPrint14
import Derived.Test.YtpchmhijcockkaaDoorPureG
import Derived.Test.YtpchmhijcockkaaDoorXOpen
import Derived.Test.YtpchmhijcockkaaDoorLaidW
import Derived.Test.YtpchmhijcockkaaDoorCards
import Derived.Test.YtpchmhijcockkaaDoorTie
import Derived.WalkKit
import Derived.ProofKit
import Derived.OpenShut
import Derived.ShutString
import Derived.ChangeOld
import Derived.Below
import Derived.SizedLaws
import Derived.Carry
import Derived.Handed
import Derived.ChangeSame
import Derived.ChangeVars
import Derived.JoinedOf
import Derived.RowKit
import Derived.SevenTiedAt
namespace Go.Proofs.YtpchmhijcockkaaDoor.scoreHolds
open Go.ChangeShapes Go.WideShapes Go.ChangeAt Go.RowKit Go.Proofs.YtpchmhijcockkaaDoorW.PrintWords Go.Proofs.YtpchmhijcockkaaDoorW.XOpen Go.Proofs.YtpchmhijcockkaaDoor.Print
set_option linter.unusedVariables false
theorem own : ownKnob Tryd.prog.godebug = none := by kernel_rfl
theorem laidOut : laidOutB Tryd.prog = true := by kernel_rfl
theorem opens40 : Opens Tryd.prog 40 k40 (fun x => ((Lit.int .i64 x.f0).wf = true ∧ (Lit.int .i64 x.f1).wf = true ∧ (Lit.int .i64 x.f2).wf = true)) :=
  opens_iso (fun x : S40 => (x.f0, x.f1, x.f2)) (fun p => ⟨p.1, p.2.1, p.2.2⟩) (fun _ => rfl) (opens_struct Tryd.underlying40 (by kernel_rfl) (fields_cons (by rfl) (by kernel_rfl) (opens_int Tryd.underlying3) (fields_cons (by rfl) (by kernel_rfl) (opens_int Tryd.underlying3) (fields_last (by rfl) (by kernel_rfl) (opens_int Tryd.underlying3)))))
set_option maxRecDepth 100000 in
theorem lifted (os : Os) (started : os.Started) (H : Type) (enc : TypeId × Value → H) :
    ReturnsInHanded {} Tryd.checked os 11 .any (fun w args => (Rows.scoreHoldsSpec.pre enc Tryd.prog Tryd.f11 [] false w args ∧ laidMet Tryd.prog [("bandplan/score.worths", Rows.laid_bandplan_score_worths)] w) ∧ sizedMet enc Tryd.prog Tryd.f11 (OpenSpec.ofChange Rows.scoreHoldsSpec) false w args) (Rows.scoreHoldsSpec.post enc Tryd.prog Tryd.f11 false true false false) := by
  refine returnsInHanded_of_change_and (C := Tryd.checked) (X := fun w _ => laidMet Tryd.prog [("bandplan/score.worths", Rows.laid_bandplan_score_worths)] w) (fun _ _ _ hh h => h.of_heap hh) own started (by kernel_rfl) Tryd.func11
    (ChangeSpec.witness_at (enc := enc) (C := Tryd.checked) (os := os) (X := fun w _ => laidMet Tryd.prog [("bandplan/score.worths", Rows.laid_bandplan_score_worths)] w) false (Print.laidWorld os) #[.slice none 0 0, .int .i64 0, .int .i64 0, .int .i64 0] 8 rfl (by kernel_rfl) (by kernel_rfl) (by kernel_rfl) (by kernel_rfl) (by kernel_rfl) (Print.laidWorld_met os _)) ?_
  intro W base args ds gs before hval0 hW hcnd hsz0 hL _
  have hval : ∀ (j : Nat) t v, Tryd.f11.params[j]? = some t → args[j]? = some v → Value.okWide Tryd.prog W .any base t v := hval0
  have hW' := hW
  obtain ⟨p, q, hA0, hV, rfl, hfz, hnd⟩ := hW
  have hA : DataW.TrodAll enc Tryd.prog W 0 (fun _ => true) true Tryd.f11.params.toList args.toList ds p := hA0
  rw [Tryd.params11] at hA hval
  obtain ⟨v0, vs0, d0, ds0, p0, q0, hargs, rfl, rfl, h0, r0⟩ := trodAll_cons hA
  obtain ⟨v1, vs1, d1, ds1, p1, q1, rfl, rfl, rfl, h1, r1⟩ := trodAll_cons r0
  obtain ⟨v2, vs2, d2, ds2, p2, q2, rfl, rfl, rfl, h2, r2⟩ := trodAll_cons r1
  obtain ⟨v3, vs3, d3, ds3, p3, q3, rfl, rfl, rfl, h3, r3⟩ := trodAll_cons r2
  obtain ⟨rfl, rfl, rfl⟩ := trodAll_nil r3
  obtain rfl : args = #[v0, v1, v2, v3] := by cases args; simp_all
  obtain ⟨rfl, rfl⟩ := trodVars_none hV
  have k0_ := h0
  have lt0 : ∀ x ∈ p0, x.block < W.heap.size := by obtain ⟨m, hm⟩ := k0_; exact DataW.trod_lt m _ _ _ hm
  obtain ⟨fu0, hf0⟩ := h0
  obtain ⟨x0, hk0, hw0⟩ := (opens_slice Tryd.underlying44 (by kernel_rfl) opens40) H enc W 0 _ true fu0 _ _ hf0
  obtain ⟨a0_, l0_, m0_, rfl⟩ := okWide_slice Tryd.underlying44 (hval 0 44 v0 rfl rfl)
  obtain ⟨A0, c0, e0_, hc0, hr0⟩ := hk0
  have e0' : [Value.slice a0_ l0_ m0_] = [Value.slice A0 x0.length c0] := e0_
  injection e0' with e0'' _
  injection e0'' with e0a e0b e0c
  subst e0a e0b e0c
  have k1_ := h1
  have lt1 : ∀ x ∈ p1, x.block < W.heap.size := by obtain ⟨m, hm⟩ := k1_; exact DataW.trod_lt m _ _ _ hm
  obtain ⟨fu1, hf1⟩ := h1
  obtain ⟨x1, hk1, hw1⟩ := (opens_int Tryd.underlying3) H enc W 0 _ true fu1 _ _ hf1
  obtain ⟨n1, rfl⟩ := okWide_int Tryd.underlying3 (hval 1 3 v1 rfl rfl)
  obtain rfl : x1 = n1 := by have e_ : [Value.int _ n1] = [Value.int _ x1] := hk1; injection e_ with e_ _; injection e_ with _ e_; exact e_.symm
  have k2_ := h2
  have lt2 : ∀ x ∈ p2, x.block < W.heap.size := by obtain ⟨m, hm⟩ := k2_; exact DataW.trod_lt m _ _ _ hm
  obtain ⟨fu2, hf2⟩ := h2
  obtain ⟨x2, hk2, hw2⟩ := (opens_int Tryd.underlying3) H enc W 0 _ true fu2 _ _ hf2
  obtain ⟨n2, rfl⟩ := okWide_int Tryd.underlying3 (hval 2 3 v2 rfl rfl)
  obtain rfl : x2 = n2 := by have e_ : [Value.int _ n2] = [Value.int _ x2] := hk2; injection e_ with e_ _; injection e_ with _ e_; exact e_.symm
  have k3_ := h3
  have lt3 : ∀ x ∈ p3, x.block < W.heap.size := by obtain ⟨m, hm⟩ := k3_; exact DataW.trod_lt m _ _ _ hm
  obtain ⟨fu3, hf3⟩ := h3
  obtain ⟨x3, hk3, hw3⟩ := (opens_int Tryd.underlying3) H enc W 0 _ true fu3 _ _ hf3
  obtain ⟨n3, rfl⟩ := okWide_int Tryd.underlying3 (hval 3 3 v3 rfl rfl)
  obtain rfl : x3 = n3 := by have e_ : [Value.int _ n3] = [Value.int _ x3] := hk3; injection e_ with e_ _; injection e_ with _ e_; exact e_.symm
  clear hA0 hval0 hsz0
  have hlaid : Laid W := Print.laid_of hL
  have hp := pure_ScoreHolds x0 x1 x2 x3 
  obtain ⟨k, hp⟩ := hp
  refine (bandplanlaw28_ScoreHolds.calls k _ _ x0 x1 x2 x3 true W hr0 hc0 hlaid hp).mono fun e W' ⟨he, bel⟩ => ?_
  subst he
  have bel' : Below W.heap.size W W' := bel
  exact ⟨_, rfl, _, _, _, [], _, [], hW', trodAll_mk1 (shut_bool Tryd.underlying4 _), (trodAll_cons_mk (Below.trod laidOut (by kernel_rfl) (of_decide_eq_true (by kernel_rfl)) k0_ bel' lt0) (trodAll_cons_mk (Below.trod laidOut (by kernel_rfl) (of_decide_eq_true (by kernel_rfl)) k1_ bel' lt1) (trodAll_cons_mk (Below.trod laidOut (by kernel_rfl) (of_decide_eq_true (by kernel_rfl)) k2_ bel' lt2) (trodAll_cons_mk (Below.trod laidOut (by kernel_rfl) (of_decide_eq_true (by kernel_rfl)) k3_ bel' lt3) trodAll_mk0)))), rfl, bel'.frame _, fun h => by cases h⟩
theorem over : Rows.scoreHoldsRow.holds Tryd.pinned (OpenSpec.ofChange Rows.scoreHoldsSpec) :=
  OpenClaim.holds_of_wide 11 Tryd.f11 rfl rfl rfl rfl rfl rfl rfl ⟨rfl, rfl, rfl, rfl, rfl⟩ rfl rfl rfl rfl rfl (by kernel_rfl) Tryd.func11 (by kernel_rfl)
    (of_decide_eq_true (by kernel_rfl)) (by unfold Func.isWrapper; first | (rw [if_pos (by decide +kernel)]; kernel_rfl) | (rw [if_neg (by decide +kernel)]; exact ⟨rfl, rfl⟩))
    (fun os started H enc _ => lifted os started H enc)
theorem proved : Rows.ScoreHoldsSaid := over
set_option maxRecDepth 100000 in
theorem card : Rows.ScoreHoldsCardSaid :=
  Claim7.holds_tied_plain_at .later [] [.data] true (true, "17ce33168bfdf74452dfd3bcd08a15825dbee28ffcf087ad61c57c3e65dd263a") false
    over (fun _ h => by cases h) (by kernel_rfl) (fun _ h => by cases h) scoreHolds_row_tie rfl ⟨rfl, rfl⟩ (by kernel_rfl) rfl
    (fun f fn hf hfn => by
      obtain rfl : f = 11 := Option.some.inj ((show Tryd.prog.funcNamed "bandplan/bandplanlaw28.ScoreHolds" = some 11 by kernel_rfl).symm.trans hf) |>.symm
      obtain rfl : fn = Tryd.f11 := (Option.some.inj (Tryd.func11.symm.trans hfn)).symm
      exact ⟨by kernel_rfl, fun j t ht => by
        rw [Tryd.params11] at ht
        rcases j with _ | j
        · obtain rfl : 44 = t := by simpa using ht
          exact (show Tryd.prog.wantsStandIn 44 = false by kernel_rfl)
        rcases j with _ | j
        · obtain rfl : 3 = t := by simpa using ht
          exact (show Tryd.prog.wantsStandIn 3 = false by kernel_rfl)
        rcases j with _ | j
        · obtain rfl : 3 = t := by simpa using ht
          exact (show Tryd.prog.wantsStandIn 3 = false by kernel_rfl)
        rcases j with _ | j
        · obtain rfl : 3 = t := by simpa using ht
          exact (show Tryd.prog.wantsStandIn 3 = false by kernel_rfl)
        simp at ht⟩)
    (by kernel_rfl)
end Go.Proofs.YtpchmhijcockkaaDoor.scoreHolds
namespace Go.Proofs.YtpchmhijcockkaaDoor
/-- ScoreHolds, for the claim. -/
theorem scoreHolds_holds : Rows.ScoreHoldsCardSaid := scoreHolds.card
#print axioms scoreHolds_holds
end Go.Proofs.YtpchmhijcockkaaDoor
