/- ScoreRaw: the row: the law answers true for every input, out of its plain law and the walk of its code; and its tied card. -/
import Derived.Test.YtpchmhijcockkaaDoorRows
import Derived.Test.YtpchmhijcockkaaDoorPrint9
import Derived.Test.YtpchmhijcockkaaDoorPureC
import Derived.Test.YtpchmhijcockkaaDoorXOpen
import Derived.Test.YtpchmhijcockkaaDoorLaidW
import Derived.Test.YtpchmhijcockkaaDoorCards
import Derived.Test.YtpchmhijcockkaaDoorTie
import Derived.WalkKit
import Derived.ProofKit
import Derived.OpenShut
import Derived.ShutString
import Derived.ChangeOld
import Derived.Below
import Derived.SizedLaws
import Derived.Carry
import Derived.Handed
import Derived.ChangeSame
import Derived.ChangeVars
import Derived.JoinedOf
import Derived.RowKit
import Derived.SevenTiedAt
namespace Go.Proofs.YtpchmhijcockkaaDoor.scoreRaw
open Go.ChangeShapes Go.WideShapes Go.ChangeAt Go.RowKit Go.Proofs.YtpchmhijcockkaaDoorW.PrintWords Go.Proofs.YtpchmhijcockkaaDoorW.XOpen Go.Proofs.YtpchmhijcockkaaDoor.Print
set_option linter.unusedVariables false
theorem own : ownKnob Tryd.prog.godebug = none := by kernel_rfl
theorem laidOut : laidOutB Tryd.prog = true := by kernel_rfl
theorem opensA0 : Opens Tryd.prog 40 (Kd.pair (Kd.int .i64) (Kd.pair (Kd.int .i64) (Kd.int .i64))) (fun x => ((Lit.int .i64 x.1).wf = true ∧ (Lit.int .i64 x.2.1).wf = true ∧ (Lit.int .i64 x.2.2).wf = true)) :=
  (opens_struct Tryd.underlying40 (by kernel_rfl) (fields_cons (by rfl) (by kernel_rfl) (opens_int Tryd.underlying3) (fields_cons (by rfl) (by kernel_rfl) (opens_int Tryd.underlying3) (fields_last (by rfl) (by kernel_rfl) (opens_int Tryd.underlying3)))))
set_option maxRecDepth 100000 in
theorem lifted (os : Os) (started : os.Started) (H : Type) (enc : TypeId × Value → H) :
    ReturnsInHanded {} Tryd.checked os 7 .any (fun w args => (Rows.scoreRawSpec.pre enc Tryd.prog Tryd.f7 [] false w args ∧ laidMet Tryd.prog [("bandplan/score.worths", Rows.laid_bandplan_score_worths)] w) ∧ sizedMet enc Tryd.prog Tryd.f7 (OpenSpec.ofChange Rows.scoreRawSpec) false w args) (Rows.scoreRawSpec.post enc Tryd.prog Tryd.f7 false true false false) := by
  refine returnsInHanded_of_change_and (C := Tryd.checked) (X := fun w _ => laidMet Tryd.prog [("bandplan/score.worths", Rows.laid_bandplan_score_worths)] w) (fun _ _ _ hh h => h.of_heap hh) own started (by kernel_rfl) Tryd.func7
    (ChangeSpec.witness_at (enc := enc) (C := Tryd.checked) (os := os) (X := fun w _ => laidMet Tryd.prog [("bandplan/score.worths", Rows.laid_bandplan_score_worths)] w) false (Print.laidWorld os) #[.agg #[.int .i64 0, .int .i64 0, .int .i64 0]] 8 rfl (by kernel_rfl) (by kernel_rfl) (by kernel_rfl) (by kernel_rfl) (by kernel_rfl) (Print.laidWorld_met os _)) ?_
  intro W base args ds gs before hval0 hW hcnd hsz0 hL _
  have hval : ∀ (j : Nat) t v, Tryd.f7.params[j]? = some t → args[j]? = some v → Value.okWide Tryd.prog W .any base t v := hval0
  have hW' := hW
  obtain ⟨p, q, hA0, hV, rfl, hfz, hnd⟩ := hW
  have hA : DataW.TrodAll enc Tryd.prog W 0 (fun _ => true) true Tryd.f7.params.toList args.toList ds p := hA0
  rw [Tryd.params7] at hA hval
  obtain ⟨v0, vs0, d0, ds0, p0, q0, hargs, rfl, rfl, h0, r0⟩ := trodAll_cons hA
  obtain ⟨rfl, rfl, rfl⟩ := trodAll_nil r0
  obtain rfl : args = #[v0] := by cases args; simp_all
  obtain ⟨rfl, rfl⟩ := trodVars_none hV
  have k0_ := h0
  have lt0 : ∀ x ∈ p0, x.block < W.heap.size := by obtain ⟨m, hm⟩ := k0_; exact DataW.trod_lt m _ _ _ hm
  obtain ⟨fu0, hf0⟩ := h0
  obtain ⟨x0, hk0, hw0⟩ := opensA0 H enc W 0 _ true fu0 _ _ hf0
  obtain ⟨cs0, rfl, _⟩ := okWide_struct Tryd.underlying40 (hval 0 40 v0 rfl rfl)
  have hk0' : ((Kd.pair (Kd.int .i64) (Kd.pair (Kd.int .i64) (Kd.int .i64)))).K W x0 cs0.toList := hk0
  obtain ⟨csl0, hcl0⟩ : ∃ l, cs0.toList = l := ⟨_, rfl⟩
  rw [hcl0] at hk0'
  obtain ⟨u0_0, w0_0, rfl, g0_0, hk0''⟩ := hk0'
  obtain rfl := g0_0
  obtain ⟨u0_1, w0_1, rfl, g0_1, hk0'''⟩ := hk0''
  obtain rfl := g0_1
  obtain rfl := hk0'''
  obtain rfl : cs0 = _ := Array.toList_inj.1 (hcl0.trans (List.toList_toArray).symm)
  clear hcl0
  clear hA0 hval0 hsz0
  have hlaid : Laid W := Print.laid_of hL
  have hp := pure_ScoreRaw x0.1 x0.2.1 x0.2.2 
  obtain ⟨k, hp⟩ := hp
  refine (bandplanlaw28_ScoreRaw.calls k x0.1 x0.2.1 x0.2.2 true W hlaid hp).mono fun e W' ⟨he, bel⟩ => ?_
  subst he
  have bel' : Below W.heap.size W W' := bel
  exact ⟨_, rfl, _, _, _, [], _, [], hW', trodAll_mk1 (shut_bool Tryd.underlying4 _), (trodAll_cons_mk (Below.trod laidOut (by kernel_rfl) (of_decide_eq_true (by kernel_rfl)) k0_ bel' lt0) trodAll_mk0), rfl, bel'.frame _, fun h => by cases h⟩
theorem over : Rows.scoreRawRow.holds Tryd.pinned (OpenSpec.ofChange Rows.scoreRawSpec) :=
  OpenClaim.holds_of_wide 7 Tryd.f7 rfl rfl rfl rfl rfl rfl rfl ⟨rfl, rfl, rfl, rfl, rfl⟩ rfl rfl rfl rfl rfl (by kernel_rfl) Tryd.func7 (by kernel_rfl)
    (of_decide_eq_true (by kernel_rfl)) (by unfold Func.isWrapper; first | (rw [if_pos (by decide +kernel)]; kernel_rfl) | (rw [if_neg (by decide +kernel)]; exact ⟨rfl, rfl⟩))
    (fun os started H enc _ => lifted os started H enc)
theorem proved : Rows.ScoreRawSaid := over
set_option maxRecDepth 100000 in
theorem card : Rows.ScoreRawCardSaid :=
  Claim7.holds_tied_plain_at .later [] [.data] true (true, "17ce33168bfdf74452dfd3bcd08a15825dbee28ffcf087ad61c57c3e65dd263a") false
    over (fun _ h => by cases h) (by kernel_rfl) (fun _ h => by cases h) scoreRaw_row_tie rfl ⟨rfl, rfl⟩ (by kernel_rfl) rfl
    (fun f fn hf hfn => by
      obtain rfl : f = 7 := Option.some.inj ((show Tryd.prog.funcNamed "bandplan/bandplanlaw28.ScoreRaw" = some 7 by kernel_rfl).symm.trans hf) |>.symm
      obtain rfl : fn = Tryd.f7 := (Option.some.inj (Tryd.func7.symm.trans hfn)).symm
      exact ⟨by kernel_rfl, fun j t ht => by
        rw [Tryd.params7] at ht
        rcases j with _ | j
        · obtain rfl : 40 = t := by simpa using ht
          exact (show Tryd.prog.wantsStandIn 40 = false by kernel_rfl)
        simp at ht⟩)
    (by kernel_rfl)
end Go.Proofs.YtpchmhijcockkaaDoor.scoreRaw
namespace Go.Proofs.YtpchmhijcockkaaDoor
/-- ScoreRaw, for the claim. -/
theorem scoreRaw_holds : Rows.ScoreRawCardSaid := scoreRaw.card
#print axioms scoreRaw_holds
end Go.Proofs.YtpchmhijcockkaaDoor
