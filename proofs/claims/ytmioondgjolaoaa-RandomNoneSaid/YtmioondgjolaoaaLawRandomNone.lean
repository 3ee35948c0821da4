/- RandomNone: the row: the law answers true for every input, out of its plain law and the walk of its code; and its tied card. -/
import Derived.Test.YtmioondgjolaoaaRows
import Derived.Test.YtmioondgjolaoaaRndG
import Derived.Test.YtmioondgjolaoaaRndG
import Derived.Test.YtmioondgjolaoaaXOpen
import Derived.WalkKit
import Derived.ProofKit
import Derived.OpenShut
import Derived.ShutString
import Derived.ChangeOld
import Derived.Below
import Derived.SizedLaws
import Derived.Carry
import Derived.Handed
import Derived.ChangeSame
import Derived.ChangeVars
import Derived.JoinedOf
import Derived.RowKit
namespace Go.Proofs.Ytmioondgjolaoaa.randomNone
open Go.ChangeShapes Go.WideShapes Go.ChangeAt Go.RowKit Go.Proofs.YtmioondgjolaoaaW.PrintWords Go.Proofs.YtmioondgjolaoaaW.XOpen Go.Proofs.Ytmioondgjolaoaa.Print
set_option linter.unusedVariables false
theorem own : ownKnob Try.prog.godebug = none := by kernel_rfl
theorem laidOut : laidOutB Try.prog = true := by kernel_rfl
set_option maxRecDepth 100000 in
theorem lifted (os : Os) (started : os.Started) (H : Type) (enc : TypeId × Value → H) :
    ReturnsInHanded {} Try.checked os 7 .any (Rows.randomNoneSpec.pre6 enc Try.prog Try.f7 Rows.randomNoneRow.domain false) (Rows.randomNoneSpec.post enc Try.prog Try.f7 false true false false) := by
  refine returnsInHanded_of_change_sized (C := Try.checked) own started (by kernel_rfl) Try.func7
    (ChangeSpec.witness6 (enc := enc) (C := Try.checked) false ⟨#[], #[.int .i64 0], []⟩ 8 (by kernel_rfl) (by kernel_rfl) (by kernel_rfl) (by kernel_rfl)) ?_
  intro W base args ds gs before hval0 hW hcnd hsz0 _
  have hval : ∀ (j : Nat) t v, Try.f7.params[j]? = some t → args[j]? = some v → Value.okWide Try.prog W .any base t v := hval0
  have hW' := hW
  obtain ⟨p, q, hA0, hV, rfl, hfz, hnd⟩ := hW
  have hA : DataW.TrodAll enc Try.prog W 0 (fun _ => true) true Try.f7.params.toList args.toList ds p := hA0
  rw [Try.params7] at hA hval
  obtain ⟨v0, vs0, d0, ds0, p0, q0, hargs, rfl, rfl, h0, r0⟩ := trodAll_cons hA
  obtain ⟨rfl, rfl, rfl⟩ := trodAll_nil r0
  obtain rfl : args = #[v0] := by cases args; simp_all
  obtain ⟨rfl, rfl⟩ := trodVars_none hV
  have k0_ := h0
  have lt0 : ∀ x ∈ p0, x.block < W.heap.size := by obtain ⟨m, hm⟩ := k0_; exact DataW.trod_lt m _ _ _ hm
  obtain ⟨fu0, hf0⟩ := h0
  obtain ⟨x0, hk0, hw0⟩ := (opens_int Try.underlying3) H enc W 0 _ true fu0 _ _ hf0
  obtain ⟨n0, rfl⟩ := okWide_int Try.underlying3 (hval 0 3 v0 rfl rfl)
  obtain rfl : x0 = n0 := by have e_ : [Value.int _ n0] = [Value.int _ x0] := hk0; injection e_ with e_ _; injection e_ with _ e_; exact e_.symm
  clear hA0 hval0 hsz0
  have hp := pure_RandomNone x0 
  refine (bandplanlaw03_RandomNone.calls x0 true W hp).mono fun e W' ⟨he, bel⟩ => ?_
  subst he
  have bel' : Below W.heap.size W W' := bel
  exact ⟨_, rfl, _, _, _, [], _, [], hW', trodAll_mk1 (shut_bool Try.underlying4 _), (trodAll_cons_mk (Below.trod laidOut (by kernel_rfl) (of_decide_eq_true (by kernel_rfl)) k0_ bel' lt0) trodAll_mk0), rfl, bel'.frame _, fun h => by cases h⟩
theorem over : Rows.randomNoneRow.holds Try.pinned (OpenSpec.ofChange Rows.randomNoneSpec) :=
  OpenClaim.holds_of_wide 7 Try.f7 rfl rfl rfl rfl rfl rfl rfl ⟨rfl, rfl, rfl, rfl, rfl⟩ rfl rfl rfl rfl rfl (by kernel_rfl) Try.func7 (by kernel_rfl)
    (of_decide_eq_true (by kernel_rfl)) (by unfold Func.isWrapper; first | (rw [if_pos (by decide +kernel)]; kernel_rfl) | (rw [if_neg (by decide +kernel)]; exact ⟨rfl, rfl⟩))
    (fun os started H enc _ => lifted os started H enc)
theorem proved : Rows.RandomNoneSaid := over
end Go.Proofs.Ytmioondgjolaoaa.randomNone
namespace Go.Proofs.Ytmioondgjolaoaa
/-- RandomNone, for the claim. -/
theorem randomNone_holds : Rows.RandomNoneSaid := randomNone.proved
#print axioms randomNone_holds
end Go.Proofs.Ytmioondgjolaoaa
