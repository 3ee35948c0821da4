/- Contract of slices.Clone at nat, in the printed functions' form. -/
import Derived.Test.YtnkpfaoklkapdaaDoorPrint0
import Derived.Test.YtnkpfaoklkapdaaDoorXWords
import Derived.Test.YtnkpfaoklkapdaaDoorShelf
import Derived.WalkSpells
import Derived.Outline
namespace Go.Proofs.YtnkpfaoklkapdaaDoor.Print
open Go.RowKit Go.Proofs.YtnkpfaoklkapdaaDoorW.PrintWords Go.Proofs.YtnkpfaoklkapdaaDoorW.PrintLast Go.Proofs.YtnkpfaoklkapdaaDoorW.PrintMore
set_option linter.unusedVariables false
set_option linter.unusedSimpArgs false

def bits_Len32.f (a0 : Int) : Option Int := if 0 ≤ a0 ∧ a0 ≤ 4294967295 then some (Lib.bitLen a0.toNat : Int) else none
theorem bits_Len32.calls (a0 : Int) (r : Int) (w : World) (h : bits_Len32.f a0 = some r) :
    Calls Tryd.prog 69 #[.int .u32 a0] w fun e w' => e = .returned (.int .i64 r) ∧ Below w.heap.size w w' := by
  unfold bits_Len32.f at h
  split at h
  · rename_i hc
    obtain rfl := Option.some.inj h
    refine (Tryd.bits_Len32 a0 w hc.1 hc.2).mono ?_
    rintro e w' ⟨rfl, rfl⟩
    exact ⟨rfl, Below.refl _ _⟩
  · cases h

def number_nat_uint32.f (l0 : List Int) : Option (List Int) := if l0.length ≤ 1000000 then some l0 else none

set_option maxHeartbeats 2000000 in
theorem number_nat_uint32.calls (A0 : Option Addr) (c0 : Nat) (l0 : List Int) (r : List Int) (w : World) (hr0 : Kd.C (Kd.int .u32) w A0 l0.length l0) (hc0 : l0.length ≤ c0) (h : number_nat_uint32.f l0 = some r) :
    Calls Tryd.prog 79 #[.slice A0 l0.length c0] w fun e w' => ∃ v0_ : Value, e = .returned (v0_) ∧ Kd.R (Kd.int .u32) 57 w' w.heap.size (fun _ => True) v0_ r ∧ Below w.heap.size w w' := by
  unfold number_nat_uint32.f at h
  split at h
  · rename_i hl
    cases h
    have HR := Aside0.mk hr0
    clear hr0
    have hn := fun (W : World) (a : Option Addr) (n c : Nat) => Lib.run_eql_slice_nil (P := Tryd.prog) W 56 57 a n c 0 0 Tryd.underlying56
    cases A0 with
    | none =>
      go_enter Tryd.func79, Tryd.ntmps79
      go_wp2
      go_ret
      obtain rfl : l0 = [] := by
        have h := HR.out.2.2
        cases l0 with
        | nil => rfl
        | cons x l => obtain ⟨ad, he, _⟩ := Kd.at_int HR.out 0 (by omega) (by simp); cases he
      exact ⟨_, rfl, Kd.R_nil _ _ _ _ _, Below.refl _ _⟩
    | some ad =>
      go_enter Tryd.func79, Tryd.ntmps79
      go_wp2_with ((with_reducible refine gate_builtin (b := .append) (xs := #[.tmp 5, .tmp 6]) rfl ?_); at_builtin; refine Kd.R_append_row (Value.int .u32) 0 (h1 := fun _ => rfl) (w0 := w) w.heap.size rfl (.tmp 5) (.tmp 6) 56 57 (.int .u32 0) 4 rfl Tryd.underlying56 info57 rfl (by omega) (.slice (some ⟨w.heap.size, 0, none⟩) 0 0) [] l0 (some ad) l0.length c0 (fun _ => True) rfl rfl (fun _ _ => trivial) ?HO ?HR (below_alloc (Below.refl _ _) _) ?aS ?aL ?_; (case aS => simp); (case aL => show (0 + l0.length) * 4 ≤ _; omega); (case HO => exact Kd.R_of_own (World.ownsRow_made w #[] 0 (Nat.le_refl _) (Nat.zero_le _) rfl) (fun _ _ => trivial)); (case HR => exact Kd.C_alloc HR.out _); intro v1 w1 ho hb hg hat; rw [List.nil_append] at ho; have HO := Aside0.mk ho; have HB := Aside0.mk hb; clear ho hb hg hat)
      go_ret
      exact ⟨_, rfl, HO.out, HB.out⟩
  · cases h

end Go.Proofs.YtnkpfaoklkapdaaDoor.Print
