/- Random: the source's methods none and Number in the printed functions' form. -/
import Derived.Test.YtmioondgjolaoaaRndB
namespace Go.Proofs.Ytmioondgjolaoaa.Print
open Go.RowKit Go.Proofs.YtmioondgjolaoaaW.PrintWords Go.Proofs.YtmioondgjolaoaaW.PrintLast Go.Proofs.YtmioondgjolaoaaW.PrintMore
set_option linter.unusedVariables false

theorem below_grown_g {w0 w w' : World} {g : Nat} (hB : Below w0.heap.size w0 w) (hg : w0.heap.size ≤ g) (h : w.grownBy w' (some g)) : Below w0.heap.size w0 w' :=
  pw_below_grown hB (some g) hB.size h (fun k e => by cases e; exact hg)
theorem keep_grown {w w' : World} {g : Nat} (h : w.grownBy w' (some g)) : KeepBut w w' g Option.none := ⟨h.size, fun i hi hne _ => h.block i hi (by intro e; cases e; exact hne rfl)⟩
theorem grown_keep {w0 w w' : World} {g : Nat} (hB : Below w0.heap.size w0 w) (hB' : Below w0.heap.size w0 w') (h : KeepBut w w' g Option.none) : w.grownBy w' (some g) :=
  ⟨hB'.os.trans hB.os.symm, hB'.tape.trans hB.tape.symm, hB'.output.trans hB.output.symm, h.1, fun i hi hne => h.2 i hi (by rintro rfl; exact hne rfl) (by simp)⟩
theorem Src.of {w0 w : World} {g : Nat} {s : Int} (h : IsS48 w0 w g s true) : Src w g s := h.1
theorem noSrc_of {w0 w : World} {g : Nat} {s : Int} (h : IsS48 w0 w g s false) : NoSrc w (sp g) := .inr ⟨g, rfl, cellS48_1 h.1⟩

def random_Source_none.f (s0_0 : Int) (s0_1 : Bool) : Option (Bool × Int × Bool) := some (!s0_1, s0_0, s0_1)
theorem random_Source_none.calls (g : Nat) (s0_0 : Int) (s0_1 : Bool) (r1 : Bool) (r2 : Int) (r3 : Bool) (w0 w : World) (hI : IsS48 w0 w g s0_0 s0_1) (hB : Below w0.heap.size w0 w) (h : random_Source_none.f s0_0 s0_1 = some (r1, r2, r3)) :
    Calls Try.prog 20 #[.pointer (some ⟨g, 0, none⟩)] w fun e w' => e = .returned (.bool r1) ∧ IsS48 w0 w' g r2 r3 ∧ Below w0.heap.size w0 w' ∧ KeepBut w w' g Option.none := by
  unfold random_Source_none.f at h
  cases h
  cases s0_1 with
  | false =>
    refine (none.yes _ w (noSrc_of hI)).mono ?_
    rintro e w' ⟨rfl, rfl⟩
    exact ⟨rfl, hI, hB, KeepBut.refl _ _ _⟩
  | true =>
    refine (none.calls g s0_0 w hI.1).mono ?_
    rintro e w' ⟨rfl, rfl⟩
    exact ⟨rfl, hI, hB, KeepBut.refl _ _ _⟩

def random_Source_Number.f (k : Nat) (s0_0 : Int) (s0_1 : Bool) (a1 : Int) : Option (Int × Int × Int × Bool) :=
  if s0_1 = false then some (0, 1, s0_0, s0_1) else if a1 < 1 ∨ 4611686018427387904 < a1 then some (0, 2, s0_0, s0_1) else (bandplanref03_Number.f k s0_0 a1).bind fun b => some (b.2, 0, b.1, s0_1)
theorem random_Source_Number.mono : ∀ a0 a1 a2 k, LeO (random_Source_Number.f k a0 a1 a2) (random_Source_Number.f (k + 1) a0 a1 a2) := by
  intro a0 a1 a2 k
  unfold random_Source_Number.f
  exact LeO.ite (LeO.refl _) (LeO.ite (LeO.refl _) (LeO.bind (bandplanref03_Number.mono _ _ _) (fun _ => LeO.refl _)))
theorem random_Source_Number.calls (k : Nat) (g : Nat) (s0_0 : Int) (s0_1 : Bool) (a1 : Int) (r1 : Int) (r2 : Int) (r3 : Int) (r4 : Bool) (w0 w : World) (hI : IsS48 w0 w g s0_0 s0_1) (hB : Below w0.heap.size w0 w) (h : random_Source_Number.f k s0_0 s0_1 a1 = some (r1, r2, r3, r4)) :
    Calls Try.prog 9 #[.pointer (some ⟨g, 0, none⟩), .int .i64 a1] w fun e w' => e = .returned (.tuple #[.int .i64 r1, .int .i64 r2]) ∧ IsS48 w0 w' g r3 r4 ∧ Below w0.heap.size w0 w' ∧ KeepBut w w' g Option.none := by
  unfold random_Source_Number.f at h
  by_cases c : s0_1 = false
  · subst c
    rw [if_pos rfl] at h
    cases h
    refine (Number.none _ a1 w (noSrc_of hI)).mono ?_
    rintro e w' ⟨rfl, rfl⟩
    exact ⟨rfl, hI, hB, KeepBut.refl _ _ _⟩
  · obtain rfl : s0_1 = true := by simpa using c
    rw [if_neg c] at h
    by_cases c1 : a1 < 1 ∨ 4611686018427387904 < a1
    · rw [if_pos c1] at h
      cases h
      refine (Number.arg g s0_0 a1 w hI.1 c1).mono ?_
      rintro e w' ⟨rfl, rfl⟩
      exact ⟨rfl, hI, hB, KeepBut.refl _ _ _⟩
    · rw [if_neg c1] at h
      obtain ⟨⟨s', v⟩, hf, h⟩ := Option.bind_eq_some_iff.mp h
      cases h
      refine (Number.calls k g s0_0 a1 s' v w hI.1 (by omega) (by omega) hf).mono ?_
      rintro e w' ⟨rfl, h1, h2⟩
      exact ⟨rfl, ⟨h1, hI.2⟩, below_grown_g hB hI.2 h2, keep_grown h2⟩

end Go.Proofs.Ytmioondgjolaoaa.Print
