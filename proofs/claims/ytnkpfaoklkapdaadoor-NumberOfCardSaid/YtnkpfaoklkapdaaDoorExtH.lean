/- Rows of the strings functions that number uses. -/
import Derived.Test.YtnkpfaoklkapdaaDoorShelf
import Derived.Test.YtnkpfaoklkapdaaDoorExtE
namespace Go.Proofs.YtnkpfaoklkapdaaDoor.Print
open Go.RowKit Go.Proofs.YtnkpfaoklkapdaaDoorW.PrintWords Go.Proofs.YtnkpfaoklkapdaaDoorW.PrintLast Go.Proofs.YtnkpfaoklkapdaaDoorW.PrintMore
open Go.Proofs.YtnkpfaoklkapdaaDoor.NumP
set_option linter.unusedVariables false
set_option linter.unusedSimpArgs false

def dec10 : Array UInt8 := #[48, 49, 50, 51, 52, 53, 54, 55, 56, 57]
def strings_TrimLeft.f (a0 a1 : ByteArray) : Option ByteArray := if a1.data = #[48] then some ⟨(Lib.trimLeftB a0.data.toList 48).toArray⟩ else none
theorem strings_TrimLeft.calls (a0 a1 : ByteArray) (r : ByteArray) (w : World) (h : strings_TrimLeft.f a0 a1 = some r) :
    Calls Tryd.prog 57 #[.string a0, .string a1] w fun e w' => e = .returned (.string r) ∧ Below w.heap.size w w' := by
  unfold strings_TrimLeft.f at h
  split at h
  · rename_i hc
    cases h
    obtain ⟨d⟩ := a1
    cases hc
    refine (Tryd.strings_TrimLeft_one a0 48 (by decide) w).mono ?_
    rintro e w' ⟨rfl, rfl⟩
    exact ⟨rfl, Below.refl _ _⟩
  · cases h
def strings_Trim.f (a0 a1 : ByteArray) : Option ByteArray := if a1.data = dec10 ∧ a0.size ≤ 1000000 then some ⟨(Lib.trimS a0.data.toList dec10.toList).toArray⟩ else none
theorem strings_Trim.calls (a0 a1 : ByteArray) (r : ByteArray) (w : World) (h : strings_Trim.f a0 a1 = some r) :
    Calls Tryd.prog 53 #[.string a0, .string a1] w fun e w' => e = .returned (.string r) ∧ Below w.heap.size w w' := by
  unfold strings_Trim.f at h
  split at h
  · rename_i hc
    cases h
    obtain ⟨d⟩ := a1
    obtain ⟨h1, h2⟩ := hc
    cases h1
    exact Any.strings_Trim_laid Tryd.lays160 (by kernel_rfl) a0 ⟨dec10⟩ w (by omega) (by show dec10.size < _; decide) (ascii_of_all (by decide))
  · cases h
def strings_CutPrefix.f (a0 a1 : ByteArray) : Option (ByteArray × Bool) := some (⟨(Lib.trimPrefix a0.data.toList a1.data.toList).toArray⟩, Lib.hasPrefix a0.data.toList a1.data.toList)
theorem strings_CutPrefix.calls (a0 a1 : ByteArray) (r1 : ByteArray) (r2 : Bool) (w : World) (h : strings_CutPrefix.f a0 a1 = some (r1, r2)) :
    Calls Tryd.prog 52 #[.string a0, .string a1] w fun e w' => e = .returned (.tuple #[.string r1, .bool r2]) ∧ Below w.heap.size w w' := by
  unfold strings_CutPrefix.f at h
  cases h
  refine (Tryd.strings_CutPrefix a0 a1 w).mono ?_
  rintro e w' ⟨rfl, rfl⟩
  exact ⟨rfl, Below.refl _ _⟩
def strings_TrimPrefix.f (a0 a1 : ByteArray) : Option ByteArray := some ⟨(Lib.trimPrefix a0.data.toList a1.data.toList).toArray⟩
theorem strings_TrimPrefix.calls (a0 a1 : ByteArray) (r : ByteArray) (w : World) (h : strings_TrimPrefix.f a0 a1 = some r) :
    Calls Tryd.prog 58 #[.string a0, .string a1] w fun e w' => e = .returned (.string r) ∧ Below w.heap.size w w' := by
  unfold strings_TrimPrefix.f at h
  cases h
  refine (Tryd.strings_TrimPrefix a0 a1 w).mono ?_
  rintro e w' ⟨rfl, rfl⟩
  exact ⟨rfl, Below.refl _ _⟩

end Go.Proofs.YtnkpfaoklkapdaaDoor.Print
