/- Words of the session: what a row's reading of an argument gives the printed functions' kinds ('Opens'), kind by kind. -/
import Derived.Test.YtnkpfaoklkapdaaDoorWAll
import Derived.ChangeOld
import Derived.WideShapes
namespace Go.Proofs.YtnkpfaoklkapdaaDoorW.XOpen
open Go Go.RowKit Go.Proofs.YtnkpfaoklkapdaaDoorW.PrintWords
set_option linter.unusedVariables false

/-- Whatever reads as data of type t holds a value of this kind that is well formed. -/
def Opens (P : Program) (t : TypeId) {α : Type} (d : Kd α) (wf : α → Prop) : Prop :=
  ∀ (H : Type) (enc : TypeId × Value → H) (w : World) (base : Nat) (sp : Nat → Bool) (held : Bool) (fuel : Nat) (cs : List Value) (y : DataW H × List MemPlace),
    DataW.trod enc P w base sp held fuel t cs = some y → ∃ x, d.K w x cs ∧ wf x

theorem mapM_at {α β : Type} {f : α → Option β} : ∀ {l : List α} {r : List β}, l.mapM f = some r → r.length = l.length ∧ ∀ (i : Nat) (x : α), l[i]? = some x → ∃ y, r[i]? = some y ∧ f x = some y
  | [], r, h => by
    simp at h
    subst h
    exact ⟨rfl, fun i x hx => by simp at hx⟩
  | a :: l, r, h => by
    rw [List.mapM_cons] at h
    simp only [Option.bind_eq_bind, Option.bind_eq_some_iff, Option.pure_def, Option.some.injEq] at h
    obtain ⟨b, hb, rs, hrs, rfl⟩ := h
    obtain ⟨h1, h2⟩ := mapM_at hrs
    refine ⟨by simp [h1], fun i x hx => ?_⟩
    cases i with
    | zero =>
      simp at hx
      subst hx
      exact ⟨b, rfl, hb⟩
    | succ i => simpa using h2 i x (by simpa using hx)

theorem cells_at {w : World} {base : Nat} {a : Addr} {n : Nat} {cs : List Value} (h : w.cells? base a n = some cs) : cs.length = n ∧ ∀ (i : Nat) (u : Value), cs[i]? = some u → w.cell? (a.add i) = some u := by
  unfold World.cells? at h
  split at h
  · obtain ⟨h1, h2⟩ := mapM_at h
    rw [List.length_range] at h1
    refine ⟨h1, fun i u hi => ?_⟩
    have hlt : i < n := by
      have := (List.getElem?_eq_some_iff.1 hi).1
      omega
    obtain ⟨y, hy, hc⟩ := h2 i i (by simp [hlt])
    rw [hi] at hy
    obtain rfl := Option.some.inj hy
    exact hc
  · cases h

theorem addr_add_add (a : Addr) (i j : Nat) : (a.add i).add j = a.add (i + j) := by
  unfold Addr.add
  repeat' split
  all_goals first
    | rfl
    | (exfalso; omega)
    | (simp_all [Nat.add_assoc]; done)
    | (simp_all; omega)

section
variable {P : Program} {t : TypeId}

theorem opens_int {k : IntKind} (hu : P.underlying t = some (.int k)) : Opens P t (Kd.int k) (fun x => (Lit.int k x).wf = true) := by
  intro H enc w base sp held fuel cs y h
  cases fuel with
  | zero => simp [DataW.trod] at h
  | succ fuel =>
    rcases cs with _ | ⟨c, _ | ⟨c2, cs⟩⟩
    · simp [DataW.trod, hu] at h
    · cases c <;> simp [DataW.trod, hu] at h
      rename_i k' n
      obtain ⟨⟨rfl, hw⟩, _⟩ := h
      exact ⟨n, rfl, hw⟩
    · simp [DataW.trod, hu] at h

theorem opens_bool (hu : P.underlying t = some .bool) : Opens P t Kd.bool (fun _ => True) := by
  intro H enc w base sp held fuel cs y h
  cases fuel with
  | zero => simp [DataW.trod] at h
  | succ fuel =>
    rcases cs with _ | ⟨c, _ | ⟨c2, cs⟩⟩
    · simp [DataW.trod, hu] at h
    · cases c <;> simp [DataW.trod, hu] at h
      rename_i b
      exact ⟨b, rfl, trivial⟩
    · simp [DataW.trod, hu] at h

theorem opens_string (hu : P.underlying t = some .string) : Opens P t Kd.string (fun s => s.size ≤ maxLen) := by
  intro H enc w base sp held fuel cs y h
  cases fuel with
  | zero => simp [DataW.trod] at h
  | succ fuel =>
    rcases cs with _ | ⟨c, _ | ⟨c2, cs⟩⟩
    · simp [DataW.trod, hu] at h
    · cases c <;> simp [DataW.trod, hu] at h
      rename_i s
      exact ⟨s, rfl, h.1⟩
    · simp [DataW.trod, hu] at h

theorem opens_slice {e : TypeId} {α : Type} {d : Kd α} {wf : α → Prop} (hu : P.underlying t = some (.slice e)) (hz : P.cellsOf e = d.sz) (hd : Opens P e d wf) : Opens P t (Kd.slice e d) (fun xs => xs.length ≤ maxLen ∧ ∀ x ∈ xs, wf x) := by
  intro H enc w base sp held fuel cs y h
  cases fuel with
  | zero => simp [DataW.trod] at h
  | succ fuel =>
    rcases cs with _ | ⟨c, _ | ⟨c2, cs⟩⟩
    · simp [DataW.trod, hu] at h
    · cases c <;> try (simp [DataW.trod, hu] at h; done)
      rename_i a len cap
      cases a with
      | none =>
        cases len with
        | zero =>
          cases cap with
          | zero => exact ⟨[], ⟨none, 0, rfl, Nat.le_refl _, Kd.C_nil _ _⟩, Nat.zero_le _, fun x hx => by simp at hx⟩
          | succ cap => simp [DataW.trod, hu] at h
        | succ len => simp [DataW.trod, hu] at h
      | some ad =>
        simp only [DataW.trod, hu] at h
        split at h
        · rename_i hc
          obtain ⟨elems, he, _⟩ := Option.bind_eq_some_iff.1 h
          obtain ⟨_, h2⟩ := mapM_at he
          have h3 : ∀ i : Fin len, ∃ x, wf x ∧ ∃ c, c.length = d.sz ∧ d.K w x c ∧ ∀ j u, c[j]? = some u → w.cell? (ad.add (i.1 * d.sz + j)) = some u := by
            intro i
            obtain ⟨y, _, hy⟩ := h2 i.1 i.1 (by simp [i.2])
            obtain ⟨cs, hcs, ht⟩ := Option.bind_eq_some_iff.1 hy
            obtain ⟨x, hk, hw⟩ := hd H enc w base sp held fuel cs y ht
            obtain ⟨hl, hcell⟩ := cells_at hcs
            refine ⟨x, hw, cs, by rw [hl, hz], hk, fun j u hj => ?_⟩
            have := hcell j u hj
            rw [hz] at this
            rwa [addr_add_add] at this
          obtain ⟨f, hf⟩ := Classical.skolem.1 h3
          refine ⟨List.ofFn f, ⟨some ad, cap, by simp, by simpa using hc.2.1, by simp, ?_, fun h0 => ⟨ad, rfl, fun j p hj => ?_⟩⟩, by simpa using Nat.le_trans hc.2.1 hc.2.2, fun x hx => ?_⟩
          · have : maxLen = 9223372036854775807 := rfl
            simp
            omega
          · obtain ⟨hj1, hj2⟩ := List.getElem?_eq_some_iff.1 hj
            have hjl : j < len := by simpa using hj1
            rw [List.getElem_ofFn] at hj2
            subst hj2
            obtain ⟨_, c, q⟩ := hf ⟨j, hjl⟩
            exact ⟨c, q⟩
          · obtain ⟨i, rfl⟩ := List.mem_ofFn.1 hx
            exact (hf i).1
        · cases h
    · simp [DataW.trod, hu] at h

/-- The fields of a struct from one on, which begins at cell 'off'. -/
def FieldsOpen (P : Program) (off : Nat) (fs : List Field) {α : Type} (d : Kd α) (wf : α → Prop) : Prop :=
  ∀ (H : Type) (enc : TypeId × Value → H) (w : World) (base : Nat) (sp : Nat → Bool) (held : Bool) (fuel : Nat) (cs : List Value) (ys : List (DataW H × List MemPlace)),
    cs.length = off + d.sz → (fs.mapM fun f => DataW.trod enc P w base sp held fuel f.type ((cs.drop f.offset).take (P.cellsOf f.type))) = some ys → ∃ x, d.K w x (cs.drop off) ∧ wf x

theorem fields_last {off : Nat} {f : Field} {α : Type} {d : Kd α} {wf : α → Prop} (ho : f.offset = off) (hz : P.cellsOf f.type = d.sz) (hd : Opens P f.type d wf) : FieldsOpen P off [f] d wf := by
  intro H enc w base sp held fuel cs ys hl h
  obtain ⟨_, h2⟩ := mapM_at h
  obtain ⟨y, _, hy⟩ := h2 0 f rfl
  obtain ⟨x, hk, hw⟩ := hd H enc w base sp held fuel _ y hy
  rw [ho, hz, List.take_of_length_le (by rw [List.length_drop]; omega)] at hk
  exact ⟨x, hk, hw⟩

theorem fields_cons {off : Nat} {f : Field} {fs : List Field} {α β : Type} {a : Kd α} {b : Kd β} {wa : α → Prop} {wb : β → Prop} (ho : f.offset = off) (hz : P.cellsOf f.type = a.sz) (ha : Opens P f.type a wa) (hb : FieldsOpen P (off + a.sz) fs b wb) :
    FieldsOpen P off (f :: fs) (Kd.pair a b) (fun x => wa x.1 ∧ wb x.2) := by
  intro H enc w base sp held fuel cs ys hl h
  have hl' : cs.length = off + (a.sz + b.sz) := hl
  rw [List.mapM_cons] at h
  simp only [Option.bind_eq_bind, Option.bind_eq_some_iff, Option.pure_def, Option.some.injEq] at h
  obtain ⟨y, hy, ys', hys, _⟩ := h
  obtain ⟨x, hk, hw⟩ := ha H enc w base sp held fuel _ y hy
  obtain ⟨x', hk', hw'⟩ := hb H enc w base sp held fuel cs ys' (by omega) hys
  rw [ho, hz] at hk
  refine ⟨(x, x'), ⟨_, _, ?_, hk, hk'⟩, hw, hw'⟩
  rw [← List.drop_drop, List.take_append_drop]

theorem opens_struct {fs : Array Field} {α : Type} {d : Kd α} {wf : α → Prop} (hu : P.underlying t = some (.struct fs)) (hz : P.cellsOf t = d.sz) (hf : FieldsOpen P 0 fs.toList d wf) : Opens P t d wf := by
  intro H enc w base sp held fuel cs y h
  cases fuel with
  | zero => simp [DataW.trod] at h
  | succ fuel =>
    have h' : (if cs.length = P.cellsOf t then (fs.toList.mapM fun f => DataW.trod enc P w base sp held fuel f.type ((cs.drop f.offset).take (P.cellsOf f.type))).map fun xs => (DataW.agg (xs.map (·.1)), xs.flatMap (·.2)) else none) = some y := by
      rw [← h]
      simp only [DataW.trod, hu]
    split at h'
    · rename_i hl
      obtain ⟨ys, hys, _⟩ := Option.map_eq_some_iff.1 h'
      obtain ⟨x, hk, hw⟩ := hf H enc w base sp held fuel cs ys (by omega) hys
      exact ⟨x, by simpa using hk, hw⟩
    · cases h'

theorem opens_iso {α β : Type} {d : Kd α} {wf : α → Prop} (f : β → α) (g : α → β) (hg : ∀ x, f (g x) = x) (h : Opens P t d wf) : Opens P t (Kd.iso d f) (fun x => wf (f x)) := by
  intro H enc w base sp held fuel cs y hy
  obtain ⟨x, hk, hw⟩ := h H enc w base sp held fuel cs y hy
  exact ⟨g x, by show d.K w (f (g x)) cs; rw [hg]; exact hk, by show wf (f (g x)); rw [hg]; exact hw⟩
end
end Go.Proofs.YtnkpfaoklkapdaaDoorW.XOpen
