/- What a call's memory holds, told in one: rows of whole numbers that are read, and boxes of the call's own. -/
import Derived.Test.YtnkpfaoklkapdaaDoorWAll
namespace Go.Proofs.YtnkpfaoklkapdaaDoor.Print
open Go.RowKit Go.Proofs.YtnkpfaoklkapdaaDoorW.PrintWords Go.Proofs.YtnkpfaoklkapdaaDoorW.PrintLast Go.Proofs.YtnkpfaoklkapdaaDoorW.PrintMore
set_option linter.unusedVariables false
set_option linter.unusedSimpArgs false

/-- A row of whole numbers that is read: its kind, its place, its capacity, its numbers. -/
structure Rw where mk :: (k : IntKind) (A : Option Addr) (c : Nat) (xs : List Int)
def Rw.on (r : Rw) (w : World) : Prop := Kd.C (Kd.int r.k) w r.A r.xs.length r.xs ∧ r.xs.length ≤ r.c
/-- A variable in memory. -/
structure Bx where mk :: (g : Nat) (cs : Array Value) (t : Nat)
def noInt (cs : Array Value) : Bool := cs.toList.all (fun v => match v with | .int _ _ => false | _ => true)
structure Env (w0 w : World) (rs : List Rw) (bs : List Bx) : Prop where
  below : Below w0.heap.size w0 w
  row : ∀ r, r ∈ rs → r.on w
  box : ∀ b, b ∈ bs → w.heap[b.g]? = some (.cells b.cs b.t (0, 0)) ∧ w0.heap.size ≤ b.g
  nd : (bs.map Bx.g).Nodup

theorem Rw.below {r : Rw} {w w1 : World} (h : r.on w) (hb : Below w.heap.size w w1) : r.on w1 := ⟨Kd.C_below h.1 hb, h.2⟩
theorem Rw.set {r : Rw} {w : World} (h : r.on w) {g : Nat} {cs : Array Value} {t : TypeId} (hg : w.heap[g]? = some (.cells cs t (0, 0))) (hn : noInt cs = true) (j : Nat) (v : Value) : r.on (w.setCell ⟨g, j, none⟩ v) := by
  refine ⟨⟨h.1.1, h.1.2.1, fun h0 => ?_⟩, h.2⟩
  obtain ⟨ad, e, hc⟩ := h.1.2.2 h0
  refine ⟨ad, e, fun j' p hp => ?_⟩
  obtain ⟨c, hl, hk, hcell⟩ := hc j' p hp
  refine ⟨c, hl, hk, fun i u hu => ?_⟩
  have h1 := hcell i u hu
  have hne : (ad.add (j' * (Kd.int r.k).sz + i)).block ≠ g := by
    intro hb
    have hk' : c = [Value.int r.k p] := hk
    subst hk'
    have hi : i = 0 := by
      rcases i with _ | i
      · rfl
      · simp at hu
    subst hi
    have hu' : u = .int r.k p := by simpa using hu.symm
    subst hu'
    unfold World.cell? at h1
    rw [hb, hg] at h1
    generalize hA : ad.add (j' * (Kd.int r.k).sz + 0) = A at h1 hb
    have hall : ∀ x : Nat, cs[x]? ≠ some (Value.int r.k p) := by
      intro x hx
      have hm : Value.int r.k p ∈ cs.toList := by
        rw [← Array.getElem?_toList] at hx
        exact List.mem_of_getElem? hx
      have := List.all_eq_true.1 hn _ hm
      simp at this
    first
      | exact hall _ h1
      | (split at h1 <;> simp_all)
  have := Below.heap_setCell w ⟨g, j, none⟩ v _ hne
  rw [← h1]
  unfold World.cell?
  rw [this]
namespace Env
variable {w0 w w1 : World} {rs : List Rw} {bs : List Bx}
theorem start {w : World} {rs : List Rw} (h : ∀ r, r ∈ rs → r.on w) : Env w w rs [] := ⟨Below.refl _ _, h, fun _ hb => by simp at hb, by simp⟩
theorem start0 (w : World) : Env w w [] [] := start (fun _ h => by simp at h)
theorem start1 {w : World} {r : Rw} (h : r.on w) : Env w w [r] [] := start (fun _ hr => by rw [List.mem_singleton] at hr; exact hr ▸ h)
theorem start2 {w : World} {r s : Rw} (h : r.on w) (k : s.on w) : Env w w [r, s] [] := start (fun _ hr => by
  rcases List.mem_cons.1 hr with rfl | hr
  · exact h
  · rw [List.mem_singleton] at hr; exact hr ▸ k)
theorem call (h : Env w0 w rs bs) (hb : Below w.heap.size w w1) : Env w0 w1 rs bs :=
  ⟨below_step h.below hb, fun r hr => Rw.below (h.row r hr) hb, fun b hm => ⟨blk_below (h.box b hm).1 hb, (h.box b hm).2⟩, h.nd⟩
theorem alloc (h : Env w0 w rs bs) (o : Obj) : Env w0 (w.alloc o) rs bs := h.call (below_alloc (Below.refl _ _) o)
theorem drew (h : Env w0 w rs bs) : Env w0 w.drew rs bs := h.call (below_drew (Below.refl _ _))
theorem drewN (h : Env w0 w rs bs) (n : Nat) : Env w0 (w.drewN n) rs bs := h.call (pw_below_drewN (Below.refl _ _) n)
theorem drawn (h : Env w0 w rs bs) (hd : Drawn0 w w1) : Env w0 w1 rs bs := h.call hd.below
theorem add (h : Env w0 w rs bs) {r : Rw} (hr : r.on w) : Env w0 w (rs ++ [r]) bs := ⟨h.below, fun x hx => by
  rcases List.mem_append.1 hx with hx | hx
  · exact h.row x hx
  · rw [List.mem_singleton] at hx; exact hx ▸ hr, h.box, h.nd⟩
theorem addR (h : Env w0 w rs bs) {k : IntKind} {e base : Nat} {ok : Nat → Prop} {v : Value} {xs : List Int} (hR : Kd.R (Kd.int k) e w1 base ok v xs) (hb : Below w.heap.size w w1) :
    ∃ A c, v = .slice A xs.length c ∧ Env w0 w1 (rs ++ [⟨k, A, c, xs⟩]) bs := by
  obtain ⟨A, c, rfl⟩ := Kd.R_slice hR
  exact ⟨A, c, rfl, (h.call hb).add ⟨(Kd.R_reads' hR).2.2, (Kd.R_reads' hR).2.1⟩⟩
theorem addQ (h : Env w0 w rs bs) {k : IntKind} {e base : Nat} {ok : Nat → Prop} {v : Value} {xs : List Int} (hR : Kd.Q (Kd.int k) e w1 base ok v xs) (hb : Below w.heap.size w w1) :
    ∃ A c, v = .slice A xs.length c ∧ Env w0 w1 (rs ++ [⟨k, A, c, xs⟩]) bs := by
  obtain ⟨A, c, rfl, _⟩ := Kd.Q_slice hR
  exact ⟨A, c, rfl, (h.call hb).add ⟨(Kd.Q_reads' hR).2.2, (Kd.Q_reads' hR).2.1⟩⟩
theorem addV (h : Env w0 w rs bs) {k : IntKind} {e base : Nat} {ok : Nat → Prop} {v : Value} {xs : List Int} (hR : Kd.V (Kd.int k) e w1 base ok v xs) (hb : Below w.heap.size w w1) :
    ∃ A c, v = .slice A xs.length c ∧ Env w0 w1 (rs ++ [⟨k, A, c, xs⟩]) bs := by
  obtain ⟨A, c, rfl⟩ := Kd.V_slice hR
  have := (Kd.V_reads' hR).1
  exact ⟨A, c, rfl, (h.call hb).add ⟨(Kd.V_reads' hR).2.2, (Kd.V_reads' hR).2.1⟩⟩
theorem newBox (h : Env w0 w rs bs) {g : Nat} {cs : Array Value} {t : TypeId} (hg : g = w.heap.size) (hx : w1.heap[g]? = some (.cells cs t (0, 0))) (hb : Below w.heap.size w w1) : Env w0 w1 rs (bs ++ [⟨g, cs, t⟩]) := by
  have h' := h.call hb
  refine ⟨h'.below, h'.row, fun b hm => ?_, ?_⟩
  · rcases List.mem_append.1 hm with hm | hm
    · exact h'.box b hm
    · rw [List.mem_singleton] at hm
      subst hm
      exact ⟨hx, by rw [hg]; exact h.below.size⟩
  · rw [List.map_append, List.nodup_append]
    refine ⟨h.nd, by simp, ?_⟩
    intro a ha b hb' e
    obtain ⟨x, hx1, rfl⟩ := List.mem_map.1 ha
    have : b = g := by simpa using hb'
    have := blk_lt (h.box x hx1).1
    omega
theorem C (h : Env w0 w rs bs) (i : Nat) {r : Rw} (hr : rs[i]? = some r) : Kd.C (Kd.int r.k) w r.A r.xs.length r.xs := (h.row r (List.mem_of_getElem? hr)).1
theorem cap (h : Env w0 w rs bs) (i : Nat) {r : Rw} (hr : rs[i]? = some r) : r.xs.length ≤ r.c := (h.row r (List.mem_of_getElem? hr)).2
theorem blk (h : Env w0 w rs bs) (i : Nat) {b : Bx} (hr : bs[i]? = some b) : w.heap[b.g]? = some (.cells b.cs b.t (0, 0)) := (h.box b (List.mem_of_getElem? hr)).1
theorem base (h : Env w0 w rs bs) (i : Nat) {b : Bx} (hr : bs[i]? = some b) : w0.heap.size ≤ b.g := (h.box b (List.mem_of_getElem? hr)).2
theorem cell (h : Env w0 w rs bs) (i j : Nat) {b : Bx} {v : Value} (hr : bs[i]? = some b) (hv : b.cs[j]? = some v) : w.cell? ⟨b.g, j, none⟩ = some v := (blk_cell (h.blk i hr) j).trans hv
theorem free (h : Env w0 w rs bs) (i j : Nat) {b : Bx} (hr : bs[i]? = some b) : w.frozen? ⟨b.g, j, none⟩ = false := blk_frozen (h.blk i hr) j
theorem at_ (h : Env w0 w rs bs) (i : Nat) {r : Rw} (hr : rs[i]? = some r) : r.on w := h.row r (List.mem_of_getElem? hr)
theorem blk2 (h : Env w0 w rs bs) (i g : Nat) (u v : Value) (t : Nat) (hr : bs[i]? = some ⟨g, #[u, v], t⟩) : w.heap[g]? = some (.cells #[u, v] t (0, 0)) := h.blk i hr
theorem two (h : Env w0 w rs bs) (i : Nat) {g : Nat} {u v : Value} {t : Nat} (hr : bs[i]? = some ⟨g, #[u, v], t⟩) : w.cell? ⟨g, 0, none⟩ = some u ∧ w.cell? ⟨g, 1, none⟩ = some v ∧ w.frozen? ⟨g, 0, none⟩ = false ∧ w.frozen? ⟨g, 1, none⟩ = false :=
  ⟨h.cell i 0 hr rfl, h.cell i 1 hr rfl, h.free i 0 hr, h.free i 1 hr⟩
theorem sub (h : Env w0 w rs bs) (l : List Nat) : Env w0 w (l.filterMap fun i => rs[i]?) bs := ⟨h.below, fun r hr => by
  obtain ⟨i, _, hi⟩ := List.mem_filterMap.1 hr
  exact h.at_ i hi, h.box, h.nd⟩
theorem mem_set {α : Type} {l : List α} {i : Nat} {x y : α} (h : y ∈ l.set i x) : y = x ∨ ∃ j, j ≠ i ∧ l[j]? = some y := by
  obtain ⟨j, hj⟩ := List.mem_iff_getElem?.1 h
  by_cases e : i = j
  · subst e
    rw [List.getElem?_set] at hj
    simp at hj
    exact .inl hj.2.symm
  · rw [List.getElem?_set_ne e] at hj
    exact .inr ⟨j, fun h => e h.symm, hj⟩
theorem nd_ne {l : List Bx} (h : (l.map Bx.g).Nodup) {i j : Nat} {a b : Bx} (ha : l[i]? = some a) (hb : l[j]? = some b) (hij : j ≠ i) : b.g ≠ a.g := by
  intro e
  obtain ⟨hi, ha'⟩ := List.getElem?_eq_some_iff.1 ha
  obtain ⟨hj, hb'⟩ := List.getElem?_eq_some_iff.1 hb
  rw [List.Nodup, List.pairwise_iff_getElem] at h
  rcases Nat.lt_or_ge j i with hl | hl
  · exact h j i (by rw [List.length_map]; exact hj) (by rw [List.length_map]; exact hi) hl (by rw [List.getElem_map, List.getElem_map, ha', hb']; exact e)
  · exact h i j (by rw [List.length_map]; exact hi) (by rw [List.length_map]; exact hj) (by omega) (by rw [List.getElem_map, List.getElem_map, ha', hb']; exact e.symm)
theorem ne (h : Env w0 w rs bs) (i j : Nat) {a b : Bx} (ha : bs[i]? = some a) (hb : bs[j]? = some b) (hij : i ≠ j) : a.g ≠ b.g := nd_ne h.nd hb ha hij
/-- A store into a variable none of whose cells is a whole number. -/
theorem set (h : Env w0 w rs bs) (i j : Nat) {b : Bx} (hr : bs[i]? = some b) (hn : noInt b.cs = true) (v : Value) : Env w0 (w.setCell ⟨b.g, j, none⟩ v) rs (bs.set i ⟨b.g, b.cs.setIfInBounds j v, b.t⟩) := by
  have hb := h.blk i hr
  refine ⟨below_set h.below (h.base i hr), fun r hm => Rw.set (h.row r hm) hb hn j v, fun x hm => ?_, ?_⟩
  · rcases mem_set hm with rfl | ⟨k, hk, hx⟩
    · exact ⟨blk_set hb j v, (h.base i hr : _ ≤ b.g)⟩
    · exact ⟨blk_far (h.blk k hx) (nd_ne h.nd hr hx hk) v, h.base k hx⟩
  · have : (bs.set i ⟨b.g, b.cs.setIfInBounds j v, b.t⟩).map Bx.g = bs.map Bx.g := by
      rw [List.map_set]
      apply List.ext_getElem?
      intro k
      by_cases e : i = k
      · subst e
        obtain ⟨hi, hx⟩ := List.getElem?_eq_some_iff.1 hr
        rw [List.getElem?_set_self (by rw [List.length_map]; exact hi), List.getElem?_map, hr]; rfl
      · rw [List.getElem?_set_ne e]
    rw [this]; exact h.nd
theorem set2 (h : Env w0 w rs bs) (i : Nat) {b : Bx} (hr : bs[i]? = some b) (hn : noInt b.cs = true) (v v' : Value) (hv : noInt (b.cs.setIfInBounds 0 v) = true) :
    Env w0 ((w.setCell ⟨b.g, 0, none⟩ v).setCell ⟨b.g, 1, none⟩ v') rs (bs.set i ⟨b.g, (b.cs.setIfInBounds 0 v).setIfInBounds 1 v', b.t⟩) := by
  have h1 := h.set i 0 hr hn v
  obtain ⟨hi, _⟩ := List.getElem?_eq_some_iff.1 hr
  have h2 := h1.set i 1 (b := ⟨b.g, b.cs.setIfInBounds 0 v, b.t⟩) (by rw [List.getElem?_set_self hi]) hv v'
  rw [List.set_set] at h2
  exact h2
/-- A call that may write what is new since an elder world. -/
theorem since {wm : World} (h : Env w0 wm rs bs) (hb : Below wm.heap.size wm w1) : Env w0 w1 rs bs := h.call hb
end Env
end Go.Proofs.YtnkpfaoklkapdaaDoor.Print
