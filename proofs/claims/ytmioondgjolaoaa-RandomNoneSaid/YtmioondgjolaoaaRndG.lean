/- Random: the law RandomNone, walked: without a source nothing is generated, and the iterator yields nothing. -/
import Derived.RangeFuncFrom
import Derived.RangeFuncNested
import Derived.RangeFuncBound
import Derived.RangeFuncCalls
import Derived.RangeFuncLeaves
import Derived.Shelf.Abstract
import Derived.Shelf.RegionOpen
import Derived.Stop.RegionWithIn
import Derived.OwnWalkIn
import Derived.TacticsInMore
import Derived.LoopNIn
import Derived.LoopIn
import Derived.Test.YtmioondgjolaoaaRndC
namespace Go.Proofs.Ytmioondgjolaoaa.Print
open Go.RowKit Go.Shelf Go.Proofs.YtmioondgjolaoaaW.PrintWords Go.Proofs.YtmioondgjolaoaaW.PrintLast Go.Proofs.YtmioondgjolaoaaW.PrintMore
set_option linter.unusedVariables false
set_option linter.unusedSimpArgs false
attribute [local go_sem] Oper.semAt_some

theorem blk_cellz {w : World} {g : Nat} {cs : Array Value} {t : TypeId} {z : Nat × Nat} (h : w.heap[g]? = some (.cells cs t z)) (i : Nat) : w.cell? ⟨g, i, Option.none⟩ = cs[i]? := by simp [World.cell?, h]

set_option maxHeartbeats 1000000 in
theorem Numbers.no (p : Value) (n : Int) (w : World) (h : NoSrc w p) :
    Calls Try.prog 17 #[p, .int .i64 n] w fun e w' => ∃ gs gl : Nat, e = .returned (.func (.func 26) #[] #[.pointer (some ⟨gs, 0, Option.none⟩), .pointer (some ⟨gl, 0, Option.none⟩)]) ∧
      w'.heap[gs]? = some (.cells #[.pointer Option.none] 22 (0, 0)) ∧ w'.heap[gl]? = some (.cells #[.int .i64 n] 3 (0, 0)) ∧ w.heap.size ≤ gs ∧ w.heap.size ≤ gl ∧ Below w.heap.size w w' := by
  have h' : ∀ o, NoSrc (w.alloc o) p := fun o => by
    rcases h with h | ⟨g, hg, hc⟩
    · exact .inl h
    · refine .inr ⟨g, hg, ?_⟩
      exact ((below_alloc (Below.refl _ _) o).cell (World.block_lt_of_cell? w _ hc)).trans hc
  have H := Aside0.mk h'
  clear h h'
  go_enter Try.func17, Try.ntmps17
  go_wp2_with (go_at_call 18; refine (Copy.no _ _ (H.out _)).mono ?_; rintro e w' ⟨rfl, rfl⟩)
  go_ret
  refine ⟨_, _, rfl, ?_, blk_alloc (blk_new _ _) _, ?_, Nat.le_refl _, below_alloc (below_alloc (Below.refl _ _) _) _⟩
  · have h := blk_new (w.alloc (.cells #[.int .i64 n] 3)) (.cells #[.pointer Option.none] 22)
    simpa using h
  · simp

set_option maxRecDepth 100000 in
set_option maxHeartbeats 4000000 in
theorem none_stops (n : Nat) (hn : 3 ≤ n) (lim : Int) (gs gl : Nat) (Kp : World → World → Prop) (w : World) (h1 : w.heap[gs]? = some (.cells #[.pointer Option.none] 22 (0, 0))) (h2 : w.heap[gl]? = some (.cells #[.int .i64 lim] 3 (0, 0))) :
    SeqStopsK Fence.wide n Try.prog 26 #[.pointer (some ⟨gs, 0, Option.none⟩), .pointer (some ⟨gl, 0, Option.none⟩)] (fun x : Int => #[.int .i64 x]) Kp (fun ys => ys = []) (fun _ => False) 0 w := fun l J Jx W hW hJ hJx hY hJ0 => by
  refine callsIn_of_wp Try.func26 rfl trivial ?_ rfl
  simp only [Try.ntmps26, List.size_toArray, List.length_cons, List.length_nil, Nat.reduceAdd, Nat.reduceSub, Array.replicate_succ, Array.replicate_zero, List.push_toArray, List.append_toArray, List.nil_append, List.cons_append]
  have bs := (hW.block gs (Array.getElem?_eq_some_iff.1 h1).1).trans h1
  have bl := (hW.block gl (Array.getElem?_eq_some_iff.1 h2).1).trans h2
  have c0 : W.cell? ⟨gs, 0, Option.none⟩ = some (.pointer Option.none) := blk_cellz bs 0
  have c1 : W.cell? ⟨gl, 0, Option.none⟩ = some (.int .i64 lim) := blk_cellz bl 0
  have HS : ∀ W1, NoSrc W1 (.pointer Option.none) := fun _ => .inl rfl
  have HS' := Aside0.mk HS
  have HJ0 := Aside0.mk hJ0
  clear bs bl HS h1 h2 hJ0 hY
  gi_wp2_with (refine ⟨trivial, fun h => (by cases h), ?_⟩; refine (callsIn_wide.2 (Copy.no _ _ (HS'.out _))).mono ?_; rintro e w1 ⟨rfl, rfl⟩)
  refine wpIn_loop_rounds 1 ?_
  rw [roundsIn_succ]
  gi_wp2_with (refine ⟨trivial, fun h => (by cases h), ?_⟩; refine (callsIn_wide.2 (Number.none _ _ _ (HS'.out _))).mono ?_; rintro e w1 ⟨rfl, rfl⟩)
  refine ⟨fun f hf => (by cases hf), ?_⟩
  gi_wp2
  refine bodyPost_ret (results_none rfl _ _ _) rfl ?_
  exact ⟨⟨_, rfl⟩, .inl ⟨[], rfl, HJ0.out⟩⟩

def NF (w W : World) : Prop := W.heap[w.heap.size]? = some (.cells #[.bool false] 4 (0, 0)) ∧ W.heap[w.heap.size + 1]? = some (.cells #[.int .u64 0, .bool false] 48 (0, 0)) ∧ W.heap[w.heap.size + 2]? = some (.cells #[.pointer Option.none, sp (w.heap.size + 1)] 22 (0, 0)) ∧ Below w.heap.size w W
theorem NF.below {w W W1 : World} (h : NF w W) (hb : Below W.heap.size W W1) : NF w W1 := ⟨blk_below h.1 hb, blk_below h.2.1 hb, blk_below h.2.2.1 hb, below_step h.2.2.2 hb⟩
theorem NF.src {w W : World} (h : NF w W) : NoSrc W (sp (w.heap.size + 1)) := .inr ⟨_, rfl, (blk_cell h.2.1 1).trans rfl⟩
theorem NF.own {β : Type} {w : World} {B : Nat} (hB : w.heap.size + 2 < B) : OwnFrom B (fun (_ : β) W => NF w W) := by
  intro s A C row h hg hr
  have ne : ∀ k, k < B → some k ≠ row := fun k hk e => by have := (hr k e.symm).1; omega
  refine ⟨blk_grown h.1 hg (ne _ (by omega)), blk_grown h.2.1 hg (ne _ (by omega)), blk_grown h.2.2.1 hg (ne _ (by omega)), ?_⟩
  exact pw_below_grown h.2.2.2 row h.2.2.2.size hg (fun k e => by have := (hr k e).1; omega)
theorem def_own {β : Type} {D B : Nat} (hB : D < B) : OwnFrom B (fun (_ : β) (W : World) => W.heap[D]? = some (.deferred (some []))) := by
  intro s A C row h hg hr
  exact blk_grown h hg (fun e => by have := (hr D e.symm).1; omega)
theorem nil_no (W : World) : NoSrc W (.pointer Option.none) := .inl rfl

theorem eql_nilFunc (f : Fn) (c : Array Value) (W : World) : (binOp .eql 51 (.func f #[] c) .nilFunc).run Try.prog W = .ok (.bool false) W := by
  have h : ∀ d : Nat, (Op.equalIn (d + 1) 51 (.func f #[] c) .nilFunc).run Try.prog W = .ok false W := fun d => by
    simp [Op.equalIn, run_underlying Try.underlying51]
  simp only [binOp]
  simp [Op.equal, Op.maxDepth, h 9999]

set_option maxRecDepth 100000 in
set_option maxHeartbeats 4000000 in
theorem none_law (n : Int) (w : World) :
    Calls Try.prog 7 #[.int .i64 n] w fun e w' => e = .returned (.bool true) ∧ Below w.heap.size w w' := by
  refine (callsIn_wide (n := 9)).1 ?_
  refine callsIn_of_wp_marks Try.func7 rfl trivial ?_ rfl
  simp only [Try.ntmps7, List.size_toArray, List.length_cons, List.length_nil, Nat.reduceAdd, Nat.reduceSub, Array.replicate_succ, Array.replicate_zero, List.push_toArray, List.append_toArray, List.nil_append, List.cons_append]
  gi_wp2
  have F : NF w (((w.alloc (.cells #[.bool false] 4)).alloc (.cells #[.int .u64 0, .bool false] 48)).alloc (.cells #[.pointer Option.none, sp (w.heap.size + 1)] 22)) := by
    refine ⟨blk_alloc (blk_alloc (blk_new _ _) _) _, blk_alloc ?_ _, ?_, below_alloc (below_alloc (below_alloc (Below.refl _ _) _) _) _⟩
    · have h := blk_new (w.alloc (.cells #[.bool false] 4)) (.cells #[.int .u64 0, .bool false] 48)
      simpa using h
    · have h := blk_new ((w.alloc (.cells #[.bool false] 4)).alloc (.cells #[.int .u64 0, .bool false] 48)) (.cells #[.pointer Option.none, sp (w.heap.size + 1)] 22)
      simpa using h
  generalize (((w.alloc (.cells #[.bool false] 4)).alloc (.cells #[.int .u64 0, .bool false] 48)).alloc (.cells #[.pointer Option.none, .pointer (some ⟨w.heap.size + 1, 0, Option.none⟩)] 22)) = W0 at F ⊢
  have HF := Aside0.mk F
  have l0 : W0.cell? ⟨w.heap.size + 1 + 1, 0, Option.none⟩ = some (.pointer Option.none) := blk_cellz F.2.2.1 0
  clear F
  have hq := fun (f : Fn) (c : Array Value) (W : World) => eql_nilFunc f c W
  refine wpIn_loop_rounds 3 ?_
  rw [roundsIn_succ]
  gi_wp2_with (first
    | (refine ⟨trivial, ?_⟩; refine (callsIn_wide.2 (Number.none _ _ _ (nil_no _))).mono ?_; rintro e w1 ⟨rfl, rfl⟩)
    | (refine ⟨trivial, ?_⟩; refine (callsIn_wide.2 (Shuffle.no _ _ _ (nil_no _))).mono ?_; rintro e w1 ⟨rfl, rfl⟩)
    | (refine ⟨trivial, ?_⟩; refine (callsIn_wide.2 (Fork.no _ _ _ (nil_no _))).mono ?_; rintro e w1 ⟨rfl, rfl⟩)
    | (refine ⟨trivial, ?_⟩; refine (callsIn_wide.2 (Word.no _ _ (nil_no _))).mono ?_; rintro e w1 ⟨rfl, rfl⟩)
    | (refine ⟨trivial, ?_⟩; refine (callsIn_wide.2 (Copy.no _ _ (nil_no _))).mono ?_; rintro e w1 ⟨rfl, rfl⟩)
    | (refine ⟨trivial, ?_⟩; refine (callsIn_wide.2 (Numbers.no _ _ _ (nil_no _))).mono ?_; rintro e w2 ⟨gs, gl, rfl, h1, h2, h3, h4, hb⟩; have H1 := Aside0.mk h1; have H2 := Aside0.mk h2; have n1 := Aside0.mk (HF.out.below hb); clear h1 h2 h3 h4 hb HF; have HF := n1; clear n1))
  refine wpIn_rangeFunc_ownF rfl (by omega) (gf := 26) (lb := #[.pointer (some ⟨gs, 0, Option.none⟩), .pointer (some ⟨gl, 0, Option.none⟩)]) rfl trivial (enters_of Try.func26 (by kernel_rfl) rfl)
    (none_stops 8 (by omega) n gs gl (fun _ _ => True) w1 H1.out H2.out)
    (fun _ _ => trivial) (fun _ _ _ _ _ _ _ _ => trivial) (Below.refl _ _) (fun _ => rfl)
    (fun _ W => NF w W) (fun _ _ _ => False) (NF.own (by have := blk_lt HF.out.2.2.1; omega)) (fun _ _ _ _ _ hs _ _ => hs) HF.out ?a1 ?assign ?body ?done ?stop
  case assign =>
    intro l x W K hK
    gi_wp2
    go_simp
    exact hK
  case body =>
    intro l pre x W _ hlen
    exact absurd hlen (by omega)
  case stop =>
    rintro D c pre W _ h _ _
    exact h.elim
  case done =>
    rintro D1 ys W1 hD rfl F1 hK1
    have HF1 := Aside0.mk F1
    have HD1 := Aside0.mk (show w.heap.size < D1 by have := blk_lt HF.out.2.2.1; omega)
    have HK1 := Aside0.mk hK1
    have l1 : W1.cell? ⟨w.heap.size + 1 + 1, 1, Option.none⟩ = some (sp (w.heap.size + 1)) := blk_cellz F1.2.2.1 1
    clear F1 hK1 l0 HF H1 H2
    gi_wp2
    rw [roundsIn_succ]
    gi_wp2_with (first
      | (refine ⟨trivial, ?_⟩; refine (callsIn_wide.2 (Number.none _ _ _ HF1.out.src)).mono ?_; rintro e w1 ⟨rfl, rfl⟩)
      | (refine ⟨trivial, ?_⟩; refine (callsIn_wide.2 (Shuffle.no _ _ _ HF1.out.src)).mono ?_; rintro e w1 ⟨rfl, rfl⟩)
      | (refine ⟨trivial, ?_⟩; refine (callsIn_wide.2 (Fork.no _ _ _ HF1.out.src)).mono ?_; rintro e w1 ⟨rfl, rfl⟩)
      | (refine ⟨trivial, ?_⟩; refine (callsIn_wide.2 (Word.no _ _ HF1.out.src)).mono ?_; rintro e w1 ⟨rfl, rfl⟩)
      | (refine ⟨trivial, ?_⟩; refine (callsIn_wide.2 (Copy.no _ _ HF1.out.src)).mono ?_; rintro e w1 ⟨rfl, rfl⟩)
      | (refine ⟨trivial, ?_⟩; refine (callsIn_wide.2 (Numbers.no _ _ _ HF1.out.src)).mono ?_; rintro e w2 ⟨gs, gl, rfl, h1, h2, h3, h4, hb⟩; have H1 := Aside0.mk h1; have H2 := Aside0.mk h2; have n1 := Aside0.mk (HF1.out.below hb); have n2 := Aside0.mk (blk_below HK1.out hb); clear h1 h2 h3 h4 hb HF1 HK1; have HF1 := n1; have HK1 := n2; clear n1 n2))
    refine wpIn_rangeFunc_ownF rfl (by omega) (gf := 26) (lb := #[.pointer (some ⟨gs, 0, Option.none⟩), .pointer (some ⟨gl, 0, Option.none⟩)]) rfl trivial (enters_of Try.func26 (by kernel_rfl) rfl)
      (none_stops 8 (by omega) n gs gl (fun _ _ => True) w1 H1.out H2.out)
      (fun _ _ => trivial) (fun _ _ _ _ _ _ _ _ => trivial) (Below.refl _ _) (fun _ => rfl)
      (fun _ W => NF w W ∧ W.heap[D1]? = some (.deferred (some []))) (fun _ _ _ => False) (OwnFrom.and (NF.own (by have := blk_lt HF1.out.2.2.1; omega)) (def_own (blk_lt HK1.out))) (fun _ _ _ _ _ hs _ _ => hs) ⟨HF1.out, HK1.out⟩ ?a2 ?assign2 ?body2 ?done2 ?stop2
    case assign2 =>
      intro l x W K hK
      gi_wp2
      go_simp
      exact hK
    case body2 =>
      intro l pre x W _ hlen
      exact absurd hlen (by omega)
    case stop2 =>
      rintro D c pre W _ h _ _
      exact h.elim
    case done2 =>
      rintro D2 ys W2 hD2 rfl ⟨F2, hk1⟩ hK2
      have HF2 := Aside0.mk F2
      have HD2 := Aside0.mk (show D1 < D2 by have := blk_lt HK1.out; omega)
      have HK1 := Aside0.mk hk1
      have HK2 := Aside0.mk hK2
      clear F2 hk1 hK2 l1 HF1 H1 H2
      gi_wp2
      rw [roundsIn_succ]
      gi_wp2
      gi_wp2_with (refine ⟨trivial, ?_⟩; refine (callsIn_wide.2 (known.calls _)).mono ?_; rintro e w3 ⟨rfl, hb⟩; have n1 := Aside0.mk (HF2.out.below hb); have n2 := Aside0.mk (blk_below HK1.out hb); have n3 := Aside0.mk (blk_below HK2.out hb); clear HF2 HK1 HK2 hb; have HF2 := n1; have HK1 := n2; have HK2 := n3; have c0 := blk_cellz HF2.out.1 0; have f0 := blk_frozen HF2.out.1 0)
      have hE : Below w.heap.size w (w3.setCell ⟨w.heap.size, 0, Option.none⟩ (.bool true)) := below_set HF2.out.2.2.2 (Nat.le_refl _)
      have hR := blk_put HF2.out.1 0 (.bool true) rfl
      have d1 : (w3.setCell ⟨w.heap.size, 0, Option.none⟩ (.bool true)).heap[D1]? = some (.deferred (some [])) := (Below.heap_setCell w3 ⟨w.heap.size, 0, Option.none⟩ (.bool true) D1 (by show D1 ≠ w.heap.size; have := HD1.out; omega)).trans HK1.out
      have d2 : (w3.setCell ⟨w.heap.size, 0, Option.none⟩ (.bool true)).heap[D2]? = some (.deferred (some [])) := (Below.heap_setCell w3 ⟨w.heap.size, 0, Option.none⟩ (.bool true) D2 (by show D2 ≠ w.heap.size; have := HD1.out; have := HD2.out; omega)).trans HK2.out
      have d3 := (World.putObj_heap_other (w := w3.setCell ⟨w.heap.size, 0, Option.none⟩ (.bool true)) (o := .deferred Option.none) (show D1 ≠ D2 by have := HD2.out; omega)).trans d1
      refine ⟨by simp, .inl ⟨_, _, rfl, run_takeDeferred d2, ?_⟩⟩
      refine ⟨by simp, .inl ⟨_, _, rfl, run_takeDeferred d3, ?_⟩⟩
      have q0 := blk_cellz ((World.putObj_heap_other (o := .deferred Option.none) (show w.heap.size ≠ D1 by have := HD1.out; omega)).trans ((World.putObj_heap_other (o := .deferred Option.none) (show w.heap.size ≠ D2 by have := HD1.out; have := HD2.out; omega)).trans hR)) 0
      refine ⟨.bool true, ?_, rfl, (hE.trans (belowK_b (w := w) (Nat.le_refl _) _ D2 _ _ (by have := HD1.out; have := HD2.out; omega) d2 rfl rfl)).trans (belowK_b (w := w) (Nat.le_refl _) _ D1 _ _ (by have := HD1.out; omega) d3 rfl rfl)⟩
      simp [results, Try.results7, go_sem, q0]

def bandplanlaw03_RandomNone.f (a0 : Int) : Option Bool := some true
theorem bandplanlaw03_RandomNone.calls (a0 : Int) (r : Bool) (w : World) (h : bandplanlaw03_RandomNone.f a0 = some r) :
    Calls Try.prog 7 #[.int .i64 a0] w fun e w' => e = .returned (.bool r) ∧ Below w.heap.size w w' := by
  cases h
  exact none_law a0 w
theorem pure_RandomNone (a0 : Int) : bandplanlaw03_RandomNone.f a0 = some true := rfl

end Go.Proofs.Ytmioondgjolaoaa.Print
