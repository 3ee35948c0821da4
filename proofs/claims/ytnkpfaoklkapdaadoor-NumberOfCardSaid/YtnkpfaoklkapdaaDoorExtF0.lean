/- slices.Backward's closure: what it yields, over any body that leaves the row and its box alone. -/
import Derived.RangeFuncFrom
import Derived.RangeFuncNested
import Derived.RangeFuncBound
import Derived.RangeFuncCalls
import Derived.RangeFuncLeaves
import Derived.Shelf.Abstract
import Derived.Shelf.RegionOpen
import Derived.Stop.RegionWithIn
import Derived.OwnWalkIn
import Derived.TacticsInMore
import Derived.LoopNIn
import Derived.LoopIn
import Derived.Test.YtnkpfaoklkapdaaDoorExtE
namespace Go.Proofs.YtnkpfaoklkapdaaDoor.Print
open Go.RowKit Go.Shelf Go.Proofs.YtnkpfaoklkapdaaDoorW.PrintWords Go.Proofs.YtnkpfaoklkapdaaDoorW.PrintLast Go.Proofs.YtnkpfaoklkapdaaDoorW.PrintMore
open Go.Proofs.YtnkpfaoklkapdaaDoor.NumP
set_option linter.unusedVariables false
set_option linter.unusedSimpArgs false
attribute [local go_sem] Oper.semAt_some

/-- What a round of the caller's leaves: every block of cells but the caller's own. -/
def KpX (own : Nat → Prop) (A B : World) : Prop := (∀ (k : Nat) (cs : Array Value) (t : TypeId) (z : Nat × Nat), ¬ own k → A.heap[k]? = some (.cells cs t z) → B.heap[k]? = some (.cells cs t z)) ∧ A.heap.size ≤ B.heap.size
theorem KpX.t {own : Nat → Prop} {A B C : World} (h : KpX own A B) (k : KpX own B C) : KpX own A C := ⟨fun i cs t z ho hi => k.1 i cs t z ho (h.1 i cs t z ho hi), Nat.le_trans h.2 k.2⟩
theorem KpX.b {own : Nat → Prop} (W : World) (l : Nat) (o o' : Obj) (h : W.heap[l]? = some o) (hc : o.isCells = false) : KpX own W (W.putObj l o') := by
  have hg := grownBy_putObj' W l o'
  refine ⟨fun k cs t z _ hk => ?_, hg.size⟩
  refine (hg.block k (Array.getElem?_eq_some_iff.1 hk).1 ?_).trans hk
  intro e
  obtain rfl := Option.some.inj e
  rw [h] at hk
  obtain rfl := Option.some.inj hk
  simp [Obj.isCells] at hc
theorem grown_of_below {W W' : World} (h : Below W.heap.size W W') : W.grownBy W' none := ⟨h.os, h.tape, h.output, h.size, fun k hk _ => h.block k hk⟩

theorem KpX.of_below {own : Nat → Prop} {A B : World} (h : Below A.heap.size A B) : KpX own A B := ⟨fun k cs t z _ hk => (h.block k (Array.getElem?_eq_some_iff.1 hk).1).trans hk, h.size⟩

/-- Indices and words, from index k - 1 down to 0. -/
def bwl (l : List Int) : Nat → List (Int × Int)
  | 0 => []
  | k + 1 => ((k : Int), rd l (k : Int)) :: bwl l k
theorem bwl_length (l : List Int) : ∀ k, (bwl l k).length = k
  | 0 => rfl
  | k + 1 => by simp [bwl, bwl_length l k]

set_option maxRecDepth 100000 in
set_option maxHeartbeats 4000000 in
theorem backward_stops (n : Nat) (hn : 3 ≤ n) (l : List Int) (A0 : Option Addr) (c0 gx : Nat) (own : Nat → Prop) (hl : l.length ≤ 1000000)
    (w : World) (hc : w.heap[gx]? = some (.cells #[.slice A0 l.length c0] 56 (0, 0)))
    (hr : ∀ W, KpX own w W → Kd.C (Kd.int .u32) W A0 l.length l) (ho : ¬ own gx) :
    SeqStopsK Fence.wide n Tryd.prog 92 #[.pointer (some ⟨gx, 0, none⟩)] (fun x : Int × Int => #[.int .i64 x.1, .int .u32 x.2]) (KpX own) (fun ys => ys = bwl l l.length) (fun pre => pre <+: bwl l l.length) l.length w := fun ll J Jx W hW hJ hJx hY hJ0 => by
  refine callsIn_of_wp Tryd.func92 rfl trivial ?_ rfl
  simp only [Tryd.ntmps92, List.size_toArray, List.length_cons, List.length_nil, Nat.reduceAdd, Nat.reduceSub, Array.replicate_succ, Array.replicate_zero, List.push_toArray, List.append_toArray, List.nil_append, List.cons_append]
  have bc := (hW.block gx (Array.getElem?_eq_some_iff.1 hc).1).trans hc
  have k0 := (blk_cell bc 0).trans rfl
  have HKW := Aside0.mk (show KpX own w W from ⟨fun k cs t z _ hk => (hW.block k (Array.getElem?_eq_some_iff.1 hk).1).trans hk, hW.size⟩)
  have BC := Aside0.mk bc
  have HR := Aside0.mk hr
  gi_wp2
  clear k0
  gi_loopw [3] (fun i wr => ∃ (k : Nat) (pre : List (Int × Int)) (Wj : World), i = .int .i64 ((k : Int) - 1) ∧ k ≤ l.length ∧ Aside0 (bwl l l.length = pre ++ bwl l k) ∧ Aside0 (J pre Wj) ∧ Aside0 (KpX own w Wj) ∧ Aside0 (Below Wj.heap.size Wj wr)) (fun i _ => (intOf i + 1).toNat)
  case atStart => exact ⟨l.length, [], W, by go_num, Nat.le_refl _, ⟨rfl⟩, ⟨hJ0⟩, HKW, ⟨Below.refl _ _⟩⟩
  case round =>
    obtain ⟨k, pre, Wj, rfl, hk, HX, HJ, HK, HB⟩ := hrel
    have KW := Aside0.mk (KpX.t HK.out (KpX.of_below HB.out))
    have hbx := (KW.out.1 _ _ _ _ ho hc)
    have x0 := (blk_cell hbx 0).trans rfl
    by_cases h0 : k = 0
    · subst h0
      clear hbx x0
      gi_wp2
      go_end0
      have hxp : bwl l l.length = pre := by rw [HX.out]; simp [bwl]
      refine ⟨⟨_, rfl⟩, .inl ?_⟩
      rw [hxp]
      exact ⟨pre, rfl, hJ pre Wj wr none HJ.out (grown_of_below HB.out) (fun r e => by cases e)⟩
    · obtain ⟨j, rfl⟩ : ∃ j, k = j + 1 := ⟨k - 1, by omega⟩
      obtain ⟨ad, he, hcell⟩ := Kd.at_int (HR.out _ KW.out) (j : Int) (by omega) (by omega)
      subst he
      have hc' : wr.cell? (ad.add j) = some (.int .u32 (rd l j)) := hcell
      have e1 : (((j + 1 : Nat) : Int) - 1) = (j : Int) := by omega
      have hjl : j < l.length := hk
      have hjl2 : (j : Int) < (l.length : Int) := by omega
      have hJ' := hJ pre Wj _ none HJ.out (grown_of_below HB.out) (fun r e => by cases e)
      obtain ⟨fn, tmps, assign, body, hy, hR⟩ := hY pre ((j : Int), rd l (j : Int)) _ hJ' (by have h9 := congrArg List.length HX.out; rw [bwl_length, List.length_append, bwl_length] at h9; omega)
      have HRR := Aside0.mk hR
      clear hR hJ' hcell hbx h0
      gi_wp2
      refine ⟨fun h => (by cases h), ?_⟩
      refine HRR.out.mono ?_
      rintro e W3 (⟨rfl, hJ3, hk3⟩ | ⟨rfl, hJx3⟩)
      · have HJ3 := Aside0.mk hJ3
        have HK3 := Aside0.mk (KpX.t KW.out hk3)
        clear hJ3 hk3 x0
        gi_wp2
        go_roundw
        case rel => exact ⟨j, pre ++ [((j : Int), rd l (j : Int))], W3, by go_num, by omega, ⟨by rw [HX.out]; simp [bwl]⟩, HJ3, HK3, ⟨Below.refl _ _⟩⟩
        case measure => simp [intOf]
      · gi_wp2
        refine bodyPost_ret (results_none rfl _ _ _) rfl ?_
        exact ⟨⟨_, rfl⟩, .inr ⟨pre ++ [((j : Int), rd l (j : Int))], ⟨bwl l j, by rw [HX.out]; simp [bwl]⟩, hJx3⟩⟩

end Go.Proofs.YtnkpfaoklkapdaaDoor.Print
