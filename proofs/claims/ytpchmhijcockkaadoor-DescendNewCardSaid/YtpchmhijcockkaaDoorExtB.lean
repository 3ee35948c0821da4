/- Contracts of descend.after (one round) and descend.Left, in the printed functions' form: loops over the iterator descend.Bases. -/
import Derived.RangeFuncFrom
import Derived.RangeFuncNested
import Derived.RangeFuncBound
import Derived.RangeFuncCalls
import Derived.RangeFuncLeaves
import Derived.Shelf.Abstract
import Derived.Shelf.RegionOpen
import Derived.Stop.RegionWithIn
import Derived.OwnWalkIn
import Derived.TacticsInMore
import Derived.LoopNIn
import Derived.LoopIn
import Derived.Test.YtpchmhijcockkaaDoorPrint4
namespace Go.Proofs.YtpchmhijcockkaaDoor.Print
open Go.RowKit Go.Shelf Go.Proofs.YtpchmhijcockkaaDoorW.PrintWords Go.Proofs.YtpchmhijcockkaaDoorW.PrintLast Go.Proofs.YtpchmhijcockkaaDoorW.PrintMore
set_option linter.unusedVariables false
attribute [local go_sem] Oper.semAt_some

/-- What the base price falls by. -/
def fallV (op b : Int) : Int := mn b (mx (mx 1 (b * 5 / 100)) (op / 100))
theorem fallV_bd (op b : Int) (h0 : 0 ≤ b) (h1 : b ≤ op) (h2 : op ≤ 1000000000) : 0 ≤ fallV op b ∧ fallV op b ≤ b ∧ (0 < b → 0 < fallV op b) := by
  unfold fallV mn mx
  repeat' (first | omega | split)
theorem falls_eq (op b rd : Int) (h0 : 0 ≤ b) (h1 : b ≤ op) (h2 : op ≤ 1000000000) : descend_falls.f op b rd = some (fallV op b) := by
  unfold descend_falls.f fallV
  have e1 : wrap64 (b * 5) = b * 5 := by unfold wrap64; omega
  have e2 : Int.tdiv (b * 5) 100 = b * 5 / 100 := Int.tdiv_eq_ediv_of_nonneg (by omega)
  have e3 : Int.tdiv op 100 = op / 100 := Int.tdiv_eq_ediv_of_nonneg (by omega)
  have e4 : wrap64 (b * 5 / 100) = b * 5 / 100 := by unfold wrap64; omega
  have e5 : wrap64 (op / 100) = op / 100 := by unfold wrap64; omega
  rw [e1, e2, e3, e4, e5]

/-- The bases that follow, by a number of rounds that suffices. -/
def basesL (op : Int) : Nat → Int → List Int
  | 0, _ => []
  | k + 1, b => if 0 < b then (b - fallV op b) :: basesL op k (b - fallV op b) else []
def Chain (op : Int) : Int → List Int → Prop
  | b, [] => ¬ 0 < b
  | b, x :: xs => 0 < b ∧ x = b - fallV op b ∧ Chain op x xs
theorem chain_bases (op : Int) (h2 : op ≤ 1000000000) : ∀ (k : Nat) (b : Int), 0 ≤ b → b ≤ op → b < k → Chain op b (basesL op k b)
  | 0, b, h0, _, hk => by omega
  | k + 1, b, h0, h1, hk => by
    unfold basesL
    by_cases h : 0 < b
    · rw [if_pos h]
      have f := fallV_bd op b h0 h1 h2
      have f3 := f.2.2 h
      exact ⟨h, rfl, chain_bases op h2 k _ (by omega) (by omega) (by omega)⟩
    · rw [if_neg h]; exact h

/-- What a round of the caller's leaves: every block of cells but the caller's own. -/
def KpX (own : Nat → Prop) (A B : World) : Prop := (∀ (k : Nat) (cs : Array Value) (t : TypeId) (z : Nat × Nat), ¬ own k → A.heap[k]? = some (.cells cs t z) → B.heap[k]? = some (.cells cs t z)) ∧ A.heap.size ≤ B.heap.size
theorem KpX.t {own : Nat → Prop} {A B C : World} (h : KpX own A B) (k : KpX own B C) : KpX own A C := ⟨fun i cs t z ho hi => k.1 i cs t z ho (h.1 i cs t z ho hi), Nat.le_trans h.2 k.2⟩
theorem KpX.b {own : Nat → Prop} (W : World) (l : Nat) (o o' : Obj) (h : W.heap[l]? = some o) (hc : o.isCells = false) : KpX own W (W.putObj l o') := by
  have hg := grownBy_putObj' W l o'
  refine ⟨fun k cs t z _ hk => ?_, hg.size⟩
  refine (hg.block k (Array.getElem?_eq_some_iff.1 hk).1 ?_).trans hk
  intro e
  obtain rfl := Option.some.inj e
  rw [h] at hk
  obtain rfl := Option.some.inj hk
  simp [Obj.isCells] at hc
theorem KpX.set {own : Nat → Prop} (W : World) (g j : Nat) (v : Value) (ho : own g) : KpX own W (W.setCell ⟨g, j, none⟩ v) :=
  ⟨fun k cs t z hk h => (Below.heap_setCell W ⟨g, j, none⟩ v k (fun e => hk (by rw [e]; exact ho))).trans h, by simp [World.setCell]⟩
theorem grown_of_below {W W' : World} (h : Below W.heap.size W W') : W.grownBy W' none := ⟨h.os, h.tape, h.output, h.size, fun k hk _ => h.block k hk⟩

theorem blk_cell' {w : World} {g : Nat} {cs : Array Value} {t : TypeId} {z : Nat × Nat} (h : w.heap[g]? = some (.cells cs t z)) (i : Nat) : w.cell? ⟨g, i, none⟩ = cs[i]? := by simp [World.cell?, h]

theorem falls_in {m : Nat} (op b rd : Int) (w : World) (h0 : 0 ≤ b) (h1 : b ≤ op) (h2 : op ≤ 1000000000) :
    CallsIn Fence.wide m Tryd.prog 37 #[.agg #[.int .i64 op, .int .i64 b, .int .i64 rd]] w fun e w' => e = .returned (.int .i64 (fallV op b)) ∧ Below w.heap.size w w' :=
  callsIn_wide.2 (descend_falls.calls op b rd _ w (falls_eq op b rd h0 h1 h2))

def leftB (wr : World) (p : Value) : Nat := match p with
  | .pointer (some a) => match wr.cell? ⟨a.block, 1, none⟩ with | some (.int _ n) => n.toNat | _ => 0
  | _ => 0
theorem leftB_eq {wr : World} {g : Nat} {cs : Array Value} {t : TypeId} {z : Nat × Nat} {b : Int} (h : wr.heap[g]? = some (.cells cs t z)) (h1 : cs[1]? = some (.int .i64 b)) : leftB wr (.pointer (some ⟨g, 0, none⟩)) = b.toNat := by
  simp [leftB, World.cell?, h, h1]

set_option maxRecDepth 100000 in
set_option maxHeartbeats 4000000 in
theorem bases_stops (n : Nat) (hn : 3 ≤ n) (op b rd : Int) (h0 : 0 ≤ b) (h1 : b ≤ op) (h2 : op ≤ 1000000000) (gc gg : Nat) (own : Nat → Prop) (xs : List Int) (hxs : Chain op b xs)
    (w : World) (hc : w.heap[gc]? = some (.cells #[.int .i64 op, .int .i64 b, .int .i64 rd] 23 (0, 0))) (hg : w.heap[gg]? = some (.cells #[.bool true] 4 (0, 0))) (ho : ∀ k, own k → k < w.heap.size ∧ k ≠ gc ∧ k ≠ gg) :
    SeqStopsK Fence.wide n Tryd.prog 51 #[.pointer (some ⟨gc, 0, none⟩), .pointer (some ⟨gg, 0, none⟩)] (fun x : Int => #[.int .i64 x]) (KpX own) (fun ys => ys = xs) (fun pre => pre <+: xs) xs.length w := fun l J Jx W hW hJ hJx hY hJ0 => by
  refine callsIn_of_wp Tryd.func51 rfl trivial ?_ rfl
  simp only [Tryd.ntmps51, List.size_toArray, List.length_cons, List.length_nil, Nat.reduceAdd, Nat.reduceSub, Array.replicate_succ, Array.replicate_zero, List.push_toArray, List.append_toArray, List.nil_append, List.cons_append]
  have bc := (hW.block gc (Array.getElem?_eq_some_iff.1 hc).1).trans hc
  have bg := (hW.block gg (Array.getElem?_eq_some_iff.1 hg).1).trans hg
  have c0 := (blk_cell' bc 0).trans rfl
  have c1 := (blk_cell' bc 1).trans rfl
  have c2 := (blk_cell' bc 2).trans rfl
  have KW := Aside0.mk (fun W1 (hb : Below W.heap.size W W1) => And.intro ((hb.block gg (Array.getElem?_eq_some_iff.1 bg).1).trans bg) hb.size)
  have HO := Aside0.mk ho
  have HSZ := Aside0.mk hW.size
  have BG := Aside0.mk bg
  gi_wp2
  clear c0 c1 c2 bc bg
  gi_loopw [4] (fun p wr => ∃ (pre rest : List Int) (b' : Int) (Wj : World) (gx : Nat), p = .pointer (some ⟨gx, 0, none⟩) ∧ Aside0 (xs = pre ++ rest) ∧ Aside0 (Chain op b' rest) ∧ 0 ≤ b' ∧ b' ≤ op ∧ Aside0 (J pre Wj) ∧ Aside0 (W.heap.size ≤ Wj.heap.size) ∧ Aside0 (Below Wj.heap.size Wj wr) ∧ Aside0 (Wj.heap.size ≤ gx) ∧ Aside0 (wr.heap[gx]? = some (.cells #[.int .i64 op, .int .i64 b', .int .i64 rd] 23 (0, 0))) ∧ Aside0 (wr.heap[gg]? = some (.cells #[.bool true] 4 (0, 0))) ∧ Aside0 (gg < Wj.heap.size))
    (fun p wr => leftB wr p)
  case atStart =>
    exact ⟨[], xs, b, W, W.heap.size, rfl, ⟨rfl⟩, ⟨hxs⟩, h0, h1, ⟨hJ0⟩, ⟨Nat.le_refl _⟩, ⟨below_alloc (Below.refl _ _) _⟩, ⟨Nat.le_refl _⟩, ⟨World.alloc_heap_new _ _⟩, ⟨(Below.heap_alloc W _ gg (Array.getElem?_eq_some_iff.1 BG.out).1).trans BG.out⟩, ⟨(Array.getElem?_eq_some_iff.1 BG.out).1⟩⟩
  case round =>
    obtain ⟨pre, rest, b', Wj, gx, rfl, HX, HC, i0, i1, HJ, HWj, HB, HG, HBX, HBG, HGG⟩ := hrel
    have x0 := (blk_cell' HBX.out 0).trans rfl
    have x1 := (blk_cell' HBX.out 1).trans rfl
    have x2 := (blk_cell' HBX.out 2).trans rfl
    have g0 := (blk_cell' HBG.out 0).trans rfl
    cases rest with
    | nil =>
      have hz : ¬ 0 < b' := HC.out
      gi_wp2
      go_end0
      have hxp : xs = pre := by rw [HX.out, List.append_nil]
      refine ⟨⟨_, rfl⟩, .inl ?_⟩
      rw [hxp]
      exact hJ pre Wj wr none HJ.out (grown_of_below HB.out) (fun r e => by cases e)
    | cons x rest =>
      obtain ⟨hz, rfl, hch⟩ := HC.out
      have HCH := Aside0.mk hch
      obtain ⟨f0, f1, f2⟩ := fallV_bd op b' i0 i1 h2
      have f3 := f2 hz
      clear hch f2
      gi_wp2
      gi_region_with (refine ⟨trivial, fun h => (by cases h), ?_⟩; refine (falls_in _ _ _ _ i0 i1 h2).mono ?_; rintro e w1 ⟨rfl, hb1⟩; have HB1 := Aside0.mk hb1; clear hb1; have HX1 := Aside0.mk ((HB1.out.block gx (Array.getElem?_eq_some_iff.1 HBX.out).1).trans HBX.out); have x10 := (blk_cell' HX1.out 0).trans rfl; have x11 := (blk_cell' HX1.out 1).trans rfl; have x12 := (blk_cell' HX1.out 2).trans rfl; have x1f := blk_frozen HX1.out 1)
      all_goals
        have HBW := Aside0.mk (show Below Wj.heap.size Wj (w1.setCell ⟨gx, 1, none⟩ (.int .i64 (b' - fallV op b'))) from below_set (Below.trans (below_drew1 HB.out) (HB1.out.mono (by simpa using HB.out.size))) HG.out)
        have hJ' := hJ pre Wj _ none HJ.out (grown_of_below HBW.out) (fun r e => by cases e)
        have HX2 := Aside0.mk (show (w1.setCell ⟨gx, 1, none⟩ (.int .i64 (b' - fallV op b'))).heap[gx]? = some (.cells #[.int .i64 op, .int .i64 (b' - fallV op b'), .int .i64 rd] 23 (0, 0)) from blk_put HX1.out 1 _ rfl)
        have x20 := (blk_cell' HX2.out 0).trans rfl
        have x21 := (blk_cell' HX2.out 1).trans rfl
        have x22 := (blk_cell' HX2.out 2).trans rfl
        obtain ⟨fn, tmps, assign, body, hy, hR⟩ := hY pre (b' - fallV op b') _ hJ' (by rw [HX.out]; simp)
        have HR := Aside0.mk hR
        clear hR hJ'
        gi_wp2
        refine ⟨fun h => (by cases h), ?_⟩
        refine HR.out.mono ?_
        rintro e W3 (⟨rfl, hJ3, hk3⟩ | ⟨rfl, hJx3⟩)
        · have HJ3 := Aside0.mk hJ3
          have hno : ¬ own gx := fun hh => by have := (HO.out _ hh).1; have := HSZ.out; have := HWj.out; have := HG.out; omega
          have hng : ¬ own gg := fun hh => (HO.out _ hh).2.2 rfl
          have HBG2 := Aside0.mk (show (w1.setCell ⟨gx, 1, none⟩ (.int .i64 (b' - fallV op b'))).heap[gg]? = some (.cells #[.bool true] 4 (0, 0)) from blk_far ((HB1.out.block gg (by simpa using (Array.getElem?_eq_some_iff.1 HBG.out).1)).trans HBG.out) (by have := HGG.out; have := HG.out; show gg ≠ gx; omega) _)
          have HX3 := Aside0.mk (hk3.1 _ _ _ _ hno HX2.out)
          have HBG3 := Aside0.mk (hk3.1 _ _ _ _ hng HBG2.out)
          have HS3 := Aside0.mk (Nat.le_trans HBW.out.size hk3.2)
          have x30 := (blk_cell' HX3.out 0).trans rfl
          have x31 := (blk_cell' HX3.out 1).trans rfl
          have x32 := (blk_cell' HX3.out 2).trans rfl
          clear hJ3 hk3 hno hng
          gi_wp2
          go_roundw
          case rel => exact ⟨pre ++ [b' - fallV op b'], rest, b' - fallV op b', W3, W3.heap.size, rfl, ⟨by rw [HX.out]; simp⟩, HCH, by omega, by omega, HJ3, ⟨Nat.le_trans HWj.out HS3.out⟩, ⟨below_alloc (Below.refl _ _) _⟩, ⟨Nat.le_refl _⟩, ⟨World.alloc_heap_new _ _⟩, ⟨blk_alloc HBG3.out _⟩, ⟨blk_lt HBG3.out⟩⟩
          case measure => rw [leftB_eq (World.alloc_heap_new _ _) rfl, leftB_eq HBX.out rfl]; omega
        · gi_wp2
          refine bodyPost_ret (results_none rfl _ _ _) rfl ?_
          exact ⟨⟨_, rfl⟩, .inr ⟨pre ++ [b' - fallV op b'], ⟨rest, by simp [HX.out]⟩, hJx3⟩⟩

theorem valid_true (op b rd : Int) (a0 : 1 ≤ op) (a1 : op ≤ 1000000000) (b0 : 0 ≤ b) (b1 : b ≤ op) (c0 : 0 ≤ rd) (c1 : rd ≤ 1000000) : descend_Valid.f op b rd = some true := by
  unfold descend_Valid.f
  rw [if_pos a0, if_pos a1, if_pos b0, if_pos b1, if_pos c0, decide_eq_true c1]

set_option maxHeartbeats 4000000 in
theorem Bases_calls (op b rd : Int) (w : World) (hv : descend_Valid.f op b rd = some true) :
    Calls Tryd.prog 47 #[.agg #[.int .i64 op, .int .i64 b, .int .i64 rd]] w fun e w' => ∃ gc gg : Nat, e = .returned (.func (.func 51) #[] #[.pointer (some ⟨gc, 0, none⟩), .pointer (some ⟨gg, 0, none⟩)]) ∧
      w'.heap[gc]? = some (.cells #[.int .i64 op, .int .i64 b, .int .i64 rd] 23 (0, 0)) ∧ w'.heap[gg]? = some (.cells #[.bool true] 4 (0, 0)) ∧ w.heap.size ≤ gc ∧ w.heap.size ≤ gg ∧ Below w.heap.size w w' := by
  have HV := Aside0.mk hv
  clear hv
  have hu23 := Tryd.underlying23
  go_enter Tryd.func47, Tryd.ntmps47
  go_wp2_with (go_at_call 12; refine (descend_Valid.calls _ _ _ _ _ HV.out).mono ?_; rintro e w1 ⟨rfl, hb⟩; have HB := Aside0.mk hb; clear hb)
  go_ret
  refine ⟨_, _, rfl, blk_alloc (blk_below (World.alloc_heap_new w _) HB.out) _, World.alloc_heap_new _ _, Nat.le_refl _, ?_, ?_⟩
  · have := HB.out.size
    simp at this
    omega
  · exact below_alloc ((below_alloc (Below.refl _ _) _).trans (HB.out.mono (by simp))) _

theorem own_blk {β : Type} {g : Nat} {t : TypeId} (f : β → Array Value) : Own (fun (s : β) (W : World) => W.heap[g]? = some (.cells (f s) t (0, 0))) := fun s A B row hs hg hr => by
  refine blk_grown hs hg (fun e => ?_)
  obtain ⟨o, ho, hc⟩ := hr _ e.symm
  rw [hs] at ho
  obtain rfl := Option.some.inj ho
  simp [Obj.isCells] at hc

theorem own_blk1 {g : Nat} {t : TypeId} {cs : Array Value} {A B : World} {row : Option Nat} (hs : A.heap[g]? = some (.cells cs t (0, 0))) (hg : A.grownBy B row)
    (hr : ∀ r, row = some r → ∃ o : Obj, A.heap[r]? = some o ∧ o.isCells = false) : B.heap[g]? = some (.cells cs t (0, 0)) := by
  refine blk_grown hs hg (fun e => ?_)
  obtain ⟨o, ho, hc⟩ := hr _ e.symm
  rw [hs] at ho
  obtain rfl := Option.some.inj ho
  simp [Obj.isCells] at hc

def descend_Left.f (a0 a1 a2 : Int) : Option (Int × Int) := (descend_Valid.f a0 a1 a2).bind fun v => if v = true then some ((basesL a0 (a1.toNat + 1) a1).length, 0) else some (0, 2)
theorem bases_length (op : Int) : ∀ (k : Nat) (b : Int), (basesL op k b).length ≤ k
  | 0, b => by simp [basesL]
  | k + 1, b => by
    unfold basesL
    split
    · simp; exact bases_length op k _
    · simp

set_option maxRecDepth 100000 in
set_option maxHeartbeats 4000000 in
theorem Left_yes (op b rd : Int) (w : World) (a0 : 1 ≤ op) (a1 : op ≤ 1000000000) (b0 : 0 ≤ b) (b1 : b ≤ op) (hv : descend_Valid.f op b rd = some true) (xs : List Int) (hch : Aside0 (Chain op b xs)) (hlen : Aside0 (xs.length ≤ 2000000000)) :
    Calls Tryd.prog 35 #[.agg #[.int .i64 op, .int .i64 b, .int .i64 rd]] w fun e w' => e = .returned (.tuple #[.int .i64 (xs.length : Int), .int .i64 0]) ∧ Below w.heap.size w w' := by
  refine (callsIn_wide (n := 9)).1 ?_
  have HV := Aside0.mk hv
  clear hv
  have hu23 := Tryd.underlying23
  refine callsIn_of_wp_marks Tryd.func35 rfl trivial ?_ rfl
  simp only [Tryd.ntmps35, List.size_toArray, List.length_cons, List.length_nil, Nat.reduceAdd, Nat.reduceSub, Array.replicate_succ, Array.replicate_zero, List.push_toArray, List.append_toArray, List.nil_append, List.cons_append]
  gi_wp2_with (first
    | (refine ⟨trivial, ?_⟩; refine (callsIn_wide.2 (descend_Valid.calls _ _ _ _ _ HV.out)).mono ?_; rintro e w1 ⟨rfl, hb⟩; have HB := Aside0.mk hb; clear hb; have HCB := Aside0.mk (blk_below (World.alloc_heap_new w (.cells #[.int .i64 op, .int .i64 b, .int .i64 rd] 23)) HB.out); have k0 := (blk_cell' HCB.out 0).trans rfl; have k1 := (blk_cell' HCB.out 1).trans rfl; have k2 := (blk_cell' HCB.out 2).trans rfl; have hz := blk_lt HCB.out)
    | (refine ⟨trivial, ?_⟩; refine (callsIn_wide.2 (Bases_calls _ _ _ _ HV.out)).mono ?_; rintro e w2 ⟨gc, gg, rfl, h1, h2, h3, h4, hb⟩; have H1 := Aside0.mk h1; have H2 := Aside0.mk h2; have H3 := Aside0.mk h3; have H4 := Aside0.mk h4; have HB2 := Aside0.mk hb; clear h1 h2 h3 h4 hb))
  have HCH := hch
  have HL := hlen
  clear hch hlen
  have ha := HB2.out.size
  have hsz : (w1.alloc (.cells #[.int .i64 0] 3)).heap.size = w1.heap.size + 1 := by simp
  have HNB := blk_below (World.alloc_heap_new w1 (.cells #[.int .i64 0] 3)) HB2.out
  have h3 := H3.out
  have h4 := H4.out
  rw [hsz] at h3 h4 ha
  have HB0 : Below w.heap.size w w2 := (below_alloc ((below_alloc (Below.refl _ _) _).trans (HB.out.mono (by simp))) _).trans (HB2.out.mono (by simp; omega))
  refine wpIn_rangeFunc_ownF rfl (by omega) (gf := 51) (lb := #[.pointer (some ⟨gc, 0, none⟩), .pointer (some ⟨gg, 0, none⟩)]) rfl trivial (enters_of Tryd.func51 (by kernel_rfl) rfl)
    (bases_stops 8 (by omega) op b rd b0 b1 a1 gc gg (fun k => k = w1.heap.size) xs HCH.out w2 H1.out H2.out (fun k hk => by subst hk; exact ⟨by omega, by omega, by omega⟩))
    KpX.t (fun W l o o' _ h hc _ => KpX.b W l o o' h hc) (Below.refl _ _) (fun _ => rfl)
    (fun pre W => (W.heap[w1.heap.size]? = some (.cells #[.int .i64 (pre.length : Int)] 3 (0, 0))) ∧ Below w.heap.size w W)
    (fun _ _ _ => False)
    (OwnFrom.and (Own.from (own_blk (fun pre : List Int => #[.int .i64 (pre.length : Int)])) _) (ownFrom_below (Nat.le_refl _) HB0.size))
    (fun _ _ _ _ _ hs _ _ => hs)
    ⟨HNB, HB0⟩
    (fun x => { tmps := #[.agg #[.int .i64 op, .int .i64 b, .int .i64 rd], .pointer (some ⟨w.heap.size, 0, none⟩), .int .i64 0, .int .i64 0, .pointer (some ⟨w1.heap.size, 0, none⟩), .agg #[.int .i64 op, .int .i64 b, .int .i64 rd], .bool true, .bool false, .agg #[.int .i64 op, .int .i64 b, .int .i64 rd],
      .func (.func 51) #[] #[.pointer (some ⟨gc, 0, none⟩), .pointer (some ⟨gg, 0, none⟩)], .int .i64 x, undef, undef, undef], defers := [] }) ?assign ?body ?done ?stop
  case assign =>
    intro l x W K hK
    gi_wp2
    go_simp
    exact hK
  case body =>
    rintro l pre x W ⟨hc, hB⟩ hlen
    have hn0 := (blk_cell' hc 0).trans rfl
    have hnf := blk_frozen hc 0
    have hl := HL.out
    have hb1 : (pre.length : Int) + 1 ≤ 9223372036854775807 := by omega
    have HC := Aside0.mk hc
    have HBp := Aside0.mk hB
    have hz2 : w.heap.size ≤ w1.heap.size := by have := HB.out.size; simp at this; omega
    clear hc hB hl hlen
    gi_wp2
    exact ⟨KeepsOthers.setCell _ _ _, KpX.set _ _ _ _ rfl, blk_put HC.out 0 _ (by simp), below_set HBp.out hz2⟩
  case done =>
    rintro D ys W hD rfl ⟨hc, hB⟩ hK
    have hn0 := (blk_cell' hc 0).trans rfl
    have HBp := Aside0.mk hB
    clear hB hc
    gi_wp2
    refine ⟨by simp, .inl ⟨_, _, rfl, run_takeDeferred hK, ?_⟩⟩
    refine ⟨_, ?_, rfl, HBp.out.trans (belowK_b (w := w) (Nat.le_refl _) W D _ _ (by have := HB0.size; omega) hK rfl rfl)⟩
    simp [results, Tryd.results35, go_sem]
  case stop =>
    rintro D c pre W _ _ h _
    exact h.elim

theorem valid_of {op b rd : Int} (h : descend_Valid.f op b rd = some true) : 1 ≤ op ∧ op ≤ 1000000000 ∧ 0 ≤ b ∧ b ≤ op ∧ 0 ≤ rd ∧ rd ≤ 1000000 := by
  unfold descend_Valid.f at h
  repeat' (split at h)
  all_goals first
    | (exfalso; simp at h; done)
    | (have := of_decide_eq_true (Option.some.inj h); omega)

set_option maxHeartbeats 4000000 in
theorem descend_Left.calls (a0 a1 a2 r1 r2 : Int) (w : World) (h : descend_Left.f a0 a1 a2 = some (r1, r2)) :
    Calls Tryd.prog 35 #[.agg #[.int .i64 a0, .int .i64 a1, .int .i64 a2]] w fun e w' => e = .returned (.tuple #[.int .i64 r1, .int .i64 r2]) ∧ Below w.heap.size w w' := by
  unfold descend_Left.f at h
  obtain ⟨v, hv, h⟩ := Option.bind_eq_some_iff.1 h
  cases v with
  | true =>
    rw [if_pos rfl] at h
    cases h
    obtain ⟨c0, c1, c2, c3, _, _⟩ := valid_of hv
    have hl := bases_length a0 (a1.toNat + 1) a1
    exact Left_yes a0 a1 a2 w c0 c1 c2 c3 hv _ ⟨chain_bases a0 c1 (a1.toNat + 1) a1 c2 c3 (by omega)⟩ ⟨by omega⟩
  | false =>
    rw [if_neg (by decide)] at h
    cases h
    have HV := Aside0.mk hv
    clear hv
    have hu23 := Tryd.underlying23
    go_enter Tryd.func35, Tryd.ntmps35
    go_wp2_with (go_at_call 12; refine (descend_Valid.calls _ _ _ _ _ HV.out).mono ?_; rintro e w1 ⟨rfl, hb⟩; have HB := Aside0.mk hb; clear hb)
    go_ret2
    exact ⟨rfl, (below_alloc (Below.refl _ _) _).trans (HB.out.mono (by simp))⟩

def descend_after.f (a0 a1 a2 a3 : Int) (a4 : Bool) : Option (Int × Int × Int × Int) :=
  if a4 = true then
    if a3 = 1 ∧ 1 ≤ a0 ∧ a0 ≤ 1000000000 ∧ 0 ≤ a1 ∧ a1 ≤ a0 ∧ 0 ≤ a2 ∧ a2 ≤ 1000000 then
      if 0 < a1 then (if a2 = 1000000 then some (0, 0, 0, 7) else some (a0, a1 - fallV a0 a1, a2 + 1, 0)) else some (0, 0, 0, 8)
    else none
  else some (0, 0, 0, 2)

set_option maxHeartbeats 4000000 in
theorem after_no (op b rd n : Int) (w : World) :
    Calls Tryd.prog 39 #[.agg #[.int .i64 op, .int .i64 b, .int .i64 rd], .int .i64 n, .bool false] w fun e w' => e = .returned (.tuple #[.agg #[.int .i64 0, .int .i64 0, .int .i64 0], .int .i64 2]) ∧ Below w.heap.size w w' := by
  have hu23 := Tryd.underlying23
  go_enter Tryd.func39, Tryd.ntmps39
  go_wp2
  refine bodyPost_ret (v := .tuple #[.agg #[.int .i64 0, .int .i64 0, .int .i64 0], .int .i64 2]) (by simp [results, Tryd.results39, go_sem]) rfl ⟨rfl, ?_⟩
  exact below_alloc (below_alloc (below_alloc (Below.refl _ _) _) _) _

set_option maxRecDepth 100000 in
set_option maxHeartbeats 4000000 in
theorem after_yes (op b rd : Int) (w : World) (a0 : 1 ≤ op) (a1 : op ≤ 1000000000) (b0 : 0 ≤ b) (b1 : b ≤ op) (r0 : 0 ≤ rd) (r1 : rd ≤ 1000000) (xs : List Int) (hch : Aside0 (Chain op b xs)) (x1 x2 x3 x4 : Int)
    (hres : Aside0 ((xs = [] ∧ x1 = 0 ∧ x2 = 0 ∧ x3 = 0 ∧ x4 = 8) ∨ (∃ x ys, xs = x :: ys ∧ rd = 1000000 ∧ x1 = 0 ∧ x2 = 0 ∧ x3 = 0 ∧ x4 = 7) ∨ (∃ x ys, xs = x :: ys ∧ rd < 1000000 ∧ x1 = op ∧ x2 = x ∧ x3 = rd + 1 ∧ x4 = 0))) :
    Calls Tryd.prog 39 #[.agg #[.int .i64 op, .int .i64 b, .int .i64 rd], .int .i64 1, .bool true] w fun e w' => e = .returned (.tuple #[.agg #[.int .i64 x1, .int .i64 x2, .int .i64 x3], .int .i64 x4]) ∧ Below w.heap.size w w' := by
  refine (callsIn_wide (n := 9)).1 ?_
  have HV := Aside0.mk (valid_true op b rd a0 a1 b0 b1 r0 r1)
  have hu23 := Tryd.underlying23
  refine callsIn_of_wp_marks Tryd.func39 rfl trivial ?_ rfl
  simp only [Tryd.ntmps39, List.size_toArray, List.length_cons, List.length_nil, Nat.reduceAdd, Nat.reduceSub, Array.replicate_succ, Array.replicate_zero, List.push_toArray, List.append_toArray, List.nil_append, List.cons_append]
  gi_wp2_with (refine ⟨trivial, ?_⟩; refine (callsIn_wide.2 (Bases_calls _ _ _ _ HV.out)).mono ?_; rintro e w2 ⟨gc, gg, rfl, h1, h2, h3, h4, hb⟩; have H1 := Aside0.mk h1; have H2 := Aside0.mk h2; have H3 := Aside0.mk h3; have H4 := Aside0.mk h4; have HB2 := Aside0.mk hb; clear h1 h2 h3 h4 hb)
  obtain ⟨w5, hw5⟩ : ∃ w5, w5 = ((((w.alloc (.cells #[.int .i64 op, .int .i64 b, .int .i64 rd] 23)).alloc (.cells #[.int .i64 1] 3)).alloc (.cells #[.int .i64 0, .int .i64 0, .int .i64 0] 23)).alloc (.cells #[.int .i64 op, .int .i64 b, .int .i64 rd] 23)).alloc (.cells #[.int .i64 0] 3) := ⟨_, rfl⟩
  rw [← hw5] at H3 H4 HB2
  have hsz : w5.heap.size = w.heap.size + 5 := by rw [hw5]; simp
  have b1' : w5.heap[w.heap.size + 1]? = some (.cells #[.int .i64 1] 3 (0, 0)) := by
    rw [hw5]; exact blk_alloc (blk_alloc (blk_alloc (by have := blk_new (w.alloc (.cells #[.int .i64 op, .int .i64 b, .int .i64 rd] 23)) (.cells #[.int .i64 1] 3); simpa using this) _) _) _
  have b2' : w5.heap[w.heap.size + 1 + 1]? = some (.cells #[.int .i64 0, .int .i64 0, .int .i64 0] 23 (0, 0)) := by
    rw [hw5]; exact blk_alloc (blk_alloc (by have := blk_new ((w.alloc (.cells #[.int .i64 op, .int .i64 b, .int .i64 rd] 23)).alloc (.cells #[.int .i64 1] 3)) (.cells #[.int .i64 0, .int .i64 0, .int .i64 0] 23); simpa using this) _) _
  have b3' : w5.heap[w.heap.size + 1 + 1 + 1]? = some (.cells #[.int .i64 op, .int .i64 b, .int .i64 rd] 23 (0, 0)) := by
    rw [hw5]; exact blk_alloc (by have := blk_new (((w.alloc (.cells #[.int .i64 op, .int .i64 b, .int .i64 rd] 23)).alloc (.cells #[.int .i64 1] 3)).alloc (.cells #[.int .i64 0, .int .i64 0, .int .i64 0] 23)) (.cells #[.int .i64 op, .int .i64 b, .int .i64 rd] 23); simpa using this) _
  have b4' : w5.heap[w.heap.size + 1 + 1 + 1 + 1]? = some (.cells #[.int .i64 0] 3 (0, 0)) := by
    rw [hw5]; have := blk_new ((((w.alloc (.cells #[.int .i64 op, .int .i64 b, .int .i64 rd] 23)).alloc (.cells #[.int .i64 1] 3)).alloc (.cells #[.int .i64 0, .int .i64 0, .int .i64 0] 23)).alloc (.cells #[.int .i64 op, .int .i64 b, .int .i64 rd] 23)) (.cells #[.int .i64 0] 3); simpa using this
  have hB5 : Below w.heap.size w w5 := by rw [hw5]; exact below_alloc (below_alloc (below_alloc (below_alloc (below_alloc (Below.refl _ _) _) _) _) _) _
  clear hw5
  have N1 := blk_below b1' HB2.out
  have N2 := blk_below b2' HB2.out
  have N3 := blk_below b3' HB2.out
  have N4 := blk_below b4' HB2.out
  have HB0 : Below w.heap.size w w2 := hB5.trans (HB2.out.mono (by omega))
  have h3 := H3.out
  have h4 := H4.out
  have ha := HB2.out.size
  clear b1' b2' b3' b4'
  refine wpIn_rangeFunc_ownF rfl (by omega) (gf := 51) (lb := #[.pointer (some ⟨gc, 0, none⟩), .pointer (some ⟨gg, 0, none⟩)]) rfl trivial (enters_of Tryd.func51 (by kernel_rfl) rfl)
    (bases_stops 8 (by omega) op b rd b0 b1 a1 gc gg (fun k => k = w.heap.size + 1 + 1 + 1 ∨ k = w.heap.size + 1 + 1 + 1 + 1) xs hch.out w2 H1.out H2.out (fun k hk => by rcases hk with hk | hk <;> subst hk <;> exact ⟨by omega, by omega, by omega⟩))
    KpX.t (fun W l o o' _ h hc _ => KpX.b W l o o' h hc) (Below.refl _ _) (fun _ => rfl)
    (fun pre W => ((pre = [] ∧ W.heap[w.heap.size + 1]? = some (.cells #[.int .i64 1] 3 (0, 0)) ∧ W.heap[w.heap.size + 1 + 1]? = some (.cells #[.int .i64 0, .int .i64 0, .int .i64 0] 23 (0, 0)) ∧ W.heap[w.heap.size + 1 + 1 + 1]? = some (.cells #[.int .i64 op, .int .i64 b, .int .i64 rd] 23 (0, 0))) ∧ W.heap[w.heap.size + 1 + 1 + 1 + 1]? = some (.cells #[.int .i64 0] 3 (0, 0))) ∧ Below w.heap.size w W)
    (fun c pre W => ((c = .exit 0 ∧ ∃ x, pre = [x] ∧ W.heap[w.heap.size + 1]? = some (.cells #[.int .i64 1] 3 (0, 0)) ∧ W.heap[w.heap.size + 1 + 1]? = some (.cells #[.int .i64 0, .int .i64 0, .int .i64 0] 23 (0, 0)) ∧ W.heap[w.heap.size + 1 + 1 + 1]? = some (.cells #[.int .i64 op, .int .i64 x, .int .i64 rd] 23 (0, 0))) ∧ W.heap[w.heap.size + 1 + 1 + 1 + 1]? = some (.cells #[.int .i64 1] 3 (0, 0))) ∧ Below w.heap.size w W)
    (OwnFrom.and (Own.from (fun s A B row hs hg hr => ⟨⟨hs.1.1, own_blk1 hs.1.2.1 hg hr, own_blk1 hs.1.2.2.1 hg hr, own_blk1 hs.1.2.2.2 hg hr⟩, own_blk1 hs.2 hg hr⟩) _) (ownFrom_below (Nat.le_refl _) HB0.size))
    (fun c => OwnFrom.and (Own.from (fun s A B row hs hg hr => by
      obtain ⟨⟨e1, x, e2, e3, e4, e5⟩, e6⟩ := hs
      exact ⟨⟨e1, x, e2, own_blk1 e3 hg hr, own_blk1 e4 hg hr, own_blk1 e5 hg hr⟩, own_blk1 e6 hg hr⟩) _) (ownFrom_below (Nat.le_refl _) HB0.size))
    ⟨⟨⟨rfl, N1, N2, N3⟩, N4⟩, HB0⟩
    (fun x => { tmps := #[.agg #[.int .i64 op, .int .i64 b, .int .i64 rd], .int .i64 1, .bool true, .pointer (some ⟨w.heap.size, 0, none⟩), .pointer (some ⟨w.heap.size + 1, 0, none⟩), undef, .pointer (some ⟨w.heap.size + 1 + 1, 0, none⟩), .int .i64 0, .pointer (some ⟨w.heap.size + 1 + 1 + 1, 0, none⟩), .pointer (some ⟨w.heap.size + 1 + 1 + 1 + 1, 0, none⟩), .int .i64 x, .bool true, .bool false, undef, .agg #[.int .i64 op, .int .i64 b, .int .i64 rd], .int .i64 1, .bool true, .agg #[.int .i64 op, .int .i64 b, .int .i64 rd], .func (.func 51) #[] #[.pointer (some ⟨gc, 0, none⟩), .pointer (some ⟨gg, 0, none⟩)], .int .i64 x, undef, undef, undef, undef, undef, undef, undef, undef, undef, undef, undef, undef, undef, undef, undef, undef, undef, undef, undef, undef, undef], defers := [] }) ?assign ?body ?done ?stop
  case assign =>
    intro l x W K hK
    gi_wp2
    go_simp
    exact hK
  case body =>
    rintro l pre x W ⟨⟨⟨rfl, c1, c2, c3⟩, c4⟩, hB⟩ hlen
    have HBp := Aside0.mk hB
    have C1 := Aside0.mk c1
    have C2 := Aside0.mk c2
    have C3 := Aside0.mk c3
    have C4 := Aside0.mk c4
    have k1 := (blk_cell' c1 0).trans rfl
    have k30 := (blk_cell' c3 0).trans rfl
    have k31 := (blk_cell' c3 1).trans rfl
    have k32 := (blk_cell' c3 2).trans rfl
    have k4 := (blk_cell' c4 0).trans rfl
    have f31 := blk_frozen c3 1
    have f4 := blk_frozen c4 0
    clear c1 c2 c3 c4 hB hlen
    gi_wp2
    exact ⟨(KeepsOthers.setCell _ _ _).trans (KeepsOthers.setCell _ _ _), ⟨⟨rfl, x, rfl, blk_far (blk_far C1.out (by show w.heap.size + 1 ≠ w.heap.size + 1 + 1 + 1; omega) _) (by show w.heap.size + 1 ≠ w.heap.size + 1 + 1 + 1 + 1; omega) _, blk_far (blk_far C2.out (by show w.heap.size + 1 + 1 ≠ w.heap.size + 1 + 1 + 1; omega) _) (by show w.heap.size + 1 + 1 ≠ w.heap.size + 1 + 1 + 1 + 1; omega) _, blk_far (blk_put C3.out 1 _ rfl) (by show w.heap.size + 1 + 1 + 1 ≠ w.heap.size + 1 + 1 + 1 + 1; omega) _⟩, blk_put (blk_far C4.out (by show w.heap.size + 1 + 1 + 1 + 1 ≠ w.heap.size + 1 + 1 + 1; omega) _) 0 _ rfl⟩, below_set (below_set HBp.out (by omega)) (by omega)⟩
  case done =>
    rintro D ys W hD hys ⟨⟨⟨hnil, c1, c2, c3⟩, c4⟩, hB⟩ hK
    have HBp := Aside0.mk hB
    have C2 := Aside0.mk c2
    have hE := Aside0.mk (hys.symm.trans hnil)
    have k1 := (blk_cell' c1 0).trans rfl
    have k4 := (blk_cell' c4 0).trans rfl
    have k20 := (blk_cell' c2 0).trans rfl
    have k21 := (blk_cell' c2 1).trans rfl
    have k22 := (blk_cell' c2 2).trans rfl
    have f20 := blk_frozen c2 0
    have f21 := blk_frozen c2 1
    have f22 := blk_frozen c2 2
    have HKD := Aside0.mk hK
    clear c1 c2 c3 c4 hB hys hnil hK
    gi_wp2
    have hB2 : Below w.heap.size w (((W.setCell ⟨w.heap.size + 1 + 1, 0, none⟩ (.int .i64 (0))).setCell ⟨w.heap.size + 1 + 1, 1, none⟩ (.int .i64 (0))).setCell ⟨w.heap.size + 1 + 1, 2, none⟩ (.int .i64 (0))) := below_set (below_set (below_set HBp.out (by omega)) (by omega)) (by omega)
    have hR2 := blk_put (blk_put (blk_put C2.out 0 (.int .i64 0) rfl) 1 (.int .i64 0) rfl) 2 (.int .i64 0) rfl
    have hK2 := (show KeepsOthers W (((W.setCell ⟨w.heap.size + 1 + 1, 0, none⟩ (.int .i64 (0))).setCell ⟨w.heap.size + 1 + 1, 1, none⟩ (.int .i64 (0))).setCell ⟨w.heap.size + 1 + 1, 2, none⟩ (.int .i64 (0))) from KeepsOthers.refl W |>.trans (KeepsOthers.setCell _ _ _) |>.trans (KeepsOthers.setCell _ _ _) |>.trans (KeepsOthers.setCell _ _ _)).same D _ HKD.out rfl
    refine ⟨by simp, .inl ⟨_, _, rfl, run_takeDeferred hK2, ?_⟩⟩
    have hR3 := own_blk1 hR2 (grownBy_putObj' _ D (.deferred none)) (fun r e => by cases e; exact ⟨_, hK2, rfl⟩)
    have q0 := (blk_cell' hR3 0).trans rfl
    have q1 := (blk_cell' hR3 1).trans rfl
    have q2 := (blk_cell' hR3 2).trans rfl
    refine ⟨.tuple #[.agg #[.int .i64 (0), .int .i64 (0), .int .i64 (0)], .int .i64 8], ?_, ?_, hB2.trans (belowK_b (w := w) (Nat.le_refl _) _ D _ _ (by have := HB0.size; omega) hK2 rfl rfl)⟩
    · simp [results, Tryd.results39, go_sem, q0, q1, q2]
    · rcases hres.out with ⟨_, rfl, rfl, rfl, rfl⟩ | ⟨x, ys, h, _⟩ | ⟨x, ys, h, _⟩
      · rfl
      · rw [hE.out] at h; cases h
      · rw [hE.out] at h; cases h
  case stop =>
    rintro D c pre W hD hpre ⟨⟨⟨rfl, x, rfl, c1, c2, c3⟩, c4⟩, hB⟩ hK
    have HBp := Aside0.mk hB
    have C2 := Aside0.mk c2
    have C3 := Aside0.mk c3
    have HP := Aside0.mk hpre
    have k1 := (blk_cell' c1 0).trans rfl
    have k4 := (blk_cell' c4 0).trans rfl
    have k20 := (blk_cell' c2 0).trans rfl
    have k21 := (blk_cell' c2 1).trans rfl
    have k22 := (blk_cell' c2 2).trans rfl
    have f20 := blk_frozen c2 0
    have f21 := blk_frozen c2 1
    have f22 := blk_frozen c2 2
    have k30 := (blk_cell' c3 0).trans rfl
    have k31 := (blk_cell' c3 1).trans rfl
    have k32 := (blk_cell' c3 2).trans rfl
    have f32 := blk_frozen c3 2
    have HKD := Aside0.mk hK
    clear c1 c2 c3 c4 hB hpre hK
    by_cases hr : 1000000 < rd + 1
    · gi_wp2
      obtain ⟨zs, hzs⟩ := HP.out
      have hxs : xs = x :: zs := hzs.symm
      have hB2 : Below w.heap.size w ((((W.setCell ⟨w.heap.size + 1 + 1 + 1, 2, none⟩ (.int .i64 (rd + 1))).setCell ⟨w.heap.size + 1 + 1, 0, none⟩ (.int .i64 (0))).setCell ⟨w.heap.size + 1 + 1, 1, none⟩ (.int .i64 (0))).setCell ⟨w.heap.size + 1 + 1, 2, none⟩ (.int .i64 (0))) := below_set (below_set (below_set (below_set HBp.out (by omega)) (by omega)) (by omega)) (by omega)
      have hR2 := blk_put (blk_put (blk_put (blk_far (p := ⟨w.heap.size + 1 + 1 + 1, 2, none⟩) C2.out (by show w.heap.size + 1 + 1 ≠ w.heap.size + 1 + 1 + 1; omega) (.int .i64 (rd + 1))) 0 (.int .i64 0) rfl) 1 (.int .i64 0) rfl) 2 (.int .i64 0) rfl
      have hK2 := (show KeepsOthers W ((((W.setCell ⟨w.heap.size + 1 + 1 + 1, 2, none⟩ (.int .i64 (rd + 1))).setCell ⟨w.heap.size + 1 + 1, 0, none⟩ (.int .i64 (0))).setCell ⟨w.heap.size + 1 + 1, 1, none⟩ (.int .i64 (0))).setCell ⟨w.heap.size + 1 + 1, 2, none⟩ (.int .i64 (0))) from KeepsOthers.refl W |>.trans (KeepsOthers.setCell _ _ _) |>.trans (KeepsOthers.setCell _ _ _) |>.trans (KeepsOthers.setCell _ _ _) |>.trans (KeepsOthers.setCell _ _ _)).same D _ HKD.out rfl
      refine ⟨by simp, .inl ⟨_, _, rfl, run_takeDeferred hK2, ?_⟩⟩
      have hR3 := own_blk1 hR2 (grownBy_putObj' _ D (.deferred none)) (fun r e => by cases e; exact ⟨_, hK2, rfl⟩)
      have q0 := (blk_cell' hR3 0).trans rfl
      have q1 := (blk_cell' hR3 1).trans rfl
      have q2 := (blk_cell' hR3 2).trans rfl
      refine ⟨.tuple #[.agg #[.int .i64 (0), .int .i64 (0), .int .i64 (0)], .int .i64 7], ?_, ?_, hB2.trans (belowK_b (w := w) (Nat.le_refl _) _ D _ _ (by have := HB0.size; omega) hK2 rfl rfl)⟩
      · simp [results, Tryd.results39, go_sem, q0, q1, q2]
      · rcases hres.out with ⟨h, _⟩ | ⟨x', ys, h, h1, rfl, rfl, rfl, rfl⟩ | ⟨x', ys, h, h1, _⟩
        · rw [hxs] at h; cases h
        · rfl
        · omega
    · have hr' : decide (1000000 < rd + 1) = false := decide_eq_false hr
      gi_wp2
      obtain ⟨zs, hzs⟩ := HP.out
      have hxs : xs = x :: zs := hzs.symm
      have hB2 : Below w.heap.size w ((((W.setCell ⟨w.heap.size + 1 + 1 + 1, 2, none⟩ (.int .i64 (rd + 1))).setCell ⟨w.heap.size + 1 + 1, 0, none⟩ (.int .i64 (op))).setCell ⟨w.heap.size + 1 + 1, 1, none⟩ (.int .i64 (x))).setCell ⟨w.heap.size + 1 + 1, 2, none⟩ (.int .i64 (rd + 1))) := below_set (below_set (below_set (below_set HBp.out (by omega)) (by omega)) (by omega)) (by omega)
      have hR2 := (blk_put (blk_put (blk_put (blk_far (p := ⟨w.heap.size + 1 + 1 + 1, 2, none⟩) C2.out (by show w.heap.size + 1 + 1 ≠ w.heap.size + 1 + 1 + 1; omega) (.int .i64 (rd + 1))) 0 (.int .i64 op) rfl) 1 (.int .i64 x) rfl) 2 (.int .i64 (rd + 1)) rfl)
      have hK2 := (show KeepsOthers W ((((W.setCell ⟨w.heap.size + 1 + 1 + 1, 2, none⟩ (.int .i64 (rd + 1))).setCell ⟨w.heap.size + 1 + 1, 0, none⟩ (.int .i64 (op))).setCell ⟨w.heap.size + 1 + 1, 1, none⟩ (.int .i64 (x))).setCell ⟨w.heap.size + 1 + 1, 2, none⟩ (.int .i64 (rd + 1))) from KeepsOthers.refl W |>.trans (KeepsOthers.setCell _ _ _) |>.trans (KeepsOthers.setCell _ _ _) |>.trans (KeepsOthers.setCell _ _ _) |>.trans (KeepsOthers.setCell _ _ _)).same D _ HKD.out rfl
      refine ⟨by simp, .inl ⟨_, _, rfl, run_takeDeferred hK2, ?_⟩⟩
      have hR3 := own_blk1 hR2 (grownBy_putObj' _ D (.deferred none)) (fun r e => by cases e; exact ⟨_, hK2, rfl⟩)
      have q0 := (blk_cell' hR3 0).trans rfl
      have q1 := (blk_cell' hR3 1).trans rfl
      have q2 := (blk_cell' hR3 2).trans rfl
      refine ⟨.tuple #[.agg #[.int .i64 (op), .int .i64 (x), .int .i64 (rd + 1)], .int .i64 0], ?_, ?_, hB2.trans (belowK_b (w := w) (Nat.le_refl _) _ D _ _ (by have := HB0.size; omega) hK2 rfl rfl)⟩
      · simp [results, Tryd.results39, go_sem, q0, q1, q2]
      · rcases hres.out with ⟨h, _⟩ | ⟨x', ys, h, h1, _⟩ | ⟨x', ys, h, h1, rfl, rfl, rfl, rfl⟩
        · rw [hxs] at h; cases h
        · omega
        · rw [hxs] at h; cases h; rfl

theorem descend_after.calls (a0 a1 a2 a3 : Int) (a4 : Bool) (r1 r2 r3 r4 : Int) (w : World) (h : descend_after.f a0 a1 a2 a3 a4 = some (r1, r2, r3, r4)) :
    Calls Tryd.prog 39 #[.agg #[.int .i64 a0, .int .i64 a1, .int .i64 a2], .int .i64 a3, .bool a4] w fun e w' => e = .returned (.tuple #[.agg #[.int .i64 r1, .int .i64 r2, .int .i64 r3], .int .i64 r4]) ∧ Below w.heap.size w w' := by
  unfold descend_after.f at h
  cases a4 with
  | false =>
    rw [if_neg (by decide)] at h
    cases h
    exact after_no a0 a1 a2 a3 w
  | true =>
    rw [if_pos rfl] at h
    by_cases c : a3 = 1 ∧ 1 ≤ a0 ∧ a0 ≤ 1000000000 ∧ 0 ≤ a1 ∧ a1 ≤ a0 ∧ 0 ≤ a2 ∧ a2 ≤ 1000000
    · rw [if_pos c] at h
      obtain ⟨rfl, c0, c1, c2, c3, c4, c5⟩ := c
      have hch := chain_bases a0 c1 (a1.toNat + 1) a1 c2 c3 (by omega)
      by_cases hp : 0 < a1
      · rw [if_pos hp] at h
        have hb : basesL a0 (a1.toNat + 1) a1 = (a1 - fallV a0 a1) :: basesL a0 a1.toNat (a1 - fallV a0 a1) := by
          show (if 0 < a1 then _ else _) = _
          rw [if_pos hp]
        by_cases hm : a2 = 1000000
        · rw [if_pos hm] at h
          cases h
          exact after_yes a0 a1 a2 w c0 c1 c2 c3 c4 c5 _ ⟨hch⟩ _ _ _ _ ⟨.inr (.inl ⟨_, _, hb, hm, rfl, rfl, rfl, rfl⟩)⟩
        · rw [if_neg hm] at h
          cases h
          exact after_yes a0 a1 a2 w c0 c1 c2 c3 c4 c5 _ ⟨hch⟩ _ _ _ _ ⟨.inr (.inr ⟨_, _, hb, by omega, rfl, rfl, rfl, rfl⟩)⟩
      · rw [if_neg hp] at h
        cases h
        have hb : basesL a0 (a1.toNat + 1) a1 = [] := by
          show (if 0 < a1 then _ else _) = _
          rw [if_neg hp]
        exact after_yes a0 a1 a2 w c0 c1 c2 c3 c4 c5 _ ⟨hch⟩ _ _ _ _ ⟨.inl ⟨hb, rfl, rfl, rfl, rfl⟩⟩
    · rw [if_neg c] at h
      cases h

end Go.Proofs.YtpchmhijcockkaaDoor.Print
