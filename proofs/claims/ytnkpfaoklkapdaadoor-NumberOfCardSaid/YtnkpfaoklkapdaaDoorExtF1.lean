import Derived.Test.YtnkpfaoklkapdaaDoorExtF0
import Derived.RangeFuncBox
import Derived.Test.YtnkpfaoklkapdaaDoorShelf
namespace Go.Proofs.YtnkpfaoklkapdaaDoor.Print
open Go.RowKit Go.Shelf Go.Proofs.YtnkpfaoklkapdaaDoorW.PrintWords Go.Proofs.YtnkpfaoklkapdaaDoorW.PrintLast Go.Proofs.YtnkpfaoklkapdaaDoorW.PrintMore
open Go.Proofs.YtnkpfaoklkapdaaDoor.NumP
set_option linter.unusedVariables false
set_option linter.unusedSimpArgs false
attribute [local go_sem] Oper.semAt_some
theorem Backward_calls (A0 : Option Addr) (c0 n : Nat) (w : World) :
    Calls Tryd.prog 84 #[.slice A0 n c0] w fun e w' => ∃ gx : Nat, e = .returned (.func (.func 92) #[] #[.pointer (some ⟨gx, 0, none⟩)]) ∧ w.heap.size ≤ gx ∧ w'.heap[gx]? = some (.cells #[.slice A0 n c0] 56 (0, 0)) ∧ Below w.heap.size w w' := by
  go_enter Tryd.func84, Tryd.ntmps84
  go_wp2
  go_ret
  exact ⟨w.heap.size, by simp, Nat.le_refl _, blk_new _ _, below_alloc (Below.refl _ _) _⟩

def wb (x : Int) : List Int := [x / 16777216 % 256, x / 65536 % 256, x / 256 % 256, x % 256]
def bytesOf : List (Int × Int) → List Int
  | [] => []
  | p :: ps => wb p.2 ++ bytesOf ps
theorem bytesOf_snoc (ps : List (Int × Int)) (p : Int × Int) : bytesOf (ps ++ [p]) = bytesOf ps ++ wb p.2 := by
  induction ps with
  | nil => simp [bytesOf]
  | cons q ps ih => simp [bytesOf, ih]

theorem cell_kpx {own : Nat → Prop} {A B : World} (h : KpX own A B) {a : Addr} {v : Value} (hv : A.cell? a = some v) (ho : ¬ own a.block) : B.cell? a = some v := by
  unfold World.cell? at hv ⊢
  split at hv
  · rename_i cs t z he
    rw [h.1 _ _ _ _ ho he]
    exact hv
  all_goals cases hv
theorem C_kpx {own : Nat → Prop} {w w2 W : World} {A0 : Option Addr} {l : List Int} (hC : Kd.C (Kd.int .u32) w A0 l.length l) (ho : ∀ k, own k → w.heap.size ≤ k) (hb : Below w.heap.size w w2) (hk : KpX own w2 W) : Kd.C (Kd.int .u32) W A0 l.length l := by
  refine ⟨hC.1, hC.2.1, fun hp => ?_⟩
  obtain ⟨ad, e, hc⟩ := hC.2.2 hp
  refine ⟨ad, e, fun j p hj => ?_⟩
  obtain ⟨c, h1, h2, h3⟩ := hc j p hj
  refine ⟨c, h1, h2, fun i u hu => ?_⟩
  have h4 := h3 i u hu
  have hlt := World.block_lt_of_cell? w _ h4
  exact cell_kpx hk ((hb.cell hlt).trans h4) (fun ho' => by have := ho _ ho'; omega)
theorem below_of_grown {w W : World} (h : w.grownBy W none) : Below w.heap.size w W := ⟨h.os, h.tape, h.output, h.size, fun k hk => h.block k hk (by simp)⟩

theorem wb_ok (x : Int) : ∀ y ∈ wb x, 0 ≤ y ∧ y < 256 := by
  intro y hy
  simp only [wb, List.mem_cons, List.not_mem_nil, or_false] at hy
  rcases hy with rfl | rfl | rfl | rfl <;> omega
theorem bytesOf_ok : ∀ ps : List (Int × Int), ∀ y ∈ bytesOf ps, 0 ≤ y ∧ y < 256
  | [], y, hy => by simp [bytesOf] at hy
  | p :: ps, y, hy => by
    rw [bytesOf, List.mem_append] at hy
    rcases hy with h | h
    · exact wb_ok _ y h
    · exact bytesOf_ok ps y h
theorem bytesOf_len : ∀ ps : List (Int × Int), (bytesOf ps).length = 4 * ps.length
  | [] => rfl
  | p :: ps => by rw [bytesOf, List.length_append, bytesOf_len ps, List.length_cons]; simp [wb]; omega
theorem row_of_own {W : World} {base go n c : Nat} {xs : List Int} (h : W.ownsRow base 5 1 (.slice (some ⟨go, 0, none⟩) n c) n (encs (Value.int .u8) xs)) : Lib.BytesIn W (some ⟨go, 0, none⟩) n xs := by
  refine Lib.BytesIn.of_cells (fun i hi => ?_)
  obtain ⟨ad, e, hc⟩ := ReadsOf.at_ (own_reads_of' (d := (0 : Int)) h) (i : Int) (by omega) (by omega)
  cases e
  exact hc
theorem q_of_left {W : World} {base go n j : Nat} {xs : List Int} (h : W.ownsRow base 5 1 (.slice (some ⟨go, 0, none⟩) n n) n (encs (Value.int .u8) xs)) (hj : j ≤ n) : Kd.Q (Kd.int .u8) 5 W base (fun _ => True) (Lib.leftV (some ⟨go, 0, none⟩) n n j) (xs.drop j) := by
  have hx : xs.length = n := by have := h.1; simpa [encs] using this
  unfold Lib.leftV
  by_cases e : j = n
  · rw [if_pos e, List.drop_of_length_le (by omega)]
    exact Kd.Q_nil _ _ _ _ _
  · rw [if_neg e]
    unfold Lib.fromV
    rw [if_neg (by omega)]
    obtain ⟨_, hh | ⟨g, cap, cur, ev, hb, hcell, _, hcm, hcs, hct⟩⟩ := h
    · cases hh.1
    · cases ev
      rw [Nat.mul_one] at hcs hct
      refine ⟨fun _ _ => trivial, encs (Value.int .u8) (xs.drop j), ⟨by show (encs _ _).length = _ * 1; simp [encs], .inr ⟨go, j, n - j, cur, ?_, hb, hcell, by rw [List.length_drop, hx]; exact Nat.le_refl _, by omega, by show cur.size = (j + (n - j)) * 1; omega, ?_⟩⟩, ?_⟩
      · show Value.slice (some (Addr.add ⟨go, 0, none⟩ j)) (n - j) (n - j) = Value.slice (some ⟨go, j * 1, none⟩) (xs.drop j).length (n - j)
        rw [Addr.add_mid, List.length_drop, hx, Nat.mul_one, Nat.zero_add]
      · show (cur.toList.drop (j * 1)).take ((xs.drop j).length * 1) = _
        rw [Nat.mul_one, Nat.mul_one, List.length_drop, hx]
        have e2 : cur.toList = encs (Value.int .u8) xs := by rw [← hct, List.take_of_length_le (by rw [Array.length_toList, hcs]; exact Nat.le_refl _)]
        rw [e2, ← List.drop_take, List.take_of_length_le (by simp [encs, hx])]
        simp [encs]
      · exact Kd.reps_scalar _

set_option maxRecDepth 100000 in
set_option maxHeartbeats 4000000 in
theorem digits_walk (A0 : Option Addr) (c0 : Nat) (l : List Int) (w : World) (hr : Aside0 (Kd.C (Kd.int .u32) w A0 l.length l)) (hc0 : l.length ≤ c0) (hl : l.length ≤ 1000) (hd : Aside0 (Dig B32 l)) :
    Calls Tryd.prog 68 #[.slice A0 l.length c0] w fun e w' => ∃ v : Value, e = .returned v ∧ Kd.Q (Kd.int .u8) 5 w' w.heap.size (fun _ => True) v ((bytesOf (bwl l l.length)).drop (4 * l.length - (Lib.trimLeftS (Lib.bytesOf (bytesOf (bwl l l.length))) [0]).length)) ∧ Below w.heap.size w w' := by
  refine (callsIn_wide (n := 9)).1 ?_
  refine callsIn_of_wp_marks Tryd.func68 rfl trivial ?_ rfl
  simp only [Tryd.ntmps68, List.size_toArray, List.length_cons, List.length_nil, Nat.reduceAdd, Nat.reduceSub, Array.replicate_succ, Array.replicate_zero, List.push_toArray, List.append_toArray, List.nil_append, List.cons_append]
  obtain ⟨i0, hi0, hi1⟩ := Option.map_eq_some_iff.1 info5
  simp only [Prod.mk.injEq] at hi1
  gi_wp2_with (first
    | (refine wpListIn_make_own _ rfl _ _ 22 rfl w.heap.size 5 i0 (.int .u8 0) 1 Tryd.underlying22 hi0 hi1.1 hi1.2.1 .i64 .i64 (4 * (l.length : Int)) (4 * l.length) rfl rfl (by omega) (by rw [hi1.2.2]; omega) (by simp [maxLen]; omega) (Nat.le_refl _) ?_; intro w1 ho hg; have HO := Aside0.mk ho; have HG := Aside0.mk hg; clear ho hg)
    | (refine ⟨trivial, ?_⟩; refine (callsIn_wide.2 (Backward_calls _ _ _ _)).mono ?_; rintro e w2 ⟨gx, rfl, h1, h2, hb⟩; have H1 := Aside0.mk h1; have H2 := Aside0.mk h2; have HB2 := Aside0.mk hb; clear h1 h2 hb))
  have B1 := below_of_grown HG.out
  have B2 : Below w.heap.size w w2 := (below_alloc B1 _).trans (HB2.out.mono (by have := B1.size; simp; omega))
  have b2 := Aside0.mk B2
  have NB := blk_below (World.alloc_heap_new w1 (.cells #[.slice (some ⟨w.heap.size, 0, none⟩) 0 (4 * l.length)] 22)) HB2.out
  have hsz : (w1.alloc (.cells #[.slice (some ⟨w.heap.size, 0, none⟩) 0 (4 * l.length)] 22)).heap.size = w1.heap.size + 1 := by simp
  have h1 := H1.out
  rw [hsz] at h1
  have hs1 := B1.size
  have hgo : w.heap.size < w1.heap.size := by
    obtain ⟨_, h | ⟨g, cap, cur, e, _, hh, _⟩⟩ := HO.out
    · cases h.1
    · cases e; exact blk_lt hh
  refine wpIn_rangeFunc_ownF rfl (by omega) (gf := 92) (lb := #[.pointer (some ⟨gx, 0, none⟩)]) rfl trivial (enters_of Tryd.func92 (by kernel_rfl) rfl)
    (backward_stops 8 (by omega) l A0 c0 gx (fun k => k = w.heap.size ∨ k = w1.heap.size) (by omega) w2 H2.out (fun W hk => C_kpx hr.out (fun k hk => by omega) b2.out hk) (by omega))
    KpX.t (fun W l o o' _ h hc _ => KpX.b W l o o' h hc) (Below.refl _ _) (fun _ => rfl)
    (fun pre W => (∃ v, Boxed W w1.heap.size 22 v ∧ W.ownsRow w.heap.size 5 1 v (4 * pre.length) (encs (Value.int .u8) (bytesOf pre)) ∧ v = .slice (some ⟨w.heap.size, 0, none⟩) (4 * pre.length) (4 * l.length)) ∧ Below w.heap.size w W)
    (fun _ _ _ => False)
    (OwnFrom.and (Own.from (holdsRow_own w.heap.size w1.heap.size 22 5 1 (fun pre : List (Int × Int) => 4 * pre.length) (fun pre => encs (Value.int .u8) (bytesOf pre)) (fun pre v => v = .slice (some ⟨w.heap.size, 0, none⟩) (4 * pre.length) (4 * l.length))) _) (ownFrom_below (Nat.le_refl _) B2.size))
    (fun _ _ _ _ _ hs _ _ => hs)
    ⟨⟨_, NB, ?init, rfl⟩, b2.out⟩
    (fun x => { tmps := #[.slice A0 l.length c0, undef, .slice none 0 0, .pointer (some ⟨w1.heap.size, 0, none⟩), undef, .int .u32 x.2, .slice A0 l.length c0, .int .i64 l.length, .int .i64 (4 * l.length), .slice (some ⟨w.heap.size, 0, none⟩) 0 (4 * l.length), .slice A0 l.length c0,
      .func (.func 92) #[] #[.pointer (some ⟨gx, 0, none⟩)], .int .i64 x.1, .int .u32 x.2, undef, undef, undef, undef, undef, undef, undef, undef, undef, undef, undef, undef, undef, undef, undef, undef], defers := [] }) ?assign ?body ?done ?stop
  case init =>
    have h := pw_own_below HO.out ((below_alloc (Below.refl w1.heap.size w1) (.cells #[.slice (some ⟨w.heap.size, 0, none⟩) 0 (4 * l.length)] 22)).trans (HB2.out.mono (by simp)))
    exact h
  case assign =>
    intro ll x W K hK
    gi_wp2
    go_simp
    exact hK
  case body =>
    rintro ll pre x W ⟨⟨v, hbx, hown, rfl⟩, hB⟩ hlen
    have HBX := Aside0.mk hbx
    have HOW := Aside0.mk hown
    have HBp := Aside0.mk hB
    have q0 : W.cell? ⟨w1.heap.size, 0, none⟩ = some (.slice (some ⟨w.heap.size, 0, none⟩) (4 * pre.length) (4 * l.length)) := (blk_cell hbx 0).trans rfl
    have qf := blk_frozen hbx 0
    clear hbx hown hB
    gi_wp2_with (gi_at_builtin; refine wpListIn_append_fits _ rfl _ _ 22 rfl w.heap.size 5 i0 1 Tryd.underlying22 hi0 hi1.2.1 w.heap.size (4 * pre.length) (4 * l.length) _ rfl (HOW.out.alloc _) ⟨W.heap.size, 0, none⟩ 4 4 (encs (Value.int .u8) (wb x.2)) rfl rfl ?c1 ?c2 ?c3 ?_)
    case c1 => exact World.news_of_block (blk_new W (.cells #[.int .u8 (x.2 / 16777216 % 256), .int .u8 (x.2 / 65536 % 256), .int .u8 (x.2 / 256 % 256), .int .u8 (x.2 % 256)] 5))
    case c2 =>
      intro u hu
      simp only [encs, wb, List.map_cons, List.map_nil, List.mem_cons, List.not_mem_nil, or_false] at hu
      rcases hu with rfl | rfl | rfl | rfl <;> rfl
    case c3 => omega
    intro w5 ho hg
    have hne : some w1.heap.size ≠ some w.heap.size := fun e => by injection e with e; omega
    have ap := Boxed.appended (v' := .slice (some ⟨w.heap.size, 0, none⟩) (4 * pre.length + 4) (4 * l.length)) HBX.out (by decide) HOW.out HBp.out.size (by omega) ho hg
    have AP := Aside0.mk ap
    have q1 : w5.cell? ⟨w1.heap.size, 0, none⟩ = some (.slice (some ⟨w.heap.size, 0, none⟩) (4 * pre.length) (4 * l.length)) := (blk_cell AP.out.1 0).trans rfl
    have q2 := blk_frozen AP.out.1 0
    have HKX := Aside0.mk (show KpX (fun k => k = w.heap.size ∨ k = w1.heap.size) W (w5.setCell ⟨w1.heap.size, 0, none⟩ (.slice (some ⟨w.heap.size, 0, none⟩) (4 * pre.length + 4) (4 * l.length))) from
      ⟨fun k cs t z hk hh => (Below.heap_setCell w5 ⟨w1.heap.size, 0, none⟩ _ k (fun e => hk (.inr e))).trans (((hg.block k (by have := (Array.getElem?_eq_some_iff.1 hh).1; simp; omega) (fun e => by injection e with e; exact hk (.inl e))).trans (Below.heap_alloc W _ k (Array.getElem?_eq_some_iff.1 hh).1)).trans hh), by have := hg.size; simp [World.setCell] at this ⊢; omega⟩)
    clear ap ho hg q0 qf
    gi_wp2
    exact ⟨AP.out.2.2.2.1, HKX.out, ⟨⟨_, AP.out.2.1, by have h := AP.out.2.2.1; rw [← encs_append, ← bytesOf_snoc] at h; simpa [Nat.mul_add] using h, by simp [Nat.mul_add]⟩, HBp.out.trans AP.out.2.2.2.2⟩⟩
  case done =>
    rintro D ys W hD rfl ⟨⟨v, hbx, hown, rfl⟩, hB⟩ hK
    have HBX := Aside0.mk hbx
    have HOW := Aside0.mk hown
    have HBp := Aside0.mk hB
    have q0 := (blk_cell hbx 0).trans rfl
    have qf := blk_frozen hbx 0
    clear hbx hown hB
    have hbl := bwl_length l l.length
    rw [hbl] at HOW q0
    have HR2 := Aside0.mk (row_of_own HOW.out)
    gi_wp2
    refine ⟨trivial, ?_⟩
    refine (callsIn_wide.2 (Any.bytes_TrimLeft_laid Tryd.laysv8 (by kernel_rfl) (some ⟨w.heap.size, 0, none⟩) (4 * l.length) (4 * l.length) (bytesOf (bwl l l.length)) ⟨#[0]⟩ W (by rw [bytesOf_len, hbl]) (Nat.le_refl _) (by omega) HR2.out (bytesOf_ok _) (by decide) (ascii_of_all (by decide)))).mono ?_
    rintro e w7 ⟨rfl, hb7⟩
    have HB7 := Aside0.mk hb7
    have hK7 := (hb7.block D (Array.getElem?_eq_some_iff.1 hK).1).trans hK
    clear hb7
    gi_wp2
    refine ⟨by simp, .inl ⟨_, _, rfl, run_takeDeferred hK7, ?_⟩⟩
    refine ⟨Lib.leftV (some ⟨w.heap.size, 0, none⟩) (4 * l.length) (4 * l.length) (4 * l.length - (Lib.trimLeftS (Lib.bytesOf (bytesOf (bwl l l.length))) [0]).length), ?_, _, rfl, q_of_left (ownsRow_putObj (pw_own_below HOW.out HB7.out) (.deferred none) hK7 rfl) (Nat.sub_le _ _), (HBp.out.trans (HB7.out.mono HBp.out.size)).trans (belowK_b (w := w) (Nat.le_refl _) w7 D _ _ (by have := B2.size; omega) hK7 rfl rfl)⟩
    simp [results, Tryd.results68, go_sem]
  case stop =>
    rintro D c pre W _ _ h _
    exact h.elim
end Go.Proofs.YtnkpfaoklkapdaaDoor.Print
