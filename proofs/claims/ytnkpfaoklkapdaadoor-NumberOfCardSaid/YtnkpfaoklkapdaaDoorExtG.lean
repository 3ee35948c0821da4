/- ref.Make's row, told by its value. -/
import Derived.Test.YtnkpfaoklkapdaaDoorExtE
namespace Go.Proofs.YtnkpfaoklkapdaaDoor.Print
open Go.RowKit Go.Proofs.YtnkpfaoklkapdaaDoorW.PrintWords Go.Proofs.YtnkpfaoklkapdaaDoorW.PrintLast Go.Proofs.YtnkpfaoklkapdaaDoorW.PrintMore
open Go.Proofs.YtnkpfaoklkapdaaDoor.NumP
set_option linter.unusedVariables false
set_option linter.unusedSimpArgs false

theorem trimL_take {l : List Int} {m : Nat} (h : m < l.length) (h0 : rd l m = 0) : trimL (l.take (m + 1)) = trimL (l.take m) := by
  rw [take_rd h, h0, trimL_snoc]
theorem trimL_stop {l : List Int} {m : Nat} (h : m < l.length) (h0 : rd l m ≠ 0) : trimL (l.take (m + 1)) = l.take (m + 1) := by
  rw [take_rd h]
  exact trimL_top (fun l' d e => by
    obtain ⟨_, h2⟩ := List.append_inj' e rfl
    cases h2
    exact h0)
set_option maxHeartbeats 4000000 in
set_option maxRecDepth 100000 in
theorem refTrim_walk (A0 : Option Addr) (c0 : Nat) (l : List Int) (w : World) (hr : Aside0 (Kd.C (Kd.int .u8) w A0 l.length l)) (hc0 : l.length ≤ c0) (hn1 : l.length ≤ 1000000) :
    Calls Tryd.prog 60 #[.slice A0 l.length c0] w fun e w' => ∃ m : Nat, e = .returned (.slice A0 m c0) ∧ (m ≤ l.length ∧ trimL l = l.take m) ∧ Below w.heap.size w w' := by
  go_enter Tryd.func60, Tryd.ntmps60
  go_wp2
  go_loopw [0] (fun v wr => ∃ m : Nat, v = .slice A0 m c0 ∧ m ≤ l.length ∧ Aside0 (trimL l = trimL (l.take m)) ∧ Aside0 (Below w.heap.size w wr)) (fun v _ => match v with | .slice _ n _ => n | _ => 0)
  case atStart => exact ⟨l.length, rfl, Nat.le_refl _, ⟨by rw [List.take_length]⟩, ⟨Below.refl _ _⟩⟩
  case round =>
    obtain ⟨m, rfl, hm, HI, HB⟩ := hrel
    by_cases h0 : m = 0
    · subst h0
      have HZ := Aside0.mk (show trimL l = l.take 0 by rw [HI.out, List.take_zero]; exact trimL_top top_nil)
      go_wp2
      go_ret
      exact ⟨0, rfl, ⟨Nat.zero_le _, HZ.out⟩, HB.out⟩
    · obtain ⟨j, rfl⟩ : ∃ j, m = j + 1 := ⟨m - 1, by omega⟩
      obtain ⟨ad, he, hc⟩ := Kd.at_int (Kd.C_below hr.out HB.out) (j : Int) (by omega) (by omega)
      subst he
      have hc' : wr.cell? (ad.add j) = some (.int .u8 (rd l j)) := hc
      have e1 : (((j + 1 : Nat) : Int) - 1) = (j : Int) := by omega
      have hj : 0 < ((j + 1 : Nat) : Int) := by omega
      by_cases c : rd l j = 0
      · have HI2 := Aside0.mk (HI.out.trans (trimL_take (by omega) c))
        rw [c] at hc'
        clear hc HI h0
        go_wp2
        go_roundw
        case rel => exact ⟨j, by go_num, by omega, HI2, HB⟩
        case measure => simp
      · have HI2 := Aside0.mk (HI.out.trans (trimL_stop (by omega) c))
        have c2 : (rd l (j : Int) == 0) = false := by rw [beq_eq_false_iff_ne]; exact c
        clear hc HI h0
        go_wp2
        go_ret
        exact ⟨j + 1, rfl, ⟨hm, HI2.out⟩, HB.out⟩

set_option maxHeartbeats 4000000 in
set_option maxRecDepth 100000 in
theorem make_walk (g : Bool) (F : Bool → Bool) (hF : Aside0 (∀ x, F x = (g && x))) (A0 : Option Addr) (c0 : Nat) (l : List Int) (w : World) (hr : Aside0 (Kd.C (Kd.int .u8) w A0 l.length l)) (hc0 : l.length ≤ c0) (hn1 : l.length ≤ 1000000) :
    Calls Tryd.prog 46 #[.bool g, .slice A0 l.length c0] w fun e w' => ∃ v : Value, e = .returned (.agg #[.bool (F (decide (0 < (trimL l).length))), v]) ∧ Kd.R (Kd.int .u8) 5 w' w.heap.size (fun _ => True) v (trimL l).reverse ∧ Below w.heap.size w w' := by
  have hu24 := Tryd.underlying24
  have HB := Aside0.mk (Below.refl w.heap.size w)
  cases g
  all_goals
    have HFX := hF
    go_enter Tryd.func46, Tryd.ntmps46
    go_wp2_with (first
      | ((with_reducible refine gate_dst (N := 4) rfl ?_); refine box_event ?hg (N := 4) ?hd (cs := #[.bool false, .slice none 0 0]) (t := 24) ?hr ?_; (case hd => rfl); (case hg => rfl); (case hr => first | (go_simp; done) | (go_simp; rfl)); intro gb hg w2 hbox hb; have n0_ := Aside0.mk (below_step HB.out hb); have n1_ := Aside0.mk hbox; have n2_ := Aside0.mk ((by rw [hg]; exact Nat.le_refl _) : w.heap.size ≤ gb); clear HB; have HB := n0_; have BK := n1_; have GE := n2_; clear n0_ n1_ n2_; clear hb hbox hg)
      | (go_at_call 60; (with_reducible refine (refTrim_walk A0 c0 l w2 ⟨Kd.C_below hr.out HB.out⟩ hc0 hn1).mono ?_); rintro e w3 ⟨m, rfl, ⟨hm, htr⟩, hb⟩; have n0_ := Aside0.mk (below_step HB.out hb); have n1_ := Aside0.mk (blk_below BK.out hb); have HT := Aside0.mk htr; clear HB BK; have HB := n0_; have BK := n1_; clear n0_ n1_ hb htr)
      | ((with_reducible refine gate_dst (N := 5) rfl ?_); refine box_event ?hg (N := 5) ?hd (cs := #[.bool false, .slice none 0 0]) (t := 24) ?hr ?_; (case hd => rfl); (case hg => rfl); (case hr => first | (go_simp; done) | (go_simp; rfl)); intro gc hg w4 hbox hb; have n0_ := Aside0.mk (below_step HB.out hb); have n1_ := Aside0.mk hbox; have n2_ := Aside0.mk ((by rw [hg]; exact HB.out.size) : w.heap.size ≤ gc); have n3_ := Aside0.mk (blk_below BK.out hb); have n4_ := Aside0.mk ((by rw [hg]; exact Nat.ne_of_lt (blk_lt BK.out)) : gb ≠ gc); clear HB BK; have HB := n0_; have BC := n1_; have GC := n2_; have BK := n3_; have NE := n4_; clear n0_ n1_ n2_ n3_ n4_; clear hb hbox hg; have hcz0 : w4.cell? ⟨gc, 0, none⟩ = some (.bool false) := (blk_cell BC.out 0).trans rfl; have hcz1 : w4.cell? ⟨gc, 1, none⟩ = some (.slice none 0 0) := (blk_cell BC.out 1).trans rfl; have hfz0 := blk_frozen BC.out 0; have hfz1 := blk_frozen BC.out 1))
    have HM := Aside0.mk (show (trimL l).length = m by rw [HT.out, List.length_take]; omega)
    have eF := HFX.out
    go_loopw [6] (fun i wr => ∃ (t : Nat) (vv : Value), i = .int .i64 ((t : Int) - 1) ∧ t ≤ m ∧ Aside0 (Kd.R (Kd.int .u8) 5 wr w.heap.size (fun _ => True) vv ((l.take m).drop t).reverse) ∧ Aside0 (wr.heap[gc]? = some (.cells #[.bool (F (decide (0 < m))), vv] 24 (0, 0))) ∧ Aside0 (wr.heap[gb]? = some (.cells #[.bool false, .slice none 0 0] 24 (0, 0))) ∧ Aside0 (Below w.heap.size w wr)) (fun i _ => ((intOf i) + 1).toNat)
    case atStart =>
      refine ⟨m, .slice none 0 0, by go_num, Nat.le_refl _, ⟨by rw [List.drop_of_length_le (by rw [List.length_take]; omega)]; exact Kd.R_nil _ _ _ _ _⟩, ⟨?_⟩, ⟨blk_far (blk_far BK.out NE.out _) NE.out _⟩, ⟨below_set (below_set HB.out GC.out) GC.out⟩⟩
      refine blk_put (blk_put BC.out 0 _ rfl) 1 _ ?_
      rw [eF]; rfl
    case round =>
      clear hcz0 hcz1 hfz0 hfz1 HB BC BK eF
      obtain ⟨t, vv, rfl, ht, HO, BC, BK, HB⟩ := hrel
      have hcz0 : wr.cell? ⟨gc, 0, none⟩ = some (.bool (F (decide (0 < m)))) := (blk_cell BC.out 0).trans rfl
      have hcz1 : wr.cell? ⟨gc, 1, none⟩ = some vv := (blk_cell BC.out 1).trans rfl
      have hfz1 := blk_frozen BC.out 1
      by_cases h0 : t = 0
      · subst h0
        have hb0 : wr.cell? ⟨gb, 0, none⟩ = some (.bool false) := (blk_cell BK.out 0).trans rfl
        have hb1 : wr.cell? ⟨gb, 1, none⟩ = some (.slice none 0 0) := (blk_cell BK.out 1).trans rfl
        have hbf0 := blk_frozen BK.out 0
        have hbf1 := blk_frozen BK.out 1
        obtain ⟨Av, cv, ev⟩ := Kd.R_slice HO.out
        rw [show ((l.take m).drop 0).reverse.length = m by rw [List.length_reverse, List.length_drop, List.length_take]; omega] at ev
        subst ev
        have HV := Aside0.mk (show ((l.take m).drop 0).reverse = (trimL l).reverse by rw [HT.out]; rfl)
        have HO2 := HO.out
        rw [HV.out] at HO2
        have HO3 := Aside0.mk HO2
        clear HO2
        go_wp2
        refine bodyPost_ret (results_cell_row rfl _ _ gb 24 #[.bool (F (decide (0 < m))), .slice Av m cv] (0, 0) _ rfl (blk_put (blk_put BK.out 0 _ rfl) 1 _ rfl) Tryd.underlying24 rfl (by kernel_rfl)) rfl ?_
        refine ⟨.slice Av m cv, by rw [HM.out], ?_, below_set (below_set HB.out GE.out) GE.out⟩
        exact Kd.R_mono (Kd.R_far (p := ⟨gb, 1, none⟩) (Kd.R_far (p := ⟨gb, 0, none⟩) (Kd.R_types HO3.out BK.out (by decide)) (fun _ hk => hk.2) _) (fun _ hk => hk.2) _) (fun _ _ => trivial)
      · obtain ⟨j, rfl⟩ : ∃ j, t = j + 1 := ⟨t - 1, by omega⟩
        obtain ⟨ad, he, hc⟩ := Kd.at_int (Kd.C_below hr.out HB.out) (j : Int) (by omega) (by omega)
        subst he
        have hc' : wr.cell? (ad.add j) = some (.int .u8 (rd l j)) := hc
        have e1 : (((j + 1 : Nat) : Int) - 1) = (j : Int) := by omega
        have hjm : j < m := ht
        have hjm2 : (j : Int) < (m : Int) := by omega
        have HD := Aside0.mk (show ((l.take m).drop (j + 1)).reverse ++ [rd l j] = ((l.take m).drop j).reverse by
          rw [List.drop_eq_getElem_cons (by rw [List.length_take]; omega : j < (l.take m).length), List.reverse_cons, List.getElem_take, rd_get (by omega)])
        clear hc h0
        have HLJ := Aside0.mk (show ((l.take m).drop j).reverse.length = m - j by rw [List.length_reverse, List.length_drop, List.length_take]; omega)
        have hcza : (wr.alloc (.cells #[.int .u8 (rd l (j : Int))] 5)).cell? ⟨gc, 1, none⟩ = some vv := (blk_cell (blk_alloc BC.out _) 1).trans rfl
        go_wp2
        go_region_law (rw [← World.alloc_drew]; refine Kd.R_append_step (Kd.int .u8) (w0 := w) (W := wr.drew) w.heap.size (by rfl) (.tmp 24) (.tmp 29) 22 5 (.int .u8 0) 1 rfl Tryd.underlying22 info5 rfl (by decide) (by omega) vv ((l.take m).drop (j + 1)).reverse (rd l j) [.int .u8 (rd l j)] (fun _ => True) (fun _ => False) ?hS ?hX ?aP (fun _ hk => hk.elim) ?aF ?aO ?aB ?aS ?aL ?_; (case hS => rfl); (case hX => rfl); (case aP => exact rfl); (case aB => exact (by repeat (first | exact HB.out | apply below_alloc | apply pw_below_drewN | apply below_drew1))); (case aF => exact (fun k hk => trivial)); (case aO => exact (by (with_reducible repeat (first | apply Kd.R_alloc | apply Kd.R_drewN | apply Kd.R_drew)); exact HO.out)); (case aS => exact (below_size (by repeat (first | exact HB.out | apply below_alloc | apply pw_below_drewN | apply below_drew1)))); (case aL => rw [List.length_reverse, List.length_drop, List.length_take]; omega); intro v125 w5 ho hb hg hat; rw [HD.out] at ho; have n2_ := Aside0.mk (blk_grown (g := gc) (by (with_reducible repeat (first | refine blk_drewN ?_ _ | refine blk_drew ?_ | refine blk_alloc ?_ _)); exact BC.out) hg (Kd.R_ne HO.out BC.out (by decide))); have n3_ := Aside0.mk (blk_grown (g := gb) (by (with_reducible repeat (first | refine blk_drewN ?_ _ | refine blk_drew ?_ | refine blk_alloc ?_ _)); exact BK.out) hg (Kd.R_ne HO.out BK.out (by decide))); have n0_ := Aside0.mk hb; have n1_ := Aside0.mk ho; clear HB HO BC BK hcz0 hcz1 hfz1 hcza; have HB := n0_; have HO := n1_; have BC := n2_; have BK := n3_; clear n0_ n1_ n2_ n3_; clear ho hb hg hat; obtain ⟨Aw, cw, ev⟩ := Kd.R_slice HO.out; rw [HLJ.out] at ev; subst ev; have hcz1 : w5.cell? ⟨gc, 1, none⟩ = some vv := (blk_cell BC.out 1).trans rfl; have hfz1 := blk_frozen BC.out 1)
        all_goals go_wp2
        all_goals exact ⟨⟨j, _, rfl, by omega, ⟨Kd.R_mono (Kd.R_far (Kd.R_types HO.out BC.out (by decide)) (fun _ hk => hk.2) _) (fun _ _ => trivial)⟩, ⟨blk_put BC.out 1 _ rfl⟩, ⟨blk_far BK.out NE.out _⟩, ⟨below_set HB.out GC.out⟩⟩, by simp [intOf]⟩

theorem lead_zero (n : Nat) : decide (0 < (wds 256 n).length) = decide (n ≠ 0) := by
  by_cases h : n = 0
  · subst h; rw [wds_zero]; rfl
  · have : wds 256 n ≠ [] := fun e => h ((wds_nil_iff (by omega) n).1 e)
    have h2 := List.length_pos_iff.2 this
    rw [decide_eq_true h2, decide_eq_true h]
open Classical in
noncomputable def bandplanref01_Make.f (a0 : Bool) (l1 : List Int) : Option (Bool × List Int) := if Dig 256 l1 ∧ l1.length ≤ 100000 then some (a0 && decide ((val 256 l1).toNat ≠ 0), (wds 256 (val 256 l1).toNat).reverse) else none
theorem bandplanref01_Make.calls (a0 : Bool) (A1 : Option Addr) (c1 : Nat) (l1 : List Int) (r1 : Bool) (r2 : List Int) (w : World) (hr1 : Kd.C (Kd.int .u8) w A1 l1.length l1) (hc1 : l1.length ≤ c1) (h : bandplanref01_Make.f a0 l1 = some (r1, r2)) :
    Calls Tryd.prog 46 #[.bool a0, .slice A1 l1.length c1] w fun e w' => ∃ v1_ : Value, e = .returned (.agg #[.bool r1, v1_]) ∧ Kd.R (Kd.int .u8) 5 w' w.heap.size (fun _ => True) v1_ r2 ∧ Below w.heap.size w w' := by
  unfold bandplanref01_Make.f at h
  split at h
  · rename_i hc
    obtain ⟨h1, h2⟩ := hc
    cases h
    refine (make_walk a0 (a0 && ·) ⟨fun _ => rfl⟩ A1 c1 l1 w ⟨hr1⟩ hc1 (by omega)).mono ?_
    rintro e w' ⟨v, rfl, hR, hB⟩
    have ht := trimL_eq (B := 256) (by omega) _ l1 rfl h1
    refine ⟨v, ?_, by rw [ht] at hR; exact hR, hB⟩
    rw [ht]
    show Ending.returned (.agg #[.bool (a0 && decide (0 < _)), v]) = _
    rw [lead_zero]
  · cases h

end Go.Proofs.YtnkpfaoklkapdaaDoor.Print
