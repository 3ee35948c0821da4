/- Contracts told by values, for the statements of number: DivMod where it has no answer, Digits10, Of, Same and so on. -/
import Derived.Test.YtnkpfaoklkapdaaDoorNumZ
import Derived.Test.YtnkpfaoklkapdaaDoorPrint10
namespace Go.Proofs.YtnkpfaoklkapdaaDoor.Print
open Go.RowKit Go.Proofs.YtnkpfaoklkapdaaDoorW.PrintWords Go.Proofs.YtnkpfaoklkapdaaDoorW.PrintLast Go.Proofs.YtnkpfaoklkapdaaDoorW.PrintMore
open Go.Proofs.YtnkpfaoklkapdaaDoor.NumP
set_option linter.unusedVariables false
set_option linter.unusedSimpArgs false
set_option exponentiation.threshold 2000

set_option maxHeartbeats 8000000 in
set_option maxRecDepth 100000 in
theorem DivMod.bad (sa sb : Bool) (la lb : List Int) (A B : Option Addr) (c c' : Nat) (w : World) (hA : IR w A c la) (hB : IR w B c' lb) (h : (validB sa la && validB sb lb && decide (lb ≠ [])) = false) :
    Calls Tryd.prog 28 #[.agg #[.bool sa, .slice A la.length c], .agg #[.bool sb, .slice B lb.length c']] w fun e w' => ∃ v1 v2, e = .returned (.tuple #[v1, v2, .int .i64 2]) ∧ AnInt w' v1 false [] ∧ AnInt w' v2 false [] ∧ Below w.heap.size w w' := by
  have hu24 := Tryd.underlying24
  have E := Aside0.mk (Env.start2 hA hB)
  clear hA hB
  have tok1 : True := trivial
  by_cases h1 : validB sa la = true
  · by_cases h2 : validB sb lb = true
    · have h3 : lb = [] := by simpa [h1, h2] using h
      subst h3
      clear h
      go_enter Tryd.func28, Tryd.ntmps28
      go_wp2_with (first
        | ((with_reducible refine gate_dst (N := 2) rfl ?_); refine box_event ?hg (N := 2) ?hd (cs := #[.bool sa, .slice A la.length c]) (t := 24) ?hr ?_; (case hd => rfl); (case hg => rfl); (case hr => first | (go_simp; done) | (go_simp; rfl)); intro g0 hg wb hbox hb; have E' := Aside0.mk (E.out.newBox hg hbox hb); clear E hg hbox hb; have E := E'; clear E')
        | ((with_reducible refine gate_dst (N := 3) rfl ?_); refine box_event ?hg (N := 3) ?hd (cs := #[.bool sb, .slice B ([] : List Int).length c']) (t := 24) ?hr ?_; (case hd => rfl); (case hg => rfl); (case hr => first | (go_simp; done) | (go_simp; rfl)); intro g1 hg wb hbox hb; have E' := Aside0.mk (E.out.newBox hg hbox hb); clear E hg hbox hb; have E := E'; clear E')
        | ((with_reducible refine gate_dst (N := 4) rfl ?_); refine box_event ?hg (N := 4) ?hd (cs := #[.bool false, .slice none 0 0]) (t := 24) ?hr ?_; (case hd => rfl); (case hg => rfl); (case hr => first | (go_simp; done) | (go_simp; rfl)); intro g2 hg wb hbox hb; have E' := Aside0.mk (E.out.newBox hg hbox hb); clear E hg hbox hb; have E := E'; clear E')
        | ((with_reducible refine gate_dst (N := 5) rfl ?_); refine box_event ?hg (N := 5) ?hd (cs := #[.bool false, .slice none 0 0]) (t := 24) ?hr ?_; (case hd => rfl); (case hg => rfl); (case hr => first | (go_simp; done) | (go_simp; rfl)); intro g3 hg wb hbox hb; have E' := Aside0.mk (E.out.newBox hg hbox hb); clear E hg hbox hb; have E := E'; clear E'; obtain ⟨p1, p2, p3, p4⟩ := E.out.two 0 rfl; obtain ⟨q1, q2, q3, q4⟩ := E.out.two 1 rfl)
        | (go_at_call 33; have _t := tok1; refine (validV sa la (E.out.at_ 0 rfl)).mono ?_; rintro e w5 ⟨rfl, hb⟩; have E' := Aside0.mk (E.out.call hb); clear E hb tok1 _t; have E := E'; clear E'; clear p1 p2 p3 p4; clear q1 q2 q3 q4; obtain ⟨p1, p2, p3, p4⟩ := E.out.two 0 rfl; obtain ⟨q1, q2, q3, q4⟩ := E.out.two 1 rfl)
        | (go_at_call 33; refine (validV sb [] (E.out.at_ 1 rfl)).mono ?_; rintro e w6 ⟨rfl, hb⟩; have E' := Aside0.mk (E.out.call hb); clear E hb; have E := E'; clear E'; clear p1 p2 p3 p4; clear q1 q2 q3 q4; obtain ⟨p1, p2, p3, p4⟩ := E.out.two 0 rfl; obtain ⟨q1, q2, q3, q4⟩ := E.out.two 1 rfl; obtain ⟨t1, t2, t3, t4⟩ := E.out.two 2 rfl; obtain ⟨u1, u2, u3, u4⟩ := E.out.two 3 rfl; have n23 : g2 ≠ g3 := E.out.ne 2 3 rfl rfl (by decide)))
      have EF := (E.out.set2 2 rfl rfl (.bool false) (.slice none 0 0) rfl).set2 3 rfl rfl (.bool false) (.slice none 0 0) rfl
      have k2 := EF.blk2 2 g2 (.bool false) (.slice none 0 0) 24 rfl
      have k3 := EF.blk2 3 g3 (.bool false) (.slice none 0 0) 24 rfl
      refine bodyPost_ret (results_list (rs := [.cell 4 24, .cell 5 24, .tmp 6]) rfl (by simp) (.cell g2 24 #[.bool false, .slice none 0 0] (0, 0) _ rfl k2 Tryd.underlying24 rfl (by kernel_rfl) (.cell g3 24 #[.bool false, .slice none 0 0] (0, 0) _ rfl k3 Tryd.underlying24 rfl (by kernel_rfl) (.tmp .nil)))) rfl ?_
      exact ⟨_, _, rfl, IR_nil _, IR_nil _, EF.below⟩
    · have h2' : validB sb lb = false := by simpa using h2
      clear h h2
      go_enter Tryd.func28, Tryd.ntmps28
      go_wp2_with (first
        | ((with_reducible refine gate_dst (N := 2) rfl ?_); refine box_event ?hg (N := 2) ?hd (cs := #[.bool sa, .slice A la.length c]) (t := 24) ?hr ?_; (case hd => rfl); (case hg => rfl); (case hr => first | (go_simp; done) | (go_simp; rfl)); intro g0 hg wb hbox hb; have E' := Aside0.mk (E.out.newBox hg hbox hb); clear E hg hbox hb; have E := E'; clear E')
        | ((with_reducible refine gate_dst (N := 3) rfl ?_); refine box_event ?hg (N := 3) ?hd (cs := #[.bool sb, .slice B lb.length c']) (t := 24) ?hr ?_; (case hd => rfl); (case hg => rfl); (case hr => first | (go_simp; done) | (go_simp; rfl)); intro g1 hg wb hbox hb; have E' := Aside0.mk (E.out.newBox hg hbox hb); clear E hg hbox hb; have E := E'; clear E')
        | ((with_reducible refine gate_dst (N := 4) rfl ?_); refine box_event ?hg (N := 4) ?hd (cs := #[.bool false, .slice none 0 0]) (t := 24) ?hr ?_; (case hd => rfl); (case hg => rfl); (case hr => first | (go_simp; done) | (go_simp; rfl)); intro g2 hg wb hbox hb; have E' := Aside0.mk (E.out.newBox hg hbox hb); clear E hg hbox hb; have E := E'; clear E')
        | ((with_reducible refine gate_dst (N := 5) rfl ?_); refine box_event ?hg (N := 5) ?hd (cs := #[.bool false, .slice none 0 0]) (t := 24) ?hr ?_; (case hd => rfl); (case hg => rfl); (case hr => first | (go_simp; done) | (go_simp; rfl)); intro g3 hg wb hbox hb; have E' := Aside0.mk (E.out.newBox hg hbox hb); clear E hg hbox hb; have E := E'; clear E'; obtain ⟨p1, p2, p3, p4⟩ := E.out.two 0 rfl; obtain ⟨q1, q2, q3, q4⟩ := E.out.two 1 rfl)
        | (go_at_call 33; have _t := tok1; refine (validV sa la (E.out.at_ 0 rfl)).mono ?_; rintro e w5 ⟨rfl, hb⟩; have E' := Aside0.mk (E.out.call hb); clear E hb tok1 _t; have E := E'; clear E'; clear p1 p2 p3 p4; clear q1 q2 q3 q4; obtain ⟨p1, p2, p3, p4⟩ := E.out.two 0 rfl; obtain ⟨q1, q2, q3, q4⟩ := E.out.two 1 rfl)
        | (go_at_call 33; refine (validV sb lb (E.out.at_ 1 rfl)).mono ?_; rintro e w6 ⟨rfl, hb⟩; have E' := Aside0.mk (E.out.call hb); clear E hb; have E := E'; clear E'; clear p1 p2 p3 p4; clear q1 q2 q3 q4; obtain ⟨p1, p2, p3, p4⟩ := E.out.two 0 rfl; obtain ⟨q1, q2, q3, q4⟩ := E.out.two 1 rfl; obtain ⟨t1, t2, t3, t4⟩ := E.out.two 2 rfl; obtain ⟨u1, u2, u3, u4⟩ := E.out.two 3 rfl; have n23 : g2 ≠ g3 := E.out.ne 2 3 rfl rfl (by decide)))
      have EF := (E.out.set2 2 rfl rfl (.bool false) (.slice none 0 0) rfl).set2 3 rfl rfl (.bool false) (.slice none 0 0) rfl
      have k2 := EF.blk2 2 g2 (.bool false) (.slice none 0 0) 24 rfl
      have k3 := EF.blk2 3 g3 (.bool false) (.slice none 0 0) 24 rfl
      refine bodyPost_ret (results_list (rs := [.cell 4 24, .cell 5 24, .tmp 6]) rfl (by simp) (.cell g2 24 #[.bool false, .slice none 0 0] (0, 0) _ rfl k2 Tryd.underlying24 rfl (by kernel_rfl) (.cell g3 24 #[.bool false, .slice none 0 0] (0, 0) _ rfl k3 Tryd.underlying24 rfl (by kernel_rfl) (.tmp .nil)))) rfl ?_
      exact ⟨_, _, rfl, IR_nil _, IR_nil _, EF.below⟩
  · have h1' : validB sa la = false := by simpa using h1
    clear h h1
    go_enter Tryd.func28, Tryd.ntmps28
    go_wp2_with (first
      | ((with_reducible refine gate_dst (N := 2) rfl ?_); refine box_event ?hg (N := 2) ?hd (cs := #[.bool sa, .slice A la.length c]) (t := 24) ?hr ?_; (case hd => rfl); (case hg => rfl); (case hr => first | (go_simp; done) | (go_simp; rfl)); intro g0 hg wb hbox hb; have E' := Aside0.mk (E.out.newBox hg hbox hb); clear E hg hbox hb; have E := E'; clear E')
      | ((with_reducible refine gate_dst (N := 3) rfl ?_); refine box_event ?hg (N := 3) ?hd (cs := #[.bool sb, .slice B lb.length c']) (t := 24) ?hr ?_; (case hd => rfl); (case hg => rfl); (case hr => first | (go_simp; done) | (go_simp; rfl)); intro g1 hg wb hbox hb; have E' := Aside0.mk (E.out.newBox hg hbox hb); clear E hg hbox hb; have E := E'; clear E')
      | ((with_reducible refine gate_dst (N := 4) rfl ?_); refine box_event ?hg (N := 4) ?hd (cs := #[.bool false, .slice none 0 0]) (t := 24) ?hr ?_; (case hd => rfl); (case hg => rfl); (case hr => first | (go_simp; done) | (go_simp; rfl)); intro g2 hg wb hbox hb; have E' := Aside0.mk (E.out.newBox hg hbox hb); clear E hg hbox hb; have E := E'; clear E')
      | ((with_reducible refine gate_dst (N := 5) rfl ?_); refine box_event ?hg (N := 5) ?hd (cs := #[.bool false, .slice none 0 0]) (t := 24) ?hr ?_; (case hd => rfl); (case hg => rfl); (case hr => first | (go_simp; done) | (go_simp; rfl)); intro g3 hg wb hbox hb; have E' := Aside0.mk (E.out.newBox hg hbox hb); clear E hg hbox hb; have E := E'; clear E'; obtain ⟨p1, p2, p3, p4⟩ := E.out.two 0 rfl; obtain ⟨q1, q2, q3, q4⟩ := E.out.two 1 rfl)
      | (go_at_call 33; have _t := tok1; refine (validV sa la (E.out.at_ 0 rfl)).mono ?_; rintro e w5 ⟨rfl, hb⟩; have E' := Aside0.mk (E.out.call hb); clear E hb tok1 _t; have E := E'; clear E'; clear p1 p2 p3 p4; clear q1 q2 q3 q4; obtain ⟨p1, p2, p3, p4⟩ := E.out.two 0 rfl; obtain ⟨q1, q2, q3, q4⟩ := E.out.two 1 rfl; obtain ⟨t1, t2, t3, t4⟩ := E.out.two 2 rfl; obtain ⟨u1, u2, u3, u4⟩ := E.out.two 3 rfl; have n23 : g2 ≠ g3 := E.out.ne 2 3 rfl rfl (by decide)))
    have EF := (E.out.set2 2 rfl rfl (.bool false) (.slice none 0 0) rfl).set2 3 rfl rfl (.bool false) (.slice none 0 0) rfl
    have k2 := EF.blk2 2 g2 (.bool false) (.slice none 0 0) 24 rfl
    have k3 := EF.blk2 3 g3 (.bool false) (.slice none 0 0) 24 rfl
    refine bodyPost_ret (results_list (rs := [.cell 4 24, .cell 5 24, .tmp 6]) rfl (by simp) (.cell g2 24 #[.bool false, .slice none 0 0] (0, 0) _ rfl k2 Tryd.underlying24 rfl (by kernel_rfl) (.cell g3 24 #[.bool false, .slice none 0 0] (0, 0) _ rfl k3 Tryd.underlying24 rfl (by kernel_rfl) (.tmp .nil)))) rfl ?_
    exact ⟨_, _, rfl, IR_nil _, IR_nil _, EF.below⟩
set_option maxHeartbeats 8000000 in
set_option maxRecDepth 100000 in
theorem Digits10.raw (s : Bool) (l : List Int) (A : Option Addr) (c : Nat) (r : ByteArray) (w : World) (hA : IR w A c l) (hT : ∀ w, IR w A c l → Calls Tryd.prog 23 #[.agg #[.bool s, .slice A l.length c]] w fun e w' => e = .returned (.string r) ∧ Below w.heap.size w w') :
    Calls Tryd.prog 24 #[.agg #[.bool s, .slice A l.length c]] w fun e w' => e = .returned (.int .i64 ((Lib.trimPrefix r.data.toList [45]).length : Int)) ∧ Below w.heap.size w w' := by
  have hu24 := Tryd.underlying24
  have E := Aside0.mk (Env.start1 hA)
  have HT := Aside0.mk hT
  clear hA hT
  go_enter Tryd.func24, Tryd.ntmps24
  go_wp2_with (first
    | ((with_reducible refine gate_dst (N := 1) rfl ?_); refine box_event ?hg (N := 1) ?hd (cs := #[.bool s, .slice A l.length c]) (t := 24) ?hr ?_; (case hd => rfl); (case hg => rfl); (case hr => first | (go_simp; done) | (go_simp; rfl)); intro g0 hg wb hbox hb; have E' := Aside0.mk (E.out.newBox hg hbox hb); clear E hg hbox hb; have E := E'; clear E'; obtain ⟨p1, p2, p3, p4⟩ := E.out.two 0 rfl)
    | (go_at_call 23; refine (HT.out _ (E.out.at_ 0 rfl)).mono ?_; rintro e w2 ⟨rfl, hb⟩; have E' := Aside0.mk (E.out.call hb); clear E hb; have E := E'; clear E'; clear p1 p2 p3 p4; obtain ⟨p1, p2, p3, p4⟩ := E.out.two 0 rfl)
    | (go_at_call 58; refine (strings_TrimPrefix.calls r ⟨#[45]⟩ _ _ rfl).mono ?_; rintro e w3 ⟨rfl, hb⟩; have E' := Aside0.mk (E.out.call hb); clear E hb; have E := E'; clear E'; clear p1 p2 p3 p4; obtain ⟨p1, p2, p3, p4⟩ := E.out.two 0 rfl))
  go_ret
  exact ⟨by congr 2, E.out.below⟩
theorem textV (s : Bool) (n : Nat) {A : Option Addr} {c : Nat} {w : World} (h : Good s n) (hA : IR w A c (dg n)) :
    Calls Tryd.prog 23 #[.agg #[.bool s, .slice A (dg n).length c]] w fun e w' => e = .returned (.string (txt s n)) ∧ Below w.heap.size w w' := by
  obtain ⟨K, hK⟩ := (Text_E s n h).rounds
  exact number_Text.calls K s A c _ _ w hA.1 hA.2 hK
theorem textB (s : Bool) (l : List Int) {A : Option Addr} {c : Nat} {w : World} (h : validB s l = false) (hA : IR w A c l) :
    Calls Tryd.prog 23 #[.agg #[.bool s, .slice A l.length c]] w fun e w' => e = .returned (.string ⟨#[]⟩) ∧ Below w.heap.size w w' :=
  number_Text.calls 0 s A c _ _ w hA.1 hA.2 (Text_bad s l h 0)
theorem decD_no {n : Nat} {l : List UInt8} : decD n ≠ 45 :: l := by
  intro h
  unfold decD at h
  have hm : (45 : UInt8) ∈ (wds 10 n).reverse.map dgb := by rw [h]; exact List.mem_cons_self
  obtain ⟨d, hd, e⟩ := List.mem_map.1 hm
  have := dig_wds (B := 10) (by omega) n d (List.mem_reverse.1 hd)
  have h2 : d = 0 ∨ d = 1 ∨ d = 2 ∨ d = 3 ∨ d = 4 ∨ d = 5 ∨ d = 6 ∨ d = 7 ∨ d = 8 ∨ d = 9 := by omega
  rcases h2 with h | h | h | h | h | h | h | h | h | h <;> subst h <;> revert e <;> decide
theorem prefix_no (n : Nat) : Lib.hasPrefix (decD n) [45] = false := by
  unfold Lib.hasPrefix
  rcases h : decD n with _ | ⟨b, l⟩
  · rfl
  · have : b ≠ 45 := fun e => decD_no (e ▸ h)
    simp [List.isPrefixOf]
    exact fun e => this e.symm
theorem txt_trim (s : Bool) (n : Nat) : (⟨(Lib.trimPrefix (txt s n).data.toList [45]).toArray⟩ : ByteArray) = ⟨(decS n).toArray⟩ := by
  unfold txt decS
  by_cases c : n = 0
  · rw [if_pos c, if_pos c]; rfl
  · rw [if_neg c, if_neg c]
    cases s
    · rw [if_neg (by simp)]
      show (⟨(Lib.trimPrefix (decD n).toArray.toList [45]).toArray⟩ : ByteArray) = _
      rw [List.toList_toArray]
      unfold Lib.trimPrefix
      rw [prefix_no]; rfl
    · rw [if_pos rfl]
      have e : ((⟨#[45]⟩ : ByteArray) ++ (⟨(decD n).toArray⟩ : ByteArray)).data.toList = 45 :: decD n := by
        rw [ByteArray.data_append]; simp
      rw [e]
      rfl
theorem digits10V (s : Bool) (n : Nat) {A : Option Addr} {c : Nat} {w : World} (h : Good s n) (hA : IR w A c (dg n)) :
    Calls Tryd.prog 24 #[.agg #[.bool s, .slice A (dg n).length c]] w fun e w' => e = .returned (.int .i64 ((decS n).length : Int)) ∧ Below w.heap.size w w' := by
  have h0 := txt_trim s n
  have h1 : Lib.trimPrefix (txt s n).data.toList [45] = decS n := by
    have := congrArg (fun b : ByteArray => b.data.toList) h0
    simpa using this
  have := Digits10.raw s (dg n) A c (txt s n) w hA (fun w h' => textV s n h h')
  rw [h1] at this
  exact this
theorem refOfV (n : Int) (w : World) (h0 : -9223372036854775808 ≤ n) (h1 : n < 9223372036854775808) :
    Calls Tryd.prog 14 #[.int .i64 n] w fun e w' => ∃ v, e = .returned v ∧ AnInt w' v (decide (n < 0)) (dg n.natAbs) ∧ Below w.heap.size w w' := by
  obtain ⟨K, hK⟩ := (refOf_E n h0 h1).rounds
  refine (bandplanref01_Of.calls K n _ _ w hK).mono ?_
  rintro e w' ⟨v, rfl, hr, hb⟩
  exact ⟨_, rfl, AnInt.ofR hr, hb⟩
theorem ofV (n : Int) (w : World) (h0 : -9223372036854775808 ≤ n) (h1 : n < 9223372036854775808) :
    Calls Tryd.prog 11 #[.int .i64 n] w fun e w' => ∃ v, e = .returned v ∧ AnInt w' v (decide (n < 0)) (dg n.natAbs) ∧ Below w.heap.size w w' := by
  obtain ⟨K, hK⟩ := (Of_E n h0 h1).rounds
  refine (number_Of.calls K n _ _ w hK).mono ?_
  rintro e w' ⟨v, rfl, hr, hb⟩
  exact ⟨_, rfl, AnInt.of hr, hb⟩
theorem sameV (s1 s2 : Bool) (l1 l2 : List Int) (r : Bool) {A B : Option Addr} {c c' : Nat} {w : World} (hA : IR w A c l1) (hB : IR w B c' l2) (h : bandplanref01_Same.f s1 l1 s2 l2 = some r) :
    Calls Tryd.prog 13 #[.agg #[.bool s1, .slice A l1.length c], .agg #[.bool s2, .slice B l2.length c']] w fun e w' => e = .returned (.bool r) ∧ Below w.heap.size w w' :=
  bandplanref01_Same.calls s1 A c l1 s2 B c' l2 r w hA.1 hA.2 hB.1 hB.2 h
theorem same_refl (s : Bool) (l : List Int) : bandplanref01_Same.f s l s l = some true := by
  unfold bandplanref01_Same.f
  rw [if_pos (by rw [beq_iff_eq])]; simp
theorem str_inj : ∀ (l m : List Int), Dig 256 l → Dig 256 m → (l.map fun n => UInt8.ofNat n.toNat) = (m.map fun n => UInt8.ofNat n.toNat) → l = m
  | [], [], _, _, _ => rfl
  | [], _ :: _, _, _, h => by simp at h
  | _ :: _, [], _, _, h => by simp at h
  | x :: l, y :: m, hl, hm, h => by
    rw [List.map_cons, List.map_cons, List.cons.injEq] at h
    obtain ⟨h1, h2⟩ := dig_cons.1 hl
    obtain ⟨h3, h4⟩ := dig_cons.1 hm
    have e : x = y := by
      have := congrArg UInt8.toNat h.1
      rw [UInt8.toNat_ofNat', UInt8.toNat_ofNat'] at this
      omega
    rw [e, str_inj l m h2 h4 h.2]
theorem same_f {s1 s2 : Bool} {l1 l2 : List Int} (h1 : Dig 256 l1) (h2 : Dig 256 l2) : bandplanref01_Same.f s1 l1 s2 l2 = some (decide (s1 = s2 ∧ l1 = l2)) := by
  unfold bandplanref01_Same.f
  by_cases c : s1 = s2
  · rw [if_pos (by rw [beq_iff_eq]; exact c)]
    congr 1
    rw [Lib.toList_data, Lib.toList_data]
    show ((l1.map _).toArray.toList == (l2.map _).toArray.toList) = _
    rw [List.toList_toArray, List.toList_toArray]
    by_cases d : l1 = l2
    · rw [d, decide_eq_true ⟨c, rfl⟩]; simp
    · rw [decide_eq_false (fun h => d h.2), beq_eq_false_iff_ne]
      exact fun h => d (str_inj _ _ h1 h2 h)
  · rw [if_neg (by rw [beq_iff_eq]; exact c), decide_eq_false (fun h => c h.1)]
theorem dig_dg (n : Nat) : Dig 256 (dg n) := dig_rev (dig_wds (by omega) n)
theorem dg_inj {n m : Nat} (h : dg n = dg m) : n = m := by
  unfold dg at h
  exact wds_inj (by omega) (List.reverse_inj.1 h)
theorem valueBad (s : Bool) (l : List Int) {A : Option Addr} {c : Nat} {w : World} (h : validB s l = false) (hA : IR w A c l) :
    Calls Tryd.prog 12 #[.agg #[.bool s, .slice A l.length c]] w fun e w' => e = .returned (.tuple #[.int .i64 0, .int .i64 2]) ∧ Below w.heap.size w w' :=
  number_Value.calls 0 s A c l 0 2 w hA.1 hA.2 (by unfold number_Value.f; rw [valid_f, Option.bind_some, h, if_neg (by simp)])
theorem parseV (s D : ByteArray) (neg : Bool) (w : World) (h1 : strings_CutPrefix.f s ⟨#[45]⟩ = some (D, neg)) (h0 : 0 < D.size) (hn : D.size ≤ 100000) (hD : D.toList ≠ []) (h3 : strings_Trim.f D ⟨#[48, 49, 50, 51, 52, 53, 54, 55, 56, 57]⟩ = some ⟨#[]⟩)
    (h4 : bt D 0 = 48 → s.toList = [48]) (hd : ∀ i : Nat, i < D.size → 48 ≤ bt D i ∧ bt D i ≤ 57) :
    Calls Tryd.prog 22 #[.string s] w fun e w' => ∃ v, e = .returned (.tuple #[v, .int .i64 (parR neg (parL D D.size 0 0)).2.2]) ∧ AnInt w' v (parR neg (parL D D.size 0 0)).1 (parR neg (parL D D.size 0 0)).2.1 ∧ Below w.heap.size w w' := by
  obtain ⟨K, hK⟩ := (Parse_E s D neg h1 h0 hn hD h3 h4 hd).rounds
  refine (number_Parse.calls K s _ _ _ w hK).mono ?_
  rintro e w' ⟨v, rfl, hr, hb⟩
  exact ⟨_, rfl, AnInt.of hr, hb⟩
theorem parseB (s D : ByteArray) (neg : Bool) (w : World) (h1 : strings_CutPrefix.f s ⟨#[45]⟩ = some (D, neg))
    (h : D.toList = [] ∨ 0 < D.size ∧ D.toList ≠ [] ∧ (bt D 0 = 48 ∧ s.toList ≠ [48] ∨ ∃ T, strings_Trim.f D ⟨#[48, 49, 50, 51, 52, 53, 54, 55, 56, 57]⟩ = some T ∧ T.toList ≠ [])) :
    Calls Tryd.prog 22 #[.string s] w fun e w' => ∃ v, e = .returned (.tuple #[v, .int .i64 6]) ∧ AnInt w' v false [] ∧ Below w.heap.size w w' := by
  obtain ⟨K, hK⟩ := (Parse_bad s D neg h1 h).rounds
  refine (number_Parse.calls K s _ _ _ w hK).mono ?_
  rintro e w' ⟨v, rfl, hr, hb⟩
  exact ⟨_, rfl, AnInt.of hr, hb⟩
theorem powerV (s : Bool) (a n : Nat) {A : Option Addr} {c : Nat} {w : World} (ga : Good s a) (hA : IR w A c (dg a)) (hn : n ≤ 9223372036854775807) :
    Calls Tryd.prog 17 #[.agg #[.bool s, .slice A (dg a).length c], .int .i64 (n : Int)] w fun e w' => ∃ v, e = .returned (.tuple #[v, .int .i64 (powA s a n).2.2]) ∧ AnInt w' v (powA s a n).1 (powA s a n).2.1 ∧ Below w.heap.size w w' := by
  by_cases h1 : bl a ≤ 1
  · exact Power.small s a n A c w ga hA h1 hn
  · by_cases h2 : n ≤ 512
    · exact Power.big s a n A c w ga hA (by omega) h2
    · exact Power.full s a n A c w ga hA (by omega) (by omega) hn
end Go.Proofs.YtnkpfaoklkapdaaDoor.Print
