/- law.known, walked: the examples of the chapter are answered as told. -/
import Derived.Test.YtnkpfaoklkapdaaDoorNumK1
namespace Go.Proofs.YtnkpfaoklkapdaaDoor.Print
open Go.RowKit Go.Proofs.YtnkpfaoklkapdaaDoorW.PrintWords Go.Proofs.YtnkpfaoklkapdaaDoorW.PrintLast Go.Proofs.YtnkpfaoklkapdaaDoorW.PrintMore
open Go.Proofs.YtnkpfaoklkapdaaDoor.NumP
set_option linter.unusedVariables false
set_option linter.unusedSimpArgs false
theorem litIR (w : World) (g : Nat) (hg : g = w.heap.size) (a b : Int) : IR (w.alloc (.cells #[.int .u8 a, .int .u8 b] 5)) (some ⟨g, 0, none⟩) 2 [a, b] := by
  subst hg
  refine ⟨⟨rfl, by show (2 : Nat) ≤ _; decide, fun _ => ⟨_, rfl, fun j p hp => ⟨[.int .u8 p], rfl, rfl, fun i u hu => ?_⟩⟩⟩, Nat.le_refl _⟩
  have hi : i = 0 := by
    rcases i with _ | i
    · rfl
    · simp at hu
  subst hi
  have hu2 : Value.int .u8 p = u := by simpa using hu
  subst hu2
  show (w.alloc _).cell? ((⟨w.heap.size, 0, none⟩ : Addr).add (j * 1 + 0)) = _
  rw [add_plain, blk_cell (blk_new w _)]
  rcases j with _ | _ | j
  · simpa using hp
  · simpa using hp
  · simp at hp
theorem forget {w0 w : World} {rs : List Rw} {bs : List Bx} (h : Env w0 w rs bs) : Env w0 w [] [] := ⟨h.below, fun _ hr => by simp at hr, fun _ hb => by simp at hb, by simp⟩
def seqTail : Nat → Code → Code
  | 0, c => c
  | n + 1, .seq _ b => seqTail n b
  | _, c => c
theorem cv258 {w : World} {A : Option Addr} {c : Nat} (h : IR w A c (dg 258)) : (convert 22 9 (.slice A (dg 258).length c)).run Tryd.prog w = .ok (.string ⟨#[1, 2]⟩) w := by
  have hcv := Kd.C_string (P := Tryd.prog) (src := 22) (dst := 9) (e := 5) (c := c) Tryd.underlying22 (by kernel_rfl) (by kernel_rfl) h.1
  rw [show strOfNums (dg 258) = ⟨#[1, 2]⟩ by rw [dg258]; rfl] at hcv
  exact hcv
noncomputable def kbody : Code := Tryd.f15.body.getD .skip
def seqHead : Code → Code
  | .seq a _ => a
  | c => c
set_option maxHeartbeats 8000000 in
set_option maxRecDepth 100000 in
theorem known_C (w0 w : World) (u0 u1 u2 u3 u4 u5 u6 u7 u8 u9 u10 u11 u12 u13 u14 u15 u16 u17 u18 u19 u20 u21 u22 u23 u24 u25 u26 u27 u28 u29 u30 u31 u32 u33 u34 u35 u36 u37 u38 u39 u40 u41 u42 u43 u44 u45 u46 u47 u48 u49 u50 u51 u52 u53 u54 u55 u56 u57 u58 u59 u60 u61 u62 u63 u64 u65 u66 u67 u68 u69 u70 u71 u72 u73 u74 u75 u76 u77 u78 u79 u80 u81 u82 u83 u84 u85 u86 u87 u88 u89 u90 u91 u92 u93 u94 u95 u96 u97 u98 u99 u100 u101 u102 u103 u104 u105 u106 u107 u108 u109 u110 u111 u112 u113 u114 u115 u116 u117 u118 u119 u120 u121 u122 u123 u124 u125 u126 u127 u128 u129 u130 u131 u132 u133 u134 u135 u136 u137 u138 u139 u140 u141 u142 u143 u144 u145 u146 u147 u148 u149 u150 u151 u152 u153 u154 u155 u156 u157 u158 u159 u160 u161 u162 u163 : Value) (h : Env w0 w [] []) (K : Act → World → Prop) (hK : ∀ a w, Code.wp Tryd.prog (seqTail 11 kbody) (bodyPost Tryd.prog Tryd.f15 fun e w' => e = .returned (.bool true) ∧ Below w0.heap.size w0 w') a w → K a w) :
    Code.wp Tryd.prog (seqHead (seqTail 10 kbody)) (Exit.then K (bodyPost Tryd.prog Tryd.f15 fun e w' => e = .returned (.bool true) ∧ Below w0.heap.size w0 w')) ⟨#[u0, u1, u2, u3, u4, u5, u6, u7, u8, u9, u10, u11, u12, u13, u14, u15, u16, u17, u18, u19, u20, u21, u22, u23, u24, u25, u26, u27, u28, u29, u30, u31, u32, u33, u34, u35, u36, u37, u38, u39, u40, u41, u42, u43, u44, u45, u46, u47, u48, u49, u50, u51, u52, u53, u54, u55, u56, u57, u58, u59, u60, u61, u62, u63, u64, u65, u66, u67, u68, u69, u70, u71, u72, u73, u74, u75, u76, u77, u78, u79, u80, u81, u82, u83, u84, u85, u86, u87, u88, u89, u90, u91, u92, u93, u94, u95, u96, u97, u98, u99, u100, u101, u102, u103, u104, u105, u106, u107, u108, u109, u110, u111, u112, u113, u114, u115, u116, u117, u118, u119, u120, u121, u122, u123, u124, u125, u126, u127, u128, u129, u130, u131, u132, u133, u134, u135, u136, u137, u138, u139, u140, u141, u142, u143, u144, u145, u146, u147, u148, u149, u150, u151, u152, u153, u154, u155, u156, u157, u158, u159, u160, u161, u162, u163], []⟩ w := by
  have hu24 := Tryd.underlying24
  have E := Aside0.mk h
  clear h
  have k1 : True := trivial
  have k2 : True := trivial
  have k3 : True := trivial
  have k50 : True := trivial
  have k51 : True := trivial
  have k52 : True := trivial
  have k53 : True := trivial
  conv => arg 2; whnf
  go_wp2_with (first
    | (go_at_call 22; have _t := k1; refine (par1 _).mono ?_; rintro e w1 ⟨v0, rfl, ⟨A0, c0, rfl, r0⟩, hb⟩; have E' := Aside0.mk ((E.out.call hb).add r0); clear E hb r0 k1 _t; have E := E'; clear E')
    | ((with_reducible refine gate_dst (N := 17) rfl ?_); refine box_event ?hg (N := 17) ?hd (cs := #[.bool false, .slice none 0 0]) (t := 24) ?hr ?_; (case hd => rfl); (case hg => rfl); (case hr => first | (go_simp; done) | (go_simp; rfl)); intro g17 hg wb hbox hb; have E' := Aside0.mk (E.out.newBox hg hbox hb); clear E hg hbox hb; have E := E'; clear E'; obtain ⟨b0_1, b0_2, b0_3, b0_4⟩ := E.out.two 0 rfl))
  conv => arg 2; whnf
  go_wp2_with (first
    | (go_at_call 22; have _t := k2; refine (par2 _).mono ?_; rintro e w2 ⟨v1, rfl, ⟨A1, c1, rfl, r1⟩, hb⟩; have E' := Aside0.mk (((E.out.set2 0 rfl rfl _ _ (by rfl)).call hb).add r1); clear E hb r1 k2 _t; have E := E'; clear E'; clear b0_1 b0_2 b0_3 b0_4)
    | ((with_reducible refine gate_dst (N := 19) rfl ?_); refine box_event ?hg (N := 19) ?hd (cs := #[.bool false, .slice none 0 0]) (t := 24) ?hr ?_; (case hd => rfl); (case hg => rfl); (case hr => first | (go_simp; done) | (go_simp; rfl)); intro g19 hg wb hbox hb; have E' := Aside0.mk (E.out.newBox hg hbox hb); clear E hg hbox hb; have E := E'; clear E'; obtain ⟨b1_1, b1_2, b1_3, b1_4⟩ := E.out.two 1 rfl)
    | (go_at_call 22; have _t := k3; refine (par3 _).mono ?_; rintro e w3 ⟨v2, rfl, ⟨A2, c2, rfl, r2⟩, hb⟩; have E' := Aside0.mk (((E.out.set2 1 rfl rfl _ _ (by rfl)).call hb).add r2); clear E hb r2 k3 _t; have E := E'; clear E'; clear b1_1 b1_2 b1_3 b1_4)
    | ((with_reducible refine gate_dst (N := 21) rfl ?_); refine box_event ?hg (N := 21) ?hd (cs := #[.bool false, .slice none 0 0]) (t := 24) ?hr ?_; (case hd => rfl); (case hg => rfl); (case hr => first | (go_simp; done) | (go_simp; rfl)); intro g21 hg wb hbox hb; have E' := Aside0.mk (E.out.newBox hg hbox hb); clear E hg hbox hb; have E := E'; clear E'; obtain ⟨b2_1, b2_2, b2_3, b2_4⟩ := E.out.two 2 rfl))
  clear b2_1 b2_2 b2_3 b2_4
  have E' := Aside0.mk ((E.out.set2 2 rfl rfl (.bool false) (.slice A2 (dg 12).length c2) rfl).drew)
  clear E
  have E := E'
  clear E'
  go_region_held3 (fun w' => w'.cell? ⟨g21, 0, none⟩ = some (.bool false) ∧ w'.cell? ⟨g21, 1, none⟩ = some (.slice A2 (dg 12).length c2)) (exact ⟨(E.out.two 2 rfl).1, (E.out.two 2 rfl).2.1⟩) (first
    | (go_at_call 14; have _t := k50; refine (refOfC (-100) true 100 _ rfl rfl (by decide) (by decide)).mono ?_; rintro e w4 ⟨v3, rfl, ⟨A3, c3, rfl, r3⟩, hb⟩; have E' := Aside0.mk ((E.out.call hb).add r3); clear E hb r3 k50 _t; have E := E'; clear E')
    | (go_at_call 24; have _t := k51; refine (dig1 (E.out.at_ 3 rfl)).mono ?_; rintro e w5 ⟨rfl, hb⟩; have E' := Aside0.mk (E.out.call hb); clear E hb k51 _t; have E := E'; clear E')
    | (go_at_call 24; refine (dig2 _).mono ?_; rintro e w6 ⟨rfl, hb⟩; have E' := Aside0.mk (E.out.call hb); clear E hb; have E := E'; clear E')
    | (go_at_call 14; have _t := k52; refine (refOfC (-100) true 100 _ rfl rfl (by decide) (by decide)).mono ?_; rintro e w7 ⟨v4, rfl, ⟨A4, c4, rfl, r4⟩, hb⟩; have E' := Aside0.mk ((E.out.call hb).add r4); clear E hb r4 k52 _t; have E := E'; clear E')
    | (go_at_call 23; refine (text1 (E.out.at_ 4 rfl)).mono ?_; rintro e w8 ⟨rfl, hb⟩; have E' := Aside0.mk (E.out.call hb); clear E hb; have E := E'; clear E')
    | (go_at_call 14; have _t := k53; refine (refOfC 12 false 12 _ rfl rfl (by decide) (by decide)).mono ?_; rintro e w9 ⟨v5, rfl, ⟨A5, c5, rfl, r5⟩, hb⟩; have E' := Aside0.mk ((E.out.call hb).add r5); clear E hb r5 k53 _t; have E := E'; clear E')
    | (go_at_call 13; refine (sameV false false (dg 12) (dg 12) true (E.out.at_ 2 rfl) (E.out.at_ 5 rfl) (same_refl _ _)).mono ?_; rintro e w10 ⟨rfl, hb⟩; have E' := Aside0.mk (E.out.call hb); clear E hb; have E := E'; clear E'))
  all_goals go_wp2
  all_goals go_ret
  all_goals exact ⟨rfl, E.out.below⟩
set_option maxHeartbeats 8000000 in
set_option maxRecDepth 100000 in
theorem known_B (w0 w : World) (u0 u1 u2 u3 u4 u5 u6 u7 u8 u9 u10 u11 u12 u13 u14 u15 u16 u17 u18 u19 u20 u21 u22 u23 u24 u25 u26 u27 u28 u29 u30 u31 u32 u33 u34 u35 u36 u37 u38 u39 u40 u41 u42 u43 u44 u45 u46 u47 u48 u49 u50 u51 u52 u53 u54 u55 u56 u57 u58 u59 u60 u61 u62 u63 u64 u65 u66 u67 u68 u69 u70 u71 u72 u73 u74 u75 u76 u77 u78 u79 u80 u81 u82 u83 u84 u85 u86 u87 u88 u89 u90 u91 u92 u93 u94 u95 u96 u97 u98 u99 u100 u101 u102 u103 u104 u105 u106 u107 u108 u109 u110 u111 u112 u113 u114 u115 u116 u117 u118 u119 u120 u121 u122 u123 u124 u125 u126 u127 u128 u129 u130 u131 u132 u133 u134 u135 u136 u137 u138 u139 u140 u141 u142 u143 u144 u145 u146 u147 u148 u149 u150 u151 u152 u153 u154 u155 u156 u157 u158 u159 u160 u161 u162 u163 : Value) (h : Env w0 w [] []) (K : Act → World → Prop) (hK : ∀ a w, Code.wp Tryd.prog (seqTail 6 kbody) (bodyPost Tryd.prog Tryd.f15 fun e w' => e = .returned (.bool true) ∧ Below w0.heap.size w0 w') a w → K a w) :
    Code.wp Tryd.prog (seqHead (seqTail 5 kbody)) (Exit.then K (bodyPost Tryd.prog Tryd.f15 fun e w' => e = .returned (.bool true) ∧ Below w0.heap.size w0 w')) ⟨#[u0, u1, u2, u3, u4, u5, u6, u7, u8, u9, u10, u11, u12, u13, u14, u15, u16, u17, u18, u19, u20, u21, u22, u23, u24, u25, u26, u27, u28, u29, u30, u31, u32, u33, u34, u35, u36, u37, u38, u39, u40, u41, u42, u43, u44, u45, u46, u47, u48, u49, u50, u51, u52, u53, u54, u55, u56, u57, u58, u59, u60, u61, u62, u63, u64, u65, u66, u67, u68, u69, u70, u71, u72, u73, u74, u75, u76, u77, u78, u79, u80, u81, u82, u83, u84, u85, u86, u87, u88, u89, u90, u91, u92, u93, u94, u95, u96, u97, u98, u99, u100, u101, u102, u103, u104, u105, u106, u107, u108, u109, u110, u111, u112, u113, u114, u115, u116, u117, u118, u119, u120, u121, u122, u123, u124, u125, u126, u127, u128, u129, u130, u131, u132, u133, u134, u135, u136, u137, u138, u139, u140, u141, u142, u143, u144, u145, u146, u147, u148, u149, u150, u151, u152, u153, u154, u155, u156, u157, u158, u159, u160, u161, u162, u163], []⟩ w := by
  have hu24 := Tryd.underlying24
  have E := Aside0.mk h
  clear h
  have k1 : True := trivial
  have k2 : True := trivial
  have k3 : True := trivial
  have k4 : True := trivial
  have k5 : True := trivial
  conv => arg 2; whnf
  go_wp2_with (first
    | (go_at_call 11; have _t := k1; refine (ofC (-258) true 258 _ rfl rfl (by decide) (by decide)).mono ?_; rintro e w1 ⟨v0, rfl, ⟨A0, c0, rfl, r0⟩, hb⟩; have E' := Aside0.mk ((E.out.call hb).add r0); clear E hb r0 k1 _t; have E := E'; clear E')
    | ((with_reducible refine gate_dst (N := 10) rfl ?_); refine box_event ?hg (N := 10) ?hd (cs := #[.bool false, .slice none 0 0]) (t := 24) ?hr ?_; (case hd => rfl); (case hg => rfl); (case hr => first | (go_simp; done) | (go_simp; rfl)); intro g10 hg wb hbox hb; have E' := Aside0.mk (E.out.newBox hg hbox hb); clear E hg hbox hb; have E := E'; clear E'; obtain ⟨b0_1, b0_2, b0_3, b0_4⟩ := E.out.two 0 rfl))
  conv => arg 2; whnf
  go_wp2_with (first
    | (go_at_call 12; refine (valueBad false [0, 1] (by decide) (litIR _ _ (by simp) 0 1)).mono ?_; rintro e w2 ⟨rfl, hb⟩; have E' := Aside0.mk (((E.out.set2 0 rfl rfl _ _ (by rfl)).alloc _).call hb); clear E hb; have E := E'; clear E'; clear b0_1 b0_2 b0_3 b0_4)
    | (go_at_call 14; have _t := k2; refine (refOfC (-2) true 2 _ rfl rfl (by decide) (by decide)).mono ?_; rintro e w3 ⟨v1, rfl, ⟨A1, c1, rfl, r1⟩, hb⟩; have E' := Aside0.mk ((E.out.call hb).add r1); clear E hb r1 k2 _t; have E := E'; clear E')
    | (go_at_call 17; have _t := k3; refine (pow1 (E.out.at_ 1 rfl)).mono ?_; rintro e w4 ⟨v2, rfl, ⟨A2, c2, rfl, r2⟩, hb⟩; have E' := Aside0.mk ((E.out.call hb).add r2); clear E hb r2 k3 _t; have E := E'; clear E')
    | ((with_reducible refine gate_dst (N := 13) rfl ?_); refine box_event ?hg (N := 13) ?hd (cs := #[.bool false, .slice none 0 0]) (t := 24) ?hr ?_; (case hd => rfl); (case hg => rfl); (case hr => first | (go_simp; done) | (go_simp; rfl)); intro g13 hg wb hbox hb; have E' := Aside0.mk (E.out.newBox hg hbox hb); clear E hg hbox hb; have E := E'; clear E'; obtain ⟨b1_1, b1_2, b1_3, b1_4⟩ := E.out.two 1 rfl)
    | (go_at_call 14; have _t := k4; refine (refOfC (2) false 2 _ rfl rfl (by decide) (by decide)).mono ?_; rintro e w5 ⟨v3, rfl, ⟨A3, c3, rfl, r3⟩, hb⟩; have E' := Aside0.mk (((E.out.set2 1 rfl rfl _ _ (by rfl)).call hb).add r3); clear E hb r3 k4 _t; have E := E'; clear E'; clear b1_1 b1_2 b1_3 b1_4)
    | (go_at_call 17; have _t := k5; refine (pow2 (E.out.at_ 3 rfl)).mono ?_; rintro e w6 ⟨v4, rfl, ⟨A4, c4, rfl, r4⟩, hb⟩; have E' := Aside0.mk ((E.out.call hb).add r4); clear E hb r4 k5 _t; have E := E'; clear E')
    | ((with_reducible refine gate_dst (N := 15) rfl ?_); refine box_event ?hg (N := 15) ?hd (cs := #[.bool false, .slice none 0 0]) (t := 24) ?hr ?_; (case hd => rfl); (case hg => rfl); (case hr => first | (go_simp; done) | (go_simp; rfl)); intro g15 hg wb hbox hb; have E' := Aside0.mk (E.out.newBox hg hbox hb); clear E hg hbox hb; have E := E'; clear E'; obtain ⟨b2_1, b2_2, b2_3, b2_4⟩ := E.out.two 2 rfl))
  clear b2_1 b2_2 b2_3 b2_4
  have E' := Aside0.mk ((E.out.set2 2 rfl rfl (.bool false) (.slice A4 (dg 0).length c4) rfl).drew)
  clear E
  have E := E'
  clear E'
  go_region_held3 (fun w' => w'.cell? ⟨g10, 0, none⟩ = some (.bool true) ∧ w'.cell? ⟨g10, 1, none⟩ = some (.slice A0 (dg 258).length c0) ∧ w'.cell? ⟨g13, 0, none⟩ = some (.bool true) ∧ w'.cell? ⟨g13, 1, none⟩ = some (.slice A2 (dg 8).length c2) ∧ (convert 22 9 (.slice A0 (dg 258).length c0)).run Tryd.prog w' = .ok (.string ⟨#[1, 2]⟩) w') (exact ⟨(E.out.two 0 rfl).1, (E.out.two 0 rfl).2.1, (E.out.two 1 rfl).1, (E.out.two 1 rfl).2.1, cv258 (E.out.at_ 0 rfl)⟩) (first
    | (go_at_call 14; refine (refOfC (-8) true 8 _ rfl rfl (by decide) (by decide)).mono ?_; rintro e w7 ⟨v5, rfl, ⟨A5, c5, rfl, r5⟩, hb⟩; have E' := Aside0.mk ((E.out.call hb).add r5); clear E hb r5; have E := E'; clear E')
    | (go_at_call 13; refine (sameV true true (dg 8) (dg 8) true (E.out.at_ 2 rfl) (E.out.at_ 5 rfl) (same_refl _ _)).mono ?_; rintro e w8 ⟨rfl, hb⟩; have E' := Aside0.mk (E.out.call hb); clear E hb; have E := E'; clear E'))
  go_upto_region 12 with (fail)
  refine known_C _ _ _ _ _ _ _ _ _ _ _ _ _ _ _ _ _ _ _ _ _ _ _ _ _ _ _ _ _ _ _ _ _ _ _ _ _ _ _ _ _ _ _ _ _ _ _ _ _ _ _ _ _ _ _ _ _ _ _ _ _ _ _ _ _ _ _ _ _ _ _ _ _ _ _ _ _ _ _ _ _ _ _ _ _ _ _ _ _ _ _ _ _ _ _ _ _ _ _ _ _ _ _ _ _ _ _ _ _ _ _ _ _ _ _ _ _ _ _ _ _ _ _ _ _ _ _ _ _ _ _ _ _ _ _ _ _ _ _ _ _ _ _ _ _ _ _ _ _ _ _ _ _ _ _ _ _ _ _ _ _ _ _ _ _ _ (forget E.out) _ ?_
  assumption
set_option maxHeartbeats 8000000 in
set_option maxRecDepth 100000 in
theorem known_walk (w : World) : Calls Tryd.prog 15 #[] w fun e w' => e = .returned (.bool true) ∧ Below w.heap.size w w' := by
  have hu24 := Tryd.underlying24
  have E := Aside0.mk (Env.start0 w)
  have k1 : True := trivial
  have k2 : True := trivial
  have k3 : True := trivial
  have k4 : True := trivial
  have k5 : True := trivial
  have k6 : True := trivial
  have k7 : True := trivial
  have k8 : True := trivial
  have k9 : True := trivial
  have k40 : True := trivial
  have k41 : True := trivial
  have k42 : True := trivial
  have k43 : True := trivial
  have k44 : True := trivial
  have k45 : True := trivial
  have k46 : True := trivial
  have k47 : True := trivial
  go_enter Tryd.func15, Tryd.ntmps15
  go_wp2_with (first
    | (go_at_call 14; have _t := k1; refine (refOfC (-7) true 7 _ rfl rfl (by decide) (by decide)).mono ?_; rintro e w1 ⟨v0, rfl, ⟨A0, c0, rfl, r0⟩, hb⟩; have E' := Aside0.mk ((E.out.call hb).add r0); clear E hb r0 k1 _t; have E := E'; clear E')
    | (go_at_call 14; have _t := k2; refine (refOfC (2) false 2 _ rfl rfl (by decide) (by decide)).mono ?_; rintro e w2 ⟨v1, rfl, ⟨A1, c1, rfl, r1⟩, hb⟩; have E' := Aside0.mk ((E.out.call hb).add r1); clear E hb r1 k2 _t; have E := E'; clear E')
    | (go_at_call 28; have _t := k3; refine (dmC true false true false 7 2 4 1 (E.out.at_ 0 rfl) (E.out.at_ 1 rfl) (good_small (by decide) (by decide)) (good_small (by decide) (by decide)) (by decide) dm1).mono ?_; rintro e w3 ⟨v2, v3, rfl, ⟨A2, c2, rfl, r2⟩, ⟨A3, c3, rfl, r3⟩, hb⟩; have E' := Aside0.mk (((E.out.call hb).add r2).add r3); clear E hb r2 r3 k3 _t; have E := E'; clear E')
    | ((with_reducible refine gate_dst (N := 1) rfl ?_); refine box_event ?hg (N := 1) ?hd (cs := #[.bool false, .slice none 0 0]) (t := 24) ?hr ?_; (case hd => rfl); (case hg => rfl); (case hr => first | (go_simp; done) | (go_simp; rfl)); intro g1 hg wb hbox hb; have E' := Aside0.mk (E.out.newBox hg hbox hb); clear E hg hbox hb; have E := E'; clear E')
    | ((with_reducible refine gate_dst (N := 2) rfl ?_); refine box_event ?hg (N := 2) ?hd (cs := #[.bool false, .slice none 0 0]) (t := 24) ?hr ?_; (case hd => rfl); (case hg => rfl); (case hr => first | (go_simp; done) | (go_simp; rfl)); intro g2 hg wb hbox hb; have E' := Aside0.mk (E.out.newBox hg hbox hb); clear E hg hbox hb; have E := E'; clear E'; obtain ⟨b0_1, b0_2, b0_3, b0_4⟩ := E.out.two 0 rfl; obtain ⟨b1_1, b1_2, b1_3, b1_4⟩ := E.out.two 1 rfl; have n0_1 : g1 ≠ g2 := E.out.ne 0 1 rfl rfl (by decide))
    | (go_at_call 14; have _t := k4; refine (refOfC (7) false 7 _ rfl rfl (by decide) (by decide)).mono ?_; rintro e w4 ⟨v4, rfl, ⟨A4, c4, rfl, r4⟩, hb⟩; have E' := Aside0.mk ((((E.out.set2 0 rfl rfl _ _ (by rfl)).set2 1 rfl rfl _ _ (by rfl)).call hb).add r4); clear E hb r4 k4 _t; have E := E'; clear E'; clear b0_1 b0_2 b0_3 b0_4 b1_1 b1_2 b1_3 b1_4 n0_1)
    | (go_at_call 14; have _t := k5; refine (refOfC (-2) true 2 _ rfl rfl (by decide) (by decide)).mono ?_; rintro e w5 ⟨v5, rfl, ⟨A5, c5, rfl, r5⟩, hb⟩; have E' := Aside0.mk ((E.out.call hb).add r5); clear E hb r5 k5 _t; have E := E'; clear E')
    | (go_at_call 28; have _t := k6; refine (dmC false true true true 7 2 4 1 (E.out.at_ 4 rfl) (E.out.at_ 5 rfl) (good_small (by decide) (by decide)) (good_small (by decide) (by decide)) (by decide) dm2).mono ?_; rintro e w6 ⟨v6, v7, rfl, ⟨A6, c6, rfl, r6⟩, ⟨A7, c7, rfl, r7⟩, hb⟩; have E' := Aside0.mk (((E.out.call hb).add r6).add r7); clear E hb r6 r7 k6 _t; have E := E'; clear E')
    | ((with_reducible refine gate_dst (N := 4) rfl ?_); refine box_event ?hg (N := 4) ?hd (cs := #[.bool false, .slice none 0 0]) (t := 24) ?hr ?_; (case hd => rfl); (case hg => rfl); (case hr => first | (go_simp; done) | (go_simp; rfl)); intro g4 hg wb hbox hb; have E' := Aside0.mk (E.out.newBox hg hbox hb); clear E hg hbox hb; have E := E'; clear E')
    | ((with_reducible refine gate_dst (N := 5) rfl ?_); refine box_event ?hg (N := 5) ?hd (cs := #[.bool false, .slice none 0 0]) (t := 24) ?hr ?_; (case hd => rfl); (case hg => rfl); (case hr => first | (go_simp; done) | (go_simp; rfl)); intro g5 hg wb hbox hb; have E' := Aside0.mk (E.out.newBox hg hbox hb); clear E hg hbox hb; have E := E'; clear E'; obtain ⟨b2_1, b2_2, b2_3, b2_4⟩ := E.out.two 2 rfl; obtain ⟨b3_1, b3_2, b3_3, b3_4⟩ := E.out.two 3 rfl; have n2_3 : g4 ≠ g5 := E.out.ne 2 3 rfl rfl (by decide))
    | (go_at_call 14; have _t := k7; refine (refOfC (1) false 1 _ rfl rfl (by decide) (by decide)).mono ?_; rintro e w7 ⟨v8, rfl, ⟨A8, c8, rfl, r8⟩, hb⟩; have E' := Aside0.mk ((((E.out.set2 2 rfl rfl _ _ (by rfl)).set2 3 rfl rfl _ _ (by rfl)).call hb).add r8); clear E hb r8 k7 _t; have E := E'; clear E'; clear b2_1 b2_2 b2_3 b2_4 b3_1 b3_2 b3_3 b3_4 n2_3)
    | (go_at_call 14; have _t := k8; refine (refOfC (0) false 0 _ rfl rfl (by decide) (by decide)).mono ?_; rintro e w8 ⟨v9, rfl, ⟨A9, c9, rfl, r9⟩, hb⟩; have E' := Aside0.mk ((E.out.call hb).add r9); clear E hb r9 k8 _t; have E := E'; clear E')
    | (go_at_call 28; have _t := k9; refine (dm3 (E.out.at_ 8 rfl) (E.out.at_ 9 rfl)).mono ?_; rintro e w9 ⟨v10, v11, rfl, ⟨A10, c10, rfl, r10⟩, ⟨A11, c11, rfl, r11⟩, hb⟩; have E' := Aside0.mk (((E.out.call hb).add r10).add r11); clear E hb r10 r11 k9 _t; have E := E'; clear E')
    | ((with_reducible refine gate_dst (N := 7) rfl ?_); refine box_event ?hg (N := 7) ?hd (cs := #[.bool false, .slice none 0 0]) (t := 24) ?hr ?_; (case hd => rfl); (case hg => rfl); (case hr => first | (go_simp; done) | (go_simp; rfl)); intro g7 hg wb hbox hb; have E' := Aside0.mk (E.out.newBox hg hbox hb); clear E hg hbox hb; have E := E'; clear E')
    | ((with_reducible refine gate_dst (N := 8) rfl ?_); refine box_event ?hg (N := 8) ?hd (cs := #[.bool false, .slice none 0 0]) (t := 24) ?hr ?_; (case hd => rfl); (case hg => rfl); (case hr => first | (go_simp; done) | (go_simp; rfl)); intro g8 hg wb hbox hb; have E' := Aside0.mk (E.out.newBox hg hbox hb); clear E hg hbox hb; have E := E'; clear E'; obtain ⟨b4_1, b4_2, b4_3, b4_4⟩ := E.out.two 4 rfl; obtain ⟨b5_1, b5_2, b5_3, b5_4⟩ := E.out.two 5 rfl; have n4_5 : g7 ≠ g8 := E.out.ne 4 5 rfl rfl (by decide)))
  clear b4_1 b4_2 b4_3 b4_4 b5_1 b5_2 b5_3 b5_4 n4_5
  have E' := Aside0.mk (((E.out.set2 4 rfl rfl (.bool false) (.slice A10 (dg 0).length c10) rfl).set2 5 rfl rfl (.bool false) (.slice A11 (dg 0).length c11) rfl).drew)
  clear E
  have E := E'
  clear E'
  go_region_held3 (fun w' => w'.cell? ⟨g1, 0, none⟩ = some (.bool true) ∧ w'.cell? ⟨g1, 1, none⟩ = some (.slice A2 (dg 4).length c2) ∧ w'.cell? ⟨g2, 0, none⟩ = some (.bool false) ∧ w'.cell? ⟨g2, 1, none⟩ = some (.slice A3 (dg 1).length c3) ∧ w'.cell? ⟨g4, 0, none⟩ = some (.bool true) ∧ w'.cell? ⟨g4, 1, none⟩ = some (.slice A6 (dg 4).length c6) ∧ w'.cell? ⟨g5, 0, none⟩ = some (.bool true) ∧ w'.cell? ⟨g5, 1, none⟩ = some (.slice A7 (dg 1).length c7)) (exact ⟨(E.out.two 0 rfl).1, (E.out.two 0 rfl).2.1, (E.out.two 1 rfl).1, (E.out.two 1 rfl).2.1, (E.out.two 2 rfl).1, (E.out.two 2 rfl).2.1, (E.out.two 3 rfl).1, (E.out.two 3 rfl).2.1⟩) (first
    | (go_at_call 14; have _t := k40; refine (refOfC (-4) true 4 _ rfl rfl (by decide) (by decide)).mono ?_; rintro e w10 ⟨v12, rfl, ⟨A12, c12, rfl, r12⟩, hb⟩; have E' := Aside0.mk ((E.out.call hb).add r12); clear E hb r12 k40 _t; have E := E'; clear E')
    | (go_at_call 13; have _t := k41; refine (sameV true true (dg 4) (dg 4) true (E.out.at_ 2 rfl) (E.out.at_ 12 rfl) (same_refl _ _)).mono ?_; rintro e w11 ⟨rfl, hb⟩; have E' := Aside0.mk (E.out.call hb); clear E hb k41 _t; have E := E'; clear E')
    | (go_at_call 14; have _t := k42; refine (refOfC (1) false 1 _ rfl rfl (by decide) (by decide)).mono ?_; rintro e w12 ⟨v13, rfl, ⟨A13, c13, rfl, r13⟩, hb⟩; have E' := Aside0.mk ((E.out.call hb).add r13); clear E hb r13 k42 _t; have E := E'; clear E')
    | (go_at_call 13; have _t := k43; refine (sameV false false (dg 1) (dg 1) true (E.out.at_ 3 rfl) (E.out.at_ 13 rfl) (same_refl _ _)).mono ?_; rintro e w13 ⟨rfl, hb⟩; have E' := Aside0.mk (E.out.call hb); clear E hb k43 _t; have E := E'; clear E')
    | (go_at_call 14; have _t := k44; refine (refOfC (-4) true 4 _ rfl rfl (by decide) (by decide)).mono ?_; rintro e w14 ⟨v14, rfl, ⟨A14, c14, rfl, r14⟩, hb⟩; have E' := Aside0.mk ((E.out.call hb).add r14); clear E hb r14 k44 _t; have E := E'; clear E')
    | (go_at_call 13; have _t := k45; refine (sameV true true (dg 4) (dg 4) true (E.out.at_ 6 rfl) (E.out.at_ 14 rfl) (same_refl _ _)).mono ?_; rintro e w15 ⟨rfl, hb⟩; have E' := Aside0.mk (E.out.call hb); clear E hb k45 _t; have E := E'; clear E')
    | (go_at_call 14; have _t := k46; refine (refOfC (-1) true 1 _ rfl rfl (by decide) (by decide)).mono ?_; rintro e w16 ⟨v15, rfl, ⟨A15, c15, rfl, r15⟩, hb⟩; have E' := Aside0.mk ((E.out.call hb).add r15); clear E hb r15 k46 _t; have E := E'; clear E')
    | (go_at_call 13; have _t := k47; refine (sameV true true (dg 1) (dg 1) true (E.out.at_ 7 rfl) (E.out.at_ 15 rfl) (same_refl _ _)).mono ?_; rintro e w17 ⟨rfl, hb⟩; have E' := Aside0.mk (E.out.call hb); clear E hb k47 _t; have E := E'; clear E'))
  go_upto_region 6 with (fail)
  refine known_B _ _ _ _ _ _ _ _ _ _ _ _ _ _ _ _ _ _ _ _ _ _ _ _ _ _ _ _ _ _ _ _ _ _ _ _ _ _ _ _ _ _ _ _ _ _ _ _ _ _ _ _ _ _ _ _ _ _ _ _ _ _ _ _ _ _ _ _ _ _ _ _ _ _ _ _ _ _ _ _ _ _ _ _ _ _ _ _ _ _ _ _ _ _ _ _ _ _ _ _ _ _ _ _ _ _ _ _ _ _ _ _ _ _ _ _ _ _ _ _ _ _ _ _ _ _ _ _ _ _ _ _ _ _ _ _ _ _ _ _ _ _ _ _ _ _ _ _ _ _ _ _ _ _ _ _ _ _ _ _ _ _ _ _ _ _ (forget E.out) _ ?_
  assumption
def bandplanlaw01_known.f : Option Bool := some true
theorem bandplanlaw01_known.calls (r : Bool) (w : World) (h : bandplanlaw01_known.f = some r) :
    Calls Tryd.prog 15 #[] w fun e w' => e = .returned (.bool r) ∧ Below w.heap.size w w' := by
  cases h
  exact known_walk w
end Go.Proofs.YtnkpfaoklkapdaaDoor.Print
