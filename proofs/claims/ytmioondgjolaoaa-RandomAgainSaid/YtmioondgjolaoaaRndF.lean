/- Random: the law RandomAgain, walked. -/
import Derived.Test.YtmioondgjolaoaaRndE
namespace Go.Proofs.Ytmioondgjolaoaa.Print
open Go.RowKit Go.Proofs.YtmioondgjolaoaaW.PrintWords Go.Proofs.YtmioondgjolaoaaW.PrintLast Go.Proofs.YtmioondgjolaoaaW.PrintMore
set_option linter.unusedVariables false
set_option linter.unusedSimpArgs false

theorem info4 : (Try.prog.info? 4).map (fun i => (i.zero, i.size, i.bytes)) = some (some (.bool false), 1, 1) := by kernel_rfl

theorem Number.any (k g : Nat) (s n v e s' : Int) (w : World) (h : Src w g s) (hf : random_Source_Number.f k s true n = some (v, e, s', true)) :
    Calls Try.prog 9 #[sp g, .int .i64 n] w fun r w' => r = .returned (.tuple #[.int .i64 v, .int .i64 e]) ∧ Src w' g s' ∧ w.grownBy w' (some g) := by
  refine (random_Source_Number.calls k g s true n v e s' true (bare w) w ⟨h, Nat.zero_le _⟩ (bare_below w) hf).mono ?_
  rintro r w' ⟨rfl, h2, h3, h4⟩
  exact ⟨rfl, h2.1, grown_keep (bare_below w) h3 h4⟩
theorem num_any (s n : Int) : ∃ k v e s', random_Source_Number.f k s true n = some (v, e, s', true) := by
  by_cases c : n < 1 ∨ 4611686018427387904 < n
  · refine ⟨0, 0, 2, s, ?_⟩
    unfold random_Source_Number.f
    rw [if_neg (by decide), if_pos c]
  · obtain ⟨k, s', v, h, _⟩ := num_ends s n (by omega) (by omega)
    exact ⟨k, v, 0, s', by rw [src_num k s n (by omega) (by omega), h]; rfl⟩

def Seen (L : List Int) (n j : Nat) (bs : List Bool) : Prop := bs.length = n ∧ ∀ x : Nat, rdOf false bs x = true → ∃ i, i < j ∧ rd L i = x
theorem seen_start (L : List Int) (n : Nat) : Seen L n 0 (List.replicate n false) := by
  refine ⟨by simp, fun x h => ?_⟩
  unfold rdOf at h
  simp [List.getD_eq_getElem?_getD, List.getElem?_replicate] at h
  split at h <;> simp at h
theorem seen_new {L : List Int} {n j : Nat} {bs : List Bool} (ho : Once L n) (h : Seen L n j bs) (hj : j < n) : rdOf false bs (rd L j) = false := by
  have hr := ho.2.1 j hj
  obtain ⟨x, hx⟩ := Int.eq_ofNat_of_zero_le hr.1
  rw [hx]
  by_cases c : rdOf false bs (x : Nat) = true
  · obtain ⟨i, hi, he⟩ := h.2 x c
    have := ho.2.2 i j (by omega) hj (he.trans hx.symm)
    omega
  · simpa using c
theorem seen_step {L : List Int} {n j : Nat} {bs : List Bool} (ho : Once L n) (h : Seen L n j bs) (hj : j < n) : Seen L n (j + 1) (bs.set (rd L j).toNat true) := by
  refine ⟨by simpa using h.1, fun x hx => ?_⟩
  have hr := ho.2.1 j hj
  obtain ⟨y, hy⟩ := Int.eq_ofNat_of_zero_le hr.1
  by_cases c : x = y
  · exact ⟨j, by omega, by rw [hy, c]⟩
  · obtain ⟨i, hi, he⟩ := h.2 x (by
      rw [hy] at hx
      unfold rdOf at hx ⊢
      simp only [Int.toNat_natCast] at hx
      rw [List.getD_eq_getElem?_getD, List.getElem?_set_ne (by omega)] at hx
      rw [List.getD_eq_getElem?_getD]
      exact hx)
    exact ⟨i, by omega, he⟩

set_option maxHeartbeats 8000000 in
set_option maxRecDepth 100000 in
theorem again_good (a lb lim : Int) (n : Nat) (w : World) (hn : n ≤ 200) :
    Calls Try.prog 4 #[.int .i64 a, .int .i64 lb, .int .i64 lim, .int .i64 n] w fun e w' => e = .returned (.bool true) ∧ Below w.heap.size w w' := by
  obtain ⟨s', L, _, p2, p3, q0, q1⟩ := shuffle_ends n (by omega) (IntKind.u64.wrap a) (u64_range _).1 (u64_range _).2
  obtain ⟨K2, P2⟩ := p2.rounds
  obtain ⟨K3, nv, ne, s2, P3⟩ := num_any s' lim
  have F2 := Aside0.mk P2
  have F3 := Aside0.mk P3
  have HL := Aside0.mk p3
  have HLj := Aside0.mk (show L.length = n from p3.1)
  have HLb := Aside0.mk (show (L.length : Int) < 9223372036854775807 by have := p3.1; omega)
  clear p2 P2 p3 q0 q1 P3
  have hll := HL.out.1
  have tok1 : True := trivial
  have tok2 : True := trivial
  have tok3 : True := trivial
  go_enter Try.func4, Try.ntmps4
  go_upto_region 10 with (first
    | (go_at_call 8; have _t := tok1; refine (New.calls _ _).mono ?_; rintro e w1 ⟨ga, rfl, k1, k2, k3⟩; have A := Aside0.mk k2; have A0 := Aside0.mk k1; have C := Aside0.mk k3; clear k1 k2 k3 tok1 _t)
    | (go_at_call 8; refine (New.calls _ _).mono ?_; rintro e w1' ⟨gb, rfl, k1, k2, k3⟩; have B := Aside0.mk k2; have B0 := Aside0.mk (Nat.le_trans C.out.size k1); have D := Aside0.mk (show ga ≠ gb by have := A.out.lt; omega); have n1 := Aside0.mk (below_step C.out k3); have n2 := Aside0.mk (A.out.below k3); clear k1 k2 k3 A C; have A := n2; have C := n1; clear n1 n2)
    | (go_at_call 12; have _t := tok2; refine (Shuffle.calls K2 _ _ _ _ _ _ A.out F2.out).mono ?_; rintro e wx ⟨vl, rfl, k1, k2, k3⟩; have BL := Aside0.mk B.out.lt; have n1 := Aside0.mk (below_src C.out A0.out k3); have n3 := Aside0.mk (B.out.other k3 (Ne.symm D.out)); have HR := Aside0.mk k1; have n2 := Aside0.mk k2; clear A B C k1 k2 k3 tok2 _t; have A := n2; have C := n1; have B := n3; clear n1 n2 n3; obtain ⟨Al, cl, rfl⟩ := Kd.R_slice HR.out)
    | (go_at_call 12; refine (Shuffle.calls K2 _ _ _ _ _ _ B.out F2.out).mono ?_; rintro e wy ⟨vm, rfl, k1, k2, k3⟩; have n1 := Aside0.mk (below_src C.out B0.out k3); have n3 := Aside0.mk (A.out.other k3 D.out); have HM := Aside0.mk k1; have n4 := Aside0.mk (row_kept HR.out k3 BL.out); have n2 := Aside0.mk k2; clear A B C HR k1 k2 k3; have B := n2; have C := n1; have A := n3; have HR := n4; clear n1 n2 n3 n4; obtain ⟨Am, cm, rfl⟩ := Kd.R_slice HM.out; have HC1 := Aside0.mk (Kd.R_reads' HR.out); have HC2 := Aside0.mk (Kd.R_reads' HM.out))
    | (go_at_call 13; (with_reducible refine (equal.calls L _ _ HLj.out HLj.out _ _ _ _ _ HC1.out.2.2 HC1.out.2.1 HC2.out.2.2 HC2.out.2.1 HLb.out).mono ?_); rintro e w3 ⟨rfl, ⟨nd, rfl⟩⟩))
  have n1 := Aside0.mk (A.out.drewN nd)
  have n2 := Aside0.mk (B.out.drewN nd)
  have n3 := Aside0.mk (pw_below_drewN C.out nd)
  have n4 := Aside0.mk (Kd.R_drewN HR.out nd)
  clear A B C HR HC1 HC2 HM
  generalize wy.drewN nd = wz at n1 n2 n3 n4 ⊢
  go_wp2_with (first
    | ((with_reducible refine gate_dst (N := 73) rfl ?_); refine Kd.R_make Kd.bool (w0 := wz) wz.heap.size 4 rfl (N := 73) rfl 36 _ _ rfl (n : Int) rfl rfl Try.underlying36 (.bool false) 1 info4 rfl (by decide) (by omega) false (ok := fun k => wz.heap.size ≤ k) (okp := fun _ => False) rfl (fun _ hk => hk.elim) (Nat.le_refl _) (by omega) (by omega) (Below.refl _ _) (Nat.le_refl _) ?_; intro vs wm ho hb _ _; have HS := Aside0.mk ho; have HB := Aside0.mk hb; clear ho hb; obtain ⟨As, cs, rfl⟩ := Kd.R_slice HS.out))
  go_loopw [16] (fun i wr => ∃ (j : Nat) (bs : List Bool), j ≤ n ∧ i = .int .i64 j ∧ Aside0 (Seen L n j bs) ∧ Aside0 (Kd.R Kd.bool 4 wr wz.heap.size (fun k => wz.heap.size ≤ k) (.slice As n cs) bs) ∧ Aside0 (Below wz.heap.size wz wr)) (fun i _ => n - (intOf i).toNat)
  case atStart => exact ⟨0, List.replicate n false, by omega, rfl, ⟨seen_start L n⟩, ⟨by have h := HS.out; simp only [Int.toNat_natCast, List.length_replicate] at h; exact h⟩, HB⟩
  case round =>
    clear HS HB
    obtain ⟨j, bs, hj, rfl, HN, HS, HB⟩ := hrel
    by_cases hlt : j < n
    · have hR := Kd.R_below n4.out HB.out
      obtain ⟨gl, cl', he, g0, _, _⟩ := Kd.R_form hR (by omega)
      injection he with he1 he2 he3
      clear he2
      subst he1
      subst he3
      have hS' := HS.out
      have hbl : bs.length = n := HN.out.1
      have HBL := Aside0.mk hbl
      obtain ⟨gs, cs', he, g1, _, _⟩ := Kd.R_form hS' (by omega)
      injection he with he1 he2 he3
      clear he2
      subst he1
      subst he3
      have G1 := Aside0.mk g1
      obtain ⟨hc, _⟩ := Kd.R_celln 0 hR (j : Int) (by omega) (by omega)
      have hx := HL.out.2.1 j hlt
      have hsn := seen_new HL.out HN.out hlt
      have hst := seen_step HL.out HN.out hlt
      obtain ⟨x, hxe⟩ : ∃ x : Nat, rd L j = x := Int.eq_ofNat_of_zero_le hx.1
      have hxn : x < n := by omega
      rw [hxe] at hsn hst
      have hc' : wr.cell? ⟨gl, j, none⟩ = some (.int .i64 x) := by
        have e : rdOf 0 L (j : Int) = x := hxe
        rw [e] at hc
        exact hc
      obtain ⟨hd, hf⟩ := Kd.R_celln false hS' (x : Int) (by omega) (by omega)
      rw [hsn] at hd
      have hd' : wr.cell? ⟨gs, x, none⟩ = some (.bool false) := hd
      have hf' : wr.frozen? ⟨gs, x, none⟩ = false := hf
      have HP := Aside0.mk (Kd.R_putg hS' (x : Int) true)
      have HT := Aside0.mk hst
      clear hc hd hf hR hx hxe hsn hst hS' hbl g0 g1 HN HS
      go_wp2
      go_roundw
      case rel => exact ⟨j + 1, bs.set x true, by omega, by go_num, HT, ⟨HP.out.1⟩, ⟨below_set HB.out G1.out⟩⟩
      case measure => simp [intOf]; omega
    · have m1 := Aside0.mk (n1.out.below HB.out)
      have m2 := Aside0.mk (n2.out.below HB.out)
      have m3 := Aside0.mk (below_step n3.out HB.out)
      clear n1 n2 n3 n4 HN HS HB hll
      have hz : ∀ x y : Int, (x != x) = false := fun x _ => by simp
      go_wp2_with (first
        | (go_at_call_of 9 (sp ga); (with_reducible refine (Number.any K3 _ _ _ _ _ _ _ m1.out F3.out).mono ?_); rintro e u1 ⟨rfl, k1, k2⟩; have x1 := Aside0.mk k1; have x2 := Aside0.mk (m2.out.other k2 (Ne.symm D.out)); have x3 := Aside0.mk (below_src m3.out A0.out k2); clear m1 m2 m3 k1 k2; have m1 := x1; have m2 := x2; have m3 := x3; clear x1 x2 x3)
        | (go_at_call_of 9 (sp gb); (with_reducible refine (Number.any K3 _ _ _ _ _ _ _ m2.out F3.out).mono ?_); rintro e u2 ⟨rfl, k1, k2⟩; have x1 := Aside0.mk k1; have x2 := Aside0.mk (m1.out.other k2 D.out); have x3 := Aside0.mk (below_src m3.out B0.out k2); clear m1 m2 m3 k1 k2; have m2 := x1; have m1 := x2; have m3 := x3; clear x1 x2 x3)
        | (go_at_call_of 14 (sp ga); (with_reducible refine (Fork.calls _ _ _ _ m1.out).mono ?_); rintro e u3 ⟨gc, rfl, k0, k1, k3, k2⟩; have x1 := Aside0.mk k3; have x2 := Aside0.mk (m2.out.other k2 (Ne.symm D.out)); have x3 := Aside0.mk (below_src m3.out A0.out k2); have m4 := Aside0.mk k1; have C0 := Aside0.mk (Nat.le_trans m3.out.size k0); have C2 := Aside0.mk (show gb ≠ gc by have := m2.out.lt; omega); have C1 := Aside0.mk (show ga ≠ gc by have := m1.out.lt; omega); clear m1 m2 m3 k0 k1 k2 k3; have m1 := x1; have m2 := x2; have m3 := x3; clear x1 x2 x3)
        | (go_at_call_of 14 (sp gb); (with_reducible refine (Fork.calls _ _ _ _ m2.out).mono ?_); rintro e u4 ⟨gd, rfl, k0, k1, k3, k2⟩; have x1 := Aside0.mk k3; have x2 := Aside0.mk (m1.out.other k2 D.out); have x3 := Aside0.mk (below_src m3.out B0.out k2); have x4 := Aside0.mk (m4.out.other k2 (Ne.symm C2.out)); have m5 := Aside0.mk k1; have D0 := Aside0.mk (Nat.le_trans m3.out.size k0); have D2 := Aside0.mk (show gb ≠ gd by have := m2.out.lt; omega); have D1 := Aside0.mk (show ga ≠ gd by have := m1.out.lt; omega); have D3 := Aside0.mk (show gc ≠ gd by have := m4.out.lt; omega); clear m1 m2 m3 m4 k0 k1 k2 k3; have m2 := x1; have m1 := x2; have m3 := x3; have m4 := x4; clear x1 x2 x3 x4)
        | (go_at_call_of 15 (sp gc); (with_reducible refine (Word.calls _ _ _ m4.out).mono ?_); rintro e u5 ⟨rfl, k1, k2⟩; have x1 := Aside0.mk (m1.out.other k2 C1.out); have x2 := Aside0.mk (m2.out.other k2 C2.out); have x3 := Aside0.mk (below_src m3.out C0.out k2); have x5 := Aside0.mk (m5.out.other k2 (Ne.symm D3.out)); clear m1 m2 m3 m4 m5 k1 k2; have m1 := x1; have m2 := x2; have m3 := x3; have m5 := x5; clear x1 x2 x3 x5)
        | (go_at_call_of 15 (sp gd); (with_reducible refine (Word.calls _ _ _ m5.out).mono ?_); rintro e u6 ⟨rfl, k1, k2⟩; have x1 := Aside0.mk (m1.out.other k2 D1.out); have x2 := Aside0.mk (m2.out.other k2 D2.out); have x3 := Aside0.mk (below_src m3.out D0.out k2); clear m1 m2 m3 m5 k1 k2; have m1 := x1; have m2 := x2; have m3 := x3; clear x1 x2 x3)
        | (go_at_call_of 15 (sp ga); (with_reducible refine (Word.calls _ _ _ m1.out).mono ?_); rintro e u7 ⟨rfl, k1, k2⟩; have x2 := Aside0.mk (m2.out.other k2 (Ne.symm D.out)); have x3 := Aside0.mk (below_src m3.out A0.out k2); clear m1 m2 m3 k1 k2; have m2 := x2; have m3 := x3; clear x2 x3)
        | (go_at_call_of 15 (sp gb); (with_reducible refine (Word.calls _ _ _ m2.out).mono ?_); rintro e u8 ⟨rfl, k1, k2⟩; have x3 := Aside0.mk (below_src m3.out B0.out k2); clear m2 m3 k1 k2; have m3 := x3; clear x3)
        | (go_at_call 11; refine (known.calls _).mono ?_; rintro e w4 ⟨rfl, k1⟩; have x3 := Aside0.mk (below_step m3.out k1); clear m3 k1; have m3 := x3; clear x3))
      go_ret
      exact ⟨rfl, m3.out⟩

set_option maxHeartbeats 1000000 in
set_option maxRecDepth 100000 in
theorem again_bad (a lb lim n : Int) (w : World) (hn : n < 0 ∨ 200 < n) :
    Calls Try.prog 4 #[.int .i64 a, .int .i64 lb, .int .i64 lim, .int .i64 n] w fun e w' => e = .returned (.bool true) ∧ Below w.heap.size w w' := by
  by_cases c : n < 0
  all_goals
    go_enter Try.func4, Try.ntmps4
    go_wp2_with (go_at_call 11; refine (known.calls _).mono ?_; rintro e w4 ⟨rfl, k1⟩; have C := Aside0.mk k1; clear k1)
    go_ret
    exact ⟨rfl, C.out⟩

def bandplanlaw03_RandomAgain.f (a0 a1 a2 a3 : Int) : Option Bool := some true
theorem bandplanlaw03_RandomAgain.calls (a0 a1 a2 a3 : Int) (r : Bool) (w : World) (h : bandplanlaw03_RandomAgain.f a0 a1 a2 a3 = some r) :
    Calls Try.prog 4 #[.int .i64 a0, .int .i64 a1, .int .i64 a2, .int .i64 a3] w fun e w' => e = .returned (.bool r) ∧ Below w.heap.size w w' := by
  cases h
  by_cases c : a3 < 0 ∨ 200 < a3
  · exact again_bad a0 a1 a2 a3 w c
  · obtain ⟨n, rfl⟩ := Int.eq_ofNat_of_zero_le (show 0 ≤ a3 by omega)
    exact again_good a0 a1 a2 n w (by omega)
theorem pure_RandomAgain (a0 a1 a2 a3 : Int) : bandplanlaw03_RandomAgain.f a0 a1 a2 a3 = some true := rfl

end Go.Proofs.Ytmioondgjolaoaa.Print
