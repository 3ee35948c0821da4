/- Random: the law RandomShuffles, walked. -/
import Derived.Test.YtmioondgjolaoaaRndD
namespace Go.Proofs.Ytmioondgjolaoaa.Print
open Go.RowKit Go.Proofs.YtmioondgjolaoaaW.PrintWords Go.Proofs.YtmioondgjolaoaaW.PrintLast Go.Proofs.YtmioondgjolaoaaW.PrintMore
set_option linter.unusedVariables false
set_option linter.unusedSimpArgs false

theorem equal_l0 (l : List Int) (hl : (l.length : Int) < 9223372036854775807) : ∀ (d i : Nat), i + d = l.length → Ev (fun k => bandplanlaw03_equal.l0 k l l i) true
  | 0, i, hi => by
    refine ⟨1, fun k hk => ?_⟩
    obtain ⟨m, rfl⟩ : ∃ m, k = m + 1 := ⟨k - 1, by omega⟩
    show bandplanlaw03_equal.l0 (m + 1) l l i = _
    unfold bandplanlaw03_equal.l0
    rw [if_neg (by omega)]
  | d + 1, i, hi => by
    refine Ev.step (fun k => ?_) (equal_l0 l hl d (i + 1) (by omega))
    show bandplanlaw03_equal.l0 (k + 1) l l i = _
    conv => lhs; unfold bandplanlaw03_equal.l0
    rw [if_pos (by omega), if_pos (by omega), if_pos (by omega), if_pos rfl, wrap_small (by omega) (by omega), show (i : Int) + 1 = (i + 1 : Nat) by omega]
theorem equal_self (l : List Int) (hl : (l.length : Int) < 9223372036854775807) : ∃ k, bandplanlaw03_equal.f k l l = some true := by
  obtain ⟨k, hk⟩ := (equal_l0 l hl l.length 0 (by omega)).rounds
  refine ⟨k, ?_⟩
  unfold bandplanlaw03_equal.f
  rw [if_pos rfl]
  exact hk
/-- Two equal rows. -/
theorem equal.calls (l : List Int) (n m : Nat) (hn : l.length = n) (hm : l.length = m) (A B : Option Addr) (c d : Nat) (w : World) (h0 : Kd.C (Kd.int .i64) w A l.length l) (h1 : l.length ≤ c) (h2 : Kd.C (Kd.int .i64) w B l.length l) (h3 : l.length ≤ d) (hl : (l.length : Int) < 9223372036854775807) :
    Calls Try.prog 13 #[.slice A n c, .slice B m d] w fun e w' => e = .returned (.bool true) ∧ Drawn0 w w' := by
  obtain ⟨k, hk⟩ := equal_self l hl
  subst hn
  subst hm
  exact bandplanlaw03_equal.calls k A c l B d l true w h0 h1 h2 h3 hk

theorem ref_l1_one (k1 : Nat) (s : Int) (x : List Int) (i : Int) (n : Nat) (hl : x.length = n) (h0 : 1 ≤ i) (h1 : i < n) (hn : n ≤ 4096) (r : Int × List Int) (h : bandplanref03_Shuffle.l1 (k1 + 1) s x i = some r) :
    ∃ s' v, bandplanref03_Number.f k1 s (i + 1) = some (s', v) ∧ 0 ≤ v ∧ v < i + 1 ∧ bandplanref03_Shuffle.l1 k1 s' (swp x i v) (i - 1) = some r := by
  unfold bandplanref03_Shuffle.l1 at h
  rw [if_pos h0, wrap_small (x := i + 1) (by omega) (by omega)] at h
  obtain ⟨⟨s', v⟩, hf, h⟩ := Option.bind_eq_some_iff.mp h
  have hv : 0 ≤ v ∧ v < i + 1 := by
    have hf' := hf
    unfold bandplanref03_Number.f at hf'
    rw [u64_id (by omega) (by omega), if_neg (by omega)] at hf'
    have := l0_gives (i + 1) _ (by omega) (by omega) _ _ _ _ hf'
    exact ⟨this.1, this.2.1⟩
  simp only at h
  rw [if_pos hv.1, if_pos (by omega), if_pos (by omega), if_pos (by omega), wrap_small (by omega) (by omega)] at h
  exact ⟨s', v, hf, hv.1, hv.2, h⟩
theorem ref_l1_end (k1 : Nat) (s : Int) (x : List Int) (i : Int) (h0 : i ≤ 0) (r : Int × List Int) (h : bandplanref03_Shuffle.l1 (k1 + 1) s x i = some r) : r = (s, x) := by
  unfold bandplanref03_Shuffle.l1 at h
  rw [if_neg (by omega)] at h
  exact (Option.some.inj h).symm

theorem grown_set_new {w w1 : World} {g i : Nat} {row : Option Nat} (h : w.grownBy w1 row) (hg : w.heap.size ≤ g) (u : Value) : w.grownBy (w1.setCell ⟨g, i, Option.none⟩ u) row :=
  ⟨h.os, h.tape, h.output, by simpa [World.setCell] using h.size, fun k hk hne => (Below.heap_setCell w1 ⟨g, i, Option.none⟩ u k (by rintro rfl; exact absurd hk (by simp; omega))).trans (h.block k hk hne)⟩
theorem row_kept {w w1 : World} {base g : Nat} {ok : Nat → Prop} {v : Value} {xs : List Int} (h : Kd.R (Kd.int .i64) 3 w base ok v xs) (hg : w.grownBy w1 (some g)) (hb : g < base) : Kd.R (Kd.int .i64) 3 w1 base ok v xs :=
  Kd.R_mono (Kd.R_grown (Kd.R_bound h) hg (fun k hk => by have := hk.2.1; intro e; cases e; omega)) (fun k hk => hk.1)
def shuf.T18 : Bool × List (List Nat × List Nat) := bandplanref03_Shuffle.T11
def shuf.B18 : List Nat := bandplanref03_Shuffle.B11
theorem shuf.tab18 : rtab .any (opsOf Try.f5 18) = shuf.T18 := by kernel_rfl
theorem shuf.bits18 : waitsOk shuf.T18.2 shuf.B18 = true := by kernel_rfl

set_option maxHeartbeats 8000000 in
set_option maxRecDepth 100000 in
theorem shuffles_good (a : Int) (n : Nat) (w : World) (hn : n ≤ 200) :
    Calls Try.prog 5 #[.int .i64 a, .int .i64 n] w fun e w' => e = .returned (.bool true) ∧ Below w.heap.size w w' := by
  obtain ⟨s', L, p1, p2, p3, q0, q1⟩ := l1_start n (by omega) (IntKind.u64.wrap a) (u64_range _).1 (u64_range _).2
  obtain ⟨K1, P1⟩ := p1.rounds
  obtain ⟨K2, P2⟩ : ∃ k, random_Source_Shuffle.f k (IntKind.u64.wrap a) true n = some (L, 0, s', true) := by
    have e := srcl0_ends n (by omega) (IntKind.u64.wrap a) _ p2 n 0 (by omega)
    refine (Ev.congr (fun k => ?_) e).rounds
    unfold random_Source_Shuffle.f random_Source_none.f
    simp only [Option.bind_some, Bool.not_true]
    rw [if_neg (by decide), if_neg (by omega), if_neg (by omega), if_pos (by omega), if_pos (by omega)]
    simp [rg]
  have F1 := Aside0.mk P1
  have F2 := Aside0.mk P2
  have HL := Aside0.mk p3
  clear p1 p2 P1 P2 p3 q0 q1
  have tok1 : True := trivial
  go_enter Try.func5, Try.ntmps5
  go_upto_region 8 with (first
    | (go_at_call 8; have _t := tok1; refine (New.calls _ _).mono ?_; rintro e w1 ⟨ga, rfl, k1, k2, k3⟩; have A := Aside0.mk k2; have A0 := Aside0.mk k1; have C := Aside0.mk k3; clear k1 k2 k3 tok1 _t)
    | (go_at_call 8; refine (New.calls _ _).mono ?_; rintro e w1' ⟨gb, rfl, k1, k2, k3⟩; have B := Aside0.mk k2; have B0 := Aside0.mk (Nat.le_trans C.out.size k1); have D := Aside0.mk (show ga ≠ gb by have := A.out.lt; omega); have n1 := Aside0.mk (below_step C.out k3); have n2 := Aside0.mk (A.out.below k3); clear k1 k2 k3 A C; have A := n2; have C := n1; clear n1 n2)
    | (go_at_call 12; refine (Shuffle.calls K2 _ _ _ _ _ _ A.out F2.out).mono ?_; rintro e wx ⟨vl, rfl, k1, k2, k3⟩; have BL := Aside0.mk B.out.lt; have n1 := Aside0.mk (below_src C.out A0.out k3); have n3 := Aside0.mk (B.out.other k3 (Ne.symm D.out)); have HR := Aside0.mk k1; have n2 := Aside0.mk k2; clear A B C k1 k2 k3; have A := n2; have C := n1; have B := n3; clear n1 n2 n3))
  obtain ⟨Al, cl, rfl⟩ := Kd.R_slice HR.out
  have HC := Aside0.mk (Kd.R_reads' HR.out)
  have hll := HL.out.1
  go_wp2_with fail
  go_loopw [9, 10] (fun m i wr => ∃ (j : Nat), j ≤ n ∧ i = .int .i64 j ∧ Aside0 (Kd.R (Kd.int .i64) 3 wr wx.heap.size (fun k => wx.heap.size ≤ k) m (rg j)) ∧ Aside0 (Below wx.heap.size wx wr)) (fun _ i _ => n - (intOf i).toNat)
  case atStart => exact ⟨0, by omega, rfl, ⟨Kd.R_nil _ _ _ _ _⟩, ⟨Below.refl _ _⟩⟩
  case round =>
    obtain ⟨j, hj, rfl, HO, HB⟩ := hrel
    by_cases hlt : j < n
    · go_wp2_with (first | ((with_reducible refine gate_builtin (b := .append) (xs := #[.tmp 42, .tmp 44]) rfl ?_); at_builtin; refine Kd.R_append (Kd.int .i64) (w0 := wx) wx.heap.size rfl (.tmp 42) (.tmp 44) 32 3 (.int .i64 0) 8 rfl Try.underlying32 info3 rfl (by decide) (by omega) u9 (rg j) j [.int .i64 j] (fun k => wx.heap.size ≤ k) (fun _ => False) rfl rfl ?aP (fun _ hk => hk.elim) ?aF ?aO ?aB ?aS ?aL ?_; (case aP => exact rfl); (case aB => exact HB.out); (case aF => exact (fun k hk => Nat.le_trans HB.out.size hk)); (case aO => exact HO.out); (case aS => exact HB.out.size); (case aL => rw [rg_length]; omega); intro v125 w5 ho hb hg hat; rw [← rg_succ] at ho; have n0_ := Aside0.mk (hb); have n1_ := Aside0.mk (ho); clear HB; clear HO; have HB := n0_; have HO := n1_; clear n0_ n1_; clear ho hb hg hat))
      go_roundw
      case rel => exact ⟨j + 1, by omega, by go_num, HO, HB⟩
      case measure => simp [intOf]; omega
    · obtain rfl : j = n := by omega
      have G0 := Aside0.mk (grown_of_below HB.out (some gb))
      have n1 := Aside0.mk (B.out.below HB.out)
      have B' := Aside0.mk B.out.lt
      clear B HB
      have B := n1
      clear n1
      rw [wrap_small (by omega) (by omega)] at F1
      go_wp2_with fail
      go_loopg [11] K1 (fun kq v11 w' => ∃ (i st : Int) (x : List Int), v11 = .int .i64 i ∧ Aside0 (bandplanref03_Shuffle.l1 kq st x i = some (s', L)) ∧ Aside0 (kq ≤ K1) ∧ Aside0 (x.length = j ∧ i < j) ∧ Aside0 (Kd.R (Kd.int .i64) 3 w' wx.heap.size (fun k => wx.heap.size ≤ k) u9 x) ∧ Aside0 (Src w' gb st) ∧ Aside0 (wx.grownBy w' (some gb)))
      case atStart => exact ⟨_, _, _, rfl, F1, ⟨Nat.le_refl _⟩, ⟨rg_length _, by omega⟩, HO, B, G0⟩
      case round =>
        clear F1 HO B G0
        have hgx := A.out.lt
        obtain ⟨i, st, x, rfl, F, HK, HI, HO, HS, HG⟩ := hrel
        cases gk with
        | zero => exact absurd F.out (by simp [bandplanref03_Shuffle.l1])
        | succ k1 =>
          have hxl := HI.out.1
          have hij := HI.out.2
          by_cases hlt : 0 < i
          · obtain ⟨st', v, hf, v0, v1, hr⟩ := ref_l1_one k1 st x i j hxl (by omega) hij (by omega) _ F.out
            have F' := Aside0.mk hf
            have F2' := Aside0.mk hr
            have hvi : v ≤ i := by omega
            clear F hf hr v1
            have HX := Aside0.mk hxl
            clear hxl
            go_upto_region 18 with (first | (go_at_call 9; refine (Number.calls k1 _ _ _ _ _ _ HS.out (by omega) (by omega) F'.out).mono ?_; rintro e w2 ⟨rfl, q1, q2⟩; have n1 := Aside0.mk q1; have n2 := Aside0.mk (grown_trans HG.out q2); have n3 := Aside0.mk (Kd.R_mono (ok' := fun k => wx.heap.size ≤ k) (Kd.R_grown (Kd.R_bound HO.out) q2 (fun k hk => by have := hk.1; have := B'.out; intro e; cases e; omega)) (fun k hk => hk.1)); clear HS HG HO q1 q2; have HS := n1; have HG := n2; have HO := n3; clear n1 n2 n3))
            have hiv : i < (x.length : Int) := by rw [HX.out]; exact hij
            have hvv : v < (x.length : Int) := by omega
            have hi1 : 0 ≤ i := by omega
            obtain ⟨go, co, rfl, gb0, _, _⟩ := Kd.R_form HO.out (by omega)
            have HGo := Aside0.mk gb0
            have n1 := Aside0.mk (Kd.R_drew HO.out)
            have n2 := Aside0.mk (show Src w2.drew gb st' from HS.out)
            have n3 := Aside0.mk (grown_drewN HG.out 1)
            clear HO HS HG gb0
            have HO := n1
            have HS := n2
            have HG : Aside0 (wx.grownBy w2.drew (some gb)) := n3
            clear n1 n2 n3
            obtain ⟨hv0, _⟩ := Kd.R_celln 0 HO.out v v0 hvv
            obtain ⟨hi0, hfi⟩ := Kd.R_celln 0 HO.out i hi1 hiv
            have HQ16 := Aside0.mk (Kd.R_putn HO.out i (rd x v))
            have HQ17 := Aside0.mk (Kd.R_putn HQ16.out v (rd x i))
            obtain ⟨hxv, hfv⟩ := Kd.R_celln 0 HQ16.out v v0 hvv
            have q1 := eq_true hiv
            have q2 := eq_true hvv
            have q3 := eq_true hi1
            have q4 := eq_true v0
            refine start_ (n := 16) (S := fun w' => w'.cell? ⟨go, (v).toNat, none⟩ = some (.int .i64 (rd x v)) ∧ w'.cell? ⟨go, (i).toNat, none⟩ = some (.int .i64 (rd x i))) (ds := [13, 15]) #[false, false, false, false, false, false, false, false, false, false, false, false, false, false, false, false] (by kernel_rfl) rfl rfl ⟨hv0, hi0⟩ (fun hHeld => ?_); refine with_tabW shuf.tab18 shuf.bits18 (fun HT_ HW_ => ?_)
            generalize w2.drew = w14 at HO HS HG HQ16 HQ17 hfi hfv hv0 hi0 hxv hHeld ⊢
            refine pure_ (i := 0) (N := some 70) (v := ?_) (a' := ?_) #[true, false, false, false, false, false, false, false, false, false, false, false, false, false, false, false] rfl rfl (any_of HT_.out (by kernel_rfl)) (fun _ _ _ h => h) (Or.inl ⟨by rfl, ?_⟩) ?_ ?_
            rotate_left
            · intro w'
              go_simp
              with_reducible rfl
            rotate_left
            · simp only [Act.put, List.setIfInBounds_toArray, List.set_cons_zero, List.set_cons_succ, i64_w, i32_w]
              rfl
            refine pure_ (i := 1) (N := some 71) (v := ?_) (a' := ?_) #[true, true, false, false, false, false, false, false, false, false, false, false, false, false, false, false] rfl rfl (any_of HT_.out (by kernel_rfl)) (fun _ _ _ h => h) (Or.inl ⟨by rfl, ?_⟩) ?_ ?_
            rotate_left
            · intro w'
              go_simp
              with_reducible rfl
            rotate_left
            · simp only [Act.put, List.setIfInBounds_toArray, List.set_cons_zero, List.set_cons_succ, i64_w, i32_w]
              rfl
            refine pure_ (i := 2) (N := some 72) (v := ?_) (a' := ?_) #[true, true, true, false, false, false, false, false, false, false, false, false, false, false, false, false] rfl rfl (any_of HT_.out (by kernel_rfl)) (fun _ _ _ h => h) (Or.inl ⟨by rfl, ?_⟩) ?_ ?_
            rotate_left
            · intro w'
              go_simp
              with_reducible rfl
            rotate_left
            · simp only [Act.put, List.setIfInBounds_toArray, List.set_cons_zero, List.set_cons_succ, i64_w, i32_w]
              rfl
            refine pure_ (i := 3) (N := some 73) (v := ?_) (a' := ?_) #[true, true, true, true, false, false, false, false, false, false, false, false, false, false, false, false] rfl rfl (any_of HT_.out (by kernel_rfl)) (fun _ _ _ h => h) (Or.inl ⟨by rfl, ?_⟩) ?_ ?_
            rotate_left
            · intro w'
              go_simp
              with_reducible rfl
            rotate_left
            · simp only [Act.put, List.setIfInBounds_toArray, List.set_cons_zero, List.set_cons_succ, i64_w, i32_w]
              rfl
            refine pure_ (i := 4) (N := some 74) (v := ?_) (a' := ?_) #[true, true, true, true, true, false, false, false, false, false, false, false, false, false, false, false] rfl rfl (any_of HT_.out (by kernel_rfl)) (fun _ _ _ h => h) (Or.inl ⟨by rfl, ?_⟩) ?_ ?_
            rotate_left
            · intro w'
              go_simp
              with_reducible rfl
            rotate_left
            · simp only [Act.put, List.setIfInBounds_toArray, List.set_cons_zero, List.set_cons_succ, i64_w, i32_w]
              rfl
            refine pure_ (i := 5) (N := some 75) (v := ?_) (a' := ?_) #[true, true, true, true, true, true, false, false, false, false, false, false, false, false, false, false] rfl rfl (any_of HT_.out (by kernel_rfl)) (fun _ _ _ h => h) (Or.inl ⟨by rfl, ?_⟩) ?_ ?_
            rotate_left
            · intro w'
              go_simp
              with_reducible rfl
            rotate_left
            · simp only [Act.put, List.setIfInBounds_toArray, List.set_cons_zero, List.set_cons_succ, i64_w, i32_w]
              rfl
            refine pure_ (i := 6) (N := some 76) (v := ?_) (a' := ?_) #[true, true, true, true, true, true, true, false, false, false, false, false, false, false, false, false] rfl rfl (any_of HT_.out (by kernel_rfl)) (fun _ _ _ h => h) (Or.inl ⟨by rfl, ?_⟩) ?_ ?_
            rotate_left
            · intro w'
              go_simp
              with_reducible rfl
            rotate_left
            · simp only [Act.put, List.setIfInBounds_toArray, List.set_cons_zero, List.set_cons_succ, i64_w, i32_w]
              rfl
            refine pure_ (i := 8) (N := some 78) (v := ?_) (a' := ?_) #[true, true, true, true, true, true, true, false, true, false, false, false, false, false, false, false] rfl rfl (any_of HT_.out (by kernel_rfl)) (fun _ _ _ h => h) (Or.inl ⟨by rfl, ?_⟩) ?_ ?_
            rotate_left
            · intro w'
              go_simp
              with_reducible rfl
            rotate_left
            · simp only [Act.put, List.setIfInBounds_toArray, List.set_cons_zero, List.set_cons_succ, i64_w, i32_w]
              rfl
            refine pure_ (i := 9) (N := some 79) (v := ?_) (a' := ?_) #[true, true, true, true, true, true, true, false, true, true, false, false, false, false, false, false] rfl rfl (any_of HT_.out (by kernel_rfl)) (fun _ _ _ h => h) (Or.inl ⟨by rfl, ?_⟩) ?_ ?_
            rotate_left
            · intro w'
              go_simp
              with_reducible rfl
            rotate_left
            · simp only [Act.put, List.setIfInBounds_toArray, List.set_cons_zero, List.set_cons_succ, i64_w, i32_w]
              rfl
            refine pure_ (i := 10) (N := some 80) (v := ?_) (a' := ?_) #[true, true, true, true, true, true, true, false, true, true, true, false, false, false, false, false] rfl rfl (any_of HT_.out (by kernel_rfl)) (fun _ _ _ h => h) (Or.inl ⟨by rfl, ?_⟩) ?_ ?_
            rotate_left
            · intro w'
              go_simp
              with_reducible rfl
            rotate_left
            · simp only [Act.put, List.setIfInBounds_toArray, List.set_cons_zero, List.set_cons_succ, i64_w, i32_w]
              rfl
            refine take_ (i := 7) (N := some 77) (v := ?_) (a' := ?_) #[true, true, true, true, true, true, true, true, true, true, true, false, false, false, false, false] rfl rfl (take_ofW HT_.out HW_.out (by kernel_rfl)) (fun _ _ _ h => h) (Or.inl ⟨by rfl, ?_⟩) hHeld ?_ ?_
            rotate_left
            · rintro w' ⟨s0, s1⟩
              go_simp
              with_reducible rfl
            rotate_left
            · simp only [Act.put, List.setIfInBounds_toArray, List.set_cons_zero, List.set_cons_succ, i64_w, i32_w]
              rfl
            refine take_ (i := 11) (N := some 81) (v := ?_) (a' := ?_) #[true, true, true, true, true, true, true, true, true, true, true, true, false, false, false, false] rfl rfl (take_ofW HT_.out HW_.out (by kernel_rfl)) (fun _ _ _ h => h) (Or.inl ⟨by rfl, ?_⟩) hHeld ?_ ?_
            rotate_left
            · rintro w' ⟨s0, s1⟩
              go_simp
              with_reducible rfl
            rotate_left
            · simp only [Act.put, List.setIfInBounds_toArray, List.set_cons_zero, List.set_cons_succ, i64_w, i32_w]
              rfl
            refine pure_ (i := 12) (N := some 82) (v := ?_) (a' := ?_) #[true, true, true, true, true, true, true, true, true, true, true, true, true, false, false, false] rfl rfl (any_of HT_.out (by kernel_rfl)) (fun _ _ _ h => h) (Or.inl ⟨by rfl, ?_⟩) ?_ ?_
            rotate_left
            · intro w'
              go_simp
              with_reducible rfl
            rotate_left
            · simp only [Act.put, List.setIfInBounds_toArray, List.set_cons_zero, List.set_cons_succ, i64_w, i32_w]
              rfl
            refine last_ (i := 13) (N := none) #[true, true, true, true, true, true, true, true, true, true, true, true, true, true, false, false] rfl rfl (one_of HT_.out (by kernel_rfl)) (by decide) (fun K hK => ?_)
            refine skip_ (w1 := ?_) (by rfl) rfl ?_ ?_
            rotate_left
            · go_simp
              rfl
            refine hK.out _ _ ?_
            clear hK K
            refine pure_ (i := 14) (N := some 83) (v := ?_) (a' := ?_) #[true, true, true, true, true, true, true, true, true, true, true, true, true, true, true, false] rfl rfl (any_of HT_.out (by kernel_rfl)) (fun _ _ _ h => h) (Or.inl ⟨by rfl, ?_⟩) ?_ ?_
            rotate_left
            · intro w'
              go_simp
              with_reducible rfl
            rotate_left
            · simp only [Act.put, List.setIfInBounds_toArray, List.set_cons_zero, List.set_cons_succ, i64_w, i32_w]
              rfl
            refine last_ (i := 15) (N := none) #[true, true, true, true, true, true, true, true, true, true, true, true, true, true, true, true] rfl rfl (one_of HT_.out (by kernel_rfl)) (by decide) (fun K hK => ?_)
            refine skip_ (w1 := ?_) (by rfl) rfl ?_ ?_
            rotate_left
            · go_simp
              rfl
            refine hK.out _ _ ?_
            clear hK K
            refine done_ (done_of HT_.out (by kernel_rfl)) ?_
            go_wp2
            go_roundg k1
            case measure => have := HK.out; omega
            case rel => exact ⟨i - 1, st', swp x i v, by go_num, F2', ⟨by have := HK.out; omega⟩, ⟨by rw [swp_length]; exact HX.out, by omega⟩, HQ17, ⟨HS.out.grown (grown_set (g := go) (grown_set (g := go) (grown_refl _ _) _) _) (by have := B'.out; have := HGo.out; intro e; cases e; omega)⟩, ⟨grown_set_new (grown_set_new HG.out HGo.out _) HGo.out _⟩⟩
          · have hF := ref_l1_end k1 st x i (by omega) _ F.out
            cases hF
            obtain ⟨Am, cm, rfl⟩ := Kd.R_slice HO.out
            have HM := Aside0.mk (Kd.R_reads' HO.out)
            have A2 := Aside0.mk (A.out.other HG.out D.out)
            have HC2 := Aside0.mk (Kd.R_reads' (row_kept HR.out HG.out BL.out))
            have HCs := Aside0.mk (below_src C.out B0.out HG.out)
            have HLj := Aside0.mk (show L.length = j from HL.out.1)
            have HLb := Aside0.mk (show (L.length : Int) < 9223372036854775807 by have := HL.out.1; omega)
            clear F HI HO hll hxl hij
            go_wp2_with (first
              | (go_at_call 13; (with_reducible refine (equal.calls L _ _ HLj.out rfl _ _ _ _ _ HC2.out.2.2 HC2.out.2.1 HM.out.2.2 HM.out.2.1 HLb.out).mono ?_); rintro e w3 ⟨rfl, ⟨nd, rfl⟩⟩)
              | (go_at_call_of 15 (sp ga); refine (Word.calls _ _ _ (A2.out.drewN _)).mono ?_; rintro e w4 ⟨rfl, q1, q2⟩; have n1 := Aside0.mk (Src.other (HS.out.drewN _) q2 (Ne.symm D.out)); have n2 := Aside0.mk (below_src (pw_below_drewN HCs.out _) A0.out q2); clear A2 HS HCs q1 q2; have HS := n1; have HCs := n2; clear n1 n2)
              | (go_at_call_of 15 (sp gb); refine (Word.calls _ _ _ HS.out).mono ?_; rintro e w5 ⟨rfl, q1, q2⟩; have n2 := Aside0.mk (below_src HCs.out B0.out q2); clear HS HCs q1 q2; have HCs := n2; clear n2)
              | (go_at_call 11; refine (known.calls _).mono ?_; rintro e w6 ⟨rfl, k1⟩; have n2 := Aside0.mk (below_step HCs.out k1); clear HCs k1; have HCs := n2; clear n2))
            go_ret
            exact ⟨rfl, HCs.out⟩

set_option maxHeartbeats 1000000 in
theorem shuffles_bad (a n : Int) (w : World) (hn : n < 0 ∨ 200 < n) :
    Calls Try.prog 5 #[.int .i64 a, .int .i64 n] w fun e w' => e = .returned (.bool true) ∧ Below w.heap.size w w' := by
  by_cases c : n < 0
  all_goals
    go_enter Try.func5, Try.ntmps5
    go_wp2_with (go_at_call 11; refine (known.calls _).mono ?_; rintro e w4 ⟨rfl, k1⟩; have C := Aside0.mk k1; clear k1)
    go_ret
    exact ⟨rfl, C.out⟩

def bandplanlaw03_RandomShuffles.f (a0 a1 : Int) : Option Bool := some true
theorem bandplanlaw03_RandomShuffles.calls (a0 a1 : Int) (r : Bool) (w : World) (h : bandplanlaw03_RandomShuffles.f a0 a1 = some r) :
    Calls Try.prog 5 #[.int .i64 a0, .int .i64 a1] w fun e w' => e = .returned (.bool r) ∧ Below w.heap.size w w' := by
  cases h
  by_cases c : a1 < 0 ∨ 200 < a1
  · exact shuffles_bad a0 a1 w c
  · obtain ⟨n, rfl⟩ := Int.eq_ofNat_of_zero_le (show 0 ≤ a1 by omega)
    exact shuffles_good a0 n w (by omega)
theorem pure_RandomShuffles (a0 a1 : Int) : bandplanlaw03_RandomShuffles.f a0 a1 = some true := rfl

end Go.Proofs.Ytmioondgjolaoaa.Print
