/- Random: bits.Div64 of 2^64 by a number up to 2^62: the remainder. -/
import Derived.Test.YtmioondgjolaoaaPrint1
import Derived.Test.YtmioondgjolaoaaShelf
import Derived.Test.YtmioondgjolaoaaDivP
import Derived.Outline
import Derived.Lib.ItoaNum
import Derived.Laws.BitsAllLaws
namespace Go.Proofs.Ytmioondgjolaoaa.Print
open Go.RowKit Go.Proofs.YtmioondgjolaoaaW.PrintWords Go.Proofs.YtmioondgjolaoaaW.PrintLast Go.Proofs.YtmioondgjolaoaaW.PrintMore
open Go.Proofs.Ytmioondgjolaoaa.DivP
set_option linter.unusedVariables false
set_option linter.unusedSimpArgs false

set_option maxHeartbeats 1000000 in
set_option maxRecDepth 100000 in
theorem Div64.one (w : World) :
    Calls Try.prog 21 #[.int .u64 0, .int .u64 0, .int .u64 1] w fun e w' => e = .returned (.tuple #[.int .u64 0, .int .u64 0]) ∧ Drawn0 w w' := by
  go_enter Try.func21, Try.ntmps21
  go_wp2
  go_quiet (fail)
  go_wp2
  go_ret2
  exact ⟨rfl, by repeat (first | exact Drawn0.refl _ | apply Drawn0.step)⟩

theorem u64_id {n : Int} (h0 : 0 ≤ n) (h1 : n < 18446744073709551616) : IntKind.u64.wrap n = n := by rw [IntKind.wrap_u64]; exact Int.emod_eq_of_lt h0 h1

theorem digit {A B V : Int} (a0 : 2147483648 ≤ A) (a1 : A ≤ 4294967295) (b0 : 0 ≤ B) (b1 : B ≤ 4294967295) (v0 : 0 ≤ V) (v1 : V < A * 4294967296 + B) :
    ∃ Q R : Int, IntKind.u64.wrap (V.tdiv A) = Q ∧ IntKind.u64.wrap (V - IntKind.u64.wrap (Q * A)) = R ∧ Inv A B V Q R := by
  have hi := inv_start a0 a1 b0 b1 v0 v1
  have e1 : IntKind.u64.wrap (V.tdiv A) = V / A := by
    rw [Int.tdiv_eq_ediv_of_nonneg v0]
    exact u64_id hi.1 (by have := hi.2.1; omega)
  have hle : V / A * A ≤ V := Int.ediv_mul_le V (by omega)
  have h0 : 0 ≤ V / A * A := Int.mul_nonneg hi.1 (by omega)
  refine ⟨V / A, V - V / A * A, e1, ?_, hi⟩
  rw [u64_id (n := V / A * A) h0 (by omega), u64_id (by omega) (by omega)]

theorem leaves {A B U q Y : Int} (hY : Y = A * 4294967296 + B) (a0 : 2147483648 ≤ A) (a1 : A ≤ 4294967295) (b0 : 0 ≤ B) (b1 : B ≤ 4294967295) (h : Quot A B U q) :
    ∃ V : Int, IntKind.u64.wrap (IntKind.u64.wrap (IntKind.u64.wrap (U * 4294967296)) - IntKind.u64.wrap (q * Y)) = V ∧ 0 ≤ V ∧ V < A * 4294967296 + B ∧ V = U * 4294967296 % Y := by
  have hl := quot_left h
  refine ⟨_, ?_, hl.1, hl.2, ?_⟩
  · rw [IntKind.wrap_u64, IntKind.wrap_u64, IntKind.wrap_u64, IntKind.wrap_u64, Int.emod_emod_of_dvd _ (Int.dvd_refl _), hY]
    exact quot_wrap a0 a1 b0 b1 h
  · rw [hY, ← quot_mod h]
    exact (Int.emod_eq_of_lt hl.1 hl.2).symm

set_option maxHeartbeats 4000000 in
set_option maxRecDepth 100000 in
theorem Div64.walk (y : Int) (s : Nat) (w : World) (h0 : 2 ≤ y) (h1 : y ≤ 4611686018427387904) (HS : Aside0 ((64 : Int) - Lib.bitLen y.toNat = (s : Int))) (s0 : 1 ≤ s) (s1 : s ≤ 62)
    (Y A B U Q R : Int) (eY : IntKind.u64.wrap (y * 2 ^ s) = Y) (eA : Y / 4294967296 = A) (eB : Go.bits .and .u64 Y 4294967295 = B)
    (a0 : 2147483648 ≤ A) (a1 : A ≤ 4294967295) (b0 : 0 ≤ B) (b1 : B ≤ 4294967295) (hY : Aside0 (Y = A * 4294967296 + B)) (hy2 : Aside0 (Y = y * 2 ^ s)) (hu : Aside0 (0 ≤ U ∧ U < A * 4294967296 + B ∧ U = 2 ^ s))
    (eU : Go.bits .or .u64 (IntKind.u64.wrap (2 ^ s)) 0 = U) (eQ : IntKind.u64.wrap (U.tdiv A) = Q) (eR : IntKind.u64.wrap (U - IntKind.u64.wrap (Q * A)) = R) (hI : Aside0 (Inv A B U Q R)) :
    Calls Try.prog 21 #[.int .u64 1, .int .u64 0, .int .u64 y] w fun e w' => ∃ q, e = .returned (.tuple #[.int .u64 q, .int .u64 (18446744073709551616 % y)]) ∧ w' = w := by
  have eZ : Go.bits .and .u64 0 4294967295 = 0 := by decide +kernel
  have hA0 : (A == 0) = false := by rw [beq_eq_false_iff_ne]; omega
  go_enter Try.func21, Try.ntmps21
  go_upto_block 0 with (go_at_call 27; refine (Try.bits_LeadingZeros64 _ _ (by omega) (by omega)).mono ?_; rintro e w' ⟨rfl, rfl⟩; rw [HS.out])
  go_cut [15] (fun q wx => ∃ q1 : Int, q = .int .u64 q1 ∧ Aside0 (Quot A B U q1) ∧ w' = wx)
  case first =>
    clear eY eA eB eU eZ eR eQ
    go_wp2_with fail
    go_loop [15, 16] (fun q r => ∃ q1 r1 : Int, q = .int .u64 q1 ∧ r = .int .u64 r1 ∧ Aside0 (Inv A B U q1 r1)) (fun q _ => (intOf q).toNat)
    case atStart => exact ⟨_, _, rfl, rfl, hI⟩
    case round =>
      obtain ⟨q1, r1, rfl, rfl, HI⟩ := hrel
      have i0 := HI.out.1
      have i1 := HI.out.2.1
      have i2 := HI.out.2.2.1
      have i3 := HI.out.2.2.2.1
      have u0 := hu.out.1
      have u1 := hu.out.2.1
      have er1 : IntKind.u64.wrap (r1 + A) = r1 + A := u64_id (by omega) (by omega)
      have G := fun hg => over a0 b0 u0 u1 HI.out hg
      by_cases g1 : 4294967296 ≤ q1
      · have eq1 : IntKind.u64.wrap (q1 - 1) = q1 - 1 := u64_id (by omega) (by omega)
        clear G u1
        go_wp2
        · go_meet
          exact ⟨_, rfl, ⟨inv_break a0 b0 b1 u0 hu.out.2.1 HI.out (.inl g1) (by omega)⟩, rfl⟩
        · go_round
          case rel => exact ⟨_, _, rfl, rfl, ⟨inv_step a0 b0 u0 hu.out.2.1 HI.out (.inl g1) (by omega)⟩⟩
          case measure => simp [intOf]; omega
      · obtain ⟨m, hm⟩ : ∃ m, q1 * B = m := ⟨_, rfl⟩
        have hm0 : 0 ≤ m := by rw [← hm]; exact Int.mul_nonneg i0 b0
        have hm1 : m ≤ 4294967295 * 4294967295 := by rw [← hm]; exact Int.mul_le_mul (by omega) b1 b0 (by omega)
        have em : IntKind.u64.wrap (q1 * B) = m := by rw [hm]; exact u64_id hm0 (by omega)
        have HM := Aside0.mk hm
        by_cases g2 : 4294967296 * r1 < m
        · have hq1 : 1 ≤ q1 := (G (.inr (by rw [hm]; exact g2))).2
          have eq1 : IntKind.u64.wrap (q1 - 1) = q1 - 1 := u64_id (by omega) (by omega)
          clear G u1 hm
          go_wp2
          · go_meet
            exact ⟨_, rfl, ⟨inv_break a0 b0 b1 u0 hu.out.2.1 HI.out (.inr (by rw [HM.out]; exact g2)) (by omega)⟩, rfl⟩
          · go_round
            case rel => exact ⟨_, _, rfl, rfl, ⟨inv_step a0 b0 u0 hu.out.2.1 HI.out (.inr (by rw [HM.out]; exact g2)) (by omega)⟩⟩
            case measure => simp [intOf]; omega
        · clear G u1 hm
          go_wp2
          go_meet
          exact ⟨_, rfl, ⟨inv_stop HI.out (by omega) (by rw [HM.out]; omega)⟩, rfl⟩
  case rest =>
    obtain ⟨q1, rfl, HQ, rfl⟩ := hcut
    obtain ⟨V, eV, hV⟩ := leaves hY.out a0 a1 b0 b1 HQ.out
    obtain ⟨Q2, R2, eQ2, eR2, HI2⟩ := digit a0 a1 b0 b1 hV.1 hV.2.1
    have HV := Aside0.mk hV
    have hI2 := Aside0.mk HI2
    clear hV HI2 HQ hI eY eA eB eU eQ eR
    go_upto_block 2 with fail
    go_cut [18] (fun q wx => ∃ q1 : Int, q = .int .u64 q1 ∧ Aside0 (Quot A B V q1) ∧ w' = wx)
    case first =>
      clear eV eQ2 eR2
      go_wp2_with fail
      go_loop [18, 16] (fun q r => ∃ q1 r1 : Int, q = .int .u64 q1 ∧ r = .int .u64 r1 ∧ Aside0 (Inv A B V q1 r1)) (fun q _ => (intOf q).toNat)
      case atStart => exact ⟨_, _, rfl, rfl, hI2⟩
      case round =>
        obtain ⟨q1, r1, rfl, rfl, HI⟩ := hrel
        have i0 := HI.out.1
        have i1 := HI.out.2.1
        have i2 := HI.out.2.2.1
        have i3 := HI.out.2.2.2.1
        have u0 := HV.out.1
        have u1 := HV.out.2.1
        have er1 : IntKind.u64.wrap (r1 + A) = r1 + A := u64_id (by omega) (by omega)
        have G := fun hg => over a0 b0 u0 u1 HI.out hg
        by_cases g1 : 4294967296 ≤ q1
        · have eq1 : IntKind.u64.wrap (q1 - 1) = q1 - 1 := u64_id (by omega) (by omega)
          clear G u1
          go_wp2
          · go_meet
            exact ⟨_, rfl, ⟨inv_break a0 b0 b1 u0 HV.out.2.1 HI.out (.inl g1) (by omega)⟩, rfl⟩
          · go_round
            case rel => exact ⟨_, _, rfl, rfl, ⟨inv_step a0 b0 u0 HV.out.2.1 HI.out (.inl g1) (by omega)⟩⟩
            case measure => simp [intOf]; omega
        · obtain ⟨m, hm⟩ : ∃ m, q1 * B = m := ⟨_, rfl⟩
          have hm0 : 0 ≤ m := by rw [← hm]; exact Int.mul_nonneg i0 b0
          have hm1 : m ≤ 4294967295 * 4294967295 := by rw [← hm]; exact Int.mul_le_mul (by omega) b1 b0 (by omega)
          have em : IntKind.u64.wrap (q1 * B) = m := by rw [hm]; exact u64_id hm0 (by omega)
          have HM := Aside0.mk hm
          by_cases g2 : 4294967296 * r1 < m
          · have hq1 : 1 ≤ q1 := (G (.inr (by rw [hm]; exact g2))).2
            have eq1 : IntKind.u64.wrap (q1 - 1) = q1 - 1 := u64_id (by omega) (by omega)
            clear G u1 hm
            go_wp2
            · go_meet
              exact ⟨_, rfl, ⟨inv_break a0 b0 b1 u0 HV.out.2.1 HI.out (.inr (by rw [HM.out]; exact g2)) (by omega)⟩, rfl⟩
            · go_round
              case rel => exact ⟨_, _, rfl, rfl, ⟨inv_step a0 b0 u0 HV.out.2.1 HI.out (.inr (by rw [HM.out]; exact g2)) (by omega)⟩⟩
              case measure => simp [intOf]; omega
          · clear G u1 hm
            go_wp2
            go_meet
            exact ⟨_, rfl, ⟨inv_stop HI.out (by omega) (by rw [HM.out]; omega)⟩, rfl⟩
    case rest =>
      clear eV eQ2 eR2 hI2
      obtain ⟨q2, rfl, HQ2, rfl⟩ := hcut
      obtain ⟨r, er, hr⟩ := leaves hY.out a0 a1 b0 b1 HQ2.out
      have HR := Aside0.mk (all_ y s (by omega) Y V r hy2.out (by rw [HV.out.2.2, hu.out.2.2]) hr.2.2)
      have hr0 := hr.1
      clear hr
      go_wp2
      go_ret2
      exact ⟨IntKind.u64.wrap (IntKind.u64.wrap (q1 * 4294967296) + q2), by rw [← HR.out]; rfl, rfl⟩

theorem u64_mask32 (n : Nat) (h : n < 18446744073709551616) : Go.bits .and .u64 (n : Int) 4294967295 = (n : Int) % 4294967296 := by
  have e := u64_and_nat n 4294967295 h (by omega)
  have e2 : n &&& 4294967295 = n % 4294967296 := Nat.and_two_pow_sub_one_eq_mod n 32
  exact e.trans (by rw [e2]; omega)
theorem u64_or0 (n : Nat) (h : n < 18446744073709551616) : Go.bits .or .u64 (n : Int) 0 = (n : Int) := by
  have e := u64_or_nat n 0 h (by omega)
  exact e.trans (by rw [Nat.or_zero])

theorem Div64.more (y : Int) (w : World) (h0 : 2 ≤ y) (h1 : y ≤ 4611686018427387904) :
    Calls Try.prog 21 #[.int .u64 1, .int .u64 0, .int .u64 y] w fun e w' => ∃ q, e = .returned (.tuple #[.int .u64 q, .int .u64 (18446744073709551616 % y)]) ∧ w' = w := by
  have hb := Lib.bitLenAux_bounds 64 y.toNat (by omega) (by omega)
  have hl := Lib.bitLen_le y.toNat 63 (by omega) (by omega)
  obtain ⟨L, hL⟩ : ∃ L, Lib.bitLen y.toNat = L := ⟨_, rfl⟩
  have hL2 : 2 ≤ L := by
    rcases Nat.lt_or_ge L 2 with c | c
    · exfalso
      have h3 : y.toNat < 2 ^ L := by rw [← hL]; exact hb.2.2
      have : 2 ^ L ≤ 2 ^ 1 := Nat.pow_le_pow_right (by omega) (by omega)
      omega
    · exact c
  have hb1 : 2 ^ (L - 1) ≤ y.toNat := by rw [← hL]; exact hb.2.1
  have hb2 : y.toNat < 2 ^ L := by rw [← hL]; exact hb.2.2
  rw [hL] at hl
  clear hb
  obtain ⟨s, hs⟩ : ∃ s, L = 64 - s ∧ s ≤ 64 := ⟨64 - L, by omega, by omega⟩
  obtain ⟨hLs, hs⟩ := hs
  obtain ⟨n, rfl⟩ := Int.eq_ofNat_of_zero_le (show 0 ≤ y by omega)
  rw [Int.toNat_natCast] at hb1 hb2 hL
  have p1 : 2 ^ (L - 1) * 2 ^ s = 2 ^ 63 := by rw [← Nat.pow_add]; congr 1; omega
  have p2 : 2 ^ L * 2 ^ s = 2 ^ 64 := by rw [← Nat.pow_add]; congr 1; omega
  have q1 : 2 ^ 63 ≤ n * 2 ^ s := by rw [← p1]; exact Nat.mul_le_mul_right _ hb1
  have q2 : n * 2 ^ s < 2 ^ 64 := by rw [← p2]; exact Nat.mul_lt_mul_of_pos_right hb2 (Nat.pow_pos (by omega))
  obtain ⟨Y, hY⟩ : ∃ Y, n * 2 ^ s = Y := ⟨_, rfl⟩
  have s62 : 2 ^ s ≤ 2 ^ 62 := Nat.pow_le_pow_right (by omega) (by omega)
  have s0 : 0 < 2 ^ s := Nat.pow_pos (by omega)
  obtain ⟨S, hS⟩ : ∃ S, 2 ^ s = S := ⟨_, rfl⟩
  have hSI : (2 : Int) ^ s = (S : Int) := by rw [← hS]; push_cast; rfl
  have hYI : (n : Int) * 2 ^ s = (Y : Int) := by rw [hSI, ← hY, hS]; push_cast; rfl
  rw [hY] at q1 q2
  rw [hS] at s62 s0
  clear p1 p2 hb1 hb2
  obtain ⟨Q, R, eQ, eR, hI⟩ := digit (A := (Y : Int) / 4294967296) (B := (Y : Int) % 4294967296) (V := (S : Int)) (by omega) (by omega) (by omega) (by omega) (by omega) (by omega)
  exact Div64.walk n s w h0 h1 ⟨by rw [Int.toNat_natCast, hL]; omega⟩ (by omega) (by omega) Y ((Y : Int) / 4294967296) ((Y : Int) % 4294967296) S Q R
    (by rw [hYI]; exact u64_id (by omega) (by omega)) rfl (u64_mask32 Y (by omega)) (by omega) (by omega) (by omega) (by omega) ⟨by omega⟩ ⟨hYI.symm⟩ ⟨by omega, by omega, hSI.symm⟩
    (by rw [hSI, u64_id (by omega) (by omega)]; exact u64_or0 S (by omega)) eQ eR ⟨hI⟩

theorem Div64.calls (y : Int) (w : World) (h0 : 1 ≤ y) (h1 : y ≤ 4611686018427387904) :
    Calls Try.prog 21 #[.int .u64 (1 % y), .int .u64 0, .int .u64 y] w fun e w' => ∃ q, e = .returned (.tuple #[.int .u64 q, .int .u64 (18446744073709551616 % y)]) ∧ Drawn0 w w' := by
  by_cases c : y = 1
  · subst c
    refine (Div64.one w).mono ?_
    rintro e w' ⟨rfl, hd⟩
    exact ⟨0, rfl, hd⟩
  · rw [show (1 : Int) % y = 1 from Int.emod_eq_of_lt (by omega) (by omega)]
    refine (Div64.more y w (by omega) h1).mono ?_
    rintro e w' ⟨q, rfl, rfl⟩
    exact ⟨q, rfl, Drawn0.refl _⟩

end Go.Proofs.Ytmioondgjolaoaa.Print
