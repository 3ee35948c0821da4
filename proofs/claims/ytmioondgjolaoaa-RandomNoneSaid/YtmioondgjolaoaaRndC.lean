/- Random: Shuffle in the form of the source's block, and the examples of the chapter. -/
import Derived.Test.YtmioondgjolaoaaPureA
import Derived.Outline
namespace Go.Proofs.Ytmioondgjolaoaa.Print
open Go.RowKit Go.Proofs.YtmioondgjolaoaaW.PrintWords Go.Proofs.YtmioondgjolaoaaW.PrintLast Go.Proofs.YtmioondgjolaoaaW.PrintMore
set_option linter.unusedVariables false
set_option linter.unusedSimpArgs false

def bare (w : World) : World := { w with heap := #[] }
theorem bare_below (w : World) : Below (bare w).heap.size (bare w) w := ⟨rfl, rfl, rfl, Nat.zero_le _, fun i hi => absurd hi (Nat.not_lt_zero _)⟩
theorem Shuffle.all (k g : Nat) (s : Int) (b : Bool) (n : Int) (l : List Int) (e s' : Int) (b' : Bool) (w : World) (h : IsS48 (bare w) w g s b) (hf : random_Source_Shuffle.f k s b n = some (l, e, s', b')) :
    Calls Try.prog 12 #[sp g, .int .i64 n] w fun r w' => ∃ v : Value, r = .returned (.tuple #[v, .int .i64 e]) ∧ Kd.R (Kd.int .i64) 3 w' w.heap.size (fun _ => True) v l ∧ IsS48 (bare w) w' g s' b' ∧ w.grownBy w' (some g) := by
  refine (random_Source_Shuffle.calls k g s b n l e s' b' (bare w) w h (bare_below w) hf).mono ?_
  rintro r w' ⟨v, rfl, h1, h2, h3, h4⟩
  exact ⟨v, rfl, h1, h2, grown_keep (bare_below w) h3 h4⟩
theorem Shuffle.calls (k g : Nat) (s n : Int) (l : List Int) (s' : Int) (w : World) (h : Src w g s) (hf : random_Source_Shuffle.f k s true n = some (l, 0, s', true)) :
    Calls Try.prog 12 #[sp g, .int .i64 n] w fun r w' => ∃ v : Value, r = .returned (.tuple #[v, .int .i64 0]) ∧ Kd.R (Kd.int .i64) 3 w' w.heap.size (fun _ => True) v l ∧ Src w' g s' ∧ w.grownBy w' (some g) :=
  (Shuffle.all k g s true n l 0 s' true w ⟨h, Nat.zero_le _⟩ hf).mono fun _ _ ⟨v, h1, h2, h3, h4⟩ => ⟨v, h1, h2, h3.1, h4⟩
theorem shuffle_arg (k : Nat) (s n : Int) (h : n < 0 ∨ 4096 < n) : random_Source_Shuffle.f k s true n = some ([], 2, s, true) := by
  unfold random_Source_Shuffle.f random_Source_none.f
  simp only [Option.bind_some, Bool.not_true]
  rw [if_neg (by decide)]
  by_cases c : n < 0
  · rw [if_pos c]
  · rw [if_neg c, if_pos (by omega)]
theorem Shuffle.arg (g : Nat) (s n : Int) (w : World) (h : Src w g s) (hn : n < 0 ∨ 4096 < n) :
    Calls Try.prog 12 #[sp g, .int .i64 n] w fun r w' => ∃ v : Value, r = .returned (.tuple #[v, .int .i64 2]) ∧ Kd.R (Kd.int .i64) 3 w' w.heap.size (fun _ => True) v [] ∧ Src w' g s ∧ w.grownBy w' (some g) :=
  (Shuffle.all 0 g s true n [] 2 s true w ⟨h, Nat.zero_le _⟩ (shuffle_arg 0 s n hn)).mono fun _ _ ⟨v, h1, h2, h3, h4⟩ => ⟨v, h1, h2, h3.1, h4⟩
theorem Shuffle.no (p : Value) (n : Int) (w : World) (h : NoSrc w p) :
    Calls Try.prog 12 #[p, .int .i64 n] w fun e w' => e = .returned (.tuple #[.slice Option.none 0 0, .int .i64 1]) ∧ w' = w := by
  go_enter Try.func12, Try.ntmps12
  go_wp2_with (go_at_call 20; refine (none.yes _ _ h).mono ?_; rintro e w' ⟨rfl, rfl⟩)
  go_ret2
  exact ⟨rfl, rfl⟩

theorem Next.calls (s : Int) (w : World) : Calls Try.prog 22 #[.int .u64 s] w fun e w' => e = .returned (.tuple #[.int .u64 (nx s), .int .u64 (wd s)]) ∧ Drawn0 w w' := bandplanref03_Next.calls s _ _ w rfl

theorem New.at (n s : Int) (hs : IntKind.u64.wrap n = s) (w : World) :
    Calls Try.prog 8 #[.int .i64 n] w fun e w' => ∃ g, e = .returned (sp g) ∧ w.heap.size ≤ g ∧ Src w' g s ∧ Below w.heap.size w w' := hs ▸ New.calls n w

/-- A source's state after a step of another. -/
theorem below_src {w0 w w' : World} {g : Nat} (hB : Below w0.heap.size w0 w) (hg : w0.heap.size ≤ g) (h : w.grownBy w' (some g)) : Below w0.heap.size w0 w' := below_grown_g hB hg h
theorem Src.other {W W1 : World} {g g' : Nat} {s : Int} (h : Src W g s) (hg : W.grownBy W1 (some g')) (hne : g ≠ g') : Src W1 g s := h.grown hg (by intro e; cases e; exact hne rfl)

theorem pure1 : ∃ k s', bandplanref03_Number.f k 5 1 = some (s', 0) ∧ 0 ≤ s' ∧ s' < 18446744073709551616 := by
  obtain ⟨k, s', v, h, h1, h2, h3⟩ := num_ends 5 1 (by omega) (by omega)
  obtain rfl : v = 0 := by omega
  exact ⟨k, s', h, h3⟩
theorem pure2 (s : Int) (s0 : 0 ≤ s) (s1 : s < 18446744073709551616) : ∃ k s', random_Source_Shuffle.f k s true 1 = some ([0], 0, s', true) ∧ 0 ≤ s' ∧ s' < 18446744073709551616 := by
  obtain ⟨s', l, e1, e2, h3, h4⟩ := shuffle_ends 1 (by omega) s s0 s1
  obtain ⟨k, hk⟩ := e2.rounds
  obtain ⟨x, rfl⟩ : ∃ x, l = [x] := by
    match l, h3.1 with
    | [x], _ => exact ⟨x, rfl⟩
  have := h3.2.1 0 (by omega)
  obtain rfl : x = 0 := by
    have e : rd [x] ((0 : Nat) : Int) = x := rfl
    rw [e] at this
    omega
  exact ⟨k, s', hk, h4⟩
theorem pure3 (s : Int) (s0 : 0 ≤ s) (s1 : s < 18446744073709551616) : ∃ k s', random_Source_Shuffle.f k s true 0 = some ([], 0, s', true) ∧ 0 ≤ s' ∧ s' < 18446744073709551616 := by
  obtain ⟨s', l, e1, e2, h3, h4⟩ := shuffle_ends 0 (by omega) s s0 s1
  obtain ⟨k, hk⟩ := e2.rounds
  obtain rfl : l = [] := List.length_eq_zero_iff.1 h3.1
  exact ⟨k, s', hk, h4⟩

theorem cell_grown {w w' : World} {b i g : Nat} {u : Value} (hc : w.cell? ⟨b, i, Option.none⟩ = some u) (hb : b < w.heap.size) (hg : w.grownBy w' (some g)) (hne : b ≠ g) : w'.cell? ⟨b, i, Option.none⟩ = some u := by
  rw [World.cell?_of_block (a := ⟨b, i, Option.none⟩) (hg.block b hb (by intro e; cases e; exact hne rfl))]
  exact hc
theorem Shuffle.one (k g : Nat) (s n x : Int) (s' : Int) (w : World) (h : Src w g s) (hf : random_Source_Shuffle.f k s true n = some ([x], 0, s', true)) :
    Calls Try.prog 12 #[sp g, .int .i64 n] w fun r w' => ∃ b c : Nat, r = .returned (.tuple #[.slice (some ⟨b, 0, Option.none⟩) 1 c, .int .i64 0]) ∧ w.heap.size ≤ b ∧ b < w'.heap.size ∧ w'.cell? ⟨b, 0, Option.none⟩ = some (.int .i64 x) ∧ Src w' g s' ∧ w.grownBy w' (some g) := by
  refine (Shuffle.calls k g s n _ s' w h hf).mono ?_
  rintro r w' ⟨v, rfl, h1, h2, h3⟩
  obtain ⟨b, c, rfl, b0, b1, _⟩ := Kd.R_form h1 (show 0 < [x].length from Nat.one_pos)
  exact ⟨b, c, rfl, b0, b1, (Kd.R_celln 0 h1 0 (Int.le_refl _) (show (0 : Int) < (([x].length : Nat) : Int) from Int.one_pos)).1, h2, h3⟩
theorem Shuffle.zero (k g : Nat) (s n : Int) (s' e : Int) (w : World) (h : Src w g s) (hf : random_Source_Shuffle.f k s true n = some ([], e, s', true)) :
    Calls Try.prog 12 #[sp g, .int .i64 n] w fun r w' => ∃ A c, r = .returned (.tuple #[.slice A 0 c, .int .i64 e]) ∧ Src w' g s' ∧ w.grownBy w' (some g) := by
  refine (Shuffle.all k g s true n _ e s' true w ⟨h, Nat.zero_le _⟩ hf).mono ?_
  rintro r w' ⟨v, rfl, h1, h2, h3⟩
  obtain ⟨A, c, rfl⟩ := Kd.R_slice h1
  exact ⟨A, c, rfl, h2.1, h3⟩

set_option maxHeartbeats 4000000 in
set_option maxRecDepth 100000 in
theorem known.calls (w : World) : Calls Try.prog 11 #[] w fun e w' => e = .returned (.bool true) ∧ Below w.heap.size w w' := by
  have e1 : wd 0 = 16294208416658607535 := by decide +kernel
  have e2 : wd (nx 0) = 7960286522194355700 := by decide +kernel
  have e3 : wd (nx (nx 0)) = 487617019471545679 := by decide +kernel
  have e4 : Go.bits .xor .u64 (wd 7) 3 = fk 7 3 := rfl
  obtain ⟨k1, s1, f1, a1, b1⟩ := pure1
  obtain ⟨k2, s2, f2, a2, b2⟩ := pure2 s1 a1 b1
  obtain ⟨k3, s3, f3, a3, b3⟩ := pure3 s2 a2 b2
  have F1 := Aside0.mk f1
  have F2 := Aside0.mk f2
  have F3 := Aside0.mk f3
  clear f1 f2 f3 a1 b1 a2 b2 a3 b3
  go_enter Try.func11, Try.ntmps11
  go_upto_region 2 with (go_at_call 8; refine (New.at 0 0 (by decide) _).mono ?_; rintro e w1 ⟨g1, rfl, h1, h2, h3⟩; have A1 := Aside0.mk h2; have B1 := Aside0.mk h1; have C1 := Aside0.mk h3; clear h1 h2 h3)
  go_upto_region 4 with (go_at_call 15; refine (Word.calls _ _ _ A1.out).mono ?_; rintro e w2 ⟨rfl, h1, h2⟩; have n1 := Aside0.mk h1; have n2 := Aside0.mk (below_src C1.out B1.out h2); clear A1 C1 h1 h2; have A1 := n1; have C1 := n2; clear n1 n2)
  clear A1 B1
  go_upto_region 7 with (first
    | (go_at_call_of 8 (Value.int IntKind.i64 5); refine (New.at 5 5 (by decide) _).mono ?_; rintro e w3 ⟨g2, rfl, h1, h2, h3⟩; have A2 := Aside0.mk h2; have B2 := Aside0.mk (Nat.le_trans C1.out.size h1); have n2 := Aside0.mk (below_step C1.out h3); clear C1 h1 h2 h3; have C1 := n2; clear n2)
    | (go_at_call_of 8 (Value.int IntKind.i64 7); refine (New.at 7 7 (by decide) _).mono ?_; rintro e w4 ⟨g3, rfl, h1, h2, h3⟩; have A3 := Aside0.mk h2; have B3 := Aside0.mk (Nat.le_trans C1.out.size h1); have D3 := Aside0.mk (show g2 ≠ g3 by have := A2.out.lt; omega); have n2 := Aside0.mk (below_step C1.out h3); have n3 := Aside0.mk (A2.out.below h3); clear C1 A2 h1 h2 h3; have C1 := n2; have A2 := n3; clear n2 n3))
  go_upto_region 12 with (first
    | (go_at_call_of 9 (Value.int IntKind.i64 1); refine (Number.calls k1 _ _ _ _ _ _ A2.out (by omega) (by omega) F1.out).mono ?_; rintro e w5 ⟨rfl, h1, h2⟩; have n1 := Aside0.mk h1; have n2 := Aside0.mk (below_src C1.out B2.out h2); have n3 := Aside0.mk (A3.out.other h2 (Ne.symm D3.out)); clear A2 A3 C1 h1 h2; have A2 := n1; have C1 := n2; have A3 := n3; clear n1 n2 n3)
    | (go_at_call_of 9 (Value.int IntKind.i64 0); refine (Number.arg _ _ _ _ A2.out (.inl (by omega))).mono ?_; rintro e w6 ⟨rfl, rfl⟩)
    | (go_at_call_of 12 (Value.int IntKind.i64 1); refine (Shuffle.one k2 _ _ _ _ _ _ A2.out F2.out).mono ?_; rintro e w7 ⟨b, c, rfl, b0, b1, hc, h1, h2⟩; have n1 := Aside0.mk h1; have n2 := Aside0.mk (below_src C1.out B2.out h2); have n3 := Aside0.mk (A3.out.other h2 (Ne.symm D3.out)); have E1 := Aside0.mk (show b ≠ g2 by have := A2.out.lt; omega); have E2 := Aside0.mk hc; have E3 := Aside0.mk b1; clear A2 A3 C1 h1 h2 hc b0 b1; have A2 := n1; have C1 := n2; have A3 := n3; clear n1 n2 n3)
    | (go_at_call_of 12 (Value.int IntKind.i64 0); refine (Shuffle.zero k3 _ _ _ _ _ _ A2.out F3.out).mono ?_; rintro e w8 ⟨A, c2, rfl, h1, h2⟩; have n1 := Aside0.mk h1; have n2 := Aside0.mk (below_src C1.out B2.out h2); have n3 := Aside0.mk (A3.out.other h2 (Ne.symm D3.out)); have n4 := Aside0.mk (cell_grown E2.out E3.out h2 E1.out); have n5 := Aside0.mk (Nat.lt_of_lt_of_le E3.out h2.size); clear A2 A3 C1 h1 h2 E2 E3; have A2 := n1; have C1 := n2; have A3 := n3; have E2 := n4; have E3 := n5; clear n1 n2 n3 n4 n5)
    | (go_at_call_of 12 (Value.int IntKind.i64 4097); refine (Shuffle.zero 0 _ _ _ _ _ _ A2.out (shuffle_arg 0 _ _ (.inr (by omega)))).mono ?_; rintro e w9 ⟨A', c3, rfl, h1, h2⟩; have n1 := Aside0.mk h1; have n2 := Aside0.mk (below_src C1.out B2.out h2); have n3 := Aside0.mk (A3.out.other h2 (Ne.symm D3.out)); have n4 := (cell_grown E2.out E3.out h2 E1.out); clear A2 A3 C1 h1 h2 E2 E3; have C1 := n2; have A3 := n3; clear n1 n2 n3))
  clear D3 E1 F1 F2 F3 B2
  go_upto_region 14 with fail
  clear n4
  go_wp2_with (first
    | (go_at_call 14; refine (Fork.calls _ _ _ _ A3.out).mono ?_; rintro e w10 ⟨g4, rfl, h0, h1, h2, h3⟩; have A4 := Aside0.mk h1; have B4 := Aside0.mk (Nat.le_trans C1.out.size h0); have n2 := Aside0.mk (below_src C1.out B3.out h3); clear C1 A3 B3 h0 h1 h2 h3; have C1 := n2; clear n2)
    | (go_at_call 22; refine (Next.calls _ _).mono ?_; rintro e w11 ⟨rfl, ⟨nd, rfl⟩⟩)
    | (go_at_call 15; refine (Word.calls _ _ _ (A4.out.drewN _)).mono ?_; rintro e w12 ⟨rfl, h1, h2⟩; have n2 := Aside0.mk (below_src (pw_below_drewN C1.out _) B4.out h2); clear C1 h1 h2; have C1 := n2; clear n2))
  go_ret
  exact ⟨by first | rfl | simp, C1.out⟩

end Go.Proofs.Ytmioondgjolaoaa.Print
