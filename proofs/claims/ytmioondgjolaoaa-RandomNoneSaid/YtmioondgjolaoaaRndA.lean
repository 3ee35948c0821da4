/- Random: contracts of New, none, Word and Copy of a source, on the block of two cells that a source is. -/
import Derived.Test.YtmioondgjolaoaaPrint1
import Derived.Test.YtmioondgjolaoaaPrint2
import Derived.WalkSpells
namespace Go.Proofs.Ytmioondgjolaoaa.Print
open Go.RowKit Go.Proofs.YtmioondgjolaoaaW.PrintWords Go.Proofs.YtmioondgjolaoaaW.PrintLast Go.Proofs.YtmioondgjolaoaaW.PrintMore
set_option linter.unusedVariables false
set_option linter.unusedSimpArgs false

def Src (W : World) (g : Nat) (s : Int) : Prop := W.heap[g]? = some (.cells #[.int .u64 s, .bool true] 48 (0, 0))
abbrev sp (g : Nat) : Value := .pointer (some ⟨g, 0, none⟩)
def nx (s : Int) : Int := IntKind.u64.wrap (s + 11400714819323198485)
def wd (s : Int) : Int := ((bandplanref03_Next.f s).getD (0, 0)).2
theorem next_eq (s : Int) : bandplanref03_Next.f s = some (nx s, wd s) := rfl

theorem Src.lt {W : World} {g : Nat} {s : Int} (h : Src W g s) : g < W.heap.size := blk_lt h
theorem Src.c0 {W : World} {g : Nat} {s : Int} (h : Src W g s) : W.cell? ⟨g, 0, none⟩ = some (.int .u64 s) := (blk_cell h 0).trans rfl
theorem Src.c1 {W : World} {g : Nat} {s : Int} (h : Src W g s) : W.cell? ⟨g, 1, none⟩ = some (.bool true) := (blk_cell h 1).trans rfl
theorem Src.fz {W : World} {g : Nat} {s : Int} (h : Src W g s) (i : Nat) : W.frozen? ⟨g, i, none⟩ = false := blk_frozen h i
theorem Src.put {W : World} {g : Nat} {s : Int} (h : Src W g s) (x : Int) : Src (W.setCell ⟨g, 0, none⟩ (.int .u64 x)) g x := blk_put h 0 _ rfl
theorem Src.drewN {W : World} {g : Nat} {s : Int} (h : Src W g s) (n : Nat) : Src (W.drewN n) g s := h
theorem Src.grown {W W1 : World} {g : Nat} {s : Int} {row : Option Nat} (h : Src W g s) (hg : W.grownBy W1 row) (hne : some g ≠ row) : Src W1 g s := blk_grown h hg hne
theorem Src.below {W W1 : World} {g : Nat} {s : Int} (h : Src W g s) (hb : Below W.heap.size W W1) : Src W1 g s := blk_below h hb

set_option maxHeartbeats 1000000 in
theorem none.calls (g : Nat) (s : Int) (w : World) (h : Src w g s) :
    Calls Try.prog 20 #[sp g] w fun e w' => e = .returned (.bool false) ∧ w' = w := by
  have h1 := h.c1
  clear h
  go_enter Try.func20, Try.ntmps20
  go_wp2
  go_ret
  exact ⟨rfl, rfl⟩


/-- No source: nil, or a block whose second cell says false. -/
def NoSrc (w : World) (p : Value) : Prop := p = .pointer none ∨ ∃ g, p = sp g ∧ w.cell? ⟨g, 1, none⟩ = some (.bool false)
set_option maxHeartbeats 1000000 in
theorem none.yes (p : Value) (w : World) (h : NoSrc w p) :
    Calls Try.prog 20 #[p] w fun e w' => e = .returned (.bool true) ∧ w' = w := by
  rcases h with rfl | ⟨g, rfl, h1⟩
  · go_enter Try.func20, Try.ntmps20
    go_wp2
    go_ret
    exact ⟨rfl, rfl⟩
  · go_enter Try.func20, Try.ntmps20
    go_wp2
    go_ret
    exact ⟨rfl, rfl⟩

def mx (z n f : Int) : Int := IntKind.u64.wrap ((Go.bits .xor .u64 z (shr .u64 z n)) * f)
theorem mixed.calls (z n f : Int) (w : World) (h : 0 ≤ n) :
    Calls Try.prog 23 #[.int .u64 z, .int .i64 n, .int .u64 f] w fun e w' => e = .returned (.int .u64 (mx z n f)) ∧ Drawn0 w w' := by
  have e : IntKind.u64.wrap ((Go.bits .xor .u64 z (shr .u64 z n)) * f) = mx z n f := rfl
  have E := Aside0.mk e
  obtain ⟨j, hj⟩ : ∃ j : Int, shr .u64 z n = j := ⟨_, rfl⟩
  have hj1 : z / 2 ^ min n.toNat 64 = j := hj
  rw [hj] at E
  clear hj e
  go_enter Try.func23, Try.ntmps23
  go_wp2
  go_ret
  exact ⟨by rw [← E.out]; rfl, Drawn0.refl _⟩

theorem grown_drewN {w w1 : World} {row : Option Nat} (h : w.grownBy w1 row) (n : Nat) : w.grownBy (w1.drewN n) row := ⟨h.os, h.tape, h.output, h.size, h.block⟩
theorem grown_refl (w : World) (row : Option Nat) : w.grownBy w row := grown_of_below (Below.refl _ _) row
theorem grown_set {w w1 : World} {g i : Nat} (h : w.grownBy w1 (some g)) (u : Value) : w.grownBy (w1.setCell ⟨g, i, none⟩ u) (some g) :=
  ⟨h.os, h.tape, h.output, by simpa [World.setCell] using h.size, fun k hk hne => (Below.heap_setCell w1 ⟨g, i, none⟩ u k (by rintro rfl; exact hne rfl)).trans (h.block k hk hne)⟩
theorem grown_alloc {w w1 : World} {row : Option Nat} (h : w.grownBy w1 row) (o : Obj) : w.grownBy (w1.alloc o) row :=
  ⟨h.os, h.tape, h.output, Nat.le_trans h.size (by simp), fun i hi hne => (Below.heap_alloc w1 o i (Nat.lt_of_lt_of_le hi h.size)).trans (h.block i hi hne)⟩
theorem grown_trans {a b c : World} {row : Option Nat} (h : a.grownBy b row) (k : b.grownBy c row) : a.grownBy c row :=
  ⟨k.os.trans h.os, k.tape.trans h.tape, k.output.trans h.output, Nat.le_trans h.size k.size, fun i hi hn => (k.block i (Nat.lt_of_lt_of_le hi h.size) hn).trans (h.block i hi hn)⟩

theorem shr_div (z : Int) (n : Nat) (h : n ≤ 64) : shr .u64 z n = z / 2 ^ n := by
  show z / 2 ^ min ((n : Int)).toNat 64 = _
  rw [Int.toNat_natCast, Nat.min_eq_left h]
theorem bits_wrapped (a b : Int) : IntKind.u64.wrap (Go.bits .xor .u64 a b) = Go.bits .xor .u64 a b := by
  show IntKind.u64.wrap (IntKind.u64.wrap _) = IntKind.u64.wrap _
  rw [IntKind.wrap_u64, IntKind.wrap_u64, Int.emod_emod_of_dvd _ (Int.dvd_refl _)]
theorem wd_eq (s : Int) : mx (mx (mx (nx s) 30 13787848793156543929) 27 10723151780598845931) 31 1 = wd s := by
  have e30 : ∀ z, shr .u64 z 30 = z / 1073741824 := fun z => shr_div z 30 (by omega)
  have e27 : ∀ z, shr .u64 z 27 = z / 134217728 := fun z => shr_div z 27 (by omega)
  have e31 : ∀ z, shr .u64 z 31 = z / 2147483648 := fun z => shr_div z 31 (by omega)
  unfold mx wd nx bandplanref03_Next.f
  simp only [e30, e27, e31, Int.mul_one, Option.getD_some]
  exact bits_wrapped _ _

set_option maxHeartbeats 1000000 in
theorem Word.calls (g : Nat) (s : Int) (w : World) (h : Src w g s) :
    Calls Try.prog 15 #[sp g] w fun e w' => e = .returned (.int .u64 (wd s)) ∧ Src w' g (nx s) ∧ w.grownBy w' (some g) := by
  have h0 := h.c0
  have f0 := h.fz 0
  have H := Aside0.mk h
  have H1 := Aside0.mk (h.put (nx s))
  have G := Aside0.mk (grown_set (i := 0) (grown_refl w (some g)) (.int .u64 (nx s)))
  have hn : IntKind.u64.wrap (s + 11400714819323198485) = nx s := rfl
  have W := wd_eq s
  clear h
  go_enter Try.func15, Try.ntmps15
  go_wp2_with (first
    | (go_at_call 20; refine (none.calls _ _ _ H.out).mono ?_; rintro e w' ⟨rfl, rfl⟩)
    | (go_at_call 23; refine (mixed.calls _ _ _ _ (by omega)).mono ?_; rintro e w' ⟨rfl, ⟨n, rfl⟩⟩))
  go_ret
  exact ⟨rfl, H1.out, grown_drewN G.out _⟩


set_option maxHeartbeats 1000000 in
theorem Word.no (p : Value) (w : World) (h : NoSrc w p) :
    Calls Try.prog 15 #[p] w fun e w' => e = .returned (.int .u64 0) ∧ w' = w := by
  go_enter Try.func15, Try.ntmps15
  go_wp2_with (go_at_call 20; refine (none.yes _ _ h).mono ?_; rintro e w' ⟨rfl, rfl⟩)
  go_ret
  exact ⟨rfl, rfl⟩

set_option maxHeartbeats 1000000 in
theorem made.calls (s : Int) (w : World) :
    Calls Try.prog 19 #[.int .u64 s] w fun e w' => ∃ g, e = .returned (sp g) ∧ w.heap.size ≤ g ∧ Src w' g s ∧ Below w.heap.size w w' := by
  refine (random_made.calls s s true w w (Below.refl _ _) rfl).mono ?_
  rintro e w' ⟨g, rfl, ⟨h1, h2⟩, h3, h4⟩
  exact ⟨g, rfl, h2, h1, h4⟩

set_option maxHeartbeats 1000000 in
theorem New.calls (n : Int) (w : World) :
    Calls Try.prog 8 #[.int .i64 n] w fun e w' => ∃ g, e = .returned (sp g) ∧ w.heap.size ≤ g ∧ Src w' g (IntKind.u64.wrap n) ∧ Below w.heap.size w w' := by
  go_enter Try.func8, Try.ntmps8
  go_wp2_with (go_at_call 19; refine (made.calls _ _).mono ?_; rintro e w' ⟨g, rfl, h1, h2, h3⟩; have H2 := Aside0.mk h2; have H1 := Aside0.mk h1; have H3 := Aside0.mk h3; clear h1 h2 h3)
  go_ret
  exact ⟨g, rfl, H1.out, H2.out, H3.out⟩

set_option maxHeartbeats 1000000 in
theorem Copy.no (p : Value) (w : World) (h : NoSrc w p) :
    Calls Try.prog 18 #[p] w fun e w' => e = .returned (.pointer none) ∧ w' = w := by
  go_enter Try.func18, Try.ntmps18
  go_wp2_with (go_at_call 20; refine (none.yes _ _ h).mono ?_; rintro e w' ⟨rfl, rfl⟩)
  go_ret
  exact ⟨rfl, rfl⟩

set_option maxHeartbeats 1000000 in
theorem Copy.calls (g : Nat) (s : Int) (w : World) (h : Src w g s) :
    Calls Try.prog 18 #[sp g] w fun e w' => ∃ g', e = .returned (sp g') ∧ w.heap.size ≤ g' ∧ Src w' g' s ∧ Below w.heap.size w w' := by
  have h0 := h.c0
  have h1 := h.c1
  have H := Aside0.mk h
  clear h
  go_enter Try.func18, Try.ntmps18
  go_wp2_with (go_at_call 20; refine (none.calls _ _ _ H.out).mono ?_; rintro e w' ⟨rfl, rfl⟩)
  go_ret
  refine ⟨w'.heap.size, rfl, Nat.le_refl _, ?_, ?_⟩
  · exact blk_new _ _
  · exact below_alloc (Below.refl _ _) _

set_option maxHeartbeats 1000000 in
theorem Fork.no (p : Value) (n : Int) (w : World) (h : NoSrc w p) :
    Calls Try.prog 14 #[p, .int .i64 n] w fun e w' => e = .returned (.tuple #[.pointer none, .int .i64 1]) ∧ w' = w := by
  go_enter Try.func14, Try.ntmps14
  go_wp2_with (go_at_call 20; refine (none.yes _ _ h).mono ?_; rintro e w' ⟨rfl, rfl⟩)
  go_ret2
  exact ⟨rfl, rfl⟩

def fk (s n : Int) : Int := Go.bits .xor .u64 (wd s) (IntKind.u64.wrap n)
set_option maxHeartbeats 1000000 in
theorem Fork.calls (g : Nat) (s n : Int) (w : World) (h : Src w g s) :
    Calls Try.prog 14 #[sp g, .int .i64 n] w fun e w' => ∃ g', e = .returned (.tuple #[sp g', .int .i64 0]) ∧ w.heap.size ≤ g' ∧ Src w' g' (fk s n) ∧ Src w' g (nx s) ∧ w.grownBy w' (some g) := by
  have H := Aside0.mk h
  clear h
  have hf : Go.bits .xor .u64 (wd s) (IntKind.u64.wrap n) = fk s n := rfl
  go_enter Try.func14, Try.ntmps14
  go_wp2_with (first
    | (go_at_call 20; refine (none.calls _ _ _ H.out).mono ?_; rintro e w' ⟨rfl, rfl⟩)
    | (go_at_call 15; refine (Word.calls _ _ _ H.out).mono ?_; rintro e w1 ⟨rfl, h1, h2⟩; have H1 := Aside0.mk h1; have H2 := Aside0.mk h2; clear h1 h2)
    | (go_at_call 19; refine (made.calls _ _).mono ?_; rintro e w2 ⟨g2, rfl, h1, h2, h3⟩; have H4 := Aside0.mk h2; have H3 := Aside0.mk h1; have H5 := Aside0.mk h3; clear h1 h2 h3))
  go_ret2
  exact ⟨g2, rfl, Nat.le_trans H2.out.size H3.out, H4.out, H1.out.below H5.out, grown_trans H2.out (grown_of_below H5.out _)⟩

end Go.Proofs.Ytmioondgjolaoaa.Print
