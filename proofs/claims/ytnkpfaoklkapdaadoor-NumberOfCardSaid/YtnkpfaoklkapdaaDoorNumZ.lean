/- What Text of number answers, told by values. -/
import Derived.Test.YtnkpfaoklkapdaaDoorNumY
import Derived.Test.YtnkpfaoklkapdaaDoorPrint13
namespace Go.Proofs.YtnkpfaoklkapdaaDoor.Print
open Go.RowKit Go.Proofs.YtnkpfaoklkapdaaDoorW.PrintWords Go.Proofs.YtnkpfaoklkapdaaDoorW.PrintLast Go.Proofs.YtnkpfaoklkapdaaDoorW.PrintMore
open Go.Proofs.YtnkpfaoklkapdaaDoor.NumP
set_option linter.unusedVariables false
set_option linter.unusedSimpArgs false
set_option exponentiation.threshold 2000

/-- slices.Reverse, as a list's reverse. -/
theorem reverse_l0 (l : List Int) (hn : l.length ≤ 100000000) : ∀ (d i : Nat) (x : List Int), 2 * i + d = l.length → x = (l.reverse.take i) ++ ((l.drop i).take d) ++ (l.reverse.drop (i + d)) →
    Ev (fun k => slices_Reverse_byte_byte.l0 k x (i : Int) ((l.length : Int) - 1 - i)) l.reverse := by
  intro d
  induction d using Nat.strongRecOn with
  | _ d ih =>
    intro i x hi hx
    have hlx : x.length = l.length := by
      rw [hx]; simp only [List.length_append, List.length_take, List.length_drop, List.length_reverse]; omega
    by_cases hd : d ≤ 1
    · refine Ev.step (f := fun _ => some x) (fun k => ?_) ?_
      · rw [slices_Reverse_byte_byte.l0, if_neg (by omega)]
      · have : x = l.reverse := by
          rw [hx]
          apply List.ext_getElem
          · rw [← hx, hlx, List.length_reverse]
          · intro j h1 h2
            have h2' : j < l.length := by rwa [List.length_reverse] at h2
            rcases Nat.lt_or_ge j i with hj | hj
            · rw [List.getElem_append_left (by simp; omega), List.getElem_append_left (by simp; omega), List.getElem_take]
            · rcases Nat.lt_or_ge j (i + d) with hj2 | hj2
              · rw [List.getElem_append_left (by simp; omega), List.getElem_append_right (by simp; omega), List.getElem_take, List.getElem_drop, List.getElem_reverse]
                congr 1
                simp; omega
              · rw [List.getElem_append_right (by simp; omega), List.getElem_drop]
                congr 1
                simp; omega
        rw [this]
        exact Ev.now _
    · have e1 : wrap64 ((i : Int) + 1) = ((i + 1 : Nat) : Int) := by unfold wrap64; omega
      have e2 : wrap64 ((l.length : Int) - 1 - i - 1) = (l.length : Int) - 1 - ((i + 1 : Nat) : Int) := by unfold wrap64; omega
      refine Ev.step (fun k => ?_) (ih (d - 2) (by omega) (i + 1) ((x.set i (rd x ((l.length : Int) - 1 - i))).set (l.length - 1 - i) (rd x (i : Int))) (by omega) ?_)
      · rw [slices_Reverse_byte_byte.l0, if_pos (by omega), if_pos (by omega), if_pos (by omega), if_pos (by omega), if_pos (by omega), e1, e2]
        rw [show ((l.length : Int) - 1 - i).toNat = l.length - 1 - i by omega, Int.toNat_natCast]
      · have hget : ∀ m : Nat, i ≤ m → (hm : m < i + d) → (hm2 : m < x.length) → x[m] = l[m]'(by omega) := by
          intro m h3 h4 h5
          subst hx
          rw [List.getElem_append_left (by simp; omega), List.getElem_append_right (by simp; omega), List.getElem_take, List.getElem_drop]
          congr 1
          simp; omega
        have r1 : rd x (i : Int) = l[i]'(by omega) := by rw [rd_get (by omega), hget i (by omega) (by omega)]
        have r2 : rd x ((l.length : Int) - 1 - i) = l[l.length - 1 - i]'(by omega) := by
          rw [show (l.length : Int) - 1 - i = ((l.length - 1 - i : Nat) : Int) by omega, rd_get (by omega), hget _ (by omega) (by omega)]
        rw [r1, r2]
        apply List.ext_getElem
        · simp only [List.length_set, List.length_append, List.length_take, List.length_drop, List.length_reverse]; omega
        · intro j h1 h2
          have h1' : j < l.length := by simpa [hlx] using h1
          rw [List.getElem_set, List.getElem_set]
          by_cases c1 : l.length - 1 - i = j
          · rw [if_pos c1, List.getElem_append_right (by simp; omega), List.getElem_drop, List.getElem_reverse]
            congr 1
            simp; omega
          · rw [if_neg c1]
            by_cases c2 : i = j
            · rw [if_pos c2, List.getElem_append_left (by simp; omega), List.getElem_append_left (by simp; omega), List.getElem_take, List.getElem_reverse]
              congr 1
              omega
            · rw [if_neg c2]
              rcases Nat.lt_or_ge j i with hj | hj
              · subst hx
                rw [List.getElem_append_left (by simp; omega), List.getElem_append_left (by simp; omega), List.getElem_take, List.getElem_append_left (by simp; omega), List.getElem_append_left (by simp; omega), List.getElem_take]
              · rcases Nat.lt_or_ge j (i + d) with hj2 | hj2
                · rw [hget j (by omega) hj2, List.getElem_append_left (by simp; omega), List.getElem_append_right (by simp; omega), List.getElem_take, List.getElem_drop]
                  congr 1
                  simp; omega
                · subst hx
                  rw [List.getElem_append_right (by simp; omega), List.getElem_drop, List.getElem_append_right (by simp; omega), List.getElem_drop]
                  congr 1
                  simp; omega
theorem reverse_E (l : List Int) (hn : l.length ≤ 100000000) : Ev (fun k => slices_Reverse_byte_byte.f k l) l.reverse := by
  have h := reverse_l0 l hn l.length 0 l (by omega) (by simp)
  refine Ev.congr (fun k => ?_) h
  unfold slices_Reverse_byte_byte.f
  rw [show wrap64 ((l.length : Int) - 1) = (l.length : Int) - 1 - ((0 : Nat) : Int) by unfold wrap64; omega]
  rfl
theorem trimL_rev : ∀ (n : Nat) (l : List Int), l.length = n → (trimL l).reverse = l.reverse.dropWhile (fun d => d == 0)
  | 0, l, h => by
    rw [List.length_eq_zero_iff.1 h, trimL_top top_nil]; rfl
  | n + 1, l, h => by
    obtain ⟨l', d, rfl⟩ : ∃ l' d, l = l' ++ [d] := ⟨l.dropLast, l.getLast (by intro e; rw [e] at h; simp at h), (List.dropLast_concat_getLast _).symm⟩
    rw [List.reverse_append, List.reverse_singleton, List.singleton_append, List.dropWhile_cons]
    by_cases c : d = 0
    · subst c
      rw [trimL_snoc, trimL_rev n l' (by simpa using h), if_pos (by rfl)]
    · rw [if_neg (by rw [beq_iff_eq]; exact c), trimL_top (fun m e he => by
        obtain ⟨_, h2⟩ := List.append_inj' he rfl
        cases h2
        exact c), List.reverse_append]
      rfl
/-- A digit's byte. -/
def dgb (d : Int) : UInt8 := UInt8.ofNat (48 + d).toNat
/-- A number's decimal digits, none of 0; its decimal form. -/
def decD (n : Nat) : List UInt8 := (wds 10 n).reverse.map dgb
def decS (n : Nat) : List UInt8 := if n = 0 then [48] else decD n
def txt (s : Bool) (n : Nat) : ByteArray := if n = 0 then ⟨#[48]⟩ else if s = true then ⟨#[45]⟩ ++ ⟨(decD n).toArray⟩ else ⟨(decD n).toArray⟩
theorem dgb_48 {d : Int} (h0 : 0 ≤ d) (h1 : d < 10) : (dgb d == 48) = (d == 0) := by
  have : d = 0 ∨ d = 1 ∨ d = 2 ∨ d = 3 ∨ d = 4 ∨ d = 5 ∨ d = 6 ∨ d = 7 ∨ d = 8 ∨ d = 9 := by omega
  rcases this with h | h | h | h | h | h | h | h | h | h <;> subst h <;> decide
theorem dropWhile_congr {α : Type} {p q : α → Bool} : ∀ (l : List α), (∀ x, x ∈ l → p x = q x) → l.dropWhile p = l.dropWhile q
  | [], _ => rfl
  | x :: l, h => by
    rw [List.dropWhile_cons, List.dropWhile_cons, h x List.mem_cons_self, dropWhile_congr l (fun y hy => h y (List.mem_cons_of_mem _ hy))]
theorem trim_dec (o : List Int) (hg : Dig 10 o) : Lib.trimLeftB ((o.map (fun d => 48 + d)).reverse.map (fun n => UInt8.ofNat n.toNat)) 48 = decD (val 10 o).toNat := by
  unfold Lib.trimLeftB decD
  rw [← List.map_reverse, List.map_map]
  show (o.reverse.map dgb).dropWhile (· == 48) = _
  rw [List.dropWhile_map, ← trimL_eq (by omega) _ o rfl hg, trimL_rev _ o rfl]
  congr 1
  exact dropWhile_congr _ (fun x hx => dgb_48 (hg x (List.mem_reverse.1 hx)).1 (hg x (List.mem_reverse.1 hx)).2)
theorem decD_nil {n : Nat} : decD n = [] ↔ n = 0 := by
  unfold decD; rw [List.map_eq_nil_iff, List.reverse_eq_nil_iff, wds_nil_iff (by omega)]
theorem text_end (k0 : Nat → Nat) (s : Bool) (l : List Int) (o : List Int) (hg : Dig 10 o) (hn : o.length ≤ 1000000) :
    Ev (fun k => number_Text.l0 k (o.map (fun d => 48 + d)) [] s l) (txt s (val 10 o).toNat) := by
  have hR := reverse_E (o.map (fun d => 48 + d)) (by rw [List.length_map]; omega)
  have hT : strings_TrimLeft.f (strOfNums (o.map (fun d => 48 + d)).reverse) ⟨#[48]⟩ = some ⟨(decD (val 10 o).toNat).toArray⟩ := by
    unfold strings_TrimLeft.f
    rw [if_pos rfl, ← trim_dec o hg]
    unfold strOfNums
    rfl
  have hl : (decD (val 10 o).toNat).length ≤ 1000000 := by
    unfold decD
    rw [List.length_map, List.length_reverse, ← trimL_eq (by omega) _ o rfl hg]
    have := trimL_rev _ o rfl
    have h2 : (trimL o).reverse.length ≤ o.reverse.length := by rw [this]; exact (List.dropWhile_sublist _).length_le
    rw [List.length_reverse, List.length_reverse] at h2
    omega
  refine Ev.step (f := fun k => (slices_Reverse_byte_byte.f k (o.map (fun d => 48 + d))).bind fun t325 => ((strings_TrimLeft.f (strOfNums t325) (⟨#[48]⟩ : ByteArray)).bind fun t326 => (if t326.toList = ([] : List UInt8) then (some (⟨#[48]⟩ : ByteArray)) else (if s = true then (if 1 + t326.size ≤ 9223372036854775807 then (some ((⟨#[45]⟩ : ByteArray) ++ t326)) else (none)) else (some t326))))) (fun k => ?_) ?_
  · rw [number_Text.l0, if_neg (by simp)]
  refine Ev.bind hR (Ev.congr (fun k => ?_) (Ev.now _))
  simp only [hT, Option.bind_some]
  have e1 : ((⟨(decD (val 10 o).toNat).toArray⟩ : ByteArray).toList = []) ↔ (val 10 o).toNat = 0 := by
    rw [Lib.toList_data]; show (decD _).toArray.toList = [] ↔ _; rw [List.toList_toArray]; exact decD_nil
  unfold txt
  by_cases c : (val 10 o).toNat = 0
  · rw [if_pos (e1.2 c), if_pos c]
  · rw [if_neg (fun h => c (e1.1 h)), if_neg c]
    cases s
    · rw [if_neg (by simp), if_neg (by simp)]
    · rw [if_pos rfl, if_pos rfl, if_pos (by show 1 + (decD _).toArray.size ≤ _; rw [List.size_toArray]; omega)]
theorem text_l (s : Bool) (l : List Int) (n : Nat) : ∀ (x : Nat) (o : List Int), Dig 10 o → bl x ≤ 10000 → o.length + 10 * bl x ≤ 900000 → Aside0 ((val 10 o).toNat + 10 ^ o.length * x = n) →
    Ev (fun k => number_Text.l0 k (o.map (fun d => 48 + d)) (wds B32 x) s l) (txt s n) := by
  intro x
  induction x using Nat.strongRecOn with
  | _ x ih =>
    intro o hg hb hn hv
    by_cases h0 : x = 0
    · subst h0
      rw [wds_zero]
      have e : (val 10 o).toNat = n := by have := hv.out; rw [Nat.mul_zero, Nat.add_zero] at this; exact this
      have := text_end (fun k => k) s l o hg (by omega)
      rw [e] at this
      exact this
    · have hS := short_E x 1000000000 (by omega) (by omega) (Nat.le_trans (small_len x hb) (by omega))
      have hx2 : x / 1000000000 < x := Nat.div_lt_self (by omega) (by omega)
      have hlen := List.length_pos_iff.2 (fun e => h0 ((wds_nil_iff b32 _).1 e) : wds B32 x ≠ [])
      have hlog : bl (x / 1000000000) + 1 ≤ bl x := by
        have h2 := (bl_le x (bl x)).1 (Nat.le_refl _)
        have h1 : bl x ≠ 0 := fun e => h0 (bl_pos.1 e)
        obtain ⟨q, hq⟩ : ∃ q, bl x = q + 1 := ⟨bl x - 1, by omega⟩
        rw [hq] at h2 ⊢
        refine Nat.succ_le_succ ((bl_le _ q).2 ?_)
        refine Nat.lt_of_le_of_lt (Nat.div_le_div_left (show 2 ≤ 1000000000 by omega) (by omega)) ?_
        rw [Nat.pow_succ] at h2
        exact Nat.div_lt_of_lt_mul (by rw [Nat.mul_comm]; exact h2)
      refine Ev.step (f := fun k => (number_short.f k (wds B32 x) 1000000000).bind fun bt318 => (number_Text.l1 k (o.map (fun d => 48 + d)) bt318.1 bt318.2 0 s l)) (fun k => ?_) (Ev.bind hS ?_)
      · rw [number_Text.l0, if_pos (by omega)]
      have key : ∀ (m j r : Nat) (p : List Int), j + m = 9 → r < 10 ^ m → Dig 10 p → p.length = o.length + j → Aside0 ((val 10 p).toNat + 10 ^ p.length * (r + 10 ^ m * (x / 1000000000)) = n) →
          Ev (fun k => number_Text.l1 k (p.map (fun d => 48 + d)) (wds B32 (x / 1000000000)) (r : Int) (j : Int) s l) (txt s n) := by
        intro m
        induction m with
        | zero =>
          intro j r p hj hr hgp hl hvp
          have hr0 : r = 0 := by simpa using hr
          subst hr0
          refine Ev.step (fun k => ?_) (ih (x / 1000000000) hx2 p hgp (Nat.le_trans (bl_mono (Nat.div_le_self _ _)) hb) ?_ ⟨by rw [← hvp.out]; simp⟩)
          · rw [number_Text.l1, if_neg (by omega)]
          · omega
        | succ m ihm =>
          intro j r p hj hr hgp hl hvp
          have q1 : (j : Int) < 9 := by omega
          have q2 : (List.map (fun d => 48 + d) p).length < 140737488355328 := by rw [List.length_map]; omega
          have q3 : j + 1 + m = 9 := by omega
          have q4 : (p ++ [((r % 10 : Nat) : Int)]).length = o.length + (j + 1) := by simp; omega
          have e1 : (IntKind.u64.wrap (48 + (Int.tmod (r : Int) 10))) % 256 = 48 + ((r % 10 : Nat) : Int) := by
            rw [IntKind.wrap_u64, Int.tmod_eq_emod_of_nonneg (by omega)]; omega
          have hr9 : r < 10 ^ 9 := Nat.lt_of_lt_of_le hr (Nat.pow_le_pow_right (by omega) (by omega))
          have e2 : IntKind.u64.wrap (Int.tdiv (r : Int) 10) = ((r / 10 : Nat) : Int) := by
            rw [IntKind.wrap_u64, Int.tdiv_eq_ediv_of_nonneg (by omega)]; omega
          have e3 : wrap64 ((j : Int) + 1) = ((j + 1 : Nat) : Int) := by unfold wrap64; omega
          have hd : Dig 10 (p ++ [((r % 10 : Nat) : Int)]) := dig_append.2 ⟨hgp, dig_one (by omega) (by omega)⟩
          refine Ev.step (fun k => ?_) (ihm (j + 1) (r / 10) (p ++ [((r % 10 : Nat) : Int)]) q3 (by rw [Nat.pow_succ, Nat.mul_comm] at hr; exact Nat.div_lt_of_lt_mul hr) hd q4 ?_)
          · rw [number_Text.l1, if_pos q1, if_pos q2, e1, e2, e3]
            simp only [List.map_append, List.map_cons, List.map_nil]
          · refine ⟨?_⟩
            rw [← hvp.out, val_snoc, List.length_append, List.length_singleton]
            have hnn := val_nonneg hgp
            have e4 : (val 10 p + ((10 : Nat) : Int) ^ p.length * ((r % 10 : Nat) : Int)).toNat = (val 10 p).toNat + 10 ^ p.length * (r % 10) := by
              have : ((10 : Nat) : Int) ^ p.length * ((r % 10 : Nat) : Int) = ((10 ^ p.length * (r % 10) : Nat) : Int) := by rw [Int.natCast_mul, Int.natCast_pow]
              rw [this]; omega
            rw [e4, Nat.pow_succ, Nat.pow_succ, Nat.mul_assoc, Nat.mul_comm (10 ^ m) 10, Nat.mul_assoc, Nat.add_assoc, ← Nat.mul_add]
            congr 2
            have : r = 10 * (r / 10) + r % 10 := (Nat.div_add_mod r 10).symm
            rw [Nat.mul_add]
            omega
      have h1 := key 9 0 (x % 1000000000) o (by omega) (Nat.mod_lt _ (by decide)) hg (by omega) (Aside0.mk (by
        rw [← hv.out]; congr 2
        have := Nat.div_add_mod x 1000000000
        have e : (10 : Nat) ^ 9 = 1000000000 := rfl
        rw [e]; omega))
      exact h1
theorem Text_E (s : Bool) (n : Nat) (h : Good s n) : Ev (fun k => number_Text.f k s (dg n)) (txt s n) := by
  have hb := good_bl h
  have hA := abs_E s n (Nat.le_trans (bl_good hb) (by omega))
  refine Ev.congr (fun k => ?_) (text_l s (dg n) n n [] dig_nil (by omega) ?_ ⟨by simp [val]⟩)
  · unfold number_Text.f
    rw [valid_f, Option.bind_some, valid_good h, if_pos rfl]
    unfold dg
    rw [hA, Option.bind_some]; rfl
  · simp only [List.length_nil]; omega
theorem Text_bad (s : Bool) (l : List Int) (h : validB s l = false) (k : Nat) : number_Text.f k s l = some ⟨#[]⟩ := by
  unfold number_Text.f
  rw [valid_f, Option.bind_some, h, if_neg (by simp)]
end Go.Proofs.YtnkpfaoklkapdaaDoor.Print
