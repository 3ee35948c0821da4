/- Plain laws of the score statements, part 3: the volumes of a list of weights. -/
import Derived.Test.YtpchmhijcockkaaDoorPureC
import Derived.Test.YtpchmhijcockkaaDoorPrint11
namespace Go.Proofs.YtpchmhijcockkaaDoor.Print
open Go.RowKit Go.Proofs.YtpchmhijcockkaaDoorW.PrintWords Go.Proofs.YtpchmhijcockkaaDoorW.PrintLast Go.Proofs.YtpchmhijcockkaaDoorW.PrintMore
set_option linter.unusedVariables false

def rtN : Nat → Int
  | 0 => 0
  | n + 1 => if (rtN n + 1) * (rtN n + 1) ≤ ((n + 1 : Nat) : Int) then rtN n + 1 else rtN n
theorem rtN_root : ∀ n : Nat, IsRoot n (rtN n)
  | 0 => by unfold IsRoot rtN; simp
  | n + 1 => by
    obtain ⟨h0, h1, h2⟩ := rtN_root n
    unfold rtN
    split
    · rename_i h
      refine ⟨by omega, h, ?_⟩
      have e : (rtN n + 1 + 1) * (rtN n + 1 + 1) = (rtN n + 1) * (rtN n + 1) + 2 * rtN n + 3 := by grind
      omega
    · exact ⟨h0, by omega, by omega⟩
def rt (n : Int) : Int := rtN n.toNat
theorem rt_root {n : Int} (h : 0 ≤ n) : IsRoot n (rt n) := by
  have := rtN_root n.toNat
  rw [Int.toNat_of_nonneg h] at this
  exact this
theorem rt_ev {n : Int} (h0 : 0 ≤ n) (h1 : n ≤ 9223372036854775807) : Ev (fun k => score_root.f k n) (rt n) ∧ Ev (fun k => bandplanref28_Square.f k n) (rt n) := by
  obtain ⟨r, hr, hs⟩ := root_ev h0 h1
  obtain rfl := root_unique hs (rt_root h0)
  exact ⟨hr, square_ev hs h1⟩

def at40 (l : List S40) (i : Nat) : S40 := l.getD i z40
def vf (x : S40) : Bool := validW x.f0 x.f1 x.f2
def val (x : S40) : Int := rt (x.f1 * x.f2)
def okAt (l : List S40) (i : Nat) : Bool := vf (at40 l i) && (decide (i = 0) || decide ((at40 l (i - 1)).f0 < (at40 l i).f0))
def okFrom (l : List S40) : Nat → Nat → Bool
  | 0, _ => true
  | d + 1, i => okAt l i && okFrom l d (i + 1)
def mostFrom (l : List S40) : Nat → Nat → Int → Int
  | 0, _, m => m
  | d + 1, i, m => mostFrom l d (i + 1) (mx m (val (at40 l i)))
def volAt (l : List S40) (m : Int) (j : Nat) : S52 := ⟨(at40 l j).f0, if m > 0 then mx 1 (val (at40 l j) * 1000000 / m) else 1000000⟩
def vols (l : List S40) (m : Int) (n : Nat) : List S52 := (List.range n).map (volAt l m)
theorem vols_succ (l : List S40) (m : Int) (n : Nat) : vols l m (n + 1) = vols l m n ++ [volAt l m n] := by
  unfold vols; rw [List.range_succ, List.map_append]; rfl
theorem vols_length (l : List S40) (m : Int) (n : Nat) : (vols l m n).length = n := by simp [vols]
def volRes (l : List S40) : List S52 × Int := if okFrom l l.length 0 = true then (vols l (mostFrom l l.length 0 0) l.length, 0) else ([], 2)

theorem okFrom_at (l : List S40) : ∀ (d i j : Nat), okFrom l d i = true → i ≤ j → j < i + d → okAt l j = true
  | 0, i, j, h, h1, h2 => by omega
  | d + 1, i, j, h, h1, h2 => by
    unfold okFrom at h
    rw [Bool.and_eq_true] at h
    by_cases e : i = j
    · subst e; exact h.1
    · exact okFrom_at l d (i + 1) j h.2 (by omega) (by omega)
theorem vf_of {l : List S40} {i : Nat} (h : okAt l i = true) : vf (at40 l i) = true := by
  unfold okAt at h
  rw [Bool.and_eq_true] at h
  exact h.1
theorem val_bd {x : S40} (h : vf x = true) : 0 ≤ val x ∧ val x ≤ 1446740 ∧ 0 ≤ x.f1 * x.f2 ∧ x.f1 * x.f2 ≤ 2093056000000 ∧ wrap64 (x.f1 * x.f2) = x.f1 * x.f2 := by
  obtain ⟨p0, p1, p2⟩ := raw_prod h
  have hr := rt_root p0
  have := lt_of_sq (a := val x) (b := 1446741) (by omega) (by have := hr.2.1; unfold val; omega)
  exact ⟨hr.1, by omega, p0, p1, p2⟩
theorem val_ev {x : S40} (h : vf x = true) : Ev (fun k => score_root.f k (wrap64 (x.f1 * x.f2))) (val x) ∧ Ev (fun k => bandplanref28_Square.f k (wrap64 (x.f1 * x.f2))) (val x) := by
  obtain ⟨_, _, p0, p1, p2⟩ := val_bd h
  rw [p2]
  exact rt_ev p0 (by omega)
theorem raw_good {x : S40} (h : vf x = true) : Ev (fun k => score_Raw.f k x.f0 x.f1 x.f2) (val x, 0) := by
  obtain ⟨_, _, p0, p1, p2⟩ := val_bd h
  refine Ev.congr (f := fun k => (score_root.f k (wrap64 (x.f1 * x.f2))).bind fun t => some (t, 0)) (fun k => ?_) (Ev.bind (val_ev h).1 (Ev.now _))
  have hv : validW x.f0 x.f1 x.f2 = true := h
  unfold score_Raw.f; rw [validW_prog, hv]; rfl
theorem raw_bad {x : S40} (h : vf x = false) (k : Nat) : score_Raw.f k x.f0 x.f1 x.f2 = some (0, 2) := by
  have hv : validW x.f0 x.f1 x.f2 = false := h
  unfold score_Raw.f; rw [validW_prog, hv]; rfl

theorem rd40 (l : List S40) (i : Nat) : rd_T40 l (i : Int) = at40 l i := by unfold rd_T40 at40; rw [Int.toNat_natCast]

section
variable {l : List S40}
theorem mx_mono0 {a b : Int} (h : 0 ≤ a) : 0 ≤ mx a b := by unfold mx; split <;> omega
theorem most_nonneg : ∀ (d i : Nat) (m : Int), 0 ≤ m → 0 ≤ mostFrom l d i m
  | 0, i, m, h => h
  | d + 1, i, m, h => most_nonneg d (i + 1) _ (mx_mono0 h)

theorem vol_term {m : Int} {j : Nat} (hv : vf (at40 l j) = true) (hm : 0 < m) :
    mx 1 (wrap64 (Int.tdiv (wrap64 (val (at40 l j) * 1000000)) m)) = mx 1 (val (at40 l j) * 1000000 / m) := by
  obtain ⟨b0, b1, _⟩ := val_bd hv
  have e1 : wrap64 (val (at40 l j) * 1000000) = val (at40 l j) * 1000000 := w64 (by omega) (by omega)
  have e2 : Int.tdiv (val (at40 l j) * 1000000) m = val (at40 l j) * 1000000 / m := Int.tdiv_eq_ediv_of_nonneg (by omega)
  have q0 : 0 ≤ val (at40 l j) * 1000000 / m := Int.ediv_nonneg (by omega) (by omega)
  have q1 : val (at40 l j) * 1000000 / m ≤ val (at40 l j) * 1000000 := Int.ediv_le_self _ (by omega)
  have e3 : wrap64 (val (at40 l j) * 1000000 / m) = val (at40 l j) * 1000000 / m := w64 (by omega) (by omega)
  rw [e1, e2, e3]

theorem prog_l1 (hl : l.length ≤ 1000000) (hok : okFrom l l.length 0 = true) {m : Int} (hm : 0 ≤ m) : ∀ (d i : Nat), i + d = l.length →
    Ev (fun k => score_Volumes.l1 k m (vols l m i ++ List.replicate d z52) l (l.length : Int) (i : Int)) (vols l m l.length, 0) := by
  intro d
  induction d with
  | zero =>
    intro i hi
    obtain rfl : i = l.length := by omega
    refine Ev.step (f := fun _ => some (vols l m l.length, 0)) (fun k => ?_) (Ev.now _)
    simp only [score_Volumes.l1]
    rw [if_neg (by omega)]
    simp
  | succ d ih =>
    intro i hi
    have hv := vf_of (okFrom_at l l.length 0 i hok (by omega) (by omega))
    have hset : (vols l m i ++ List.replicate (d + 1) z52).set i (volAt l m i) = vols l m (i + 1) ++ List.replicate d z52 := by
      rw [vols_succ, List.set_append_right _ _ (by rw [vols_length]; omega), vols_length, Nat.sub_self, List.replicate_succ, List.set_cons_zero, List.append_assoc]
      rfl
    have hlen : (vols l m i ++ List.replicate (d + 1) z52).length = l.length := by rw [List.length_append, vols_length, List.length_replicate]; omega
    have hc : ((i + 1 : Nat) : Int) = (i : Int) + 1 := by omega
    have hw : wrap64 ((i : Int) + 1) = ((i + 1 : Nat) : Int) := by rw [hc]; exact w64 (by omega) (by omega)
    by_cases hp : 0 < m
    · have he : (⟨(at40 l i).f0, mx 1 (wrap64 (Int.tdiv (wrap64 (val (at40 l i) * 1000000)) m))⟩ : S52) = volAt l m i := by
        rw [vol_term hv hp]; unfold volAt; rw [if_pos hp]
      refine Ev.step (f := fun k => (score_root.f k (wrap64 ((at40 l i).f1 * (at40 l i).f2))).bind fun t => score_Volumes.l1 k m ((vols l m i ++ List.replicate (d + 1) z52).set i (⟨(at40 l i).f0, mx 1 (wrap64 (Int.tdiv (wrap64 (t * 1000000)) m))⟩ : S52)) l (l.length : Int) ((i + 1 : Nat) : Int)) (fun k => ?_) (Ev.bind (val_ev hv).1 ?_)
      · simp only [score_Volumes.l1]
        rw [if_pos (by omega), if_pos (by omega), if_pos (by omega), if_pos hp, rd40]
        congr 1
        funext t
        rw [if_neg (by omega), if_pos (by rw [hlen]; omega), Int.toNat_natCast, hw]
      · simp only [he, hset]
        exact ih (i + 1) (by omega)
    · have he : (⟨(at40 l i).f0, 1000000⟩ : S52) = volAt l m i := by unfold volAt; rw [if_neg hp]
      refine Ev.step (f := fun k => score_Volumes.l1 k m (vols l m (i + 1) ++ List.replicate d z52) l (l.length : Int) ((i + 1 : Nat) : Int)) (fun k => ?_) (ih (i + 1) (by omega))
      simp only [score_Volumes.l1]
      rw [if_pos (by omega), if_pos (by omega), if_pos (by omega), if_neg hp, if_pos (by rw [hlen]; omega), rd40, Int.toNat_natCast, hw, he, hset]

theorem ref_l1 (hl : l.length ≤ 1000000) (hok : okFrom l l.length 0 = true) {m : Int} (hm : 0 ≤ m) : ∀ (d i : Nat), i + d = l.length →
    Ev (fun k => bandplanref28_Volumes.l1 k l m (vols l m i) (i : Int)) (vols l m l.length, 0) := by
  intro d
  induction d with
  | zero =>
    intro i hi
    obtain rfl : i = l.length := by omega
    refine Ev.step (f := fun _ => some (vols l m l.length, 0)) (fun k => ?_) (Ev.now _)
    simp only [bandplanref28_Volumes.l1]
    rw [if_neg (by omega)]
  | succ d ih =>
    intro i hi
    have hv := vf_of (okFrom_at l l.length 0 i hok (by omega) (by omega))
    have hc : ((i + 1 : Nat) : Int) = (i : Int) + 1 := by omega
    have hw : wrap64 ((i : Int) + 1) = ((i + 1 : Nat) : Int) := by rw [hc]; exact w64 (by omega) (by omega)
    have hlen : (vols l m i).length < 8796093022208 := by rw [vols_length]; omega
    by_cases hp : 0 < m
    · have he : (⟨(at40 l i).f0, mx 1 (wrap64 (Int.tdiv (wrap64 (val (at40 l i) * 1000000)) m))⟩ : S52) = volAt l m i := by
        rw [vol_term hv hp]; unfold volAt; rw [if_pos hp]
      refine Ev.step (f := fun k => (bandplanref28_Square.f k (wrap64 ((at40 l i).f1 * (at40 l i).f2))).bind fun t => bandplanref28_Volumes.l1 k l m (vols l m i ++ [(⟨(at40 l i).f0, mx 1 (wrap64 (Int.tdiv (wrap64 (t * 1000000)) m))⟩ : S52)]) ((i + 1 : Nat) : Int)) (fun k => ?_) (Ev.bind (val_ev hv).2 ?_)
      · simp only [bandplanref28_Volumes.l1]
        rw [if_pos (by omega), if_pos hp, if_pos (by omega), rd40]
        congr 1
        funext t
        rw [if_neg (by omega), if_pos hlen, hw]
      · simp only [he, ← vols_succ]
        exact ih (i + 1) (by omega)
    · have he : (⟨(at40 l i).f0, 1000000⟩ : S52) = volAt l m i := by unfold volAt; rw [if_neg hp]
      refine Ev.step (f := fun k => bandplanref28_Volumes.l1 k l m (vols l m (i + 1)) ((i + 1 : Nat) : Int)) (fun k => ?_) (ih (i + 1) (by omega))
      simp only [bandplanref28_Volumes.l1]
      rw [if_pos (by omega), if_neg hp, if_pos (by omega), if_pos hlen, rd40, hw, he, ← vols_succ]

theorem ref_l0 (hl : l.length ≤ 1000000) (hok : okFrom l l.length 0 = true) : ∀ (d i : Nat) (m : Int), 0 ≤ m → i + d = l.length →
    Ev (fun k => bandplanref28_Volumes.l0 k l m (i : Int)) (vols l (mostFrom l d i m) l.length, 0) := by
  intro d
  induction d with
  | zero =>
    intro i m hm hi
    refine Ev.step (f := fun k => bandplanref28_Volumes.l1 k l m (vols l m 0) ((0 : Nat) : Int)) (fun k => ?_) (ref_l1 hl hok hm l.length 0 (by omega))
    simp only [bandplanref28_Volumes.l0]
    rw [if_neg (by omega)]
    rfl
  | succ d ih =>
    intro i m hm hi
    have hv := vf_of (okFrom_at l l.length 0 i hok (by omega) (by omega))
    have hc : ((i + 1 : Nat) : Int) = (i : Int) + 1 := by omega
    have hw : wrap64 ((i : Int) + 1) = ((i + 1 : Nat) : Int) := by rw [hc]; exact w64 (by omega) (by omega)
    refine Ev.step (f := fun k => (bandplanref28_Square.f k (wrap64 ((at40 l i).f1 * (at40 l i).f2))).bind fun t => bandplanref28_Volumes.l0 k l (mx m t) ((i + 1 : Nat) : Int)) (fun k => ?_) (Ev.bind (val_ev hv).2 (ih (i + 1) _ (mx_mono0 hm) (by omega)))
    simp only [bandplanref28_Volumes.l0]
    rw [if_pos (by omega), if_pos (by omega), rd40, hw]

theorem ref_valid (hl : l.length ≤ 1000000) : ∀ (d i : Nat), i + d = l.length → Ev (fun k => bandplanref28_ValidList.l0 k l (i : Int)) (okFrom l d i) := by
  intro d
  induction d with
  | zero =>
    intro i hi
    refine Ev.step (f := fun _ => some true) (fun k => ?_) (Ev.now true)
    simp only [bandplanref28_ValidList.l0]
    rw [if_neg (by omega)]
  | succ d ih =>
    intro i hi
    have hc : ((i + 1 : Nat) : Int) = (i : Int) + 1 := by omega
    have hw : wrap64 ((i : Int) + 1) = ((i + 1 : Nat) : Int) := by rw [hc]; exact w64 (by omega) (by omega)
    unfold okFrom okAt
    cases hv : vf (at40 l i) with
    | false =>
      have hv' : validW (at40 l i).f0 (at40 l i).f1 (at40 l i).f2 = false := hv
      refine Ev.step (f := fun _ => some false) (fun k => ?_) (by simpa using Ev.now false)
      simp only [bandplanref28_ValidList.l0]
      rw [if_pos (by omega), if_pos (by omega), rd40, validW_ref, hv', Option.bind_some, if_neg (by decide)]
    | true =>
      have hv' : validW (at40 l i).f0 (at40 l i).f1 (at40 l i).f2 = true := hv
      by_cases hz : i = 0
      · subst hz
        refine Ev.step (f := fun k => bandplanref28_ValidList.l0 k l ((0 + 1 : Nat) : Int)) (fun k => ?_) (by simpa using ih (0 + 1) (by omega))
        simp only [bandplanref28_ValidList.l0]
        rw [if_pos (by omega), if_pos (by omega), rd40, validW_ref, hv', Option.bind_some, if_pos rfl, if_neg (by omega), hw]
      · have hp : wrap64 ((i : Int) - 1) = ((i - 1 : Nat) : Int) := by rw [w64 (by omega) (by omega)]; omega
        by_cases hs : (at40 l (i - 1)).f0 < (at40 l i).f0
        · refine Ev.step (f := fun k => bandplanref28_ValidList.l0 k l ((i + 1 : Nat) : Int)) (fun k => ?_) (by simpa [hz, hs] using ih (i + 1) (by omega))
          simp only [bandplanref28_ValidList.l0]
          rw [if_pos (by omega), if_pos (by omega), rd40, validW_ref, hv', Option.bind_some, if_pos rfl, if_pos (by omega), hp, if_pos (by omega), if_pos (by omega), rd40, if_neg (by omega), hw]
        · refine Ev.step (f := fun _ => some false) (fun k => ?_) (by simpa [hz, hs] using Ev.now false)
          simp only [bandplanref28_ValidList.l0]
          rw [if_pos (by omega), if_pos (by omega), rd40, validW_ref, hv', Option.bind_some, if_pos rfl, if_pos (by omega), hp, if_pos (by omega), if_pos (by omega), rd40, if_pos (by omega)]

theorem ref_vols (hl : l.length ≤ 1000000) : Ev (fun k => bandplanref28_Volumes.f k l) (volRes l) := by
  refine Ev.bind (ref_valid hl l.length 0 (by omega)) ?_
  unfold volRes
  cases hok : okFrom l l.length 0 with
  | false => exact Ev.now _
  | true => exact ref_l0 hl hok l.length 0 0 (by omega) (by omega)

theorem prog_l0 (hl : l.length ≤ 1000000) : ∀ (d i : Nat) (m : Int), 0 ≤ m → i + d = l.length → (okFrom l d i = true → okFrom l l.length 0 = true) →
    Ev (fun k => score_Volumes.l0 k l m l (l.length : Int) (i : Int)) (if okFrom l d i = true then (vols l (mostFrom l d i m) l.length, 0) else ([], 2)) := by
  intro d
  induction d with
  | zero =>
    intro i m hm hi hok
    have h0 : okFrom l 0 i = true := rfl
    rw [if_pos h0]
    have e := prog_l1 hl (hok rfl) hm l.length 0 (by omega)
    refine Ev.step (f := fun k => score_Volumes.l1 k m (vols l m 0 ++ List.replicate l.length z52) l (l.length : Int) ((0 : Nat) : Int)) (fun k => ?_) e
    simp only [score_Volumes.l0]
    rw [if_neg (by omega), if_pos (by omega), Int.toNat_natCast, if_pos (by omega)]
    rfl
  | succ d ih =>
    intro i m hm hi hok
    have hc : ((i + 1 : Nat) : Int) = (i : Int) + 1 := by omega
    have hw : wrap64 ((i : Int) + 1) = ((i + 1 : Nat) : Int) := by rw [hc]; exact w64 (by omega) (by omega)
    have hu : okFrom l (d + 1) i = (okAt l i && okFrom l d (i + 1)) := rfl
    rw [hu] at hok ⊢
    cases hv : vf (at40 l i) with
    | false =>
      have ha : okAt l i = false := by unfold okAt; rw [hv]; rfl
      rw [ha]
      refine Ev.step (f := fun _ => some ([], 2)) (fun k => ?_) (Ev.now _)
      simp only [score_Volumes.l0]
      rw [if_pos (by omega), if_pos (by omega), if_pos (by omega), rd40, raw_bad hv, Option.bind_some, if_neg (by decide)]
    | true =>
      by_cases hz : i = 0
      · have ha : okAt l i = true := by unfold okAt; rw [hv, decide_eq_true hz]; rfl
        rw [ha, Bool.true_and] at hok ⊢
        refine Ev.step (f := fun k => (score_Raw.f k (at40 l i).f0 (at40 l i).f1 (at40 l i).f2).bind fun b => if b.2 = 0 then score_Volumes.l0 k l (mx m b.1) l (l.length : Int) ((i + 1 : Nat) : Int) else some ([], 2)) (fun k => ?_) (Ev.bind (raw_good hv) ?_)
        · simp only [score_Volumes.l0]
          rw [if_pos (by omega), if_pos (by omega), if_pos (by omega), rd40]
          congr 1
          funext b
          rw [if_neg (by omega : ¬ (i : Int) > 0), hw]
        · simp only [if_true]
          exact ih (i + 1) _ (mx_mono0 hm) (by omega) hok
      · have hp : wrap64 ((i : Int) - 1) = ((i - 1 : Nat) : Int) := by rw [w64 (by omega) (by omega)]; omega
        by_cases hs : (at40 l (i - 1)).f0 < (at40 l i).f0
        · have ha : okAt l i = true := by unfold okAt; rw [hv, decide_eq_true hs]; simp
          rw [ha, Bool.true_and] at hok ⊢
          refine Ev.step (f := fun k => (score_Raw.f k (at40 l i).f0 (at40 l i).f1 (at40 l i).f2).bind fun b => if b.2 = 0 then score_Volumes.l0 k l (mx m b.1) l (l.length : Int) ((i + 1 : Nat) : Int) else some ([], 2)) (fun k => ?_) (Ev.bind (raw_good hv) ?_)
          · simp only [score_Volumes.l0]
            rw [if_pos (by omega), if_pos (by omega), if_pos (by omega), rd40]
            congr 1
            funext b
            by_cases hb : b.2 = 0
            · rw [if_pos hb, if_pos hb, if_pos (by omega : (i : Int) > 0), hp, if_pos (by omega), if_pos (by omega), rd40, if_neg (by omega), hw]
            · rw [if_neg hb, if_neg hb]
          · simp only [if_true]
            exact ih (i + 1) _ (mx_mono0 hm) (by omega) hok
        · have ha : okAt l i = false := by unfold okAt; rw [hv, decide_eq_false hs, decide_eq_false hz]; rfl
          rw [ha]
          refine Ev.step (f := fun k => (score_Raw.f k (at40 l i).f0 (at40 l i).f1 (at40 l i).f2).bind fun b => some ([], 2)) (fun k => ?_) (Ev.bind (raw_good hv) (Ev.now _))
          simp only [score_Volumes.l0]
          rw [if_pos (by omega), if_pos (by omega), if_pos (by omega), rd40]
          congr 1
          funext b
          by_cases hb : b.2 = 0
          · rw [if_pos hb, if_pos (by omega : (i : Int) > 0), hp, if_pos (by omega), if_pos (by omega), rd40, if_pos (by omega)]
          · rw [if_neg hb]

theorem prog_vols (hl : l.length ≤ 1000000) : Ev (fun k => score_Volumes.f k l) (volRes l) := by
  refine Ev.congr (f := fun k => score_Volumes.l0 k l 0 l (l.length : Int) ((0 : Nat) : Int)) (fun k => rfl) ?_
  exact prog_l0 hl l.length 0 0 (by omega) (by omega) (fun h => h)
end

theorem same_vols (l : List S52) (hl : l.length ≤ 1000000) : Ev (fun k => bandplanref28_SameVolumes.f k l l) true := by
  have loop : ∀ (d : Nat) (i : Int), 0 ≤ i → i ≤ l.length → (l.length : Int) - i = d → Ev (fun k => bandplanref28_SameVolumes.l0 k l l i) true := by
    intro d
    induction d with
    | zero =>
      intro i h0 h1 h2
      refine Ev.step (f := fun _ => some true) (fun k => ?_) (Ev.now true)
      simp only [bandplanref28_SameVolumes.l0]
      rw [if_neg (by omega)]
    | succ d ih =>
      intro i h0 h1 h2
      refine Ev.step (f := fun k => bandplanref28_SameVolumes.l0 k l l (i + 1)) (fun k => ?_) (ih (i + 1) (by omega) (by omega) (by omega))
      simp only [bandplanref28_SameVolumes.l0]
      rw [if_pos (by omega), if_pos h0, if_pos (by omega), w64 (by omega) (by omega)]
      simp
  refine Ev.congr (f := fun k => bandplanref28_SameVolumes.l0 k l l 0) (fun k => ?_) (loop l.length 0 (by omega) (by omega) (by omega))
  unfold bandplanref28_SameVolumes.f
  rw [if_pos rfl]

end Go.Proofs.YtpchmhijcockkaaDoor.Print
