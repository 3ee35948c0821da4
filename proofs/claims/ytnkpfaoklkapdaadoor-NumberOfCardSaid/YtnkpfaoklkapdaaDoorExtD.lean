/- Contract of number.abs, told by its value. -/
import Derived.Test.YtnkpfaoklkapdaaDoorExtC
namespace Go.Proofs.YtnkpfaoklkapdaaDoor.Print
open Go.RowKit Go.Proofs.YtnkpfaoklkapdaaDoorW.PrintWords Go.Proofs.YtnkpfaoklkapdaaDoorW.PrintLast Go.Proofs.YtnkpfaoklkapdaaDoorW.PrintMore
open Go.Proofs.YtnkpfaoklkapdaaDoor.NumP
set_option linter.unusedVariables false
set_option linter.unusedSimpArgs false

/-- The bytes' value, the most significant one first. -/
def be (l : List Int) : Int := val 256 l.reverse
theorem be_snoc (l : List Int) (d : Int) : be (l ++ [d]) = be l * 256 + d := by
  unfold be
  rw [List.reverse_append]
  show d + ((256 : Nat) : Int) * val 256 l.reverse = _
  omega
theorem be_append (l m : List Int) : be (l ++ m) = be m + (256 : Int) ^ m.length * be l := by
  unfold be
  rw [List.reverse_append, val_append, List.length_reverse]; rfl
theorem dig_rev {B : Nat} {l : List Int} (h : Dig B l) : Dig B l.reverse := fun d hd => h d (List.mem_reverse.1 hd)
theorem be_lt {l : List Int} (h : Dig 256 l) : 0 ≤ be l ∧ be l < 256 ^ l.length := by
  refine ⟨val_nonneg (dig_rev h), ?_⟩
  have := val_lt (B := 256) (by omega) (dig_rev h)
  rwa [List.length_reverse] at this
theorem or_byte (m d : Nat) (hm : m < 16777216) (hd : d < 256) : Go.bits .or .u32 ((m : Int) * 256) (d : Int) = ((m * 256 + d : Nat) : Int) := by
  have e : ((m : Int) * 256) = ((m * 256 : Nat) : Int) := by omega
  rw [e, u32_or_nat _ _ (by omega) (by omega), Nat.mul_comm m, ← Nat.two_pow_add_eq_or_of_lt (i := 8) (by omega) m]

theorem abs_step {l D : List Int} {t e lo b : Nat} (hd : Dig 256 l) (h1 : (e : Int) = l.length - 4 * t) (h2 : D.length = t) (hg : Dig B32 D) (hv : val B32 D = be (l.drop e)) (hlo : e - 4 = lo) (he : e ≤ l.length) (hb : (b : Int) = be ((l.drop lo).take (e - lo))) :
    Dig B32 (D ++ [(b : Int)]) ∧ val B32 (D ++ [(b : Int)]) = be (l.drop lo) := by
  have hC : Dig 256 ((l.drop lo).take (e - lo)) := dig_take (dig_drop hd _) _
  have hlt := be_lt hC
  have hlen : ((l.drop lo).take (e - lo)).length = e - lo := by rw [List.length_take, List.length_drop]; omega
  rw [hlen, ← hb] at hlt
  have hlt2 : (256 : Int) ^ (e - lo) ≤ 256 ^ 4 := by
    have : (256 : Nat) ^ (e - lo) ≤ 256 ^ 4 := Nat.pow_le_pow_right (by omega) (by omega)
    have h3 := Int.ofNat_le.2 this
    rw [Int.natCast_pow, Int.natCast_pow] at h3
    exact h3
  refine ⟨dig_append.2 ⟨hg, dig_one hlt.1 (Int.lt_of_lt_of_le hlt.2 hlt2)⟩, ?_⟩
  have e1 : l.drop lo = (l.drop lo).take (e - lo) ++ l.drop e := by
    have h := (List.take_append_drop (e - lo) (l.drop lo)).symm
    rw [List.drop_drop, show lo + (e - lo) = e by omega] at h
    exact h
  rw [e1, be_append, val_snoc, hv, ← hb, h2, List.length_drop, show l.length - e = 4 * t by omega, Int.pow_mul]
  rfl
theorem byte_step {l : List Int} {e lo j b d : Nat} (he : e ≤ l.length) (hj : j < e - lo) (hb : (b : Int) = be ((l.drop lo).take j)) (hd : rd l ((lo + j : Nat) : Int) = d) : ((b * 256 + d : Nat) : Int) = be ((l.drop lo).take (j + 1)) := by
  have h : j < (l.drop lo).length := by rw [List.length_drop]; omega
  rw [take_rd h, be_snoc, ← hb]
  have : rd (l.drop lo) j = d := by
    rw [← hd, rd_get h, rd_get (by omega), List.getElem_drop]
  rw [this]; omega
theorem byte_lt {l : List Int} {lo j b : Nat} (hd : Dig 256 l) (hj : j ≤ 3) (hb : (b : Int) = be ((l.drop lo).take j)) : b < 16777216 := by
  have h := (be_lt (dig_take (dig_drop hd lo) j)).2
  have h2 : (256 : Int) ^ ((l.drop lo).take j).length ≤ 256 ^ 3 := by
    have : (256 : Nat) ^ ((l.drop lo).take j).length ≤ 256 ^ 3 := Nat.pow_le_pow_right (by omega) (Nat.le_trans (List.length_take_le _ _) hj)
    have h3 := Int.ofNat_le.2 this
    rw [Int.natCast_pow, Int.natCast_pow] at h3
    exact h3
  rw [← hb] at h
  have := Int.lt_of_lt_of_le h h2
  omega
theorem maken_event {P : Program} {ops : Array Oper} {Q : Exit → Act → World → Prop} {rest : List Oper} {o : Oper} {a : Act} {K : IntKind} {W : World} (hgd : o.guard = none) {N : Tmp} (_hd : o.dst = some N) {m : Nat} {e : TypeId} (hm : m ≤ 140737488355328)
    (hrun : (execOp a.eval o).run P W = .ok (.value (.slice (some ⟨W.heap.size, 0, none⟩) 0 m)) (W.alloc (.cells (madeCells #[.int K 0] m) e)))
    (h : ∀ v w1, Kd.R (Kd.int K) e w1 W.heap.size (fun _ => True) v [] → Below W.heap.size W w1 → wpList P ops Q rest (a.put o.dst v) w1) : wpList P ops Q (o :: rest) a W :=
  Kd.event_run hgd hrun (h _ _ (row_maken W K e 0 m (Nat.zero_le _) hm) (below_alloc (Below.refl _ _) _))

set_option maxHeartbeats 4000000 in
set_option maxRecDepth 100000 in
theorem abs_walk (g : Bool) (A0 : Option Addr) (c0 : Nat) (l : List Int) (w : World) (hr : Aside0 (Kd.C (Kd.int .u8) w A0 l.length l)) (hc0 : l.length ≤ c0) (hn1 : l.length ≤ 1000) (hd : Aside0 (Dig 256 l)) :
    Calls Tryd.prog 44 #[.agg #[.bool g, .slice A0 l.length c0]] w fun e w' => ∃ (v : Value) (D : List Int), e = .returned v ∧ Kd.R (Kd.int .u32) 57 w' w.heap.size (fun _ => True) v D ∧ (Dig B32 D ∧ 4 * D.length < l.length + 4 ∧ val B32 D = be l) ∧ Below w.heap.size w w' := by
  have hu24 := Tryd.underlying24
  have hm1 : ∀ W : World, (Instr.makeSlice 56 (.int .i64 0) (.int .i64 ((l.length : Int) / 4 + 1))).run Tryd.prog W = .ok (.slice (some ⟨W.heap.size, 0, none⟩) 0 (l.length / 4 + 1)) (W.alloc (.cells (madeCells #[.int .u32 0] (l.length / 4 + 1)) 57)) := fun W => by
    have h := run_maken (P := Tryd.prog) (W := W) (t := 56) (e := 57) (z := .int .u32 0) (bytes := 4) rfl 0 (l.length / 4 + 1) (by omega) Tryd.underlying56 info57 (by omega) (by omega)
    push_cast at h
    exact h
  have HB := Aside0.mk (Below.refl w.heap.size w)
  go_enter Tryd.func44, Tryd.ntmps44
  go_wp2_with (first
    | ((with_reducible refine gate_dst (N := 1) rfl ?_); refine box_event ?hg (N := 1) ?hd (cs := #[.bool g, .slice A0 l.length c0]) (t := 24) ?hr ?_; (case hd => rfl); (case hg => rfl); (case hr => first | (go_simp; done) | (go_simp; rfl)); intro gb hg w2 hbox hb; have n0_ := Aside0.mk (below_step HB.out hb); have n1_ := Aside0.mk hbox; have n2_ := Aside0.mk ((by rw [hg]; exact Nat.le_refl _) : w.heap.size ≤ gb); clear HB; have HB := n0_; have BK := n1_; have GE := n2_; clear n0_ n1_ n2_; clear hb hbox hg; have hcz0 : w2.cell? ⟨gb, 0, none⟩ = some (.bool g) := (blk_cell BK.out 0).trans rfl; have hcz1 : w2.cell? ⟨gb, 1, none⟩ = some (.slice A0 l.length c0) := (blk_cell BK.out 1).trans rfl; have hfz0 := blk_frozen BK.out 0; have hfz1 := blk_frozen BK.out 1)
    | ((with_reducible refine gate_dst (N := 13) rfl ?_); refine maken_event (K := .u32) ?hg (N := 13) ?hd (m := l.length / 4 + 1) (e := 57) (by omega) ?hr ?_; (case hd => rfl); (case hg => rfl); (case hr => first | (go_simp; done) | (go_simp; rw [hm1])); intro vo wo ho hb; have n0_ := Aside0.mk (below_step HB.out hb); have n1_ := Aside0.mk (blk_below BK.out hb); have n2_ := Aside0.mk (Kd.R_lower ho (below_size HB.out)); clear HB BK ho hb hcz0 hcz1 hfz0 hfz1; have HB := n0_; have BK := n1_; have HO := n2_; clear n0_ n1_ n2_; have hcz1 : wo.cell? ⟨gb, 1, none⟩ = some (.slice A0 l.length c0) := (blk_cell BK.out 1).trans rfl; have hfz1 := blk_frozen BK.out 1))
  go_loopw [3, 4] (fun v e wr => ∃ (t : Nat) (z : Int) (D : List Int), e = .int .i64 z ∧ z ≤ l.length ∧ -4 < z ∧ Aside0 (z = l.length - 4 * t ∧ D.length = t ∧ Dig B32 D ∧ val B32 D = be (l.drop z.toNat)) ∧ Aside0 (Kd.R (Kd.int .u32) 57 wr w.heap.size (fun _ => True) v D) ∧ Aside0 (Below w.heap.size w wr) ∧ Aside0 (wr.heap[gb]? = some (.cells #[.bool g, .slice A0 l.length c0] 24 (0, 0)))) (fun _ e _ => (intOf e).toNat)
  case atStart => exact ⟨0, (l.length : Int), [], rfl, by omega, by omega, ⟨by omega, rfl, dig_nil, by rw [Int.toNat_natCast, List.drop_length]; rfl⟩, HO, HB, BK⟩
  case round =>
    clear hm1 hcz1 hfz1 HO HB BK
    obtain ⟨t, z, D, rfl, hz1, hz2, HI, HO, HB, BK⟩ := hrel
    have hcz1 : wr.cell? ⟨gb, 1, none⟩ = some (.slice A0 l.length c0) := (blk_cell BK.out 1).trans rfl
    have hfz1 := blk_frozen BK.out 1
    by_cases hlt : 0 < z
    · obtain ⟨e, rfl⟩ := Int.eq_ofNat_of_zero_le (Int.le_of_lt hlt)
      obtain ⟨ad, he, hc⟩ := Kd.at_int hr.out 0 (by omega) (by omega)
      subst he
      clear hc
      obtain ⟨lo, hlo⟩ : ∃ lo : Nat, e - 4 = lo := ⟨_, rfl⟩
      have hmax : max 0 ((e : Int) - 4) = (lo : Int) := by omega
      have hloe : lo < e := by omega
      have hwr : wrap64 ((e : Int) - 4) = (e : Int) - 4 := wrap_small (by omega) (by omega)
      have hz1' : e ≤ l.length := by omega
      go_wp2
      go_loopw [5, 29] (fun m i wi => ∃ (j b : Nat), j ≤ e - lo ∧ i = .int .i64 j ∧ m = .int .u32 b ∧ Aside0 ((b : Int) = be ((l.drop lo).take j)) ∧ Aside0 (Kd.R (Kd.int .u32) 57 wi w.heap.size (fun _ => True) u3 D) ∧ Aside0 (Below w.heap.size w wi) ∧ Aside0 (wi.heap[gb]? = some (.cells #[.bool g, .slice (some ad) l.length c0] 24 (0, 0)))) (fun _ i _ => e - lo - (intOf i).toNat)
      case atStart => exact ⟨0, 0, Nat.zero_le _, rfl, rfl, ⟨rfl⟩, HO, HB, BK⟩
      case round =>
        clear hcz1 hfz1 HO HB BK
        obtain ⟨j, b, hj, rfl, rfl, HJ, HO, HB, BK⟩ := hrel
        by_cases hlt2 : j < e - lo
        · obtain ⟨ad', he', hc⟩ := Kd.at_int (Kd.C_below hr.out HB.out) ((lo + j : Nat) : Int) (by omega) (by omega)
          cases he'
          have hx := rd_dig hd.out (show lo + j < l.length by omega)
          obtain ⟨d, hde⟩ : ∃ d : Nat, rd l ((lo + j : Nat) : Int) = d := Int.eq_ofNat_of_zero_le hx.1
          have hd1 : d < 256 := by have h : (d : Int) < 256 := by rw [← hde]; exact hx.2
                                   omega
          rw [hde, Int.toNat_natCast] at hc
          have hc' : wr.cell? ((ad.add lo).add j) = some (.int .u8 d) := by rw [add_add]; exact hc
          have hb1 : b < 16777216 := byte_lt hd.out (by omega) HJ.out
          have HJ' := Aside0.mk (byte_step hz1' hlt2 HJ.out hde)
          have ey := or_byte b d hb1 hd1
          obtain ⟨y, hy⟩ : ∃ y : Nat, b * 256 + d = y := ⟨_, rfl⟩
          rw [hy] at ey HJ'
          clear hx hde hc HJ hy
          go_wp2
          go_roundw
          case rel => exact ⟨j + 1, y, by omega, by go_num, by go_num, HJ', HO, HB, BK⟩
          case measure => simp [intOf]; omega
        · obtain rfl : j = e - lo := by omega
          have HS := Aside0.mk (abs_step hd.out HI.out.1 HI.out.2.1 HI.out.2.2.1 (by rw [← Int.toNat_natCast e]; exact HI.out.2.2.2) hlo hz1' HJ.out)
          have HD := Aside0.mk HI.out.2.1
          have HZ := Aside0.mk HI.out.1
          go_wp2_with ((with_reducible refine gate_builtin (b := .append) (xs := #[.tmp 39, .tmp 41]) rfl ?_); at_builtin; refine Kd.R_append (Kd.int .u32) (w0 := w) w.heap.size rfl (.tmp 39) (.tmp 41) 56 57 (.int .u32 0) 4 rfl Tryd.underlying56 info57 rfl (by decide) (by omega) u3 D (b : Int) [.int .u32 (b : Int)] (fun _ => True) (fun _ => False) rfl rfl ?aP (fun _ hk => hk.elim) ?aF ?aO ?aB ?aS ?aL ?_; (case aP => exact rfl); (case aB => exact HB.out); (case aF => exact (fun k hk => trivial)); (case aO => exact HO.out); (case aS => exact HB.out.size); (case aL => rw [HD.out]; have := HZ.out; omega); intro v125 w5 ho hb hg hat; have n0_ := Aside0.mk (hb); have n1_ := Aside0.mk (ho); have n2_ := Aside0.mk (blk_grown BK.out hg (Kd.R_ne HO.out BK.out (by decide))); clear HB HO BK; have HB := n0_; have HO := n1_; have BK := n2_; clear n0_ n1_ n2_; clear ho hb hg hat)
          go_roundw
          case rel => exact ⟨t + 1, (e : Int) - 4, _, by go_num, by omega, by omega, ⟨by have := HZ.out; omega, by rw [List.length_append, HD.out]; rfl, HS.out.1, by rw [HS.out.2]; congr 2; omega⟩, HO, HB, BK⟩
          case measure => simp [intOf]; omega
    · have HS := Aside0.mk (show Dig B32 D ∧ 4 * D.length < l.length + 4 ∧ val B32 D = be l by
        obtain ⟨i1, i2, i3, i4⟩ := HI.out
        refine ⟨i3, by rw [i2]; omega, ?_⟩
        rw [i4, show z.toNat = 0 by omega]; rfl)
      go_wp2
      go_ret
      exact ⟨_, rfl, D, HO.out, HS.out, HB.out⟩

end Go.Proofs.YtnkpfaoklkapdaaDoor.Print
