/- Printed twins and contracts of functions, part 2; some are walked by hand. Nothing is assumed. -/
import Derived.Test.YtnfnlmilmpaofaaTA1
import Derived.Test.YtnfnlmilmpaofaaTB1
set_option maxHeartbeats 8000000
namespace Go.Proofs.Ytnfnlmilmpaofaa.PFnExactTreeOfTiling
open Go.RowKit Go.Proofs.YtnfnlmilmpaofaaW.PrintWords Go.Proofs.YtnfnlmilmpaofaaW.PrintLast Go.Proofs.YtnfnlmilmpaofaaW.PrintMore
attribute [local go_sem] max2_int min2_int max_two min_two max_three min_three max_four min_four
set_option linter.unusedVariables false
attribute [local go_sem high] cell_bk frozen_bk
set_option linter.unusedSimpArgs false
mutual
def i_TilingOfTree.l0 : Nat → Int → Int → List (S50) → List (S41) → List Int → Int → Int → Option ((List (S41)) × Bool)
 | 0, _, _, _, _, _, _, _ => none
 | k + 1, x0, x1, x2, x8, x30, x31, x32 => if x32 < x31 then (if 0 ≤ x32 then (if x32 < (x30.length : Int) then (if x32 = 0 then (i_TilingOfTree.l0 k x0 x1 x2 x8 x30 x31 (wrap64 (x32 + 1))) else (if x0 = 0 then (none) else ((i_DominoOver.f (wrap64 (2 * (Int.tmod x32 x0))) (wrap64 (2 * (wrap64 (Int.tdiv x32 x0)))) (wrap64 ((Int.tmod x32 x0) + (Int.tmod (rd x30 x32) x0))) (wrap64 ((wrap64 (Int.tdiv x32 x0)) + (wrap64 (Int.tdiv (rd x30 x32) x0))))).bind fun bt190 => (if x8.length < 5864062014805 then (i_TilingOfTree.l0 k x0 x1 x2 (x8 ++ [(⟨bt190.1, bt190.2.1, bt190.2.2.1⟩ : S41)]) x30 x31 (wrap64 (x32 + 1))) else (none))))) else (none)) else (none)) else ((i_outward.f k x0 x1 x2).bind fun t198 => (i_TilingOfTree.l1 k x0 x8 t198 (t198.length : Int) 0))
def i_TilingOfTree.l1 : Nat → Int → List (S41) → List (S39) → Int → Int → Option ((List (S41)) × Bool)
 | 0, _, _, _, _, _ => none
 | k + 1, x0, x8, x75, x76, x77 => if x77 < x76 then (if 0 ≤ x77 then (if x77 < (x75.length : Int) then (if (wrap64 (x0 - 1)) = 0 then (none) else ((i_DominoOver.f (wrap64 ((wrap64 (2 * (Int.tmod x77 (wrap64 (x0 - 1))))) + 1)) (wrap64 ((wrap64 (2 * (wrap64 (Int.tdiv x77 (wrap64 (x0 - 1)))))) + 1)) ((rd_T39 x75 x77).f0) ((rd_T39 x75 x77).f1)).bind fun bt203 => (if x8.length < 5864062014805 then (i_TilingOfTree.l1 k x0 (x8 ++ [(⟨bt203.1, bt203.2.1, bt203.2.2.1⟩ : S41)]) x75 x76 (wrap64 (x77 + 1))) else (none)))) else (none)) else (none)) else ((i_SortDominoes.f k x8).bind fun t211 => (some (t211, true)))
end
def i_TilingOfTree.f (k : Nat) (a0 : Int) (a1 : Int) (l2 : List (S50)) : Option ((List (S41)) × Bool) := (i_IsTree.f k a0 a1 l2).bind fun t182 => (if t182 = true then ((i_rooted.f k a0 a1 l2).bind fun t186 => (i_TilingOfTree.l0 k a0 a1 l2 (([] : List (S41))) t186 (t186.length : Int) 0)) else (some (([] : List (S41)), false)))
theorem i_TilingOfTree.mono_l : ∀ k, (∀ y0 y1 y2 y3 y4 y5 y6, LeO (i_TilingOfTree.l0 k y0 y1 y2 y3 y4 y5 y6) (i_TilingOfTree.l0 (k + 1) y0 y1 y2 y3 y4 y5 y6)) ∧ (∀ y0 y1 y2 y3 y4, LeO (i_TilingOfTree.l1 k y0 y1 y2 y3 y4) (i_TilingOfTree.l1 (k + 1) y0 y1 y2 y3 y4))
 | 0 => ⟨fun _ _ _ _ _ _ _ r h => by simp [i_TilingOfTree.l0] at h, fun _ _ _ _ _ r h => by simp [i_TilingOfTree.l1] at h⟩
 | k + 1 => by
  obtain ⟨ih0, ih1⟩ := i_TilingOfTree.mono_l k
  refine ⟨?_, ?_⟩ <;> intros
  all_goals first | unfold i_TilingOfTree.l0 | unfold i_TilingOfTree.l1
  all_goals repeat' with_reducible first
  | exact ih0 _ _ _ _ _ _ _
  | exact ih1 _ _ _ _ _
  | exact i_IsTree.mono _ _ _ _
  | exact i_SortDominoes.mono _ _
  | exact i_outward.mono _ _ _ _
  | exact i_rooted.mono _ _ _ _
  | exact LeO.refl _
  | exact LeO.none _
  | refine LeO.ite ?_ ?_
  | refine LeO.bind ?_ (fun _ => ?_)
theorem i_TilingOfTree.mono : ∀ a0 a1 a2 k, LeO (i_TilingOfTree.f k a0 a1 a2) (i_TilingOfTree.f (k + 1) a0 a1 a2) := by
 intro a0 a1 a2 k
 obtain ⟨ih0, ih1⟩ := i_TilingOfTree.mono_l k
 unfold i_TilingOfTree.f
 repeat' with_reducible first
 | exact ih0 _ _ _ _ _ _ _
 | exact ih1 _ _ _ _ _
 | exact i_IsTree.mono _ _ _ _
 | exact i_SortDominoes.mono _ _
 | exact i_outward.mono _ _ _ _
 | exact i_rooted.mono _ _ _ _
 | exact LeO.refl _
 | exact LeO.none _
 | refine LeO.ite ?_ ?_
 | refine LeO.bind ?_ (fun _ => ?_)
def i_TilingOfTree.T8 : Bool × List (List Nat × List Nat) := (true, [([], []), ([], []), ([0, 1], [0, 1]), ([], []), ([], []), ([3, 4], [3, 4]), ([], []), ([], []), ([6, 7], [6, 7]), ([], []), ([], []), ([9, 10], [9, 10]), ([2, 0, 1, 2], [2]), ([5, 12, 0, 1, 2, 3, 4, 5, 12], [5]), ([8, 13, 0, 1, 2, 3, 4, 5, 6, 7, 8, 12, 13], [8]), ([11, 14, 0, 1, 2, 3, 4, 5, 6, 7, 8, 9, 10, 11, 12, 13, 14], [11])])
def i_TilingOfTree.B8 : List Nat := [0, 0, 3, 0, 0, 24, 0, 0, 192, 0, 0, 1536, 7, 4159, 12799, 32767]
theorem i_TilingOfTree.tab8 : rtab .any (opsOf Try.f23 8) = i_TilingOfTree.T8 := by kernel_rfl
theorem i_TilingOfTree.bits8 : waitsOk i_TilingOfTree.T8.2 i_TilingOfTree.B8 = true := by kernel_rfl
def i_TilingOfTree.T15 : Bool × List (List Nat × List Nat) := (true, [([], []), ([], []), ([1], [1]), ([0, 2], [0, 2]), ([3], [3]), ([4], [4]), ([], []), ([], []), ([7], [7]), ([6, 8], [6, 8]), ([9], [9]), ([10], [10]), ([5, 11], [5, 11]), ([], []), ([12, 13], [12, 13]), ([14], [14]), ([15], [15]), ([15], [15]), ([], []), ([18, 16, 14, 0, 1, 2, 3, 4, 5, 6, 7, 8, 9, 10, 11, 12, 13, 14, 15, 16, 18], [16, 18]), ([17, 19, 0, 1, 2, 3, 4, 5, 6, 7, 8, 9, 10, 11, 12, 13, 14, 15, 16, 17, 18, 19], [17])])
def i_TilingOfTree.B15 : List Nat := [0, 0, 2, 7, 15, 31, 0, 0, 128, 448, 960, 1984, 4095, 0, 16383, 32767, 65535, 65535, 0, 393215, 1048575]
theorem i_TilingOfTree.tab15 : rtab .any (opsOf Try.f23 15) = i_TilingOfTree.T15 := by kernel_rfl
theorem i_TilingOfTree.bits15 : waitsOk i_TilingOfTree.T15.2 i_TilingOfTree.B15 = true := by kernel_rfl
set_option maxRecDepth 100000 in
theorem i_TilingOfTree.calls (k : Nat) (a0 : Int) (a1 : Int) (A2 : Option Addr) (c2 : Nat) (l2 : List (S50)) (r1 : List (S41)) (r2 : Bool) (w : World) (hr2 : Kd.C k50 w A2 l2.length l2) (hc2 : l2.length ≤ c2) (h : i_TilingOfTree.f k a0 a1 l2 = some (r1, r2)) :
  Calls Try.prog 23 #[.int .i64 a0, .int .i64 a1, .slice A2 l2.length c2] w fun e w' => ∃ v0_ : Value, e = .returned (.tuple #[v0_, .bool r2]) ∧ Kd.R k41 41 w' w.heap.size (fun _ => True) v0_ r1 ∧ Below w.heap.size w w' := by
 have hu39 := Try.underlying39
 have hu41 := Try.underlying41
 have HR2 := As.mk hr2
 have HC2 := As.mk hc2
 clear hr2 hc2
 have HB : Up w w := ⟨Below.refl _ _⟩
 have H : ((i_IsTree.f k a0 a1 l2).bind fun t182 => (if t182 = true then ((i_rooted.f k a0 a1 l2).bind fun t186 => (i_TilingOfTree.l0 k a0 a1 l2 (([] : List (S41))) t186 (t186.length : Int) 0)) else (some (([] : List (S41)), false)))) = some (r1, r2) := h
 clear h
 obtain ⟨t182, A4, H⟩ := bI H
 replace H := bT H; rcases H with ⟨rfl, H⟩ | ⟨rfl, H⟩
 ·obtain ⟨y183, hy183⟩ : ∃ y_ : List (S41), y_ = (([] : List (S41))) := ⟨_, rfl⟩
  replace H : ((i_rooted.f k a0 a1 l2).bind fun t186 => (i_TilingOfTree.l0 k a0 a1 l2 y183 t186 (t186.length : Int) 0)) = some (r1, r2) := by first | (rw [hy183]; with_reducible exact H) | (have H2_ := (Option.bind_some _ _).symm.trans H; rw [hy183]; with_reducible exact H2_) | (have H2_ := (Option.bind_some _ _).symm.trans H; with_reducible exact H2_) | with_reducible exact H | (rw [hy183]; exact H) | exact H
  have Ny183 := As.mk hy183
  clear hy183
  obtain ⟨t186, A6, H⟩ := bI H
  have H' := As.mk H
  clear H
  go_enter Try.func23, Try.ntmps23
  go_wp2_with (first | ((with_reducible refine gC 77 rfl ?_); refine gK (some 24) rfl rfl Try.func77 (by kernel_rfl) rfl #[.int .i64 a0, .int .i64 a1, .slice A2 l2.length c2] rfl (by (try simp only [sD, sE, sF]); first | done | rfl) (i_IsTree.calls k a0 a1 _ _ l2 true _ ?side1 ?side2 A4.out) ?_; (case side1 => repeat (first | exact HR2.out | (with_reducible refine Kd.C_alloc ?_ _) | (with_reducible refine Kd.C_drewN ?_ _) | (with_reducible refine Kd.C_drew ?_))); (case side2 => exact HC2.out); intro w7 _) | ((with_reducible refine gate_dst (N := 26) rfl ?_); refine Kd.R_lit k41 _ 41 ?hg (N := 26) ?hd (xs := ([] : List (S41))) (inner := []) (ok := fun _ => True) (okp := fun _ => True) ?hr ?hp (fun _ hk => hk) trivial (Below.refl _ _) (Nat.le_refl _) (by simp) ?_; (case hd => rfl); (case hg => rfl); (case hr => first | (go_simp; done) | (go_simp; rfl)); (case hp => exact (Reps.none _ _)); intro v184 w8 ho9 hb hg_ hnew_; clear hg_ hnew_; (first | rw [← Ny183.out] at ho9 | (simp only [Int.reduceToNat] at ho9; rw [← Ny183.out] at ho9)); have := Stp.mk hb; have HO185 := As.mk (Kd.R_lower ho9 (below_size (uw w))); clear hb ho9) | ((with_reducible refine gC 78 rfl ?_); refine goesL_ (some 30) rfl rfl Try.func78 (by kernel_rfl) rfl #[.int .i64 a0, .int .i64 a1, .slice A2 l2.length c2] rfl (by (try simp only [sD, sE, sF]); first | done | rfl) ?_; (with_reducible refine (i_rooted.calls k a0 a1 _ _ l2 t186 _ ?side1 ?side2 A6.out).mono ?_); (case side1 => exact (Kd.C_below HR2.out (uw w))); (case side2 => exact HC2.out); rintro e w10 ⟨v187, rfl, ho0, hb⟩; refine ⟨_, rfl, ?_⟩; have := Stp.mk hb; replace HO185 := hB HO185 hb; have HO188 := As.mk (Kd.R_lower ho0 (below_size (uw w))); (try clear ho0); obtain ⟨Ao11, co11, eo11⟩ := Kd.R_slice HO188.out; subst eo11))
  go_loopg [8, 32] k (fun kq v8 v32 w' => ∃ (x8_1 : List (S41)) (x32_1 : Int), v32 = .int .i64 x32_1 ∧ As (i_TilingOfTree.l0 kq a0 a1 l2 x8_1 t186 (t186.length : Int) x32_1 = some (r1, r2)) ∧ As (kq ≤ k) ∧ As (Kd.R k41 41 w' w.heap.size (fun _ => True) v8 x8_1) ∧ As (Kd.R (Kd.int .i64) 3 w' w.heap.size (fun _ => True) (.slice Ao11 t186.length co11) t186) ∧ Up w w')
  case atStart => exact ⟨(y183), (0), (by first | rfl | (simp; done) | (simp [*]; done)), H', ⟨Nat.le_refl _⟩, ⟨rX HO185.out⟩, ⟨rX HO188.out⟩, ⟨uw w⟩⟩
  case round =>
   clear H'
   try clear c5
   obtain ⟨x8_1, x32_1, rfl, HA, HK1, HO_8, HO_30, HB⟩ := hrel
   cases gk with
   | zero => exact absurd HA.out (by simp [i_TilingOfTree.l0])
   | succ k1 =>
    have H := HA.out
    clear HA
    simp only [i_TilingOfTree.l0] at H
    by_cases c12 : x32_1 < (t186.length : Int)
    ·rw [if_pos c12] at H
     have c12b0 : decide (x32_1 < (t186.length : Int)) = true := decide_eq_true c12
     clear c12
     by_cases c13 : 0 ≤ x32_1
     ·rw [if_pos c13] at H
      have c13b0 : decide (0 ≤ x32_1) = true := decide_eq_true c13
      clear c13
      by_cases c14 : x32_1 < (t186.length : Int)
      ·rw [if_pos c14] at H
       have c14b0 : decide (x32_1 < (t186.length : Int)) = true := decide_eq_true c14
       clear c14
       by_cases c15 : x32_1 = 0
       ·rw [if_pos c15] at H
        have c15b0 : (x32_1 == 0) = true := beq_iff_eq.mpr c15
        have c15b1 : (x32_1 != 0) = false := bne_eq_false_iff_eq.mpr c15
        clear c15
        have H' := As.mk H
        clear H
        have p189 : 0 ≤ (x32_1 : Int) := oD
        have q189 : x32_1 < (t186.length : Int) := oD
        obtain ⟨ad189, e189, hx189_0⟩ := Kd.at_int (Kd.R_reads' HO_30.out).2.2 x32_1 p189 q189
        cases e189
        replace p189 := eq_true p189
        replace q189 := eq_true q189
        go_wp2
        go_roundg k1
        case measure => have := HK1.out; omega
        case rel => exact ⟨(x8_1), (wrap64 (x32_1 + 1)), (by first | rfl | (simp; done) | (simp [*]; done)), H', ⟨by have := HK1.out; omega⟩, ⟨rX HO_8.out⟩, ⟨rX HO_30.out⟩, ⟨uw w⟩⟩
       ·rw [if_neg c15] at H
        have c15b0 : (x32_1 == 0) = false := beq_eq_false_iff_ne.mpr c15
        have c15b1 : (x32_1 != 0) = true := bne_iff_ne.mpr c15
        by_cases c16 : a0 = 0
        ·rw [if_pos c16] at H
         exact absurd H (by simp)
        ·rw [if_neg c16] at H
         have c16b0 : (a0 == 0) = false := beq_eq_false_iff_ne.mpr c16
         have c16b1 : (a0 != 0) = true := bne_iff_ne.mpr c16
         obtain ⟨⟨t190, t191, t192, t193⟩, A17, H⟩ := bI H
         dsimp only at H
         by_cases c18 : x8_1.length < 5864062014805
         ·rw [if_pos c18] at H
          have LMc18 := As.mk c18
          clear c18
          obtain ⟨y195, hy195⟩ : ∃ y_ : List (S41), y_ = (x8_1 ++ [(⟨t190, t191, t192⟩ : S41)]) := ⟨_, rfl⟩
          replace H : (i_TilingOfTree.l0 k1 a0 a1 l2 y195 t186 (t186.length : Int) (wrap64 (x32_1 + 1))) = some (r1, r2) := by first | (rw [hy195]; with_reducible exact H) | (have H2_ := (Option.bind_some _ _).symm.trans H; rw [hy195]; with_reducible exact H2_) | (have H2_ := (Option.bind_some _ _).symm.trans H; with_reducible exact H2_) | with_reducible exact H | (rw [hy195]; exact H) | exact H
          have Ny195 := As.mk hy195
          clear hy195
          have H' := As.mk H
          clear H
          have p189 : 0 ≤ (x32_1 : Int) := oD
          have q189 : x32_1 < (t186.length : Int) := oD
          obtain ⟨ad189, e189, hx189_0⟩ := Kd.at_int (Kd.R_reads' HO_30.out).2.2 x32_1 p189 q189
          cases e189
          replace p189 := eq_true p189
          replace q189 := eq_true q189
          try go_wp2
          replace HO_8 := As.mk (Kd.R_drew HO_8.out)
          replace HO_30 := As.mk (Kd.R_drew HO_30.out)
          refine sV [(0,39),(1,40),(2,41),(3,42),(4,43),(5,44),(6,45),(7,46),(8,47),(9,48),(10,49),(11,50),(12,11),(13,12),(14,13),(15,14)] (fun w' => True) [] (by kernel_rfl) rfl trivial (fun hHeld => ?_); refine wTW i_TilingOfTree.tab8 i_TilingOfTree.bits8 (fun HT_ HW_ => ?_)
          have hd_ := stD wr
          generalize wr.drew = w19 at hd_ HO_8 HO_30 hHeld ⊢
          iterate 16 refine pV rfl rfl (any_of HT_.out (by kernel_rfl)) (by rfl) (fun _ _ _ _ h => h) ⟨_, fun w' => by go_simp; with_reducible rfl, _, by simp only [Act.put, sA, sB, sC, i64_w, i32_w]; rfl, ?_⟩
          refine dV (done_of HT_.out (by kernel_rfl)) ?_
          try go_wp2_with (first | ((with_reducible refine gC 79 rfl ?_); refine gK (some 64) rfl rfl Try.func79 (by kernel_rfl) rfl #[.agg #[.int .i64 (wrap64 (2 * (Int.tmod x32_1 a0))), .int .i64 (wrap64 (2 * (wrap64 (Int.tdiv x32_1 a0))))], .agg #[.int .i64 (wrap64 ((Int.tmod x32_1 a0) + (Int.tmod (rd t186 x32_1) a0))), .int .i64 (wrap64 ((wrap64 (Int.tdiv x32_1 a0)) + (wrap64 (Int.tdiv (rd t186 x32_1) a0))))]] rfl (by (try simp only [sD, sE, sF]); first | done | rfl) (i_DominoOver.calls (wrap64 (2 * (Int.tmod x32_1 a0))) (wrap64 (2 * (wrap64 (Int.tdiv x32_1 a0)))) (wrap64 ((Int.tmod x32_1 a0) + (Int.tmod (rd t186 x32_1) a0))) (wrap64 ((wrap64 (Int.tdiv x32_1 a0)) + (wrap64 (Int.tdiv (rd t186 x32_1) a0)))) t190 t191 t192 t193 _ A17.out) ?_; intro w20 sb; have hb := sb.out; replace HO_8 := hB HO_8 hb; replace HO_30 := hB HO_30 hb) | ((with_reducible refine gD 15 rfl ?_); refine bxE rfl #[.int .i64 0, .int .i64 0, .bool false] 41 ?_ ?_; (focus first | (go_simp; done) | (go_simp; rfl)); intro gb194 _ w21 sb _; have hb := sb.out; have hg := nw gb194; have hbox := bk gb194 (w := w21); replace HO_8 := As.mk (Kd.R_below (Kd.R_elderB (rX HO_8.out) gb194 (Nat.le_of_eq hg.symm)) hb); replace HO_30 := hB HO_30 hb; clear hb hg hbox) | ((with_reducible refine gate_builtin (b := .append) (xs := #[.tmp 67, .tmp 69]) rfl ?_); at_builtin; refine Kd.R_append k41 (w0 := w) w.heap.size rfl (.tmp 67) (.tmp 69) 24 41 (.agg #[(.int .i64 0), (.int .i64 0), (.bool false)]) 24 rfl Try.underlying24 info41 rfl (by decide) (by omega) u8 x8_1 (⟨t190, t191, t192⟩ : S41) [.int .i64 t190, .int .i64 t191, .bool t192] (fun k_ => k_ ≠ gb194) (fun _ => False) rfl (by first | (go_simp; done) | (go_simp; rfl)) ?aP (fun _ hk => hk.elim) ?aF ?aO ?aB ?aS ?aL ?_; (case aP => exact k41_mkM _ _ _ (⟨t190, t191, t192⟩ : S41)); (case aB => exact (uw w)); (case aF => exact (fun k_ hk => Kd.freshB (g := gb194) (o := .cells #[.int .i64 t190, .int .i64 t191, .bool t192] 41 (0, 0)) (bkr gb194 (by rfl)) k_ hk)); (case aO => exact (by (with_reducible repeat (first | apply Kd.R_alloc | apply Kd.R_drewN | apply Kd.R_drew)); exact Kd.R_mono (Kd.R_far (p := ⟨gb194, 2, none⟩) (Kd.R_far (p := ⟨gb194, 1, none⟩) (Kd.R_far (p := ⟨gb194, 0, none⟩) (Kd.R_mono HO_8.out (fun k_ hk => (⟨hk, hk.2⟩ : _ ∧ k_ ≠ gb194))) (fun _ hk => hk.2) (.int .i64 t190)) (fun _ hk => hk.2) (.int .i64 t191)) (fun _ hk => hk.2) (.bool t192)) (fun _ hk => hk.1.2))); (case aS => exact (below_size (uw w))); (case aL => have := LMc18.out; omega); intro v196 w23 ho hb hg hat; rw [← Ny195.out] at ho; have n0_ := As.mk (Kd.R_over' (by (with_reducible repeat (first | apply Kd.R_alloc | apply Kd.R_drewN | apply Kd.R_drew)); exact (Kd.R_mono (Kd.R_far (p := ⟨gb194, 2, none⟩) (Kd.R_far (p := ⟨gb194, 1, none⟩) (Kd.R_far (p := ⟨gb194, 0, none⟩) (Kd.R_types HO_30.out (bk gb194) (by decide)) (fun _ hk => hk.2) (.int .i64 t190)) (fun _ hk => hk.2) (.int .i64 t191)) (fun _ hk => hk.2) (.bool t192)) (fun _ h_ => h_.1))) (Kd.R_typed (by (with_reducible repeat (first | apply Kd.R_alloc | apply Kd.R_drewN | apply Kd.R_drew)); exact (Kd.R_mono (Kd.R_far (p := ⟨gb194, 2, none⟩) (Kd.R_far (p := ⟨gb194, 1, none⟩) (Kd.R_far (p := ⟨gb194, 0, none⟩) (Kd.R_mono HO_8.out (fun k_ hk => (⟨hk, hk.2⟩ : _ ∧ k_ ≠ gb194))) (fun _ hk => hk.2) (.int .i64 t190)) (fun _ hk => hk.2) (.int .i64 t191)) (fun _ hk => hk.2) (.bool t192)) (fun _ h_ => h_.1)))) (by decide) hg); have n1_ := Bk.mk (blk_grown (g := gb194) (o := .cells #[.int .i64 t190, .int .i64 t191, .bool t192] 41 (0, 0)) (bkr gb194 (by rfl)) hg (Kd.R_away HO_8.out (fun _ hk => hk.2))); have n2_ := Up.mk (hb); have n3_ := As.mk (ho); clear HO_30; clear HO_8; have HO_30 := n0_; have BK194 := n1_; have HB := n2_; have HO197 := n3_; clear n0_ n1_ n2_ n3_; clear ho hb hg hat))
          go_roundg k1
          case measure => have := HK1.out; omega
          case rel => exact ⟨(y195), (wrap64 (x32_1 + 1)), (by first | rfl | (simp; done) | (simp [*]; done)), H', ⟨by have := HK1.out; omega⟩, ⟨by (with_reducible repeat (first | apply Kd.R_alloc | apply Kd.R_drewN | apply Kd.R_drew)); exact Kd.R_mono HO197.out (fun _ hk => trivial)⟩, ⟨rX HO_30.out⟩, ⟨uw w⟩⟩
         ·rw [if_neg c18] at H
          exact absurd H (by simp)
      ·rw [if_neg c14] at H
       exact absurd H (by simp)
     ·rw [if_neg c13] at H
      exact absurd H (by simp)
    ·rw [if_neg c12] at H
     have c12b0 : decide (x32_1 < (t186.length : Int)) = false := decide_eq_false c12
     clear c12
     obtain ⟨t198, A24, H⟩ := bI H
     have H' := As.mk H
     clear H
     go_wp2_with (first | ((with_reducible refine gC 80 rfl ?_); refine goesL_ (some 75) rfl rfl Try.func80 (by kernel_rfl) rfl #[.int .i64 a0, .int .i64 a1, .slice A2 l2.length c2] rfl (by (try simp only [sD, sE, sF]); first | done | rfl) ?_; (with_reducible refine (i_outward.calls k1 a0 a1 _ _ l2 t198 _ ?side1 ?side2 A24.out).mono ?_); (case side1 => exact (Kd.C_below HR2.out (uw w))); (case side2 => exact HC2.out); rintro e w25 ⟨v199, rfl, ho0, hb⟩; refine ⟨_, rfl, ?_⟩; have := Stp.mk hb; replace HO_8 := hB HO_8 hb; replace HO_30 := hB HO_30 hb; have HO200 := As.mk (Kd.R_lower ho0 (below_size (uw w))); (try clear ho0); obtain ⟨Ao26, co26, eo26⟩ := Kd.R_slice HO200.out; subst eo26))
     go_loopg [8, 77] k1 (fun kq v8 v77 w' => ∃ (x8_2 : List (S41)) (x77_2 : Int), v77 = .int .i64 x77_2 ∧ As (i_TilingOfTree.l1 kq a0 x8_2 t198 (t198.length : Int) x77_2 = some (r1, r2)) ∧ As (kq ≤ k1) ∧ As (Kd.R k41 41 w' w.heap.size (fun _ => True) v8 x8_2) ∧ As (Kd.R k39 39 w' w.heap.size (fun _ => True) (.slice Ao26 t198.length co26) t198) ∧ Up w w')
     case atStart => exact ⟨(x8_1), (0), (by first | rfl | (simp; done) | (simp [*]; done)), H', ⟨Nat.le_refl _⟩, ⟨rX HO_8.out⟩, ⟨rX HO200.out⟩, ⟨uw w⟩⟩
     case round =>
      clear H'
      try clear c5
      try clear c12
      try clear c12b0
      obtain ⟨x8_2, x77_2, rfl, HA, HK2, HO_8, HO_75, HB⟩ := hrel
      cases gk with
      | zero => exact absurd HA.out (by simp [i_TilingOfTree.l1])
      | succ k2 =>
       have H := HA.out
       clear HA
       simp only [i_TilingOfTree.l1] at H
       by_cases c27 : x77_2 < (t198.length : Int)
       ·rw [if_pos c27] at H
        have c27b0 : decide (x77_2 < (t198.length : Int)) = true := decide_eq_true c27
        clear c27
        by_cases c28 : 0 ≤ x77_2
        ·rw [if_pos c28] at H
         have c28b0 : decide (0 ≤ x77_2) = true := decide_eq_true c28
         clear c28
         by_cases c29 : x77_2 < (t198.length : Int)
         ·rw [if_pos c29] at H
          have c29b0 : decide (x77_2 < (t198.length : Int)) = true := decide_eq_true c29
          clear c29
          by_cases c30 : (wrap64 (a0 - 1)) = 0
          ·rw [if_pos c30] at H
           exact absurd H (by simp)
          ·rw [if_neg c30] at H
           have c30b0 : ((wrap64 (a0 - 1)) == 0) = false := beq_eq_false_iff_ne.mpr c30
           have c30b1 : ((wrap64 (a0 - 1)) != 0) = true := bne_iff_ne.mpr c30
           obtain ⟨⟨t203, t204, t205, t206⟩, A31, H⟩ := bI H
           dsimp only at H
           by_cases c32 : x8_2.length < 5864062014805
           ·rw [if_pos c32] at H
            have LMc32 := As.mk c32
            clear c32
            obtain ⟨y208, hy208⟩ : ∃ y_ : List (S41), y_ = (x8_2 ++ [(⟨t203, t204, t205⟩ : S41)]) := ⟨_, rfl⟩
            replace H : (i_TilingOfTree.l1 k2 a0 y208 t198 (t198.length : Int) (wrap64 (x77_2 + 1))) = some (r1, r2) := by first | (rw [hy208]; with_reducible exact H) | (have H2_ := (Option.bind_some _ _).symm.trans H; rw [hy208]; with_reducible exact H2_) | (have H2_ := (Option.bind_some _ _).symm.trans H; with_reducible exact H2_) | with_reducible exact H | (rw [hy208]; exact H) | exact H
            have Ny208 := As.mk hy208
            clear hy208
            have H' := As.mk H
            clear H
            have p201 : 0 ≤ (x77_2 : Int) := oD
            have q201 : x77_2 < (t198.length : Int) := oD
            obtain ⟨ad201, e201, hx201_0, hx201_1⟩ := at_T39 (Kd.R_reads' HO_75.out).2.2 x77_2 p201 q201
            cases e201
            replace p201 := eq_true p201
            replace q201 := eq_true q201
            try go_wp2_with (first | ((with_reducible refine gD 18 rfl ?_); refine bxE rfl #[.int .i64 0, .int .i64 0] 39 ?_ ?_; (focus first | (go_simp; done) | (go_simp; rfl)); intro gb202 _ w33 sb _; have hb := sb.out; have hg := nw gb202; have hbox := bk gb202 (w := w33); replace HO_8 := hB HO_8 hb; replace HO_75 := As.mk (Kd.R_below (Kd.R_elderB (rX HO_75.out) gb202 (Nat.le_of_eq hg.symm)) hb); clear hb hg hbox))
            have n0_ : As (Kd.R k41 41 ((w33.setCell ⟨gb202, 0, none⟩ (.int .i64 ((rd_T39 t198 x77_2).f0))).setCell ⟨gb202, 1, none⟩ (.int .i64 ((rd_T39 t198 x77_2).f1))) w.heap.size (fun _ => True) u8 x8_2) := ⟨by (with_reducible repeat (first | apply Kd.R_alloc | apply Kd.R_drewN | apply Kd.R_drew)); exact Kd.R_mono (Kd.R_far (p := ⟨gb202, 1, none⟩) (Kd.R_far (p := ⟨gb202, 0, none⟩) (Kd.R_types HO_8.out (bk gb202) (by decide)) (fun _ hk => hk.2) (.int .i64 ((rd_T39 t198 x77_2).f0))) (fun _ hk => hk.2) (.int .i64 ((rd_T39 t198 x77_2).f1))) (fun _ hk => trivial)⟩
            have n1_ : As (Kd.R k39 39 ((w33.setCell ⟨gb202, 0, none⟩ (.int .i64 ((rd_T39 t198 x77_2).f0))).setCell ⟨gb202, 1, none⟩ (.int .i64 ((rd_T39 t198 x77_2).f1))) w.heap.size (fun k_ => k_ ≠ gb202) (.slice (some ad201) t198.length co26) t198) := ⟨by (with_reducible repeat (first | apply Kd.R_alloc | apply Kd.R_drewN | apply Kd.R_drew)); exact Kd.R_mono (Kd.R_far (p := ⟨gb202, 1, none⟩) (Kd.R_far (p := ⟨gb202, 0, none⟩) (Kd.R_mono HO_75.out (fun k_ hk => (⟨hk, hk.2⟩ : _ ∧ k_ ≠ gb202))) (fun _ hk => hk.2) (.int .i64 ((rd_T39 t198 x77_2).f0))) (fun _ hk => hk.2) (.int .i64 ((rd_T39 t198 x77_2).f1))) (fun _ hk => hk.1.2)⟩
            have n2_ : Bk ((w33.setCell ⟨gb202, 0, none⟩ (.int .i64 ((rd_T39 t198 x77_2).f0))).setCell ⟨gb202, 1, none⟩ (.int .i64 ((rd_T39 t198 x77_2).f1))) gb202 (.cells #[.int .i64 ((rd_T39 t198 x77_2).f0), .int .i64 ((rd_T39 t198 x77_2).f1)] 39 (0, 0)) := bM (by rfl)
            have n3_ : Up w ((w33.setCell ⟨gb202, 0, none⟩ (.int .i64 ((rd_T39 t198 x77_2).f0))).setCell ⟨gb202, 1, none⟩ (.int .i64 ((rd_T39 t198 x77_2).f1))) := ⟨uw w⟩
            (try clear HO_8)
            (try clear HO_75)
            generalize ((w33.setCell ⟨gb202, 0, none⟩ (.int .i64 ((rd_T39 t198 x77_2).f0))).setCell ⟨gb202, 1, none⟩ (.int .i64 ((rd_T39 t198 x77_2).f1))) = w35 at n0_ n1_ n2_ n3_ ⊢
            have HO_8 := n0_
            have HO_75 := n1_
            have BK202 := n2_
            have HB := n3_
            clear n0_ n1_ n2_ n3_
            replace HO_8 := As.mk (Kd.R_drew HO_8.out)
            replace HO_75 := As.mk (Kd.R_drew HO_75.out)
            refine start_ (n := 21) (S := fun w' => w'.cell? ⟨gb202, 0, none⟩ = some (.int .i64 ((rd_T39 t198 x77_2).f0)) ∧ w'.cell? ⟨gb202, 1, none⟩ = some (.int .i64 ((rd_T39 t198 x77_2).f1))) (ds := []) #[false, false, false, false, false, false, false, false, false, false, false, false, false, false, false, false, false, false, false, false, false] (by kernel_rfl) rfl rfl ⟨cl gb202 0 (by rfl), cl gb202 1 (by rfl)⟩ (fun hHeld => ?_); refine with_tabW i_TilingOfTree.tab15 i_TilingOfTree.bits15 (fun HT_ HW_ => ?_)
            have hd_ := stD w35
            generalize w35.drew = w36 at hd_ HO_8 HO_75 hHeld ⊢
            refine pure_ (i := 0) (N := some 83) (v := ?_) (a' := ?_) #[true, false, false, false, false, false, false, false, false, false, false, false, false, false, false, false, false, false, false, false, false] rfl rfl (any_of HT_.out (by kernel_rfl)) (fun _ _ _ h => h) (Or.inl ⟨by rfl, ?_⟩) ?_ ?_
            rotate_left
            ·intro w'
             go_simp
             with_reducible rfl
            rotate_left
            ·simp only [Act.put, sA, sB, sC, i64_w, i32_w]
             rfl
            refine pure_ (i := 1) (N := some 84) (v := ?_) (a' := ?_) #[true, true, false, false, false, false, false, false, false, false, false, false, false, false, false, false, false, false, false, false, false] rfl rfl (any_of HT_.out (by kernel_rfl)) (fun _ _ _ h => h) (Or.inl ⟨by rfl, ?_⟩) ?_ ?_
            rotate_left
            ·intro w'
             go_simp
             with_reducible rfl
            rotate_left
            ·simp only [Act.put, sA, sB, sC, i64_w, i32_w]
             rfl
            refine pure_ (i := 2) (N := some 85) (v := ?_) (a' := ?_) #[true, true, true, false, false, false, false, false, false, false, false, false, false, false, false, false, false, false, false, false, false] rfl rfl (any_of HT_.out (by kernel_rfl)) (fun _ _ _ h => h) (Or.inl ⟨by rfl, ?_⟩) ?_ ?_
            rotate_left
            ·intro w'
             go_simp
             with_reducible rfl
            rotate_left
            ·simp only [Act.put, sA, sB, sC, i64_w, i32_w]
             rfl
            refine pure_ (i := 3) (N := some 86) (v := ?_) (a' := ?_) #[true, true, true, true, false, false, false, false, false, false, false, false, false, false, false, false, false, false, false, false, false] rfl rfl (any_of HT_.out (by kernel_rfl)) (fun _ _ _ h => h) (Or.inl ⟨by rfl, ?_⟩) ?_ ?_
            rotate_left
            ·intro w'
             go_simp
             with_reducible rfl
            rotate_left
            ·simp only [Act.put, sA, sB, sC, i64_w, i32_w]
             rfl
            refine pure_ (i := 4) (N := some 87) (v := ?_) (a' := ?_) #[true, true, true, true, true, false, false, false, false, false, false, false, false, false, false, false, false, false, false, false, false] rfl rfl (any_of HT_.out (by kernel_rfl)) (fun _ _ _ h => h) (Or.inl ⟨by rfl, ?_⟩) ?_ ?_
            rotate_left
            ·intro w'
             go_simp
             with_reducible rfl
            rotate_left
            ·simp only [Act.put, sA, sB, sC, i64_w, i32_w]
             rfl
            refine pure_ (i := 5) (N := some 88) (v := ?_) (a' := ?_) #[true, true, true, true, true, true, false, false, false, false, false, false, false, false, false, false, false, false, false, false, false] rfl rfl (any_of HT_.out (by kernel_rfl)) (fun _ _ _ h => h) (Or.inl ⟨by rfl, ?_⟩) ?_ ?_
            rotate_left
            ·intro w'
             go_simp
             with_reducible rfl
            rotate_left
            ·simp only [Act.put, sA, sB, sC, i64_w, i32_w]
             rfl
            refine pure_ (i := 6) (N := some 89) (v := ?_) (a' := ?_) #[true, true, true, true, true, true, true, false, false, false, false, false, false, false, false, false, false, false, false, false, false] rfl rfl (any_of HT_.out (by kernel_rfl)) (fun _ _ _ h => h) (Or.inl ⟨by rfl, ?_⟩) ?_ ?_
            rotate_left
            ·intro w'
             go_simp
             with_reducible rfl
            rotate_left
            ·simp only [Act.put, sA, sB, sC, i64_w, i32_w]
             rfl
            refine pure_ (i := 7) (N := some 90) (v := ?_) (a' := ?_) #[true, true, true, true, true, true, true, true, false, false, false, false, false, false, false, false, false, false, false, false, false] rfl rfl (any_of HT_.out (by kernel_rfl)) (fun _ _ _ h => h) (Or.inl ⟨by rfl, ?_⟩) ?_ ?_
            rotate_left
            ·intro w'
             go_simp
             with_reducible rfl
            rotate_left
            ·simp only [Act.put, sA, sB, sC, i64_w, i32_w]
             rfl
            refine pure_ (i := 8) (N := some 91) (v := ?_) (a' := ?_) #[true, true, true, true, true, true, true, true, true, false, false, false, false, false, false, false, false, false, false, false, false] rfl rfl (any_of HT_.out (by kernel_rfl)) (fun _ _ _ h => h) (Or.inl ⟨by rfl, ?_⟩) ?_ ?_
            rotate_left
            ·intro w'
             go_simp
             with_reducible rfl
            rotate_left
            ·simp only [Act.put, sA, sB, sC, i64_w, i32_w]
             rfl
            refine pure_ (i := 9) (N := some 92) (v := ?_) (a' := ?_) #[true, true, true, true, true, true, true, true, true, true, false, false, false, false, false, false, false, false, false, false, false] rfl rfl (any_of HT_.out (by kernel_rfl)) (fun _ _ _ h => h) (Or.inl ⟨by rfl, ?_⟩) ?_ ?_
            rotate_left
            ·intro w'
             go_simp
             with_reducible rfl
            rotate_left
            ·simp only [Act.put, sA, sB, sC, i64_w, i32_w]
             rfl
            refine pure_ (i := 10) (N := some 93) (v := ?_) (a' := ?_) #[true, true, true, true, true, true, true, true, true, true, true, false, false, false, false, false, false, false, false, false, false] rfl rfl (any_of HT_.out (by kernel_rfl)) (fun _ _ _ h => h) (Or.inl ⟨by rfl, ?_⟩) ?_ ?_
            rotate_left
            ·intro w'
             go_simp
             with_reducible rfl
            rotate_left
            ·simp only [Act.put, sA, sB, sC, i64_w, i32_w]
             rfl
            refine pure_ (i := 11) (N := some 94) (v := ?_) (a' := ?_) #[true, true, true, true, true, true, true, true, true, true, true, true, false, false, false, false, false, false, false, false, false] rfl rfl (any_of HT_.out (by kernel_rfl)) (fun _ _ _ h => h) (Or.inl ⟨by rfl, ?_⟩) ?_ ?_
            rotate_left
            ·intro w'
             go_simp
             with_reducible rfl
            rotate_left
            ·simp only [Act.put, sA, sB, sC, i64_w, i32_w]
             rfl
            refine pure_ (i := 12) (N := some 95) (v := ?_) (a' := ?_) #[true, true, true, true, true, true, true, true, true, true, true, true, true, false, false, false, false, false, false, false, false] rfl rfl (any_of HT_.out (by kernel_rfl)) (fun _ _ _ h => h) (Or.inl ⟨by rfl, ?_⟩) ?_ ?_
            rotate_left
            ·intro w'
             go_simp
             with_reducible rfl
            rotate_left
            ·simp only [Act.put, sA, sB, sC, i64_w, i32_w]
             rfl
            refine take_ (i := 13) (N := some 96) (v := ?_) (a' := ?_) #[true, true, true, true, true, true, true, true, true, true, true, true, true, true, false, false, false, false, false, false, false] rfl rfl (take_ofW HT_.out HW_.out (by kernel_rfl)) (fun _ _ _ h => h) (Or.inl ⟨by rfl, ?_⟩) hHeld ?_ ?_
            rotate_left
            ·rintro w' ⟨s0, s1⟩
             go_simp
             with_reducible rfl
            rotate_left
            ·simp only [Act.put, sA, sB, sC, i64_w, i32_w]
             rfl
            refine join_ (σ := Nat) 2 #[true, true, true, true, true, true, true, true, true, true, true, true, true, true, true, true, true, true, true, false, false] (fun s_ => [(97, .tuple #[.agg #[.int .i64 t203, .int .i64 t204, .bool t205], .bool t206]), (19, .pointer (some ⟨s_, 0, none⟩)), (82, .tuple #[.agg #[.int .i64 t203, .int .i64 t204, .bool t205], .bool t206]), (98, .agg #[.int .i64 t203, .int .i64 t204, .bool t205]), (99, .bool t206)]) (fun s_ w' => (w'.cell? ⟨gb202, 0, none⟩ = some (.int .i64 ((rd_T39 t198 x77_2).f0)) ∧ w'.cell? ⟨gb202, 1, none⟩ = some (.int .i64 ((rd_T39 t198 x77_2).f1))) ∧ (Kd.R k39 39 w' w.heap.size (fun k_ => k_ ≠ gb202) (.slice (some ad201) t198.length co26) t198) ∧ (Kd.R k41 41 w' w.heap.size (fun k_ => k_ ≠ s_) u8 x8_2) ∧ (w'.heap[gb202]? = some (.cells #[.int .i64 ((rd_T39 t198 x77_2).f0), .int .i64 ((rd_T39 t198 x77_2).f1)] 39 (0, 0))) ∧ (w'.heap[s_]? = some (.cells #[.int .i64 0, .int .i64 0, .bool false] 41 (0, 0))) ∧ (w.heap.size ≤ s_) ∧ (w.heap.size ≤ s_) ∧ (gb202 ≠ s_) ∧ (s_ ≠ gb202) ∧ (Below w.heap.size w w')) ?_ ?_
            rotate_left
            ·intro hCont
             refine two_ (i := 14) (j := 18) (Ni := some 97) (Nj := some 19) #[true, true, true, true, true, true, true, true, true, true, true, true, true, true, true, false, false, false, false, false, false] #[true, true, true, true, true, true, true, true, true, true, true, true, true, true, false, false, false, false, true, false, false] rfl rfl rfl rfl (two_of HT_.out (by kernel_rfl)) (by decide) (by decide) (fun K hK => ?_) (fun K hK => ?_)
             ·skip
              refine goes_ Try.func79 (by kernel_rfl) rfl #[.agg #[.int .i64 (wrap64 ((wrap64 (2 * (Int.tmod x77_2 (wrap64 (a0 - 1))))) + 1)), .int .i64 (wrap64 ((wrap64 (2 * (wrap64 (Int.tdiv x77_2 (wrap64 (a0 - 1)))))) + 1))], .agg #[.int .i64 ((rd_T39 t198 x77_2).f0), .int .i64 ((rd_T39 t198 x77_2).f1)]] (by rfl) rfl rfl (by (try simp only [sD, sE, sF]); first | done | rfl) ?_
              with_reducible refine (i_DominoOver.calls (wrap64 ((wrap64 (2 * (Int.tmod x77_2 (wrap64 (a0 - 1))))) + 1)) (wrap64 ((wrap64 (2 * (wrap64 (Int.tdiv x77_2 (wrap64 (a0 - 1)))))) + 1)) ((rd_T39 t198 x77_2).f0) ((rd_T39 t198 x77_2).f1) t203 t204 t205 t206 _ A31.out).mono ?_
              rintro e w37 ⟨rfl, hb⟩
              refine ⟨_, rfl, ?_⟩
              have := Stp.mk hb
              replace HO_8 := hB HO_8 hb
              replace HO_75 := hB HO_75 hb
              refine hK.out _ _ ⟨cl gb202 0 (by rfl), cl gb202 1 (by rfl)⟩ (fun hHeld => ?_)
              clear hK K
              refine norm_ (a' := ?_) ?_ ?_
              rotate_left
              ·show Act.put _ (some 97) _ = _
               simp only [Act.put, sA, sB, sC, i64_w, i32_w]
               rfl
              refine pure_ (i := 15) (N := some 82) (v := ?_) (a' := ?_) #[true, true, true, true, true, true, true, true, true, true, true, true, true, true, true, true, false, false, false, false, false] rfl rfl (any_of HT_.out (by kernel_rfl)) (fun _ _ _ h => h) (Or.inl ⟨by rfl, ?_⟩) ?_ ?_
              rotate_left
              ·intro w'
               go_simp
               with_reducible rfl
              rotate_left
              ·simp only [Act.put, sA, sB, sC, i64_w, i32_w]
               rfl
              refine pure_ (i := 16) (N := some 98) (v := ?_) (a' := ?_) #[true, true, true, true, true, true, true, true, true, true, true, true, true, true, true, true, true, false, false, false, false] rfl rfl (any_of HT_.out (by kernel_rfl)) (fun _ _ _ h => h) (Or.inl ⟨by rfl, ?_⟩) ?_ ?_
              rotate_left
              ·intro w'
               go_simp
               with_reducible rfl
              rotate_left
              ·simp only [Act.put, sA, sB, sC, i64_w, i32_w]
               rfl
              refine pure_ (i := 17) (N := some 99) (v := ?_) (a' := ?_) #[true, true, true, true, true, true, true, true, true, true, true, true, true, true, true, true, true, true, false, false, false] rfl rfl (any_of HT_.out (by kernel_rfl)) (fun _ _ _ h => h) (Or.inl ⟨by rfl, ?_⟩) ?_ ?_
              rotate_left
              ·intro w'
               go_simp
               with_reducible rfl
              rotate_left
              ·simp only [Act.put, sA, sB, sC, i64_w, i32_w]
               rfl
              refine one_ (i := 18) (N := some 19) #[true, true, true, true, true, true, true, true, true, true, true, true, true, true, true, true, true, true, true, false, false] rfl rfl (one_of HT_.out (by kernel_rfl)) (by decide) (fun K hK => ?_)
              refine box_step ?hg (N := 19) ?hd (cs := #[.int .i64 0, .int .i64 0, .bool false]) (t := 41) ?hr ?_; (case hd => rfl); (case hg => rfl); (case hr => first | (go_simp; done) | (go_simp; rfl))
              intro gb207 hg w38 hbox hb
              have := Stp.mk hb
              have := New.mk hg
              have := Bk.mk hbox
              replace HO_8 := As.mk (Kd.R_below (Kd.R_elderB (rX HO_8.out) gb207 (Nat.le_of_eq hg.symm)) hb)
              replace HO_75 := hB HO_75 hb
              clear hb hbox hg
              refine hK.out _ _ ⟨cl gb202 0 (by rfl), cl gb202 1 (by rfl)⟩ (fun hHeld => ?_)
              clear hK K
              refine norm_ (a' := ?_) ?_ ?_
              rotate_left
              ·show Act.put _ (some 19) _ = _
               simp only [Act.put, sA, sB, sC, i64_w, i32_w]
               rfl
              exact norm_ (by simp only [putAll, Act.put, List.setIfInBounds_toArray, List.set_cons_zero, List.set_cons_succ]) (hCont (gb207) _ ⟨hHeld, (rX HO_75.out), (by (with_reducible repeat (first | apply Kd.R_alloc | apply Kd.R_drewN | apply Kd.R_drew)); exact Kd.R_mono HO_8.out (fun _ hk => hk.2)), (bkr gb202 (by rfl)), (bkr gb207 (by rfl)), (ge gb207 : w.heap.size ≤ _), (ge gb207 : w.heap.size ≤ _), (ne gb202 gb207), (ne gb207 gb202), (uw w)⟩)
             ·skip
              refine box_step ?hg (N := 19) ?hd (cs := #[.int .i64 0, .int .i64 0, .bool false]) (t := 41) ?hr ?_; (case hd => rfl); (case hg => rfl); (case hr => first | (go_simp; done) | (go_simp; rfl))
              intro gb207 hg w37 hbox hb
              have := Stp.mk hb
              have := New.mk hg
              have := Bk.mk hbox
              replace HO_8 := As.mk (Kd.R_below (Kd.R_elderB (rX HO_8.out) gb207 (Nat.le_of_eq hg.symm)) hb)
              replace HO_75 := hB HO_75 hb
              clear hb hbox hg
              refine hK.out _ _ ⟨cl gb202 0 (by rfl), cl gb202 1 (by rfl)⟩ (fun hHeld => ?_)
              clear hK K
              refine norm_ (a' := ?_) ?_ ?_
              rotate_left
              ·show Act.put _ (some 19) _ = _
               simp only [Act.put, sA, sB, sC, i64_w, i32_w]
               rfl
              refine one_ (i := 14) (N := some 97) #[true, true, true, true, true, true, true, true, true, true, true, true, true, true, true, false, false, false, true, false, false] rfl rfl (one_of HT_.out (by kernel_rfl)) (by decide) (fun K hK => ?_)
              refine goes_ Try.func79 (by kernel_rfl) rfl #[.agg #[.int .i64 (wrap64 ((wrap64 (2 * (Int.tmod x77_2 (wrap64 (a0 - 1))))) + 1)), .int .i64 (wrap64 ((wrap64 (2 * (wrap64 (Int.tdiv x77_2 (wrap64 (a0 - 1)))))) + 1))], .agg #[.int .i64 ((rd_T39 t198 x77_2).f0), .int .i64 ((rd_T39 t198 x77_2).f1)]] (by rfl) rfl rfl (by (try simp only [sD, sE, sF]); first | done | rfl) ?_
              with_reducible refine (i_DominoOver.calls (wrap64 ((wrap64 (2 * (Int.tmod x77_2 (wrap64 (a0 - 1))))) + 1)) (wrap64 ((wrap64 (2 * (wrap64 (Int.tdiv x77_2 (wrap64 (a0 - 1)))))) + 1)) ((rd_T39 t198 x77_2).f0) ((rd_T39 t198 x77_2).f1) t203 t204 t205 t206 _ A31.out).mono ?_
              rintro e w38 ⟨rfl, hb⟩
              refine ⟨_, rfl, ?_⟩
              have := Stp.mk hb
              replace HO_8 := hB HO_8 hb
              replace HO_75 := hB HO_75 hb
              refine hK.out _ _ ⟨cl gb202 0 (by rfl), cl gb202 1 (by rfl)⟩ (fun hHeld => ?_)
              clear hK K
              refine norm_ (a' := ?_) ?_ ?_
              rotate_left
              ·show Act.put _ (some 97) _ = _
               simp only [Act.put, sA, sB, sC, i64_w, i32_w]
               rfl
              refine pure_ (i := 15) (N := some 82) (v := ?_) (a' := ?_) #[true, true, true, true, true, true, true, true, true, true, true, true, true, true, true, true, false, false, true, false, false] rfl rfl (any_of HT_.out (by kernel_rfl)) (fun _ _ _ h => h) (Or.inl ⟨by rfl, ?_⟩) ?_ ?_
              rotate_left
              ·intro w'
               go_simp
               with_reducible rfl
              rotate_left
              ·simp only [Act.put, sA, sB, sC, i64_w, i32_w]
               rfl
              refine pure_ (i := 16) (N := some 98) (v := ?_) (a' := ?_) #[true, true, true, true, true, true, true, true, true, true, true, true, true, true, true, true, true, false, true, false, false] rfl rfl (any_of HT_.out (by kernel_rfl)) (fun _ _ _ h => h) (Or.inl ⟨by rfl, ?_⟩) ?_ ?_
              rotate_left
              ·intro w'
               go_simp
               with_reducible rfl
              rotate_left
              ·simp only [Act.put, sA, sB, sC, i64_w, i32_w]
               rfl
              refine pure_ (i := 17) (N := some 99) (v := ?_) (a' := ?_) #[true, true, true, true, true, true, true, true, true, true, true, true, true, true, true, true, true, true, true, false, false] rfl rfl (any_of HT_.out (by kernel_rfl)) (fun _ _ _ h => h) (Or.inl ⟨by rfl, ?_⟩) ?_ ?_
              rotate_left
              ·intro w'
               go_simp
               with_reducible rfl
              rotate_left
              ·simp only [Act.put, sA, sB, sC, i64_w, i32_w]
               rfl
              exact norm_ (by simp only [putAll, Act.put, List.setIfInBounds_toArray, List.set_cons_zero, List.set_cons_succ]) (hCont (gb207) _ ⟨hHeld, (rX HO_75.out), (by (with_reducible repeat (first | apply Kd.R_alloc | apply Kd.R_drewN | apply Kd.R_drew)); exact Kd.R_mono HO_8.out (fun _ hk => hk.2)), (bkr gb202 (by rfl)), (bkr gb207 (by rfl)), (ge gb207 : w.heap.size ≤ _), (ge gb207 : w.heap.size ≤ _), (ne gb202 gb207), (ne gb207 gb202), (uw w)⟩)
            rintro gb207 w39 ⟨hS_, h0_, h1_, h2_, h3_, h4_, h5_, h6_, h7_, h8_⟩
            have n0_ : As (Kd.R k39 39 w39 w.heap.size (fun k_ => k_ ≠ gb202) (.slice (some ad201) t198.length co26) t198) := ⟨h0_⟩
            have n1_ : As (Kd.R k41 41 w39 w.heap.size (fun k_ => k_ ≠ gb207) u8 x8_2) := ⟨h1_⟩
            have n2_ : Bk w39 gb202 (.cells #[.int .i64 ((rd_T39 t198 x77_2).f0), .int .i64 ((rd_T39 t198 x77_2).f1)] 39 (0, 0)) := ⟨h2_⟩
            have n3_ : Bk w39 gb207 (.cells #[.int .i64 0, .int .i64 0, .bool false] 41 (0, 0)) := ⟨h3_⟩
            have n4_ : Fc (w.heap.size ≤ gb207) := ⟨h4_⟩
            have n5_ : Fc (w.heap.size ≤ gb207) := ⟨h5_⟩
            have n6_ : Fc (gb202 ≠ gb207) := ⟨h6_⟩
            have n7_ : Fc (gb207 ≠ gb202) := ⟨h7_⟩
            have n8_ : Up w w39 := ⟨h8_⟩
            clear HO_8
            clear HO_75
            clear BK202
            clear HB
            clear h0_ h1_ h2_ h3_ h4_ h5_ h6_ h7_ h8_
            have HO_75 := n0_
            have HO_8 := n1_
            have BK202 := n2_
            have BK207 := n3_
            have GW207 := n4_
            have GE207 := n5_
            have NB202_207 := n6_
            have NB207_202 := n7_
            have HB := n8_
            clear n0_ n1_ n2_ n3_ n4_ n5_ n6_ n7_ n8_
            have hHeld : w39.cell? ⟨gb202, 0, none⟩ = some (.int .i64 ((rd_T39 t198 x77_2).f0)) ∧ w39.cell? ⟨gb202, 1, none⟩ = some (.int .i64 ((rd_T39 t198 x77_2).f1)) := hS_
            refine norm_ (a' := ?_) ?_ ?_
            rotate_left
            ·simp only [putAll, Act.put, List.setIfInBounds_toArray, List.set_cons_zero, List.set_cons_succ]
             rfl
            refine one_ (i := 19) (N := none) #[true, true, true, true, true, true, true, true, true, true, true, true, true, true, true, true, true, true, true, true, false] rfl rfl (one_of HT_.out (by kernel_rfl)) (by decide) (fun K hK => ?_)
            have hs40 : w39.cell? ⟨gb207, 0, none⟩ = some (.int .i64 0) := cl gb207 0 (by rfl)
            have hns40_0 := (ne gb202 gb207)
            have hms40_0 := (ne gb207 gb202)
            have hs41 : w39.cell? ⟨gb207, 1, none⟩ = some (.int .i64 0) := cl gb207 1 (by rfl)
            have hns41_0 := (ne gb202 gb207)
            have hms41_0 := (ne gb207 gb202)
            have hs42 : w39.cell? ⟨gb207, 2, none⟩ = some (.bool false) := cl gb207 2 (by rfl)
            have hns42_0 := (ne gb202 gb207)
            have hms42_0 := (ne gb207 gb202)
            refine skip_ (w1 := ?_) (by rfl) rfl ?_ ?_
            rotate_left
            ·go_simp
             rfl
            refine hK.out _ _ ⟨((cell_far (p := ⟨gb207, _, none⟩) (ne gb202 gb207) _).trans (((cell_far (p := ⟨gb207, _, none⟩) (ne gb202 gb207) _).trans (((cell_far (p := ⟨gb207, _, none⟩) (ne gb202 gb207) _).trans (hHeld.1)))))), ((cell_far (p := ⟨gb207, _, none⟩) (ne gb202 gb207) _).trans (((cell_far (p := ⟨gb207, _, none⟩) (ne gb202 gb207) _).trans (((cell_far (p := ⟨gb207, _, none⟩) (ne gb202 gb207) _).trans (hHeld.2))))))⟩ (fun hHeld => ?_)
            clear hK K
            refine pure_ (i := 20) (N := some 20) (v := ?_) (a' := ?_) #[true, true, true, true, true, true, true, true, true, true, true, true, true, true, true, true, true, true, true, true, true] rfl rfl (any_of HT_.out (by kernel_rfl)) (fun _ _ _ h => h) (Or.inl ⟨by rfl, ?_⟩) ?_ ?_
            rotate_left
            ·intro w'
             go_simp
             with_reducible rfl
            rotate_left
            ·simp only [Act.put, sA, sB, sC, i64_w, i32_w]
             rfl
            refine done_ (done_of HT_.out (by kernel_rfl)) ?_
            try go_wp2_with (first | ((with_reducible refine gate_builtin (b := .append) (xs := #[.tmp 100, .tmp 102]) rfl ?_); at_builtin; refine Kd.R_append k41 (w0 := w) w.heap.size rfl (.tmp 100) (.tmp 102) 24 41 (.agg #[(.int .i64 0), (.int .i64 0), (.bool false)]) 24 rfl Try.underlying24 info41 rfl (by decide) (by omega) u8 x8_2 (⟨t203, t204, t205⟩ : S41) [.int .i64 t203, .int .i64 t204, .bool t205] (fun k_ => k_ ≠ gb207) (fun _ => False) rfl (by first | (go_simp; done) | (go_simp; rfl)) ?aP (fun _ hk => hk.elim) ?aF ?aO ?aB ?aS ?aL ?_; (case aP => exact k41_mkM _ _ _ (⟨t203, t204, t205⟩ : S41)); (case aB => exact (uw w)); (case aF => exact (fun k_ hk => Kd.freshB (g := gb207) (o := .cells #[.int .i64 t203, .int .i64 t204, .bool t205] 41 (0, 0)) (bkr gb207 (by rfl)) k_ hk)); (case aO => exact (by (with_reducible repeat (first | apply Kd.R_alloc | apply Kd.R_drewN | apply Kd.R_drew)); exact Kd.R_mono (Kd.R_far (p := ⟨gb207, 2, none⟩) (Kd.R_far (p := ⟨gb207, 1, none⟩) (Kd.R_far (p := ⟨gb207, 0, none⟩) (Kd.R_mono HO_8.out (fun k_ hk => (⟨hk, hk⟩ : _ ∧ k_ ≠ gb207))) (fun _ hk => hk.2) (.int .i64 t203)) (fun _ hk => hk.2) (.int .i64 t204)) (fun _ hk => hk.2) (.bool t205)) (fun _ hk => hk.1))); (case aS => exact (below_size (uw w))); (case aL => have := LMc32.out; omega); intro v209 w45 ho hb hg hat; rw [← Ny208.out] at ho; have n0_ := As.mk (Kd.R_over' (by (with_reducible repeat (first | apply Kd.R_alloc | apply Kd.R_drewN | apply Kd.R_drew)); exact (Kd.R_mono (Kd.R_far (p := ⟨gb207, 2, none⟩) (Kd.R_far (p := ⟨gb207, 1, none⟩) (Kd.R_far (p := ⟨gb207, 0, none⟩) (Kd.R_types HO_75.out (bk gb207) (by decide)) (fun _ hk => hk.2) (.int .i64 t203)) (fun _ hk => hk.2) (.int .i64 t204)) (fun _ hk => hk.2) (.bool t205)) (fun _ h_ => h_.1))) (Kd.R_typed (by (with_reducible repeat (first | apply Kd.R_alloc | apply Kd.R_drewN | apply Kd.R_drew)); exact (Kd.R_mono (Kd.R_far (p := ⟨gb207, 2, none⟩) (Kd.R_far (p := ⟨gb207, 1, none⟩) (Kd.R_far (p := ⟨gb207, 0, none⟩) (Kd.R_mono HO_8.out (fun k_ hk => (⟨hk, hk⟩ : _ ∧ k_ ≠ gb207))) (fun _ hk => hk.2) (.int .i64 t203)) (fun _ hk => hk.2) (.int .i64 t204)) (fun _ hk => hk.2) (.bool t205)) (fun _ h_ => h_.1)))) (by decide) hg); have n1_ := Bk.mk (blk_grown (g := gb202) (o := .cells #[.int .i64 ((rd_T39 t198 x77_2).f0), .int .i64 ((rd_T39 t198 x77_2).f1)] 39 (0, 0)) (bkr gb202 (by rfl)) hg (Kd.R_ne HO_8.out (bk gb202) (by decide))); have n2_ := Bk.mk (blk_grown (g := gb207) (o := .cells #[.int .i64 t203, .int .i64 t204, .bool t205] 41 (0, 0)) (bkr gb207 (by rfl)) hg (Kd.R_away HO_8.out (fun _ hk => hk))); have n3_ := Up.mk (hb); have n4_ := As.mk (ho); clear HO_75; clear HO_8; have HO_75 := n0_; have BK202 := n1_; have BK207 := n2_; have HB := n3_; have HO210 := n4_; clear n0_ n1_ n2_ n3_ n4_; clear ho hb hg hat))
            go_roundg k2
            case measure => have := HK1.out; have := HK2.out; omega
            case rel => exact ⟨(y208), (wrap64 (x77_2 + 1)), (by first | rfl | (simp; done) | (simp [*]; done)), H', ⟨by have := HK1.out; have := HK2.out; omega⟩, ⟨by (with_reducible repeat (first | apply Kd.R_alloc | apply Kd.R_drewN | apply Kd.R_drew)); exact Kd.R_mono HO210.out (fun _ hk => trivial)⟩, ⟨by (with_reducible repeat (first | apply Kd.R_alloc | apply Kd.R_drewN | apply Kd.R_drew)); exact Kd.R_mono HO_75.out (fun _ hk => trivial)⟩, ⟨uw w⟩⟩
           ·rw [if_neg c32] at H
            exact absurd H (by simp)
         ·rw [if_neg c29] at H
          exact absurd H (by simp)
        ·rw [if_neg c28] at H
         exact absurd H (by simp)
       ·rw [if_neg c27] at H
        have c27b0 : decide (x77_2 < (t198.length : Int)) = false := decide_eq_false c27
        clear c27
        obtain ⟨t211, A46, H⟩ := bI H
        simp only [Option.some.injEq, Prod.mk.injEq] at H
        obtain ⟨rfl, rfl⟩ := H
        obtain ⟨Ao47, co47, eo47⟩ := Kd.R_slice HO_8.out
        subst eo47
        go_wp2_with (first | ((with_reducible refine gC 60 rfl ?_); refine goesL_ (some 106) rfl rfl Try.func60 (by kernel_rfl) rfl #[.slice Ao47 x8_2.length co47] rfl (by (try simp only [sD, sE, sF]); first | done | rfl) ?_; (with_reducible refine (i_SortDominoes.calls k2 _ _ x8_2 t211 _ ?side1 ?side2 A46.out).mono ?_); (case side1 => repeat (first | exact (Kd.R_reads' HO_8.out).2.2 | (with_reducible refine Kd.C_alloc ?_ _) | (with_reducible refine Kd.C_drewN ?_ _) | (with_reducible refine Kd.C_drew ?_))); (case side2 => exact (Kd.R_reads' HO_8.out).2.1); rintro e w48 ⟨v212, rfl, ho0, hb⟩; refine ⟨_, rfl, ?_⟩; have := Stp.mk hb; have n0_ := As.mk (Kd.R_elder' (rX HO_8.out) (Kd.R_base ho0) hb); have n1_ := As.mk (Kd.R_below (rX HO_75.out) hb); have n2_ := As.mk (Kd.R_lower (Kd.R_new' ho0 (Kd.R_lt (rX HO_8.out))) (below_size (uw w))); clear HO_8; clear HO_75; have HO_8 := n0_; have HO_75 := n1_; have HO213 := n2_; clear n0_ n1_ n2_; (try clear ho0)))
        go_ret2
        exact ⟨_, by first | rfl | (simp [*, errW_none, errW_some] <;> rfl), by (with_reducible repeat (first | apply Kd.R_alloc | apply Kd.R_drewN | apply Kd.R_drew)); exact Kd.R_mono HO213.out (fun _ hk => trivial), uw w⟩
 ·simp only [Option.some.injEq, Prod.mk.injEq] at H
  obtain ⟨rfl, rfl⟩ := H
  go_enter Try.func23, Try.ntmps23
  go_wp2_with (first | ((with_reducible refine gC 77 rfl ?_); refine gK (some 24) rfl rfl Try.func77 (by kernel_rfl) rfl #[.int .i64 a0, .int .i64 a1, .slice A2 l2.length c2] rfl (by (try simp only [sD, sE, sF]); first | done | rfl) (i_IsTree.calls k a0 a1 _ _ l2 false _ ?side1 ?side2 A4.out) ?_; (case side1 => repeat (first | exact HR2.out | (with_reducible refine Kd.C_alloc ?_ _) | (with_reducible refine Kd.C_drewN ?_ _) | (with_reducible refine Kd.C_drew ?_))); (case side2 => exact HC2.out); intro w49 _))
  go_ret2
  exact ⟨_, by first | rfl | (simp [*, errW_none, errW_some] <;> rfl), by first | exact Kd.R_nil _ _ _ _ _ | exact Kd.N_nil _ _ _ _ _ | exact Kd.V_nil _ _ _ _ _ | exact Kd.Q_nil _ _ _ _ _ | exact Kd.S_nil _ _ _ _ _, uw w⟩
end Go.Proofs.Ytnfnlmilmpaofaa.PFnExactTreeOfTiling
namespace Go.Proofs.Ytnfnlmilmpaofaa.PFnExactTreeOfTiling
open Go.RowKit Go.Proofs.YtnfnlmilmpaofaaW.PrintWords Go.Proofs.YtnfnlmilmpaofaaW.PrintLast Go.Proofs.YtnfnlmilmpaofaaW.PrintMore
attribute [local go_sem] max2_int min2_int max_two min_two max_three min_three max_four min_four
set_option linter.unusedVariables false
attribute [local go_sem high] cell_bk frozen_bk
set_option linter.unusedSimpArgs false
attribute [local go_sem high] eqA41
def i_hasDomino.l0 : Nat → List (S41) → Int → Int → Int → Int → Bool → Option (Bool)
 | 0, _, _, _, _, _, _ => none
 | k + 1, x7, x8, x9, x215000, x215001, x215002 => if x9 < x8 then (if 0 ≤ x9 then (if x9 < (x7.length : Int) then (if (x215000 == ((rd_T41 x7 x9).f0) && (x215001 == ((rd_T41 x7 x9).f1) && (x215002 == ((rd_T41 x7 x9).f2)))) = true then (some true) else (i_hasDomino.l0 k x7 x8 (wrap64 (x9 + 1)) x215000 x215001 x215002)) else (none)) else (none)) else (some false)
def i_hasDomino.f (k : Nat) (l0 : List (S41)) (a1_0 : Int) (a1_1 : Int) (a1_2 : Bool) : Option (Bool) := i_hasDomino.l0 k l0 (l0.length : Int) 0 a1_0 a1_1 a1_2
theorem i_hasDomino.mono_l : ∀ k, (∀ y0 y1 y2 y3 y4 y5, LeO (i_hasDomino.l0 k y0 y1 y2 y3 y4 y5) (i_hasDomino.l0 (k + 1) y0 y1 y2 y3 y4 y5))
 | 0 => fun _ _ _ _ _ _ r h => by simp [i_hasDomino.l0] at h
 | k + 1 => by
  have ih0 := i_hasDomino.mono_l k
  ·intro y0 y1 y2 y3 y4 y5
   unfold i_hasDomino.l0
   repeat' with_reducible first
   | exact ih0 _ _ _ _ _ _
   | exact LeO.refl _
   | exact LeO.none _
   | refine LeO.ite ?_ ?_
   | refine LeO.bind ?_ (fun _ => ?_)
theorem i_hasDomino.mono : ∀ a0 a1 a2 a3 k, LeO (i_hasDomino.f k a0 a1 a2 a3) (i_hasDomino.f (k + 1) a0 a1 a2 a3) := by
 intro a0 a1 a2 a3 k
 have ih0 := i_hasDomino.mono_l k
 unfold i_hasDomino.f
 repeat' with_reducible first
 | exact ih0 _ _ _ _ _ _
 | exact LeO.refl _
 | exact LeO.none _
 | refine LeO.ite ?_ ?_
 | refine LeO.bind ?_ (fun _ => ?_)
set_option maxRecDepth 100000 in
theorem i_hasDomino.calls (k : Nat) (A0 : Option Addr) (c0 : Nat) (l0 : List (S41)) (a1_0 : Int) (a1_1 : Int) (a1_2 : Bool) (r : Bool) (w : World) (hr0 : Kd.C k41 w A0 l0.length l0) (hc0 : l0.length ≤ c0) (h : i_hasDomino.f k l0 a1_0 a1_1 a1_2 = some r) :
  Calls Try.prog 59 #[.slice A0 l0.length c0, .agg #[.int .i64 a1_0, .int .i64 a1_1, .bool a1_2]] w fun e w' => e = .returned (.bool r) ∧ Below w.heap.size w w' := by
 have hu41 := Try.underlying41
 have HR0 := As.mk hr0
 have HC0 := As.mk hc0
 clear hr0 hc0
 have HB : Up w w := ⟨Below.refl _ _⟩
 have H : (i_hasDomino.l0 k l0 (l0.length : Int) 0 a1_0 a1_1 a1_2) = some r := h
 clear h
 have H' := As.mk H
 clear H
 go_enter Try.func59, Try.ntmps59
 go_wp2_with (first | ((with_reducible refine gD 3 rfl ?_); refine bxE rfl #[.int .i64 a1_0, .int .i64 a1_1, .bool a1_2] 41 ?_ ?_; (focus first | (go_simp; done) | (go_simp; rfl)); intro gb214 _ w3 _ _))
 go_loopg [9] k (fun kq v9 w' => ∃ (x9_1 : Int), v9 = .int .i64 x9_1 ∧ As (i_hasDomino.l0 kq l0 (l0.length : Int) x9_1 a1_0 a1_1 a1_2 = some r) ∧ As (kq ≤ k) ∧ Bk w' gb214 (.cells #[.int .i64 a1_0, .int .i64 a1_1, .bool a1_2] 41 (0, 0)) ∧ Up w w')
 case atStart => exact ⟨(0), (by first | rfl | (simp; done) | (simp [*]; done)), H', ⟨Nat.le_refl _⟩, bM (by rfl), ⟨uw w⟩⟩
 case round =>
  clear H'
  obtain ⟨x9_1, rfl, HA, HK1, BK214, HB⟩ := hrel
  cases gk with
  | zero => exact absurd HA.out (by simp [i_hasDomino.l0])
  | succ k1 =>
   have H := HA.out
   clear HA
   simp only [i_hasDomino.l0] at H
   by_cases c4 : x9_1 < (l0.length : Int)
   ·rw [if_pos c4] at H
    have c4b0 : decide (x9_1 < (l0.length : Int)) = true := decide_eq_true c4
    clear c4
    by_cases c5 : 0 ≤ x9_1
    ·rw [if_pos c5] at H
     have c5b0 : decide (0 ≤ x9_1) = true := decide_eq_true c5
     clear c5
     by_cases c6 : x9_1 < (l0.length : Int)
     ·rw [if_pos c6] at H
      have c6b0 : decide (x9_1 < (l0.length : Int)) = true := decide_eq_true c6
      clear c6
      by_cases c7 : (a1_0 == ((rd_T41 l0 x9_1).f0) && (a1_1 == ((rd_T41 l0 x9_1).f1) && (a1_2 == ((rd_T41 l0 x9_1).f2)))) = true
      ·rw [if_pos c7] at H
       have c7b0 : (a1_0 == ((rd_T41 l0 x9_1).f0) && (a1_1 == ((rd_T41 l0 x9_1).f1) && (a1_2 == ((rd_T41 l0 x9_1).f2)))) = true := c7
       (try (have c7b1 : decide (a1_0 = ((rd_T41 l0 x9_1).f0) && (a1_1 == ((rd_T41 l0 x9_1).f1) && (a1_2 == ((rd_T41 l0 x9_1).f2)))) = true := by simpa using c7))
       (try (have c7b2 : (a1_0 == ((rd_T41 l0 x9_1).f0) && (a1_1 == ((rd_T41 l0 x9_1).f1) && (a1_2 == ((rd_T41 l0 x9_1).f2)))) = true := by simpa using c7))
       clear c7
       obtain rfl := Option.some.inj H
       have p215 : 0 ≤ (x9_1 : Int) := oD
       have q215 : x9_1 < (l0.length : Int) := oD
       obtain ⟨ad215, e215, hx215_0, hx215_1, hx215_2⟩ := at_T41 HR0.out x9_1 p215 q215
       cases e215
       replace hx215_0 := cx wr hx215_0
       replace hx215_1 := cx wr hx215_1
       replace hx215_2 := cx wr hx215_2
       replace p215 := eq_true p215
       replace q215 := eq_true q215
       go_wp2_with (first | ((with_reducible refine gD 6 rfl ?_); refine bxE rfl #[.int .i64 0, .int .i64 0, .bool false] 41 ?_ ?_; (focus first | (go_simp; done) | (go_simp; rfl)); intro gb216 _ w8 _ _))
       go_ret
       exact ⟨by first | rfl | (simp [*, errW_none, errW_some] <;> rfl), uw w⟩
      ·rw [if_neg c7] at H
       have c7b0 : (a1_0 == ((rd_T41 l0 x9_1).f0) && (a1_1 == ((rd_T41 l0 x9_1).f1) && (a1_2 == ((rd_T41 l0 x9_1).f2)))) = false := by simpa using c7
       (try (have c7b1 : decide (a1_0 = ((rd_T41 l0 x9_1).f0) && (a1_1 == ((rd_T41 l0 x9_1).f1) && (a1_2 == ((rd_T41 l0 x9_1).f2)))) = false := by simpa using c7))
       (try (have c7b2 : (a1_0 == ((rd_T41 l0 x9_1).f0) && (a1_1 == ((rd_T41 l0 x9_1).f1) && (a1_2 == ((rd_T41 l0 x9_1).f2)))) = false := by simpa using c7))
       (try (have c7b3 : ¬ (a1_0 = ((rd_T41 l0 x9_1).f0) && (a1_1 == ((rd_T41 l0 x9_1).f1) && (a1_2 == ((rd_T41 l0 x9_1).f2)))) := by simpa using c7))
       clear c7
       have H' := As.mk H
       clear H
       have p215 : 0 ≤ (x9_1 : Int) := oD
       have q215 : x9_1 < (l0.length : Int) := oD
       obtain ⟨ad215, e215, hx215_0, hx215_1, hx215_2⟩ := at_T41 HR0.out x9_1 p215 q215
       cases e215
       replace hx215_0 := cx wr hx215_0
       replace hx215_1 := cx wr hx215_1
       replace hx215_2 := cx wr hx215_2
       replace p215 := eq_true p215
       replace q215 := eq_true q215
       go_wp2_with (first | ((with_reducible refine gD 6 rfl ?_); refine bxE rfl #[.int .i64 0, .int .i64 0, .bool false] 41 ?_ ?_; (focus first | (go_simp; done) | (go_simp; rfl)); intro gb216 _ w12 _ _))
       go_roundg k1
       case measure => have := HK1.out; omega
       case rel => exact ⟨(wrap64 (x9_1 + 1)), (by first | rfl | (simp; done) | (simp [*]; done)), H', ⟨by have := HK1.out; omega⟩, bM (by rfl), ⟨uw w⟩⟩
     ·rw [if_neg c6] at H
      exact absurd H (by simp)
    ·rw [if_neg c5] at H
     exact absurd H (by simp)
   ·rw [if_neg c4] at H
    have c4b0 : decide (x9_1 < (l0.length : Int)) = false := decide_eq_false c4
    clear c4
    obtain rfl := Option.some.inj H
    go_wp2
    go_ret
    exact ⟨by first | rfl | (simp [*, errW_none, errW_some] <;> rfl), uw w⟩
def i_SameDominoes.l0 : Nat → List (S41) → List (S41) → Int → Int → Option (Bool)
 | 0, _, _, _, _ => none
 | k + 1, x0, x1, x12, x13 => if x13 < x12 then (if 0 ≤ x13 then (if x13 < (x0.length : Int) then (if x13 < (x1.length : Int) then (if (!(((rd_T41 x0 x13).f0) == ((rd_T41 x1 x13).f0)) || (!(((rd_T41 x0 x13).f1) == ((rd_T41 x1 x13).f1)) || (!(((rd_T41 x0 x13).f2) == ((rd_T41 x1 x13).f2))))) = true then (some false) else (i_SameDominoes.l0 k x0 x1 x12 (wrap64 (x13 + 1)))) else (none)) else (none)) else (none)) else (some true)
def i_SameDominoes.f (k : Nat) (l0 : List (S41)) (l1 : List (S41)) : Option (Bool) := if (l0.length : Int) = (l1.length : Int) then (i_SameDominoes.l0 k l0 l1 (l0.length : Int) 0) else (some false)
theorem i_SameDominoes.mono_l : ∀ k, (∀ y0 y1 y2 y3, LeO (i_SameDominoes.l0 k y0 y1 y2 y3) (i_SameDominoes.l0 (k + 1) y0 y1 y2 y3))
 | 0 => fun _ _ _ _ r h => by simp [i_SameDominoes.l0] at h
 | k + 1 => by
  have ih0 := i_SameDominoes.mono_l k
  ·intro y0 y1 y2 y3
   unfold i_SameDominoes.l0
   repeat' with_reducible first
   | exact ih0 _ _ _ _
   | exact LeO.refl _
   | exact LeO.none _
   | refine LeO.ite ?_ ?_
   | refine LeO.bind ?_ (fun _ => ?_)
theorem i_SameDominoes.mono : ∀ a0 a1 k, LeO (i_SameDominoes.f k a0 a1) (i_SameDominoes.f (k + 1) a0 a1) := by
 intro a0 a1 k
 have ih0 := i_SameDominoes.mono_l k
 unfold i_SameDominoes.f
 repeat' with_reducible first
 | exact ih0 _ _ _ _
 | exact LeO.refl _
 | exact LeO.none _
 | refine LeO.ite ?_ ?_
 | refine LeO.bind ?_ (fun _ => ?_)
set_option maxRecDepth 100000 in
theorem i_SameDominoes.calls (k : Nat) (A0 : Option Addr) (c0 : Nat) (l0 : List (S41)) (A1 : Option Addr) (c1 : Nat) (l1 : List (S41)) (r : Bool) (w : World) (hr0 : Kd.C k41 w A0 l0.length l0) (hc0 : l0.length ≤ c0) (hr1 : Kd.C k41 w A1 l1.length l1) (hc1 : l1.length ≤ c1) (h : i_SameDominoes.f k l0 l1 = some r) :
  Calls Try.prog 83 #[.slice A0 l0.length c0, .slice A1 l1.length c1] w fun e w' => e = .returned (.bool r) ∧ Drawn0 w w' := by
 have hu41 := Try.underlying41
 have HR0 := As.mk hr0
 have HC0 := As.mk hc0
 clear hr0 hc0
 have HR1 := As.mk hr1
 have HC1 := As.mk hc1
 clear hr1 hc1
 have H : (if (l0.length : Int) = (l1.length : Int) then (i_SameDominoes.l0 k l0 l1 (l0.length : Int) 0) else (some false)) = some r := h
 clear h
 by_cases c3 : (l0.length : Int) = (l1.length : Int)
 ·rw [if_pos c3] at H
  have c3b0 : ((l0.length : Int) == (l1.length : Int)) = true := beq_iff_eq.mpr c3
  have c3b1 : ((l0.length : Int) != (l1.length : Int)) = false := bne_eq_false_iff_eq.mpr c3
  have c3b2 : (l0.length == l1.length) = true := by first | simpa using c3 | (simp at c3 ⊢; omega)
  clear c3
  have H' := As.mk H
  clear H
  go_enter Try.func83, Try.ntmps83
  go_wp2
  repeat (go_quiet (fail); try go_wp2)
  go_loopg [13] k (fun kq v13 w' => ∃ (x13_1 : Int), v13 = .int .i64 x13_1 ∧ As (i_SameDominoes.l0 kq l0 l1 (l0.length : Int) x13_1 = some r) ∧ As (kq ≤ k) ∧ Drawn0 w w')
  case atStart => exact ⟨(0), (by first | rfl | (simp; done) | (simp [*]; done)), H', ⟨Nat.le_refl _⟩, by repeat (first | exact Drawn0.refl _ | apply Drawn0.step)⟩
  case round =>
   clear H'
   try clear c3
   try clear c3b0
   try clear c3b1
   try clear c3b2
   obtain ⟨x13_1, rfl, HA, HK1, ⟨m1, rfl⟩⟩ := hrel
   cases gk with
   | zero => exact absurd HA.out (by simp [i_SameDominoes.l0])
   | succ k1 =>
    have H := HA.out
    clear HA
    simp only [i_SameDominoes.l0] at H
    by_cases c4 : x13_1 < (l0.length : Int)
    ·rw [if_pos c4] at H
     have c4b0 : decide (x13_1 < (l0.length : Int)) = true := decide_eq_true c4
     clear c4
     by_cases c5 : 0 ≤ x13_1
     ·rw [if_pos c5] at H
      have c5b0 : decide (0 ≤ x13_1) = true := decide_eq_true c5
      clear c5
      by_cases c6 : x13_1 < (l0.length : Int)
      ·rw [if_pos c6] at H
       have c6b0 : decide (x13_1 < (l0.length : Int)) = true := decide_eq_true c6
       clear c6
       by_cases c7 : x13_1 < (l1.length : Int)
       ·rw [if_pos c7] at H
        have c7b0 : decide (x13_1 < (l1.length : Int)) = true := decide_eq_true c7
        clear c7
        by_cases c8 : (!(((rd_T41 l0 x13_1).f0) == ((rd_T41 l1 x13_1).f0)) || (!(((rd_T41 l0 x13_1).f1) == ((rd_T41 l1 x13_1).f1)) || (!(((rd_T41 l0 x13_1).f2) == ((rd_T41 l1 x13_1).f2))))) = true
        ·rw [if_pos c8] at H
         have c8b0 : (!(((rd_T41 l0 x13_1).f0) == ((rd_T41 l1 x13_1).f0)) || (!(((rd_T41 l0 x13_1).f1) == ((rd_T41 l1 x13_1).f1)) || (!(((rd_T41 l0 x13_1).f2) == ((rd_T41 l1 x13_1).f2))))) = true := c8
         clear c8
         obtain rfl := Option.some.inj H
         have p217 : 0 ≤ (x13_1 : Int) := oD
         have q217 : x13_1 < (l0.length : Int) := oD
         obtain ⟨ad217, e217, hx217_0, hx217_1, hx217_2⟩ := at_T41 HR0.out x13_1 p217 q217
         cases e217
         replace p217 := eq_true p217
         replace q217 := eq_true q217
         have p218 : 0 ≤ (x13_1 : Int) := oD
         have q218 : x13_1 < (l1.length : Int) := oD
         obtain ⟨ad218, e218, hx218_0, hx218_1, hx218_2⟩ := at_T41 HR1.out x13_1 p218 q218
         cases e218
         replace p218 := eq_true p218
         replace q218 := eq_true q218
         go_wp2
         repeat (go_quiet (fail); try go_wp2)
         go_ret
         exact ⟨by first | rfl | (simp; done) | (simp [*]; done), by repeat (first | exact Drawn0.refl _ | apply Drawn0.step)⟩
        ·rw [if_neg c8] at H
         have c8b0 : (!(((rd_T41 l0 x13_1).f0) == ((rd_T41 l1 x13_1).f0)) || (!(((rd_T41 l0 x13_1).f1) == ((rd_T41 l1 x13_1).f1)) || (!(((rd_T41 l0 x13_1).f2) == ((rd_T41 l1 x13_1).f2))))) = false := by simpa using c8
         clear c8
         have H' := As.mk H
         clear H
         have p217 : 0 ≤ (x13_1 : Int) := oD
         have q217 : x13_1 < (l0.length : Int) := oD
         obtain ⟨ad217, e217, hx217_0, hx217_1, hx217_2⟩ := at_T41 HR0.out x13_1 p217 q217
         cases e217
         replace p217 := eq_true p217
         replace q217 := eq_true q217
         have p218 : 0 ≤ (x13_1 : Int) := oD
         have q218 : x13_1 < (l1.length : Int) := oD
         obtain ⟨ad218, e218, hx218_0, hx218_1, hx218_2⟩ := at_T41 HR1.out x13_1 p218 q218
         cases e218
         replace p218 := eq_true p218
         replace q218 := eq_true q218
         go_wp2
         repeat (go_quiet (fail); try go_wp2)
         go_roundg k1
         case measure => have := HK1.out; omega
         case rel => exact ⟨(wrap64 (x13_1 + 1)), (by first | rfl | (simp; done) | (simp [*]; done)), H', ⟨by have := HK1.out; omega⟩, by repeat (first | exact Drawn0.refl _ | apply Drawn0.step)⟩
       ·rw [if_neg c7] at H
        exact absurd H (by simp)
      ·rw [if_neg c6] at H
       exact absurd H (by simp)
     ·rw [if_neg c5] at H
      exact absurd H (by simp)
    ·rw [if_neg c4] at H
     have c4b0 : decide (x13_1 < (l0.length : Int)) = false := decide_eq_false c4
     clear c4
     obtain rfl := Option.some.inj H
     go_wp2
     repeat (go_quiet (fail); try go_wp2)
     go_ret
     exact ⟨by first | rfl | (simp; done) | (simp [*]; done), by repeat (first | exact Drawn0.refl _ | apply Drawn0.step)⟩
 ·rw [if_neg c3] at H
  have c3b0 : ((l0.length : Int) == (l1.length : Int)) = false := beq_eq_false_iff_ne.mpr c3
  have c3b1 : ((l0.length : Int) != (l1.length : Int)) = true := bne_iff_ne.mpr c3
  have c3b2 : (l0.length == l1.length) = false := by first | simpa using c3 | (simp at c3 ⊢; omega)
  obtain rfl := Option.some.inj H
  go_enter Try.func83, Try.ntmps83
  go_wp2
  repeat (go_quiet (fail); try go_wp2)
  go_ret
  exact ⟨by first | rfl | (simp; done) | (simp [*]; done), by repeat (first | exact Drawn0.refl _ | apply Drawn0.step)⟩
end Go.Proofs.Ytnfnlmilmpaofaa.PFnExactTreeOfTiling
namespace Go.Proofs.Ytnfnlmilmpaofaa.PFnExactTreeOfTiling
open Go.RowKit Go.Proofs.YtnfnlmilmpaofaaW.PrintWords Go.Proofs.YtnfnlmilmpaofaaW.PrintLast Go.Proofs.YtnfnlmilmpaofaaW.PrintMore
attribute [local go_sem] max2_int min2_int max_two min_two max_three min_three max_four min_four
set_option linter.unusedVariables false
attribute [local go_sem high] cell_bk frozen_bk
set_option linter.unusedSimpArgs false
mutual
def i_TreeOfTiling.l0 : Nat → Int → Int → List (S41) → List (S50) → List (S50) → Int → Int → Option ((List (S50)) × Bool)
 | 0, _, _, _, _, _, _, _ => none
 | k + 1, x0, x1, x2, x8, x27, x28, x29 => if x29 < x28 then (if 0 ≤ x29 then (if x29 < (x27.length : Int) then (if (rd_T50 x27 x29).f2 = true then (i_TreeOfTiling.j1 k x0 x1 x2 x8 x27 x28 x29 ((rd_T50 x27 x29).f0) ((rd_T50 x27 x29).f1) ((rd_T50 x27 x29).f2) (wrap64 (2 * ((rd_T50 x27 x29).f0))) (wrap64 ((wrap64 (2 * ((rd_T50 x27 x29).f1))) + 1)) (wrap64 (2 * ((rd_T50 x27 x29).f0))) (wrap64 (2 * ((rd_T50 x27 x29).f1))) (wrap64 (2 * ((rd_T50 x27 x29).f0))) (wrap64 ((wrap64 (2 * ((rd_T50 x27 x29).f1))) + 2))) else (i_TreeOfTiling.j1 k x0 x1 x2 x8 x27 x28 x29 ((rd_T50 x27 x29).f0) ((rd_T50 x27 x29).f1) ((rd_T50 x27 x29).f2) (wrap64 ((wrap64 (2 * ((rd_T50 x27 x29).f0))) + 1)) (wrap64 (2 * ((rd_T50 x27 x29).f1))) (wrap64 (2 * ((rd_T50 x27 x29).f0))) (wrap64 (2 * ((rd_T50 x27 x29).f1))) (wrap64 ((wrap64 (2 * ((rd_T50 x27 x29).f0))) + 2)) (wrap64 (2 * ((rd_T50 x27 x29).f1))))) else (none)) else (none)) else ((i_TilingOfTree.f k x0 x1 x8).bind fun bt249 => (if bt249.2 = true then ((i_SameDominoes.f k bt249.1 x2).bind fun t253 => (if t253 = true then (some (x8, true)) else (some (([] : List (S50)), false)))) else (some (([] : List (S50)), false))))
def i_TreeOfTiling.j1 : Nat → Int → Int → List (S41) → List (S50) → List (S50) → Int → Int → Int → Int → Bool → Int → Int → Int → Int → Int → Int → Option ((List (S50)) × Bool)
 | 0, _, _, _, _, _, _, _, _, _, _, _, _, _, _, _, _ => none
 | k + 1, x0, x1, x2, x8, x27, x28, x29, x228000, x228001, x228002, x229000, x229001, x230000, x230001, x231000, x231001 => (i_DominoOver.f x230000 x230001 x229000 x229001).bind fun bt231 => ((i_DominoOver.f x229000 x229001 x231000 x231001).bind fun bt236 => ((i_hasDomino.f k x2 bt231.1 bt231.2.1 bt231.2.2.1).bind fun t241 => (if t241 = true then (if x8.length < 5864062014805 then (i_TreeOfTiling.l0 k x0 x1 x2 (x8 ++ [(⟨x228000, x228001, x228002⟩ : S50)]) x27 x28 (wrap64 (x29 + 1))) else (none)) else ((i_hasDomino.f k x2 bt236.1 bt236.2.1 bt236.2.2.1).bind fun t245 => (if t245 = true then (if x8.length < 5864062014805 then (i_TreeOfTiling.l0 k x0 x1 x2 (x8 ++ [(⟨x228000, x228001, x228002⟩ : S50)]) x27 x28 (wrap64 (x29 + 1))) else (none)) else (i_TreeOfTiling.l0 k x0 x1 x2 x8 x27 x28 (wrap64 (x29 + 1))))))))
end
def i_TreeOfTiling.f (k : Nat) (a0 : Int) (a1 : Int) (l2 : List (S41)) : Option ((List (S50)) × Bool) := (i_GridOk.f a0 a1).bind fun t219 => (if t219 = true then ((i_LinksOf.f k a0 a1).bind fun t223 => (i_TreeOfTiling.l0 k a0 a1 l2 (([] : List (S50))) t223 (t223.length : Int) 0)) else (some (([] : List (S50)), false)))
theorem i_TreeOfTiling.mono_l : ∀ k, (∀ y0 y1 y2 y3 y4 y5 y6, LeO (i_TreeOfTiling.l0 k y0 y1 y2 y3 y4 y5 y6) (i_TreeOfTiling.l0 (k + 1) y0 y1 y2 y3 y4 y5 y6)) ∧ (∀ y0 y1 y2 y3 y4 y5 y6 y7 y8 y9 y10 y11 y12 y13 y14 y15, LeO (i_TreeOfTiling.j1 k y0 y1 y2 y3 y4 y5 y6 y7 y8 y9 y10 y11 y12 y13 y14 y15) (i_TreeOfTiling.j1 (k + 1) y0 y1 y2 y3 y4 y5 y6 y7 y8 y9 y10 y11 y12 y13 y14 y15))
 | 0 => ⟨fun _ _ _ _ _ _ _ r h => by simp [i_TreeOfTiling.l0] at h, fun _ _ _ _ _ _ _ _ _ _ _ _ _ _ _ _ r h => by simp [i_TreeOfTiling.j1] at h⟩
 | k + 1 => by
  obtain ⟨ih0, ih1⟩ := i_TreeOfTiling.mono_l k
  refine ⟨?_, ?_⟩ <;> intros
  all_goals first | unfold i_TreeOfTiling.l0 | unfold i_TreeOfTiling.j1
  all_goals repeat' with_reducible first
  | exact ih0 _ _ _ _ _ _ _
  | exact ih1 _ _ _ _ _ _ _ _ _ _ _ _ _ _ _ _
  | exact i_LinksOf.mono _ _ _
  | exact i_SameDominoes.mono _ _ _
  | exact i_TilingOfTree.mono _ _ _ _
  | exact i_hasDomino.mono _ _ _ _ _
  | exact LeO.refl _
  | exact LeO.none _
  | refine LeO.ite ?_ ?_
  | refine LeO.bind ?_ (fun _ => ?_)
theorem i_TreeOfTiling.mono : ∀ a0 a1 a2 k, LeO (i_TreeOfTiling.f k a0 a1 a2) (i_TreeOfTiling.f (k + 1) a0 a1 a2) := by
 intro a0 a1 a2 k
 obtain ⟨ih0, ih1⟩ := i_TreeOfTiling.mono_l k
 unfold i_TreeOfTiling.f
 repeat' with_reducible first
 | exact ih0 _ _ _ _ _ _ _
 | exact ih1 _ _ _ _ _ _ _ _ _ _ _ _ _ _ _ _
 | exact i_LinksOf.mono _ _ _
 | exact i_SameDominoes.mono _ _ _
 | exact i_TilingOfTree.mono _ _ _ _
 | exact i_hasDomino.mono _ _ _ _ _
 | exact LeO.refl _
 | exact LeO.none _
 | refine LeO.ite ?_ ?_
 | refine LeO.bind ?_ (fun _ => ?_)
def i_TreeOfTiling.T7 : Bool × List (List Nat × List Nat) := (true, [([], []), ([0], [0]), ([1], [1]), ([2], [2]), ([], []), ([4], [4]), ([5], [5]), ([3, 6], [3, 6]), ([], []), ([8], [8]), ([9], [9]), ([], []), ([11], [11]), ([12], [12]), ([10, 13], [10, 13]), ([], []), ([15], [15]), ([16], [16]), ([17], [17]), ([], []), ([19], [19]), ([20], [20]), ([18, 21], [18, 21]), ([], []), ([], []), ([], []), ([23, 7, 0, 1, 2, 3, 4, 5, 6, 7, 23, 24, 25], [7, 23]), ([24, 14, 26, 0, 1, 2, 3, 4, 5, 6, 7, 8, 9, 10, 11, 12, 13, 14, 23, 24, 25, 26], [14, 24]), ([25, 22, 27, 0, 1, 2, 3, 4, 5, 6, 7, 8, 9, 10, 11, 12, 13, 14, 15, 16, 17, 18, 19, 20, 21, 22, 23, 24, 25, 26, 27], [22, 25])])
def i_TreeOfTiling.B7 : List Nat := [0, 1, 3, 7, 0, 16, 48, 127, 0, 256, 768, 0, 2048, 6144, 16128, 0, 32768, 98304, 229376, 0, 524288, 1572864, 4161536, 0, 0, 0, 58720511, 125861887, 268435455]
theorem i_TreeOfTiling.tab7 : rtab .any (opsOf Try.f24 7) = i_TreeOfTiling.T7 := by kernel_rfl
theorem i_TreeOfTiling.bits7 : waitsOk i_TreeOfTiling.T7.2 i_TreeOfTiling.B7 = true := by kernel_rfl
def i_TreeOfTiling.T9 : Bool × List (List Nat × List Nat) := (true, [([], []), ([0], [0]), ([1], [1]), ([], []), ([3], [3]), ([4], [4]), ([5], [5]), ([2, 6], [2, 6]), ([], []), ([8], [8]), ([9], [9]), ([], []), ([11], [11]), ([12], [12]), ([13], [13]), ([10, 14], [10, 14]), ([7, 0, 1, 2, 3, 4, 5, 6, 7], [7]), ([15, 16, 0, 1, 2, 3, 4, 5, 6, 7, 8, 9, 10, 11, 12, 13, 14, 15, 16], [15])])
def i_TreeOfTiling.B9 : List Nat := [0, 1, 3, 0, 8, 24, 56, 127, 0, 256, 768, 0, 2048, 6144, 14336, 32512, 255, 131071]
theorem i_TreeOfTiling.tab9 : rtab .any (opsOf Try.f24 9) = i_TreeOfTiling.T9 := by kernel_rfl
theorem i_TreeOfTiling.bits9 : waitsOk i_TreeOfTiling.T9.2 i_TreeOfTiling.B9 = true := by kernel_rfl
set_option maxRecDepth 100000 in
theorem i_TreeOfTiling.calls (k : Nat) (a0 : Int) (a1 : Int) (A2 : Option Addr) (c2 : Nat) (l2 : List (S41)) (r1 : List (S50)) (r2 : Bool) (w : World) (hr2 : Kd.C k41 w A2 l2.length l2) (hc2 : l2.length ≤ c2) (h : i_TreeOfTiling.f k a0 a1 l2 = some (r1, r2)) :
  Calls Try.prog 24 #[.int .i64 a0, .int .i64 a1, .slice A2 l2.length c2] w fun e w' => ∃ v0_ : Value, e = .returned (.tuple #[v0_, .bool r2]) ∧ Kd.R k50 50 w' w.heap.size (fun _ => True) v0_ r1 ∧ Below w.heap.size w w' := by
 have hu50 := Try.underlying50
 have hu39 := Try.underlying39
 have hu41 := Try.underlying41
 have HR2 := As.mk hr2
 have HC2 := As.mk hc2
 clear hr2 hc2
 have HB : Up w w := ⟨Below.refl _ _⟩
 have H : ((i_GridOk.f a0 a1).bind fun t219 => (if t219 = true then ((i_LinksOf.f k a0 a1).bind fun t223 => (i_TreeOfTiling.l0 k a0 a1 l2 (([] : List (S50))) t223 (t223.length : Int) 0)) else (some (([] : List (S50)), false)))) = some (r1, r2) := h
 clear h
 obtain ⟨t219, A4, H⟩ := bI H
 replace H := bT H; rcases H with ⟨rfl, H⟩ | ⟨rfl, H⟩
 ·obtain ⟨y220, hy220⟩ : ∃ y_ : List (S50), y_ = (([] : List (S50))) := ⟨_, rfl⟩
  replace H : ((i_LinksOf.f k a0 a1).bind fun t223 => (i_TreeOfTiling.l0 k a0 a1 l2 y220 t223 (t223.length : Int) 0)) = some (r1, r2) := by first | (rw [hy220]; with_reducible exact H) | (have H2_ := (Option.bind_some _ _).symm.trans H; rw [hy220]; with_reducible exact H2_) | (have H2_ := (Option.bind_some _ _).symm.trans H; with_reducible exact H2_) | with_reducible exact H | (rw [hy220]; exact H) | exact H
  have Ny220 := As.mk hy220
  clear hy220
  obtain ⟨t223, A6, H⟩ := bI H
  have H' := As.mk H
  clear H
  go_enter Try.func24, Try.ntmps24
  go_wp2_with (first | ((with_reducible refine gC 81 rfl ?_); refine goesL_ (some 22) rfl rfl Try.func81 (by kernel_rfl) rfl #[.int .i64 a0, .int .i64 a1] rfl (by (try simp only [sD, sE, sF]); first | done | rfl) ?_; (with_reducible refine (i_GridOk.calls a0 a1 true _ A4.out).mono ?_); rintro e w' ⟨rfl, ⟨nd, rfl⟩⟩; refine ⟨_, rfl, ?_⟩) | ((with_reducible refine gate_dst (N := 24) rfl ?_); refine Kd.R_lit k50 _ 50 ?hg (N := 24) ?hd (xs := ([] : List (S50))) (inner := []) (ok := fun _ => True) (okp := fun _ => True) ?hr ?hp (fun _ hk => hk) trivial (Below.refl _ _) (Nat.le_refl _) (by simp) ?_; (case hd => rfl); (case hg => rfl); (case hr => first | (go_simp; done) | (go_simp; rfl)); (case hp => exact (Reps.none _ _)); intro v221 w7 ho8 hb hg_ hnew_; clear hg_ hnew_; (first | rw [← Ny220.out] at ho8 | (simp only [Int.reduceToNat] at ho8; rw [← Ny220.out] at ho8)); have := Stp.mk hb; have HO222 := As.mk (Kd.R_lower ho8 (below_size (uw w))); clear hb ho8) | ((with_reducible refine gC 82 rfl ?_); refine goesL_ (some 27) rfl rfl Try.func82 (by kernel_rfl) rfl #[.int .i64 a0, .int .i64 a1] rfl (by (try simp only [sD, sE, sF]); first | done | rfl) ?_; (with_reducible refine (i_LinksOf.calls k a0 a1 t223 _ A6.out).mono ?_); rintro e w9 ⟨v224, rfl, ho0, hb⟩; refine ⟨_, rfl, ?_⟩; have := Stp.mk hb; have n0_ := As.mk (Kd.R_elder' (rX HO222.out) (Kd.R_base ho0) hb); have n1_ := As.mk (Kd.R_lower (Kd.R_new' ho0 (Kd.R_lt (rX HO222.out))) (below_size (uw w))); clear HO222; have HO222 := n0_; have HO225 := n1_; clear n0_ n1_; (try clear ho0); obtain ⟨Ao10, co10, eo10⟩ := Kd.R_slice HO225.out; subst eo10))
  go_loopg [8, 29] k (fun kq v8 v29 w' => ∃ (x8_1 : List (S50)) (x29_1 : Int), v29 = .int .i64 x29_1 ∧ As (i_TreeOfTiling.l0 kq a0 a1 l2 x8_1 t223 (t223.length : Int) x29_1 = some (r1, r2)) ∧ As (kq ≤ k) ∧ As (Kd.R k50 50 w' w.heap.size (fun k_ => some k_ ≠ ((.slice Ao10 t223.length co10) : Value).ownBlock) v8 x8_1) ∧ As (Kd.R k50 50 w' w.heap.size (fun k_ => some k_ ≠ (v8 : Value).ownBlock) (.slice Ao10 t223.length co10) t223) ∧ Up w w')
  case atStart => exact ⟨(y220), (0), (by first | rfl | (simp; done) | (simp [*]; done)), H', ⟨Nat.le_refl _⟩, ⟨by (with_reducible repeat (first | apply Kd.R_alloc | apply Kd.R_drewN | apply Kd.R_drew)); exact Kd.R_mono HO222.out (fun _ hk => hk.2)⟩, ⟨by (with_reducible repeat (first | apply Kd.R_alloc | apply Kd.R_drewN | apply Kd.R_drew)); exact Kd.R_mono HO225.out (fun _ hk => hk.2)⟩, ⟨uw w⟩⟩
  case round =>
   clear H'
   try clear c5
   obtain ⟨x8_1, x29_1, rfl, HA, HK1, HO_8, HO_27, HB⟩ := hrel
   cases gk with
   | zero => exact absurd HA.out (by simp [i_TreeOfTiling.l0])
   | succ k1 =>
    have H := HA.out
    clear HA
    simp only [i_TreeOfTiling.l0] at H
    by_cases c11 : x29_1 < (t223.length : Int)
    ·rw [if_pos c11] at H
     have c11b0 : decide (x29_1 < (t223.length : Int)) = true := decide_eq_true c11
     clear c11
     by_cases c12 : 0 ≤ x29_1
     ·rw [if_pos c12] at H
      have c12b0 : decide (0 ≤ x29_1) = true := decide_eq_true c12
      clear c12
      by_cases c13 : x29_1 < (t223.length : Int)
      ·rw [if_pos c13] at H
       have c13b0 : decide (x29_1 < (t223.length : Int)) = true := decide_eq_true c13
       clear c13
       have HC14 := As.mk H
       clear H
       have p226 : 0 ≤ (x29_1 : Int) := oD
       have q226 : x29_1 < (t223.length : Int) := oD
       obtain ⟨ad226, e226, hx226_0, hx226_1, hx226_2⟩ := at_T50 (Kd.R_reads' HO_27.out).2.2 x29_1 p226 q226
       cases e226
       replace p226 := eq_true p226
       replace q226 := eq_true q226
       try go_wp2_with (first | ((with_reducible refine gD 10 rfl ?_); refine bxE rfl #[.int .i64 0, .int .i64 0, .bool false] 50 ?_ ?_; (focus first | (go_simp; done) | (go_simp; rfl)); intro gb227 _ w15 sb _; have hb := sb.out; have hg := nw gb227; have hbox := bk gb227 (w := w15); replace HO_8 := As.mk (Kd.R_below (Kd.R_elderB (rX HO_8.out) gb227 (Nat.le_of_eq hg.symm)) hb); replace HO_27 := As.mk (Kd.R_below (Kd.R_elderB (rX HO_27.out) gb227 (Nat.le_of_eq hg.symm)) hb); clear hb hg hbox))
       have n0_ : As (Kd.R k50 50 (((w15.setCell ⟨gb227, 0, none⟩ (.int .i64 ((rd_T50 t223 x29_1).f0))).setCell ⟨gb227, 1, none⟩ (.int .i64 ((rd_T50 t223 x29_1).f1))).setCell ⟨gb227, 2, none⟩ (.bool ((rd_T50 t223 x29_1).f2))) w.heap.size (fun k_ => some k_ ≠ (.slice (some ad226) t223.length co10 : Value).ownBlock ∧ k_ ≠ gb227) u8 x8_1) := ⟨by (with_reducible repeat (first | apply Kd.R_alloc | apply Kd.R_drewN | apply Kd.R_drew)); exact Kd.R_mono (Kd.R_far (p := ⟨gb227, 2, none⟩) (Kd.R_far (p := ⟨gb227, 1, none⟩) (Kd.R_far (p := ⟨gb227, 0, none⟩) (Kd.R_mono HO_8.out (fun k_ hk => (⟨hk, hk.2⟩ : _ ∧ k_ ≠ gb227))) (fun _ hk => hk.2) (.int .i64 ((rd_T50 t223 x29_1).f0))) (fun _ hk => hk.2) (.int .i64 ((rd_T50 t223 x29_1).f1))) (fun _ hk => hk.2) (.bool ((rd_T50 t223 x29_1).f2))) (fun _ hk => ⟨hk.1.1, hk.1.2⟩)⟩
       have n1_ : As (Kd.R k50 50 (((w15.setCell ⟨gb227, 0, none⟩ (.int .i64 ((rd_T50 t223 x29_1).f0))).setCell ⟨gb227, 1, none⟩ (.int .i64 ((rd_T50 t223 x29_1).f1))).setCell ⟨gb227, 2, none⟩ (.bool ((rd_T50 t223 x29_1).f2))) w.heap.size (fun k_ => some k_ ≠ (u8 : Value).ownBlock ∧ k_ ≠ gb227) (.slice (some ad226) t223.length co10) t223) := ⟨by (with_reducible repeat (first | apply Kd.R_alloc | apply Kd.R_drewN | apply Kd.R_drew)); exact Kd.R_mono (Kd.R_far (p := ⟨gb227, 2, none⟩) (Kd.R_far (p := ⟨gb227, 1, none⟩) (Kd.R_far (p := ⟨gb227, 0, none⟩) (Kd.R_mono HO_27.out (fun k_ hk => (⟨hk, hk.2⟩ : _ ∧ k_ ≠ gb227))) (fun _ hk => hk.2) (.int .i64 ((rd_T50 t223 x29_1).f0))) (fun _ hk => hk.2) (.int .i64 ((rd_T50 t223 x29_1).f1))) (fun _ hk => hk.2) (.bool ((rd_T50 t223 x29_1).f2))) (fun _ hk => ⟨hk.1.1, hk.1.2⟩)⟩
       have n2_ : Bk (((w15.setCell ⟨gb227, 0, none⟩ (.int .i64 ((rd_T50 t223 x29_1).f0))).setCell ⟨gb227, 1, none⟩ (.int .i64 ((rd_T50 t223 x29_1).f1))).setCell ⟨gb227, 2, none⟩ (.bool ((rd_T50 t223 x29_1).f2))) gb227 (.cells #[.int .i64 ((rd_T50 t223 x29_1).f0), .int .i64 ((rd_T50 t223 x29_1).f1), .bool ((rd_T50 t223 x29_1).f2)] 50 (0, 0)) := bM (by first | rfl | (rw [Nbq33.out]; rfl) | rw [Nbq33.out])
       have n3_ : Up w (((w15.setCell ⟨gb227, 0, none⟩ (.int .i64 ((rd_T50 t223 x29_1).f0))).setCell ⟨gb227, 1, none⟩ (.int .i64 ((rd_T50 t223 x29_1).f1))).setCell ⟨gb227, 2, none⟩ (.bool ((rd_T50 t223 x29_1).f2))) := ⟨uw w⟩
       (try clear HO_8)
       (try clear HO_27)
       generalize (((w15.setCell ⟨gb227, 0, none⟩ (.int .i64 ((rd_T50 t223 x29_1).f0))).setCell ⟨gb227, 1, none⟩ (.int .i64 ((rd_T50 t223 x29_1).f1))).setCell ⟨gb227, 2, none⟩ (.bool ((rd_T50 t223 x29_1).f2))) = w17 at n0_ n1_ n2_ n3_ ⊢
       have HO_8 := n0_
       have HO_27 := n1_
       have BK227 := n2_
       have HB := n3_
       clear n0_ n1_ n2_ n3_
       replace HO_8 := As.mk (Kd.R_drew HO_8.out)
       replace HO_27 := As.mk (Kd.R_drew HO_27.out)
       refine start_ (n := 29) (S := fun w' => w'.cell? ⟨gb227, 0, none⟩ = some (.int .i64 ((rd_T50 t223 x29_1).f0)) ∧ w'.cell? ⟨gb227, 1, none⟩ = some (.int .i64 ((rd_T50 t223 x29_1).f1)) ∧ w'.cell? ⟨gb227, 2, none⟩ = some (.bool ((rd_T50 t223 x29_1).f2))) (ds := []) #[false, false, false, false, false, false, false, false, false, false, false, false, false, false, false, false, false, false, false, false, false, false, false, false, false, false, false, false, false] (by kernel_rfl) rfl rfl ⟨cl gb227 0 (by rfl), cl gb227 1 (by rfl), cl gb227 2 (by first | rfl | (rw [Nbq33.out]; rfl))⟩ (fun hHeld => ?_); refine with_tabW i_TreeOfTiling.tab7 i_TreeOfTiling.bits7 (fun HT_ HW_ => ?_)
       have hd_ := stD w17
       generalize w17.drew = w18 at hd_ HO_8 HO_27 hHeld ⊢
       refine pure_ (i := 0) (N := some 33) (v := ?_) (a' := ?_) #[true, false, false, false, false, false, false, false, false, false, false, false, false, false, false, false, false, false, false, false, false, false, false, false, false, false, false, false, false] rfl rfl (any_of HT_.out (by kernel_rfl)) (fun _ _ _ h => h) (Or.inl ⟨by rfl, ?_⟩) ?_ ?_
       rotate_left
       ·intro w'
        go_simp
        with_reducible rfl
       rotate_left
       ·simp only [Act.put, sA, sB, sC, i64_w, i32_w]
        rfl
       refine pure_ (i := 4) (N := some 37) (v := ?_) (a' := ?_) #[true, false, false, false, true, false, false, false, false, false, false, false, false, false, false, false, false, false, false, false, false, false, false, false, false, false, false, false, false] rfl rfl (any_of HT_.out (by kernel_rfl)) (fun _ _ _ h => h) (Or.inl ⟨by rfl, ?_⟩) ?_ ?_
       rotate_left
       ·intro w'
        go_simp
        with_reducible rfl
       rotate_left
       ·simp only [Act.put, sA, sB, sC, i64_w, i32_w]
        rfl
       refine pure_ (i := 8) (N := some 41) (v := ?_) (a' := ?_) #[true, false, false, false, true, false, false, false, true, false, false, false, false, false, false, false, false, false, false, false, false, false, false, false, false, false, false, false, false] rfl rfl (any_of HT_.out (by kernel_rfl)) (fun _ _ _ h => h) (Or.inl ⟨by rfl, ?_⟩) ?_ ?_
       rotate_left
       ·intro w'
        go_simp
        with_reducible rfl
       rotate_left
       ·simp only [Act.put, sA, sB, sC, i64_w, i32_w]
        rfl
       refine pure_ (i := 11) (N := some 44) (v := ?_) (a' := ?_) #[true, false, false, false, true, false, false, false, true, false, false, true, false, false, false, false, false, false, false, false, false, false, false, false, false, false, false, false, false] rfl rfl (any_of HT_.out (by kernel_rfl)) (fun _ _ _ h => h) (Or.inl ⟨by rfl, ?_⟩) ?_ ?_
       rotate_left
       ·intro w'
        go_simp
        with_reducible rfl
       rotate_left
       ·simp only [Act.put, sA, sB, sC, i64_w, i32_w]
        rfl
       refine pure_ (i := 15) (N := some 48) (v := ?_) (a' := ?_) #[true, false, false, false, true, false, false, false, true, false, false, true, false, false, false, true, false, false, false, false, false, false, false, false, false, false, false, false, false] rfl rfl (any_of HT_.out (by kernel_rfl)) (fun _ _ _ h => h) (Or.inl ⟨by rfl, ?_⟩) ?_ ?_
       rotate_left
       ·intro w'
        go_simp
        with_reducible rfl
       rotate_left
       ·simp only [Act.put, sA, sB, sC, i64_w, i32_w]
        rfl
       refine pure_ (i := 19) (N := some 52) (v := ?_) (a' := ?_) #[true, false, false, false, true, false, false, false, true, false, false, true, false, false, false, true, false, false, false, true, false, false, false, false, false, false, false, false, false] rfl rfl (any_of HT_.out (by kernel_rfl)) (fun _ _ _ h => h) (Or.inl ⟨by rfl, ?_⟩) ?_ ?_
       rotate_left
       ·intro w'
        go_simp
        with_reducible rfl
       rotate_left
       ·simp only [Act.put, sA, sB, sC, i64_w, i32_w]
        rfl
       refine take_ (i := 1) (N := some 34) (v := ?_) (a' := ?_) #[true, true, false, false, true, false, false, false, true, false, false, true, false, false, false, true, false, false, false, true, false, false, false, false, false, false, false, false, false] rfl rfl (take_ofW HT_.out HW_.out (by kernel_rfl)) (fun _ _ _ h => h) (Or.inl ⟨by rfl, ?_⟩) hHeld ?_ ?_
       rotate_left
       ·rintro w' ⟨s0, s1, s2⟩
        go_simp
        with_reducible rfl
       rotate_left
       ·simp only [Act.put, sA, sB, sC, i64_w, i32_w]
        rfl
       refine pure_ (i := 2) (N := some 35) (v := ?_) (a' := ?_) #[true, true, true, false, true, false, false, false, true, false, false, true, false, false, false, true, false, false, false, true, false, false, false, false, false, false, false, false, false] rfl rfl (any_of HT_.out (by kernel_rfl)) (fun _ _ _ h => h) (Or.inl ⟨by rfl, ?_⟩) ?_ ?_
       rotate_left
       ·intro w'
        go_simp
        with_reducible rfl
       rotate_left
       ·simp only [Act.put, sA, sB, sC, i64_w, i32_w]
        rfl
       refine pure_ (i := 3) (N := some 36) (v := ?_) (a' := ?_) #[true, true, true, true, true, false, false, false, true, false, false, true, false, false, false, true, false, false, false, true, false, false, false, false, false, false, false, false, false] rfl rfl (any_of HT_.out (by kernel_rfl)) (fun _ _ _ h => h) (Or.inl ⟨by rfl, ?_⟩) ?_ ?_
       rotate_left
       ·intro w'
        go_simp
        with_reducible rfl
       rotate_left
       ·simp only [Act.put, sA, sB, sC, i64_w, i32_w]
        rfl
       refine take_ (i := 5) (N := some 38) (v := ?_) (a' := ?_) #[true, true, true, true, true, true, false, false, true, false, false, true, false, false, false, true, false, false, false, true, false, false, false, false, false, false, false, false, false] rfl rfl (take_ofW HT_.out HW_.out (by kernel_rfl)) (fun _ _ _ h => h) (Or.inl ⟨by rfl, ?_⟩) hHeld ?_ ?_
       rotate_left
       ·rintro w' ⟨s0, s1, s2⟩
        go_simp
        with_reducible rfl
       rotate_left
       ·simp only [Act.put, sA, sB, sC, i64_w, i32_w]
        rfl
       refine pure_ (i := 6) (N := some 39) (v := ?_) (a' := ?_) #[true, true, true, true, true, true, true, false, true, false, false, true, false, false, false, true, false, false, false, true, false, false, false, false, false, false, false, false, false] rfl rfl (any_of HT_.out (by kernel_rfl)) (fun _ _ _ h => h) (Or.inl ⟨by rfl, ?_⟩) ?_ ?_
       rotate_left
       ·intro w'
        go_simp
        with_reducible rfl
       rotate_left
       ·simp only [Act.put, sA, sB, sC, i64_w, i32_w]
        rfl
       refine pure_ (i := 7) (N := some 40) (v := ?_) (a' := ?_) #[true, true, true, true, true, true, true, true, true, false, false, true, false, false, false, true, false, false, false, true, false, false, false, false, false, false, false, false, false] rfl rfl (any_of HT_.out (by kernel_rfl)) (fun _ _ _ h => h) (Or.inl ⟨by rfl, ?_⟩) ?_ ?_
       rotate_left
       ·intro w'
        go_simp
        with_reducible rfl
       rotate_left
       ·simp only [Act.put, sA, sB, sC, i64_w, i32_w]
        rfl
       refine take_ (i := 9) (N := some 42) (v := ?_) (a' := ?_) #[true, true, true, true, true, true, true, true, true, true, false, true, false, false, false, true, false, false, false, true, false, false, false, false, false, false, false, false, false] rfl rfl (take_ofW HT_.out HW_.out (by kernel_rfl)) (fun _ _ _ h => h) (Or.inl ⟨by rfl, ?_⟩) hHeld ?_ ?_
       rotate_left
       ·rintro w' ⟨s0, s1, s2⟩
        go_simp
        with_reducible rfl
       rotate_left
       ·simp only [Act.put, sA, sB, sC, i64_w, i32_w]
        rfl
       refine pure_ (i := 10) (N := some 43) (v := ?_) (a' := ?_) #[true, true, true, true, true, true, true, true, true, true, true, true, false, false, false, true, false, false, false, true, false, false, false, false, false, false, false, false, false] rfl rfl (any_of HT_.out (by kernel_rfl)) (fun _ _ _ h => h) (Or.inl ⟨by rfl, ?_⟩) ?_ ?_
       rotate_left
       ·intro w'
        go_simp
        with_reducible rfl
       rotate_left
       ·simp only [Act.put, sA, sB, sC, i64_w, i32_w]
        rfl
       refine take_ (i := 12) (N := some 45) (v := ?_) (a' := ?_) #[true, true, true, true, true, true, true, true, true, true, true, true, true, false, false, true, false, false, false, true, false, false, false, false, false, false, false, false, false] rfl rfl (take_ofW HT_.out HW_.out (by kernel_rfl)) (fun _ _ _ h => h) (Or.inl ⟨by rfl, ?_⟩) hHeld ?_ ?_
       rotate_left
       ·rintro w' ⟨s0, s1, s2⟩
        go_simp
        with_reducible rfl
       rotate_left
       ·simp only [Act.put, sA, sB, sC, i64_w, i32_w]
        rfl
       refine pure_ (i := 13) (N := some 46) (v := ?_) (a' := ?_) #[true, true, true, true, true, true, true, true, true, true, true, true, true, true, false, true, false, false, false, true, false, false, false, false, false, false, false, false, false] rfl rfl (any_of HT_.out (by kernel_rfl)) (fun _ _ _ h => h) (Or.inl ⟨by rfl, ?_⟩) ?_ ?_
       rotate_left
       ·intro w'
        go_simp
        with_reducible rfl
       rotate_left
       ·simp only [Act.put, sA, sB, sC, i64_w, i32_w]
        rfl
       refine pure_ (i := 14) (N := some 47) (v := ?_) (a' := ?_) #[true, true, true, true, true, true, true, true, true, true, true, true, true, true, true, true, false, false, false, true, false, false, false, false, false, false, false, false, false] rfl rfl (any_of HT_.out (by kernel_rfl)) (fun _ _ _ h => h) (Or.inl ⟨by rfl, ?_⟩) ?_ ?_
       rotate_left
       ·intro w'
        go_simp
        with_reducible rfl
       rotate_left
       ·simp only [Act.put, sA, sB, sC, i64_w, i32_w]
        rfl
       refine take_ (i := 16) (N := some 49) (v := ?_) (a' := ?_) #[true, true, true, true, true, true, true, true, true, true, true, true, true, true, true, true, true, false, false, true, false, false, false, false, false, false, false, false, false] rfl rfl (take_ofW HT_.out HW_.out (by kernel_rfl)) (fun _ _ _ h => h) (Or.inl ⟨by rfl, ?_⟩) hHeld ?_ ?_
       rotate_left
       ·rintro w' ⟨s0, s1, s2⟩
        go_simp
        with_reducible rfl
       rotate_left
       ·simp only [Act.put, sA, sB, sC, i64_w, i32_w]
        rfl
       refine pure_ (i := 17) (N := some 50) (v := ?_) (a' := ?_) #[true, true, true, true, true, true, true, true, true, true, true, true, true, true, true, true, true, true, false, true, false, false, false, false, false, false, false, false, false] rfl rfl (any_of HT_.out (by kernel_rfl)) (fun _ _ _ h => h) (Or.inl ⟨by rfl, ?_⟩) ?_ ?_
       rotate_left
       ·intro w'
        go_simp
        with_reducible rfl
       rotate_left
       ·simp only [Act.put, sA, sB, sC, i64_w, i32_w]
        rfl
       refine pure_ (i := 18) (N := some 51) (v := ?_) (a' := ?_) #[true, true, true, true, true, true, true, true, true, true, true, true, true, true, true, true, true, true, true, true, false, false, false, false, false, false, false, false, false] rfl rfl (any_of HT_.out (by kernel_rfl)) (fun _ _ _ h => h) (Or.inl ⟨by rfl, ?_⟩) ?_ ?_
       rotate_left
       ·intro w'
        go_simp
        with_reducible rfl
       rotate_left
       ·simp only [Act.put, sA, sB, sC, i64_w, i32_w]
        rfl
       refine take_ (i := 20) (N := some 53) (v := ?_) (a' := ?_) #[true, true, true, true, true, true, true, true, true, true, true, true, true, true, true, true, true, true, true, true, true, false, false, false, false, false, false, false, false] rfl rfl (take_ofW HT_.out HW_.out (by kernel_rfl)) (fun _ _ _ h => h) (Or.inl ⟨by rfl, ?_⟩) hHeld ?_ ?_
       rotate_left
       ·rintro w' ⟨s0, s1, s2⟩
        go_simp
        with_reducible rfl
       rotate_left
       ·simp only [Act.put, sA, sB, sC, i64_w, i32_w]
        rfl
       refine pure_ (i := 21) (N := some 54) (v := ?_) (a' := ?_) #[true, true, true, true, true, true, true, true, true, true, true, true, true, true, true, true, true, true, true, true, true, true, false, false, false, false, false, false, false] rfl rfl (any_of HT_.out (by kernel_rfl)) (fun _ _ _ h => h) (Or.inl ⟨by rfl, ?_⟩) ?_ ?_
       rotate_left
       ·intro w'
        go_simp
        with_reducible rfl
       rotate_left
       ·simp only [Act.put, sA, sB, sC, i64_w, i32_w]
        rfl
       refine pure_ (i := 22) (N := some 55) (v := ?_) (a' := ?_) #[true, true, true, true, true, true, true, true, true, true, true, true, true, true, true, true, true, true, true, true, true, true, true, false, false, false, false, false, false] rfl rfl (any_of HT_.out (by kernel_rfl)) (fun _ _ _ h => h) (Or.inl ⟨by rfl, ?_⟩) ?_ ?_
       rotate_left
       ·intro w'
        go_simp
        with_reducible rfl
       rotate_left
       ·simp only [Act.put, sA, sB, sC, i64_w, i32_w]
        rfl
       refine join_ (σ := Nat × Nat × Nat) 3 #[true, true, true, true, true, true, true, true, true, true, true, true, true, true, true, true, true, true, true, true, true, true, true, true, true, true, false, false, false] (fun s_ => [(11, .pointer (some ⟨s_.1, 0, none⟩)), (12, .pointer (some ⟨s_.2.1, 0, none⟩)), (13, .pointer (some ⟨s_.2.2, 0, none⟩))]) (fun s_ w' => (w'.cell? ⟨gb227, 0, none⟩ = some (.int .i64 ((rd_T50 t223 x29_1).f0)) ∧ w'.cell? ⟨gb227, 1, none⟩ = some (.int .i64 ((rd_T50 t223 x29_1).f1)) ∧ w'.cell? ⟨gb227, 2, none⟩ = some (.bool ((rd_T50 t223 x29_1).f2))) ∧ (Kd.R k50 50 w' w.heap.size (fun k_ => some k_ ≠ (u8 : Value).ownBlock ∧ k_ ≠ gb227) (.slice (some ad226) t223.length co10) t223) ∧ (Kd.R k50 50 w' w.heap.size (fun k_ => some k_ ≠ (.slice (some ad226) t223.length co10 : Value).ownBlock ∧ k_ ≠ gb227) u8 x8_1) ∧ (w'.heap[gb227]? = some (.cells #[.int .i64 ((rd_T50 t223 x29_1).f0), .int .i64 ((rd_T50 t223 x29_1).f1), .bool ((rd_T50 t223 x29_1).f2)] 50 (0, 0))) ∧ (w'.heap[s_.1]? = some (.cells #[.int .i64 0, .int .i64 0] 39 (0, 0))) ∧ (w'.heap[s_.2.1]? = some (.cells #[.int .i64 0, .int .i64 0] 39 (0, 0))) ∧ (w'.heap[s_.2.2]? = some (.cells #[.int .i64 0, .int .i64 0] 39 (0, 0))) ∧ (w.heap.size ≤ s_.1) ∧ (w.heap.size ≤ s_.1) ∧ (gb227 ≠ s_.1) ∧ (s_.1 ≠ gb227) ∧ (s_.2.1 ≠ s_.1) ∧ (s_.1 ≠ s_.2.1) ∧ (s_.2.2 ≠ s_.1) ∧ (s_.1 ≠ s_.2.2) ∧ (w.heap.size ≤ s_.2.1) ∧ (w.heap.size ≤ s_.2.1) ∧ (gb227 ≠ s_.2.1) ∧ (s_.2.1 ≠ gb227) ∧ (s_.2.2 ≠ s_.2.1) ∧ (s_.2.1 ≠ s_.2.2) ∧ (w.heap.size ≤ s_.2.2) ∧ (w.heap.size ≤ s_.2.2) ∧ (gb227 ≠ s_.2.2) ∧ (s_.2.2 ≠ gb227) ∧ (Below w.heap.size w w')) ?_ ?_
       rotate_left
       ·intro hJ23_24_25
        refine join_ (σ := Nat × Nat) 4 #[true, true, true, true, true, true, true, true, true, true, true, true, true, true, true, true, true, true, true, true, true, true, true, true, true, false, false, false, false] (fun s_ => [(11, .pointer (some ⟨s_.1, 0, none⟩)), (12, .pointer (some ⟨s_.2, 0, none⟩))]) (fun s_ w' => (w'.cell? ⟨gb227, 0, none⟩ = some (.int .i64 ((rd_T50 t223 x29_1).f0)) ∧ w'.cell? ⟨gb227, 1, none⟩ = some (.int .i64 ((rd_T50 t223 x29_1).f1)) ∧ w'.cell? ⟨gb227, 2, none⟩ = some (.bool ((rd_T50 t223 x29_1).f2))) ∧ (Kd.R k50 50 w' w.heap.size (fun k_ => some k_ ≠ (u8 : Value).ownBlock ∧ k_ ≠ gb227) (.slice (some ad226) t223.length co10) t223) ∧ (Kd.R k50 50 w' w.heap.size (fun k_ => some k_ ≠ (.slice (some ad226) t223.length co10 : Value).ownBlock ∧ k_ ≠ gb227) u8 x8_1) ∧ (w'.heap[gb227]? = some (.cells #[.int .i64 ((rd_T50 t223 x29_1).f0), .int .i64 ((rd_T50 t223 x29_1).f1), .bool ((rd_T50 t223 x29_1).f2)] 50 (0, 0))) ∧ (w'.heap[s_.1]? = some (.cells #[.int .i64 0, .int .i64 0] 39 (0, 0))) ∧ (w'.heap[s_.2]? = some (.cells #[.int .i64 0, .int .i64 0] 39 (0, 0))) ∧ (w.heap.size ≤ s_.1) ∧ (w.heap.size ≤ s_.1) ∧ (gb227 ≠ s_.1) ∧ (s_.1 ≠ gb227) ∧ (s_.2 ≠ s_.1) ∧ (s_.1 ≠ s_.2) ∧ (w.heap.size ≤ s_.2) ∧ (w.heap.size ≤ s_.2) ∧ (gb227 ≠ s_.2) ∧ (s_.2 ≠ gb227) ∧ (Below w.heap.size w w')) ?_ ?_
        rotate_left
        ·intro hJ23_24
         refine join_ (σ := Nat × Nat) 4 #[true, true, true, true, true, true, true, true, true, true, true, true, true, true, true, true, true, true, true, true, true, true, true, true, false, true, false, false, false] (fun s_ => [(11, .pointer (some ⟨s_.1, 0, none⟩)), (13, .pointer (some ⟨s_.2, 0, none⟩))]) (fun s_ w' => (w'.cell? ⟨gb227, 0, none⟩ = some (.int .i64 ((rd_T50 t223 x29_1).f0)) ∧ w'.cell? ⟨gb227, 1, none⟩ = some (.int .i64 ((rd_T50 t223 x29_1).f1)) ∧ w'.cell? ⟨gb227, 2, none⟩ = some (.bool ((rd_T50 t223 x29_1).f2))) ∧ (Kd.R k50 50 w' w.heap.size (fun k_ => some k_ ≠ (u8 : Value).ownBlock ∧ k_ ≠ gb227) (.slice (some ad226) t223.length co10) t223) ∧ (Kd.R k50 50 w' w.heap.size (fun k_ => some k_ ≠ (.slice (some ad226) t223.length co10 : Value).ownBlock ∧ k_ ≠ gb227) u8 x8_1) ∧ (w'.heap[gb227]? = some (.cells #[.int .i64 ((rd_T50 t223 x29_1).f0), .int .i64 ((rd_T50 t223 x29_1).f1), .bool ((rd_T50 t223 x29_1).f2)] 50 (0, 0))) ∧ (w'.heap[s_.1]? = some (.cells #[.int .i64 0, .int .i64 0] 39 (0, 0))) ∧ (w'.heap[s_.2]? = some (.cells #[.int .i64 0, .int .i64 0] 39 (0, 0))) ∧ (w.heap.size ≤ s_.1) ∧ (w.heap.size ≤ s_.1) ∧ (gb227 ≠ s_.1) ∧ (s_.1 ≠ gb227) ∧ (s_.2 ≠ s_.1) ∧ (s_.1 ≠ s_.2) ∧ (w.heap.size ≤ s_.2) ∧ (w.heap.size ≤ s_.2) ∧ (gb227 ≠ s_.2) ∧ (s_.2 ≠ gb227) ∧ (Below w.heap.size w w')) ?_ ?_
         rotate_left
         ·intro hJ23_25
          refine join_ (σ := Nat × Nat) 4 #[true, true, true, true, true, true, true, true, true, true, true, true, true, true, true, true, true, true, true, true, true, true, true, false, true, true, false, false, false] (fun s_ => [(12, .pointer (some ⟨s_.1, 0, none⟩)), (13, .pointer (some ⟨s_.2, 0, none⟩))]) (fun s_ w' => (w'.cell? ⟨gb227, 0, none⟩ = some (.int .i64 ((rd_T50 t223 x29_1).f0)) ∧ w'.cell? ⟨gb227, 1, none⟩ = some (.int .i64 ((rd_T50 t223 x29_1).f1)) ∧ w'.cell? ⟨gb227, 2, none⟩ = some (.bool ((rd_T50 t223 x29_1).f2))) ∧ (Kd.R k50 50 w' w.heap.size (fun k_ => some k_ ≠ (u8 : Value).ownBlock ∧ k_ ≠ gb227) (.slice (some ad226) t223.length co10) t223) ∧ (Kd.R k50 50 w' w.heap.size (fun k_ => some k_ ≠ (.slice (some ad226) t223.length co10 : Value).ownBlock ∧ k_ ≠ gb227) u8 x8_1) ∧ (w'.heap[gb227]? = some (.cells #[.int .i64 ((rd_T50 t223 x29_1).f0), .int .i64 ((rd_T50 t223 x29_1).f1), .bool ((rd_T50 t223 x29_1).f2)] 50 (0, 0))) ∧ (w'.heap[s_.1]? = some (.cells #[.int .i64 0, .int .i64 0] 39 (0, 0))) ∧ (w'.heap[s_.2]? = some (.cells #[.int .i64 0, .int .i64 0] 39 (0, 0))) ∧ (w.heap.size ≤ s_.1) ∧ (w.heap.size ≤ s_.1) ∧ (gb227 ≠ s_.1) ∧ (s_.1 ≠ gb227) ∧ (s_.2 ≠ s_.1) ∧ (s_.1 ≠ s_.2) ∧ (w.heap.size ≤ s_.2) ∧ (w.heap.size ≤ s_.2) ∧ (gb227 ≠ s_.2) ∧ (s_.2 ≠ gb227) ∧ (Below w.heap.size w w')) ?_ ?_
          rotate_left
          ·intro hJ24_25
           refine join_ (σ := Nat) 5 #[true, true, true, true, true, true, true, true, true, true, true, true, true, true, true, true, true, true, true, true, true, true, true, true, false, false, false, false, false] (fun s_ => [(11, .pointer (some ⟨s_, 0, none⟩))]) (fun s_ w' => (w'.cell? ⟨gb227, 0, none⟩ = some (.int .i64 ((rd_T50 t223 x29_1).f0)) ∧ w'.cell? ⟨gb227, 1, none⟩ = some (.int .i64 ((rd_T50 t223 x29_1).f1)) ∧ w'.cell? ⟨gb227, 2, none⟩ = some (.bool ((rd_T50 t223 x29_1).f2))) ∧ (Kd.R k50 50 w' w.heap.size (fun k_ => some k_ ≠ (u8 : Value).ownBlock ∧ k_ ≠ gb227) (.slice (some ad226) t223.length co10) t223) ∧ (Kd.R k50 50 w' w.heap.size (fun k_ => some k_ ≠ (.slice (some ad226) t223.length co10 : Value).ownBlock ∧ k_ ≠ gb227) u8 x8_1) ∧ (w'.heap[gb227]? = some (.cells #[.int .i64 ((rd_T50 t223 x29_1).f0), .int .i64 ((rd_T50 t223 x29_1).f1), .bool ((rd_T50 t223 x29_1).f2)] 50 (0, 0))) ∧ (w'.heap[s_]? = some (.cells #[.int .i64 0, .int .i64 0] 39 (0, 0))) ∧ (w.heap.size ≤ s_) ∧ (w.heap.size ≤ s_) ∧ (gb227 ≠ s_) ∧ (s_ ≠ gb227) ∧ (Below w.heap.size w w')) ?_ ?_
           rotate_left
           ·intro hJ23
            refine join_ (σ := Nat) 5 #[true, true, true, true, true, true, true, true, true, true, true, true, true, true, true, true, true, true, true, true, true, true, true, false, true, false, false, false, false] (fun s_ => [(12, .pointer (some ⟨s_, 0, none⟩))]) (fun s_ w' => (w'.cell? ⟨gb227, 0, none⟩ = some (.int .i64 ((rd_T50 t223 x29_1).f0)) ∧ w'.cell? ⟨gb227, 1, none⟩ = some (.int .i64 ((rd_T50 t223 x29_1).f1)) ∧ w'.cell? ⟨gb227, 2, none⟩ = some (.bool ((rd_T50 t223 x29_1).f2))) ∧ (Kd.R k50 50 w' w.heap.size (fun k_ => some k_ ≠ (u8 : Value).ownBlock ∧ k_ ≠ gb227) (.slice (some ad226) t223.length co10) t223) ∧ (Kd.R k50 50 w' w.heap.size (fun k_ => some k_ ≠ (.slice (some ad226) t223.length co10 : Value).ownBlock ∧ k_ ≠ gb227) u8 x8_1) ∧ (w'.heap[gb227]? = some (.cells #[.int .i64 ((rd_T50 t223 x29_1).f0), .int .i64 ((rd_T50 t223 x29_1).f1), .bool ((rd_T50 t223 x29_1).f2)] 50 (0, 0))) ∧ (w'.heap[s_]? = some (.cells #[.int .i64 0, .int .i64 0] 39 (0, 0))) ∧ (w.heap.size ≤ s_) ∧ (w.heap.size ≤ s_) ∧ (gb227 ≠ s_) ∧ (s_ ≠ gb227) ∧ (Below w.heap.size w w')) ?_ ?_
            rotate_left
            ·intro hJ24
             refine join_ (σ := Nat) 5 #[true, true, true, true, true, true, true, true, true, true, true, true, true, true, true, true, true, true, true, true, true, true, true, false, false, true, false, false, false] (fun s_ => [(13, .pointer (some ⟨s_, 0, none⟩))]) (fun s_ w' => (w'.cell? ⟨gb227, 0, none⟩ = some (.int .i64 ((rd_T50 t223 x29_1).f0)) ∧ w'.cell? ⟨gb227, 1, none⟩ = some (.int .i64 ((rd_T50 t223 x29_1).f1)) ∧ w'.cell? ⟨gb227, 2, none⟩ = some (.bool ((rd_T50 t223 x29_1).f2))) ∧ (Kd.R k50 50 w' w.heap.size (fun k_ => some k_ ≠ (u8 : Value).ownBlock ∧ k_ ≠ gb227) (.slice (some ad226) t223.length co10) t223) ∧ (Kd.R k50 50 w' w.heap.size (fun k_ => some k_ ≠ (.slice (some ad226) t223.length co10 : Value).ownBlock ∧ k_ ≠ gb227) u8 x8_1) ∧ (w'.heap[gb227]? = some (.cells #[.int .i64 ((rd_T50 t223 x29_1).f0), .int .i64 ((rd_T50 t223 x29_1).f1), .bool ((rd_T50 t223 x29_1).f2)] 50 (0, 0))) ∧ (w'.heap[s_]? = some (.cells #[.int .i64 0, .int .i64 0] 39 (0, 0))) ∧ (w.heap.size ≤ s_) ∧ (w.heap.size ≤ s_) ∧ (gb227 ≠ s_) ∧ (s_ ≠ gb227) ∧ (Below w.heap.size w w')) ?_ ?_
             rotate_left
             ·intro hJ25
              refine three_ (i := 23) (j := 24) (k := 25) (Ni := some 11) (Nj := some 12) (Nk := some 13) #[true, true, true, true, true, true, true, true, true, true, true, true, true, true, true, true, true, true, true, true, true, true, true, true, false, false, false, false, false] #[true, true, true, true, true, true, true, true, true, true, true, true, true, true, true, true, true, true, true, true, true, true, true, false, true, false, false, false, false] #[true, true, true, true, true, true, true, true, true, true, true, true, true, true, true, true, true, true, true, true, true, true, true, false, false, true, false, false, false] rfl rfl rfl rfl rfl rfl (three_of HT_.out (by kernel_rfl)) (by decide) (by decide) (by decide) (fun K hK => ?_) (fun K hK => ?_) (fun K hK => ?_)
              ·skip
               refine box_step ?hg (N := 11) ?hd (cs := #[.int .i64 0, .int .i64 0]) (t := 39) ?hr ?_; (case hd => rfl); (case hg => rfl); (case hr => first | (go_simp; done) | (go_simp; rfl))
               intro gb228 hg w19 hbox hb
               have := Stp.mk hb
               have := New.mk hg
               have := Bk.mk hbox
               replace HO_8 := hB HO_8 hb
               replace HO_27 := hB HO_27 hb
               clear hb hbox hg
               refine hK.out _ _ ⟨cl gb227 0 (by rfl), cl gb227 1 (by rfl), cl gb227 2 (by first | rfl | (rw [Nbq33.out]; rfl))⟩ (fun hHeld => ?_)
               clear hK K
               refine norm_ (a' := ?_) ?_ ?_
               rotate_left
               ·show Act.put _ (some 11) _ = _
                simp only [Act.put, sA, sB, sC, i64_w, i32_w]
                rfl
               exact norm_ (by first | (simp only [putAll, Act.put, List.setIfInBounds_toArray, List.set_cons_zero, List.set_cons_succ]; done) | (simp only [putAll, Act.put, List.setIfInBounds_toArray, List.set_cons_zero, List.set_cons_succ]; rfl)) (hJ23 (gb228) _ ⟨hHeld, (rX HO_27.out), (rX HO_8.out), (bkr gb227 (by rfl)), (bkr gb228 (by rfl)), (ge gb228 : w.heap.size ≤ _), (ge gb228 : w.heap.size ≤ _), (ne gb227 gb228), (ne gb228 gb227), (uw w)⟩)
              ·skip
               refine box_step ?hg (N := 12) ?hd (cs := #[.int .i64 0, .int .i64 0]) (t := 39) ?hr ?_; (case hd => rfl); (case hg => rfl); (case hr => first | (go_simp; done) | (go_simp; rfl))
               intro gb229 hg w19 hbox hb
               have := Stp.mk hb
               have := New.mk hg
               have := Bk.mk hbox
               replace HO_8 := hB HO_8 hb
               replace HO_27 := hB HO_27 hb
               clear hb hbox hg
               refine hK.out _ _ ⟨cl gb227 0 (by rfl), cl gb227 1 (by rfl), cl gb227 2 (by first | rfl | (rw [Nbq33.out]; rfl))⟩ (fun hHeld => ?_)
               clear hK K
               refine norm_ (a' := ?_) ?_ ?_
               rotate_left
               ·show Act.put _ (some 12) _ = _
                simp only [Act.put, sA, sB, sC, i64_w, i32_w]
                rfl
               exact norm_ (by first | (simp only [putAll, Act.put, List.setIfInBounds_toArray, List.set_cons_zero, List.set_cons_succ]; done) | (simp only [putAll, Act.put, List.setIfInBounds_toArray, List.set_cons_zero, List.set_cons_succ]; rfl)) (hJ24 (gb229) _ ⟨hHeld, (rX HO_27.out), (rX HO_8.out), (bkr gb227 (by rfl)), (bkr gb229 (by rfl)), (ge gb229 : w.heap.size ≤ _), (ge gb229 : w.heap.size ≤ _), (ne gb227 gb229), (ne gb229 gb227), (uw w)⟩)
              ·skip
               refine box_step ?hg (N := 13) ?hd (cs := #[.int .i64 0, .int .i64 0]) (t := 39) ?hr ?_; (case hd => rfl); (case hg => rfl); (case hr => first | (go_simp; done) | (go_simp; rfl))
               intro gb230 hg w19 hbox hb
               have := Stp.mk hb
               have := New.mk hg
               have := Bk.mk hbox
               replace HO_8 := hB HO_8 hb
               replace HO_27 := hB HO_27 hb
               clear hb hbox hg
               refine hK.out _ _ ⟨cl gb227 0 (by rfl), cl gb227 1 (by rfl), cl gb227 2 (by first | rfl | (rw [Nbq33.out]; rfl))⟩ (fun hHeld => ?_)
               clear hK K
               refine norm_ (a' := ?_) ?_ ?_
               rotate_left
               ·show Act.put _ (some 13) _ = _
                simp only [Act.put, sA, sB, sC, i64_w, i32_w]
                rfl
               exact norm_ (by first | (simp only [putAll, Act.put, List.setIfInBounds_toArray, List.set_cons_zero, List.set_cons_succ]; done) | (simp only [putAll, Act.put, List.setIfInBounds_toArray, List.set_cons_zero, List.set_cons_succ]; rfl)) (hJ25 (gb230) _ ⟨hHeld, (rX HO_27.out), (rX HO_8.out), (bkr gb227 (by rfl)), (bkr gb230 (by rfl)), (ge gb230 : w.heap.size ≤ _), (ge gb230 : w.heap.size ≤ _), (ne gb227 gb230), (ne gb230 gb227), (uw w)⟩)
             ·skip
              rintro gb230 w20 ⟨hS_, h0_, h1_, h2_, h3_, h4_, h5_, h6_, h7_, h8_⟩
              have n0_ : As (Kd.R k50 50 w20 w.heap.size (fun k_ => some k_ ≠ (u8 : Value).ownBlock ∧ k_ ≠ gb227) (.slice (some ad226) t223.length co10) t223) := ⟨h0_⟩
              have n1_ : As (Kd.R k50 50 w20 w.heap.size (fun k_ => some k_ ≠ (.slice (some ad226) t223.length co10 : Value).ownBlock ∧ k_ ≠ gb227) u8 x8_1) := ⟨h1_⟩
              have n2_ : Bk w20 gb227 (.cells #[.int .i64 ((rd_T50 t223 x29_1).f0), .int .i64 ((rd_T50 t223 x29_1).f1), .bool ((rd_T50 t223 x29_1).f2)] 50 (0, 0)) := ⟨h2_⟩
              have n3_ : Bk w20 gb230 (.cells #[.int .i64 0, .int .i64 0] 39 (0, 0)) := ⟨h3_⟩
              have n4_ : Fc (w.heap.size ≤ gb230) := ⟨h4_⟩
              have n5_ : Fc (w.heap.size ≤ gb230) := ⟨h5_⟩
              have n6_ : Fc (gb227 ≠ gb230) := ⟨h6_⟩
              have n7_ : Fc (gb230 ≠ gb227) := ⟨h7_⟩
              have n8_ : Up w w20 := ⟨h8_⟩
              clear HO_8
              clear HO_27
              clear BK227
              clear HB
              clear h0_ h1_ h2_ h3_ h4_ h5_ h6_ h7_ h8_
              have HO_27 := n0_
              have HO_8 := n1_
              have BK227 := n2_
              have BK230 := n3_
              have GW230 := n4_
              have GE230 := n5_
              have NB227_230 := n6_
              have NB230_227 := n7_
              have HB := n8_
              clear n0_ n1_ n2_ n3_ n4_ n5_ n6_ n7_ n8_
              have hHeld : w20.cell? ⟨gb227, 0, none⟩ = some (.int .i64 ((rd_T50 t223 x29_1).f0)) ∧ w20.cell? ⟨gb227, 1, none⟩ = some (.int .i64 ((rd_T50 t223 x29_1).f1)) ∧ w20.cell? ⟨gb227, 2, none⟩ = some (.bool ((rd_T50 t223 x29_1).f2)) := hS_
              refine norm_ (a' := ?_) ?_ ?_
              rotate_left
              ·simp only [putAll, Act.put, List.setIfInBounds_toArray, List.set_cons_zero, List.set_cons_succ]
               rfl
              refine two_ (i := 23) (j := 24) (Ni := some 11) (Nj := some 12) #[true, true, true, true, true, true, true, true, true, true, true, true, true, true, true, true, true, true, true, true, true, true, true, true, false, true, false, false, false] #[true, true, true, true, true, true, true, true, true, true, true, true, true, true, true, true, true, true, true, true, true, true, true, false, true, true, false, false, false] rfl rfl rfl rfl (two_of HT_.out (by kernel_rfl)) (by decide) (by decide) (fun K hK => ?_) (fun K hK => ?_)
              ·skip
               refine box_step ?hg (N := 11) ?hd (cs := #[.int .i64 0, .int .i64 0]) (t := 39) ?hr ?_; (case hd => rfl); (case hg => rfl); (case hr => first | (go_simp; done) | (go_simp; rfl))
               intro gb228 hg w21 hbox hb
               have := Stp.mk hb
               have := New.mk hg
               have := Bk.mk hbox
               replace HO_8 := hB HO_8 hb
               replace HO_27 := hB HO_27 hb
               clear hb hbox hg
               refine hK.out _ _ ⟨cl gb227 0 (by rfl), cl gb227 1 (by rfl), cl gb227 2 (by first | rfl | (rw [Nbq33.out]; rfl))⟩ (fun hHeld => ?_)
               clear hK K
               refine norm_ (a' := ?_) ?_ ?_
               rotate_left
               ·show Act.put _ (some 11) _ = _
                simp only [Act.put, sA, sB, sC, i64_w, i32_w]
                rfl
               exact norm_ (by first | (simp only [putAll, Act.put, List.setIfInBounds_toArray, List.set_cons_zero, List.set_cons_succ]; done) | (simp only [putAll, Act.put, List.setIfInBounds_toArray, List.set_cons_zero, List.set_cons_succ]; rfl)) (hJ23_25 (gb228, gb230) _ ⟨hHeld, (rX HO_27.out), (rX HO_8.out), (bkr gb227 (by rfl)), (bkr gb228 (by rfl)), (bkr gb230 (by rfl)), (ge gb228 : w.heap.size ≤ _), (ge gb228 : w.heap.size ≤ _), (ne gb227 gb228), (ne gb228 gb227), (ne gb230 gb228), (ne gb228 gb230), (ge gb230 : w.heap.size ≤ _), (ge gb230 : w.heap.size ≤ _), (ne gb227 gb230), (ne gb230 gb227), (uw w)⟩)
              ·skip
               refine box_step ?hg (N := 12) ?hd (cs := #[.int .i64 0, .int .i64 0]) (t := 39) ?hr ?_; (case hd => rfl); (case hg => rfl); (case hr => first | (go_simp; done) | (go_simp; rfl))
               intro gb229 hg w21 hbox hb
               have := Stp.mk hb
               have := New.mk hg
               have := Bk.mk hbox
               replace HO_8 := hB HO_8 hb
               replace HO_27 := hB HO_27 hb
               clear hb hbox hg
               refine hK.out _ _ ⟨cl gb227 0 (by rfl), cl gb227 1 (by rfl), cl gb227 2 (by first | rfl | (rw [Nbq33.out]; rfl))⟩ (fun hHeld => ?_)
               clear hK K
               refine norm_ (a' := ?_) ?_ ?_
               rotate_left
               ·show Act.put _ (some 12) _ = _
                simp only [Act.put, sA, sB, sC, i64_w, i32_w]
                rfl
               exact norm_ (by first | (simp only [putAll, Act.put, List.setIfInBounds_toArray, List.set_cons_zero, List.set_cons_succ]; done) | (simp only [putAll, Act.put, List.setIfInBounds_toArray, List.set_cons_zero, List.set_cons_succ]; rfl)) (hJ24_25 (gb229, gb230) _ ⟨hHeld, (rX HO_27.out), (rX HO_8.out), (bkr gb227 (by rfl)), (bkr gb229 (by rfl)), (bkr gb230 (by rfl)), (ge gb229 : w.heap.size ≤ _), (ge gb229 : w.heap.size ≤ _), (ne gb227 gb229), (ne gb229 gb227), (ne gb230 gb229), (ne gb229 gb230), (ge gb230 : w.heap.size ≤ _), (ge gb230 : w.heap.size ≤ _), (ne gb227 gb230), (ne gb230 gb227), (uw w)⟩)
            ·skip
             rintro gb229 w20 ⟨hS_, h0_, h1_, h2_, h3_, h4_, h5_, h6_, h7_, h8_⟩
             have n0_ : As (Kd.R k50 50 w20 w.heap.size (fun k_ => some k_ ≠ (u8 : Value).ownBlock ∧ k_ ≠ gb227) (.slice (some ad226) t223.length co10) t223) := ⟨h0_⟩
             have n1_ : As (Kd.R k50 50 w20 w.heap.size (fun k_ => some k_ ≠ (.slice (some ad226) t223.length co10 : Value).ownBlock ∧ k_ ≠ gb227) u8 x8_1) := ⟨h1_⟩
             have n2_ : Bk w20 gb227 (.cells #[.int .i64 ((rd_T50 t223 x29_1).f0), .int .i64 ((rd_T50 t223 x29_1).f1), .bool ((rd_T50 t223 x29_1).f2)] 50 (0, 0)) := ⟨h2_⟩
             have n3_ : Bk w20 gb229 (.cells #[.int .i64 0, .int .i64 0] 39 (0, 0)) := ⟨h3_⟩
             have n4_ : Fc (w.heap.size ≤ gb229) := ⟨h4_⟩
             have n5_ : Fc (w.heap.size ≤ gb229) := ⟨h5_⟩
             have n6_ : Fc (gb227 ≠ gb229) := ⟨h6_⟩
             have n7_ : Fc (gb229 ≠ gb227) := ⟨h7_⟩
             have n8_ : Up w w20 := ⟨h8_⟩
             clear HO_8
             clear HO_27
             clear BK227
             clear HB
             clear h0_ h1_ h2_ h3_ h4_ h5_ h6_ h7_ h8_
             have HO_27 := n0_
             have HO_8 := n1_
             have BK227 := n2_
             have BK229 := n3_
             have GW229 := n4_
             have GE229 := n5_
             have NB227_229 := n6_
             have NB229_227 := n7_
             have HB := n8_
             clear n0_ n1_ n2_ n3_ n4_ n5_ n6_ n7_ n8_
             have hHeld : w20.cell? ⟨gb227, 0, none⟩ = some (.int .i64 ((rd_T50 t223 x29_1).f0)) ∧ w20.cell? ⟨gb227, 1, none⟩ = some (.int .i64 ((rd_T50 t223 x29_1).f1)) ∧ w20.cell? ⟨gb227, 2, none⟩ = some (.bool ((rd_T50 t223 x29_1).f2)) := hS_
             refine norm_ (a' := ?_) ?_ ?_
             rotate_left
             ·simp only [putAll, Act.put, List.setIfInBounds_toArray, List.set_cons_zero, List.set_cons_succ]
              rfl
             refine two_ (i := 23) (j := 25) (Ni := some 11) (Nj := some 13) #[true, true, true, true, true, true, true, true, true, true, true, true, true, true, true, true, true, true, true, true, true, true, true, true, true, false, false, false, false] #[true, true, true, true, true, true, true, true, true, true, true, true, true, true, true, true, true, true, true, true, true, true, true, false, true, true, false, false, false] rfl rfl rfl rfl (two_of HT_.out (by kernel_rfl)) (by decide) (by decide) (fun K hK => ?_) (fun K hK => ?_)
             ·skip
              refine box_step ?hg (N := 11) ?hd (cs := #[.int .i64 0, .int .i64 0]) (t := 39) ?hr ?_; (case hd => rfl); (case hg => rfl); (case hr => first | (go_simp; done) | (go_simp; rfl))
              intro gb228 hg w21 hbox hb
              have := Stp.mk hb
              have := New.mk hg
              have := Bk.mk hbox
              replace HO_8 := hB HO_8 hb
              replace HO_27 := hB HO_27 hb
              clear hb hbox hg
              refine hK.out _ _ ⟨cl gb227 0 (by rfl), cl gb227 1 (by rfl), cl gb227 2 (by first | rfl | (rw [Nbq33.out]; rfl))⟩ (fun hHeld => ?_)
              clear hK K
              refine norm_ (a' := ?_) ?_ ?_
              rotate_left
              ·show Act.put _ (some 11) _ = _
               simp only [Act.put, sA, sB, sC, i64_w, i32_w]
               rfl
              exact norm_ (by first | (simp only [putAll, Act.put, List.setIfInBounds_toArray, List.set_cons_zero, List.set_cons_succ]; done) | (simp only [putAll, Act.put, List.setIfInBounds_toArray, List.set_cons_zero, List.set_cons_succ]; rfl)) (hJ23_24 (gb228, gb229) _ ⟨hHeld, (rX HO_27.out), (rX HO_8.out), (bkr gb227 (by rfl)), (bkr gb228 (by rfl)), (bkr gb229 (by rfl)), (ge gb228 : w.heap.size ≤ _), (ge gb228 : w.heap.size ≤ _), (ne gb227 gb228), (ne gb228 gb227), (ne gb229 gb228), (ne gb228 gb229), (ge gb229 : w.heap.size ≤ _), (ge gb229 : w.heap.size ≤ _), (ne gb227 gb229), (ne gb229 gb227), (uw w)⟩)
             ·skip
              refine box_step ?hg (N := 13) ?hd (cs := #[.int .i64 0, .int .i64 0]) (t := 39) ?hr ?_; (case hd => rfl); (case hg => rfl); (case hr => first | (go_simp; done) | (go_simp; rfl))
              intro gb230 hg w21 hbox hb
              have := Stp.mk hb
              have := New.mk hg
              have := Bk.mk hbox
              replace HO_8 := hB HO_8 hb
              replace HO_27 := hB HO_27 hb
              clear hb hbox hg
              refine hK.out _ _ ⟨cl gb227 0 (by rfl), cl gb227 1 (by rfl), cl gb227 2 (by first | rfl | (rw [Nbq33.out]; rfl))⟩ (fun hHeld => ?_)
              clear hK K
              refine norm_ (a' := ?_) ?_ ?_
              rotate_left
              ·show Act.put _ (some 13) _ = _
               simp only [Act.put, sA, sB, sC, i64_w, i32_w]
               rfl
              exact norm_ (by first | (simp only [putAll, Act.put, List.setIfInBounds_toArray, List.set_cons_zero, List.set_cons_succ]; done) | (simp only [putAll, Act.put, List.setIfInBounds_toArray, List.set_cons_zero, List.set_cons_succ]; rfl)) (hJ24_25 (gb229, gb230) _ ⟨hHeld, (rX HO_27.out), (rX HO_8.out), (bkr gb227 (by rfl)), (bkr gb229 (by rfl)), (bkr gb230 (by rfl)), (ge gb229 : w.heap.size ≤ _), (ge gb229 : w.heap.size ≤ _), (ne gb227 gb229), (ne gb229 gb227), (ne gb230 gb229), (ne gb229 gb230), (ge gb230 : w.heap.size ≤ _), (ge gb230 : w.heap.size ≤ _), (ne gb227 gb230), (ne gb230 gb227), (uw w)⟩)
           ·skip
            rintro gb228 w20 ⟨hS_, h0_, h1_, h2_, h3_, h4_, h5_, h6_, h7_, h8_⟩
            have n0_ : As (Kd.R k50 50 w20 w.heap.size (fun k_ => some k_ ≠ (u8 : Value).ownBlock ∧ k_ ≠ gb227) (.slice (some ad226) t223.length co10) t223) := ⟨h0_⟩
            have n1_ : As (Kd.R k50 50 w20 w.heap.size (fun k_ => some k_ ≠ (.slice (some ad226) t223.length co10 : Value).ownBlock ∧ k_ ≠ gb227) u8 x8_1) := ⟨h1_⟩
            have n2_ : Bk w20 gb227 (.cells #[.int .i64 ((rd_T50 t223 x29_1).f0), .int .i64 ((rd_T50 t223 x29_1).f1), .bool ((rd_T50 t223 x29_1).f2)] 50 (0, 0)) := ⟨h2_⟩
            have n3_ : Bk w20 gb228 (.cells #[.int .i64 0, .int .i64 0] 39 (0, 0)) := ⟨h3_⟩
            have n4_ : Fc (w.heap.size ≤ gb228) := ⟨h4_⟩
            have n5_ : Fc (w.heap.size ≤ gb228) := ⟨h5_⟩
            have n6_ : Fc (gb227 ≠ gb228) := ⟨h6_⟩
            have n7_ : Fc (gb228 ≠ gb227) := ⟨h7_⟩
            have n8_ : Up w w20 := ⟨h8_⟩
            clear HO_8
            clear HO_27
            clear BK227
            clear HB
            clear h0_ h1_ h2_ h3_ h4_ h5_ h6_ h7_ h8_
            have HO_27 := n0_
            have HO_8 := n1_
            have BK227 := n2_
            have BK228 := n3_
            have GW228 := n4_
            have GE228 := n5_
            have NB227_228 := n6_
            have NB228_227 := n7_
            have HB := n8_
            clear n0_ n1_ n2_ n3_ n4_ n5_ n6_ n7_ n8_
            have hHeld : w20.cell? ⟨gb227, 0, none⟩ = some (.int .i64 ((rd_T50 t223 x29_1).f0)) ∧ w20.cell? ⟨gb227, 1, none⟩ = some (.int .i64 ((rd_T50 t223 x29_1).f1)) ∧ w20.cell? ⟨gb227, 2, none⟩ = some (.bool ((rd_T50 t223 x29_1).f2)) := hS_
            refine norm_ (a' := ?_) ?_ ?_
            rotate_left
            ·simp only [putAll, Act.put, List.setIfInBounds_toArray, List.set_cons_zero, List.set_cons_succ]
             rfl
            refine two_ (i := 24) (j := 25) (Ni := some 12) (Nj := some 13) #[true, true, true, true, true, true, true, true, true, true, true, true, true, true, true, true, true, true, true, true, true, true, true, true, true, false, false, false, false] #[true, true, true, true, true, true, true, true, true, true, true, true, true, true, true, true, true, true, true, true, true, true, true, true, false, true, false, false, false] rfl rfl rfl rfl (two_of HT_.out (by kernel_rfl)) (by decide) (by decide) (fun K hK => ?_) (fun K hK => ?_)
            ·skip
             refine box_step ?hg (N := 12) ?hd (cs := #[.int .i64 0, .int .i64 0]) (t := 39) ?hr ?_; (case hd => rfl); (case hg => rfl); (case hr => first | (go_simp; done) | (go_simp; rfl))
             intro gb229 hg w21 hbox hb
             have := Stp.mk hb
             have := New.mk hg
             have := Bk.mk hbox
             replace HO_8 := hB HO_8 hb
             replace HO_27 := hB HO_27 hb
             clear hb hbox hg
             refine hK.out _ _ ⟨cl gb227 0 (by rfl), cl gb227 1 (by rfl), cl gb227 2 (by first | rfl | (rw [Nbq33.out]; rfl))⟩ (fun hHeld => ?_)
             clear hK K
             refine norm_ (a' := ?_) ?_ ?_
             rotate_left
             ·show Act.put _ (some 12) _ = _
              simp only [Act.put, sA, sB, sC, i64_w, i32_w]
              rfl
             exact norm_ (by first | (simp only [putAll, Act.put, List.setIfInBounds_toArray, List.set_cons_zero, List.set_cons_succ]; done) | (simp only [putAll, Act.put, List.setIfInBounds_toArray, List.set_cons_zero, List.set_cons_succ]; rfl)) (hJ23_24 (gb228, gb229) _ ⟨hHeld, (rX HO_27.out), (rX HO_8.out), (bkr gb227 (by rfl)), (bkr gb228 (by rfl)), (bkr gb229 (by rfl)), (ge gb228 : w.heap.size ≤ _), (ge gb228 : w.heap.size ≤ _), (ne gb227 gb228), (ne gb228 gb227), (ne gb229 gb228), (ne gb228 gb229), (ge gb229 : w.heap.size ≤ _), (ge gb229 : w.heap.size ≤ _), (ne gb227 gb229), (ne gb229 gb227), (uw w)⟩)
            ·skip
             refine box_step ?hg (N := 13) ?hd (cs := #[.int .i64 0, .int .i64 0]) (t := 39) ?hr ?_; (case hd => rfl); (case hg => rfl); (case hr => first | (go_simp; done) | (go_simp; rfl))
             intro gb230 hg w21 hbox hb
             have := Stp.mk hb
             have := New.mk hg
             have := Bk.mk hbox
             replace HO_8 := hB HO_8 hb
             replace HO_27 := hB HO_27 hb
             clear hb hbox hg
             refine hK.out _ _ ⟨cl gb227 0 (by rfl), cl gb227 1 (by rfl), cl gb227 2 (by first | rfl | (rw [Nbq33.out]; rfl))⟩ (fun hHeld => ?_)
             clear hK K
             refine norm_ (a' := ?_) ?_ ?_
             rotate_left
             ·show Act.put _ (some 13) _ = _
              simp only [Act.put, sA, sB, sC, i64_w, i32_w]
              rfl
             exact norm_ (by first | (simp only [putAll, Act.put, List.setIfInBounds_toArray, List.set_cons_zero, List.set_cons_succ]; done) | (simp only [putAll, Act.put, List.setIfInBounds_toArray, List.set_cons_zero, List.set_cons_succ]; rfl)) (hJ23_25 (gb228, gb230) _ ⟨hHeld, (rX HO_27.out), (rX HO_8.out), (bkr gb227 (by rfl)), (bkr gb228 (by rfl)), (bkr gb230 (by rfl)), (ge gb228 : w.heap.size ≤ _), (ge gb228 : w.heap.size ≤ _), (ne gb227 gb228), (ne gb228 gb227), (ne gb230 gb228), (ne gb228 gb230), (ge gb230 : w.heap.size ≤ _), (ge gb230 : w.heap.size ≤ _), (ne gb227 gb230), (ne gb230 gb227), (uw w)⟩)
          ·skip
           rintro ⟨gb229, gb230⟩ w21 ⟨hS_, h0_, h1_, h2_, h3_, h4_, h5_, h6_, h7_, h8_, h9_, h10_, h11_, h12_, h13_, h14_, h15_⟩
           have n0_ : As (Kd.R k50 50 w21 w.heap.size (fun k_ => some k_ ≠ (u8 : Value).ownBlock ∧ k_ ≠ gb227) (.slice (some ad226) t223.length co10) t223) := ⟨h0_⟩
           have n1_ : As (Kd.R k50 50 w21 w.heap.size (fun k_ => some k_ ≠ (.slice (some ad226) t223.length co10 : Value).ownBlock ∧ k_ ≠ gb227) u8 x8_1) := ⟨h1_⟩
           have n2_ : Bk w21 gb227 (.cells #[.int .i64 ((rd_T50 t223 x29_1).f0), .int .i64 ((rd_T50 t223 x29_1).f1), .bool ((rd_T50 t223 x29_1).f2)] 50 (0, 0)) := ⟨h2_⟩
           have n3_ : Bk w21 gb229 (.cells #[.int .i64 0, .int .i64 0] 39 (0, 0)) := ⟨h3_⟩
           have n4_ : Bk w21 gb230 (.cells #[.int .i64 0, .int .i64 0] 39 (0, 0)) := ⟨h4_⟩
           have n5_ : Fc (w.heap.size ≤ gb229) := ⟨h5_⟩
           have n6_ : Fc (w.heap.size ≤ gb229) := ⟨h6_⟩
           have n7_ : Fc (gb227 ≠ gb229) := ⟨h7_⟩
           have n8_ : Fc (gb229 ≠ gb227) := ⟨h8_⟩
           have n9_ : Fc (gb230 ≠ gb229) := ⟨h9_⟩
           have n10_ : Fc (gb229 ≠ gb230) := ⟨h10_⟩
           have n11_ : Fc (w.heap.size ≤ gb230) := ⟨h11_⟩
           have n12_ : Fc (w.heap.size ≤ gb230) := ⟨h12_⟩
           have n13_ : Fc (gb227 ≠ gb230) := ⟨h13_⟩
           have n14_ : Fc (gb230 ≠ gb227) := ⟨h14_⟩
           have n15_ : Up w w21 := ⟨h15_⟩
           clear HO_8
           clear HO_27
           clear BK227
           clear HB
           clear h0_ h1_ h2_ h3_ h4_ h5_ h6_ h7_ h8_ h9_ h10_ h11_ h12_ h13_ h14_ h15_
           have HO_27 := n0_
           have HO_8 := n1_
           have BK227 := n2_
           have BK229 := n3_
           have BK230 := n4_
           have GW229 := n5_
           have GE229 := n6_
           have NB227_229 := n7_
           have NB229_227 := n8_
           have NB230_229 := n9_
           have NB229_230 := n10_
           have GW230 := n11_
           have GE230 := n12_
           have NB227_230 := n13_
           have NB230_227 := n14_
           have HB := n15_
           clear n0_ n1_ n2_ n3_ n4_ n5_ n6_ n7_ n8_ n9_ n10_ n11_ n12_ n13_ n14_ n15_
           have hHeld : w21.cell? ⟨gb227, 0, none⟩ = some (.int .i64 ((rd_T50 t223 x29_1).f0)) ∧ w21.cell? ⟨gb227, 1, none⟩ = some (.int .i64 ((rd_T50 t223 x29_1).f1)) ∧ w21.cell? ⟨gb227, 2, none⟩ = some (.bool ((rd_T50 t223 x29_1).f2)) := hS_
           refine norm_ (a' := ?_) ?_ ?_
           rotate_left
           ·simp only [putAll, Act.put, List.setIfInBounds_toArray, List.set_cons_zero, List.set_cons_succ]
            rfl
           refine one_ (i := 23) (N := some 11) #[true, true, true, true, true, true, true, true, true, true, true, true, true, true, true, true, true, true, true, true, true, true, true, true, true, true, false, false, false] rfl rfl (one_of HT_.out (by kernel_rfl)) (by decide) (fun K hK => ?_)
           refine box_step ?hg (N := 11) ?hd (cs := #[.int .i64 0, .int .i64 0]) (t := 39) ?hr ?_; (case hd => rfl); (case hg => rfl); (case hr => first | (go_simp; done) | (go_simp; rfl))
           intro gb228 hg w22 hbox hb
           have := Stp.mk hb
           have := New.mk hg
           have := Bk.mk hbox
           replace HO_8 := hB HO_8 hb
           replace HO_27 := hB HO_27 hb
           clear hb hbox hg
           refine hK.out _ _ ⟨cl gb227 0 (by rfl), cl gb227 1 (by rfl), cl gb227 2 (by first | rfl | (rw [Nbq33.out]; rfl))⟩ (fun hHeld => ?_)
           clear hK K
           refine norm_ (a' := ?_) ?_ ?_
           rotate_left
           ·show Act.put _ (some 11) _ = _
            simp only [Act.put, sA, sB, sC, i64_w, i32_w]
            rfl
           exact norm_ (by first | (simp only [putAll, Act.put, List.setIfInBounds_toArray, List.set_cons_zero, List.set_cons_succ]; done) | (simp only [putAll, Act.put, List.setIfInBounds_toArray, List.set_cons_zero, List.set_cons_succ]; rfl)) (hJ23_24_25 (gb228, gb229, gb230) _ ⟨hHeld, (rX HO_27.out), (rX HO_8.out), (bkr gb227 (by rfl)), (bkr gb228 (by rfl)), (bkr gb229 (by rfl)), (bkr gb230 (by rfl)), (ge gb228 : w.heap.size ≤ _), (ge gb228 : w.heap.size ≤ _), (ne gb227 gb228), (ne gb228 gb227), (ne gb229 gb228), (ne gb228 gb229), (ne gb230 gb228), (ne gb228 gb230), (ge gb229 : w.heap.size ≤ _), (ge gb229 : w.heap.size ≤ _), (ne gb227 gb229), (ne gb229 gb227), (ne gb230 gb229), (ne gb229 gb230), (ge gb230 : w.heap.size ≤ _), (ge gb230 : w.heap.size ≤ _), (ne gb227 gb230), (ne gb230 gb227), (uw w)⟩)
         ·skip
          rintro ⟨gb228, gb230⟩ w21 ⟨hS_, h0_, h1_, h2_, h3_, h4_, h5_, h6_, h7_, h8_, h9_, h10_, h11_, h12_, h13_, h14_, h15_⟩
          have n0_ : As (Kd.R k50 50 w21 w.heap.size (fun k_ => some k_ ≠ (u8 : Value).ownBlock ∧ k_ ≠ gb227) (.slice (some ad226) t223.length co10) t223) := ⟨h0_⟩
          have n1_ : As (Kd.R k50 50 w21 w.heap.size (fun k_ => some k_ ≠ (.slice (some ad226) t223.length co10 : Value).ownBlock ∧ k_ ≠ gb227) u8 x8_1) := ⟨h1_⟩
          have n2_ : Bk w21 gb227 (.cells #[.int .i64 ((rd_T50 t223 x29_1).f0), .int .i64 ((rd_T50 t223 x29_1).f1), .bool ((rd_T50 t223 x29_1).f2)] 50 (0, 0)) := ⟨h2_⟩
          have n3_ : Bk w21 gb228 (.cells #[.int .i64 0, .int .i64 0] 39 (0, 0)) := ⟨h3_⟩
          have n4_ : Bk w21 gb230 (.cells #[.int .i64 0, .int .i64 0] 39 (0, 0)) := ⟨h4_⟩
          have n5_ : Fc (w.heap.size ≤ gb228) := ⟨h5_⟩
          have n6_ : Fc (w.heap.size ≤ gb228) := ⟨h6_⟩
          have n7_ : Fc (gb227 ≠ gb228) := ⟨h7_⟩
          have n8_ : Fc (gb228 ≠ gb227) := ⟨h8_⟩
          have n9_ : Fc (gb230 ≠ gb228) := ⟨h9_⟩
          have n10_ : Fc (gb228 ≠ gb230) := ⟨h10_⟩
          have n11_ : Fc (w.heap.size ≤ gb230) := ⟨h11_⟩
          have n12_ : Fc (w.heap.size ≤ gb230) := ⟨h12_⟩
          have n13_ : Fc (gb227 ≠ gb230) := ⟨h13_⟩
          have n14_ : Fc (gb230 ≠ gb227) := ⟨h14_⟩
          have n15_ : Up w w21 := ⟨h15_⟩
          clear HO_8
          clear HO_27
          clear BK227
          clear HB
          clear h0_ h1_ h2_ h3_ h4_ h5_ h6_ h7_ h8_ h9_ h10_ h11_ h12_ h13_ h14_ h15_
          have HO_27 := n0_
          have HO_8 := n1_
          have BK227 := n2_
          have BK228 := n3_
          have BK230 := n4_
          have GW228 := n5_
          have GE228 := n6_
          have NB227_228 := n7_
          have NB228_227 := n8_
          have NB230_228 := n9_
          have NB228_230 := n10_
          have GW230 := n11_
          have GE230 := n12_
          have NB227_230 := n13_
          have NB230_227 := n14_
          have HB := n15_
          clear n0_ n1_ n2_ n3_ n4_ n5_ n6_ n7_ n8_ n9_ n10_ n11_ n12_ n13_ n14_ n15_
          have hHeld : w21.cell? ⟨gb227, 0, none⟩ = some (.int .i64 ((rd_T50 t223 x29_1).f0)) ∧ w21.cell? ⟨gb227, 1, none⟩ = some (.int .i64 ((rd_T50 t223 x29_1).f1)) ∧ w21.cell? ⟨gb227, 2, none⟩ = some (.bool ((rd_T50 t223 x29_1).f2)) := hS_
          refine norm_ (a' := ?_) ?_ ?_
          rotate_left
          ·simp only [putAll, Act.put, List.setIfInBounds_toArray, List.set_cons_zero, List.set_cons_succ]
           rfl
          refine one_ (i := 24) (N := some 12) #[true, true, true, true, true, true, true, true, true, true, true, true, true, true, true, true, true, true, true, true, true, true, true, true, true, true, false, false, false] rfl rfl (one_of HT_.out (by kernel_rfl)) (by decide) (fun K hK => ?_)
          refine box_step ?hg (N := 12) ?hd (cs := #[.int .i64 0, .int .i64 0]) (t := 39) ?hr ?_; (case hd => rfl); (case hg => rfl); (case hr => first | (go_simp; done) | (go_simp; rfl))
          intro gb229 hg w22 hbox hb
          have := Stp.mk hb
          have := New.mk hg
          have := Bk.mk hbox
          replace HO_8 := hB HO_8 hb
          replace HO_27 := hB HO_27 hb
          clear hb hbox hg
          refine hK.out _ _ ⟨cl gb227 0 (by rfl), cl gb227 1 (by rfl), cl gb227 2 (by first | rfl | (rw [Nbq33.out]; rfl))⟩ (fun hHeld => ?_)
          clear hK K
          refine norm_ (a' := ?_) ?_ ?_
          rotate_left
          ·show Act.put _ (some 12) _ = _
           simp only [Act.put, sA, sB, sC, i64_w, i32_w]
           rfl
          exact norm_ (by first | (simp only [putAll, Act.put, List.setIfInBounds_toArray, List.set_cons_zero, List.set_cons_succ]; done) | (simp only [putAll, Act.put, List.setIfInBounds_toArray, List.set_cons_zero, List.set_cons_succ]; rfl)) (hJ23_24_25 (gb228, gb229, gb230) _ ⟨hHeld, (rX HO_27.out), (rX HO_8.out), (bkr gb227 (by rfl)), (bkr gb228 (by rfl)), (bkr gb229 (by rfl)), (bkr gb230 (by rfl)), (ge gb228 : w.heap.size ≤ _), (ge gb228 : w.heap.size ≤ _), (ne gb227 gb228), (ne gb228 gb227), (ne gb229 gb228), (ne gb228 gb229), (ne gb230 gb228), (ne gb228 gb230), (ge gb229 : w.heap.size ≤ _), (ge gb229 : w.heap.size ≤ _), (ne gb227 gb229), (ne gb229 gb227), (ne gb230 gb229), (ne gb229 gb230), (ge gb230 : w.heap.size ≤ _), (ge gb230 : w.heap.size ≤ _), (ne gb227 gb230), (ne gb230 gb227), (uw w)⟩)
        ·skip
         rintro ⟨gb228, gb229⟩ w21 ⟨hS_, h0_, h1_, h2_, h3_, h4_, h5_, h6_, h7_, h8_, h9_, h10_, h11_, h12_, h13_, h14_, h15_⟩
         have n0_ : As (Kd.R k50 50 w21 w.heap.size (fun k_ => some k_ ≠ (u8 : Value).ownBlock ∧ k_ ≠ gb227) (.slice (some ad226) t223.length co10) t223) := ⟨h0_⟩
         have n1_ : As (Kd.R k50 50 w21 w.heap.size (fun k_ => some k_ ≠ (.slice (some ad226) t223.length co10 : Value).ownBlock ∧ k_ ≠ gb227) u8 x8_1) := ⟨h1_⟩
         have n2_ : Bk w21 gb227 (.cells #[.int .i64 ((rd_T50 t223 x29_1).f0), .int .i64 ((rd_T50 t223 x29_1).f1), .bool ((rd_T50 t223 x29_1).f2)] 50 (0, 0)) := ⟨h2_⟩
         have n3_ : Bk w21 gb228 (.cells #[.int .i64 0, .int .i64 0] 39 (0, 0)) := ⟨h3_⟩
         have n4_ : Bk w21 gb229 (.cells #[.int .i64 0, .int .i64 0] 39 (0, 0)) := ⟨h4_⟩
         have n5_ : Fc (w.heap.size ≤ gb228) := ⟨h5_⟩
         have n6_ : Fc (w.heap.size ≤ gb228) := ⟨h6_⟩
         have n7_ : Fc (gb227 ≠ gb228) := ⟨h7_⟩
         have n8_ : Fc (gb228 ≠ gb227) := ⟨h8_⟩
         have n9_ : Fc (gb229 ≠ gb228) := ⟨h9_⟩
         have n10_ : Fc (gb228 ≠ gb229) := ⟨h10_⟩
         have n11_ : Fc (w.heap.size ≤ gb229) := ⟨h11_⟩
         have n12_ : Fc (w.heap.size ≤ gb229) := ⟨h12_⟩
         have n13_ : Fc (gb227 ≠ gb229) := ⟨h13_⟩
         have n14_ : Fc (gb229 ≠ gb227) := ⟨h14_⟩
         have n15_ : Up w w21 := ⟨h15_⟩
         clear HO_8
         clear HO_27
         clear BK227
         clear HB
         clear h0_ h1_ h2_ h3_ h4_ h5_ h6_ h7_ h8_ h9_ h10_ h11_ h12_ h13_ h14_ h15_
         have HO_27 := n0_
         have HO_8 := n1_
         have BK227 := n2_
         have BK228 := n3_
         have BK229 := n4_
         have GW228 := n5_
         have GE228 := n6_
         have NB227_228 := n7_
         have NB228_227 := n8_
         have NB229_228 := n9_
         have NB228_229 := n10_
         have GW229 := n11_
         have GE229 := n12_
         have NB227_229 := n13_
         have NB229_227 := n14_
         have HB := n15_
         clear n0_ n1_ n2_ n3_ n4_ n5_ n6_ n7_ n8_ n9_ n10_ n11_ n12_ n13_ n14_ n15_
         have hHeld : w21.cell? ⟨gb227, 0, none⟩ = some (.int .i64 ((rd_T50 t223 x29_1).f0)) ∧ w21.cell? ⟨gb227, 1, none⟩ = some (.int .i64 ((rd_T50 t223 x29_1).f1)) ∧ w21.cell? ⟨gb227, 2, none⟩ = some (.bool ((rd_T50 t223 x29_1).f2)) := hS_
         refine norm_ (a' := ?_) ?_ ?_
         rotate_left
         ·simp only [putAll, Act.put, List.setIfInBounds_toArray, List.set_cons_zero, List.set_cons_succ]
          rfl
         refine one_ (i := 25) (N := some 13) #[true, true, true, true, true, true, true, true, true, true, true, true, true, true, true, true, true, true, true, true, true, true, true, true, true, true, false, false, false] rfl rfl (one_of HT_.out (by kernel_rfl)) (by decide) (fun K hK => ?_)
         refine box_step ?hg (N := 13) ?hd (cs := #[.int .i64 0, .int .i64 0]) (t := 39) ?hr ?_; (case hd => rfl); (case hg => rfl); (case hr => first | (go_simp; done) | (go_simp; rfl))
         intro gb230 hg w22 hbox hb
         have := Stp.mk hb
         have := New.mk hg
         have := Bk.mk hbox
         replace HO_8 := hB HO_8 hb
         replace HO_27 := hB HO_27 hb
         clear hb hbox hg
         refine hK.out _ _ ⟨cl gb227 0 (by rfl), cl gb227 1 (by rfl), cl gb227 2 (by first | rfl | (rw [Nbq33.out]; rfl))⟩ (fun hHeld => ?_)
         clear hK K
         refine norm_ (a' := ?_) ?_ ?_
         rotate_left
         ·show Act.put _ (some 13) _ = _
          simp only [Act.put, sA, sB, sC, i64_w, i32_w]
          rfl
         exact norm_ (by first | (simp only [putAll, Act.put, List.setIfInBounds_toArray, List.set_cons_zero, List.set_cons_succ]; done) | (simp only [putAll, Act.put, List.setIfInBounds_toArray, List.set_cons_zero, List.set_cons_succ]; rfl)) (hJ23_24_25 (gb228, gb229, gb230) _ ⟨hHeld, (rX HO_27.out), (rX HO_8.out), (bkr gb227 (by rfl)), (bkr gb228 (by rfl)), (bkr gb229 (by rfl)), (bkr gb230 (by rfl)), (ge gb228 : w.heap.size ≤ _), (ge gb228 : w.heap.size ≤ _), (ne gb227 gb228), (ne gb228 gb227), (ne gb229 gb228), (ne gb228 gb229), (ne gb230 gb228), (ne gb228 gb230), (ge gb229 : w.heap.size ≤ _), (ge gb229 : w.heap.size ≤ _), (ne gb227 gb229), (ne gb229 gb227), (ne gb230 gb229), (ne gb229 gb230), (ge gb230 : w.heap.size ≤ _), (ge gb230 : w.heap.size ≤ _), (ne gb227 gb230), (ne gb230 gb227), (uw w)⟩)
       rintro ⟨gb228, gb229, gb230⟩ w22 ⟨hS_, h0_, h1_, h2_, h3_, h4_, h5_, h6_, h7_, h8_, h9_, h10_, h11_, h12_, h13_, h14_, h15_, h16_, h17_, h18_, h19_, h20_, h21_, h22_, h23_, h24_⟩
       have n0_ : As (Kd.R k50 50 w22 w.heap.size (fun k_ => some k_ ≠ (u8 : Value).ownBlock ∧ k_ ≠ gb227) (.slice (some ad226) t223.length co10) t223) := ⟨h0_⟩
       have n1_ : As (Kd.R k50 50 w22 w.heap.size (fun k_ => some k_ ≠ (.slice (some ad226) t223.length co10 : Value).ownBlock ∧ k_ ≠ gb227) u8 x8_1) := ⟨h1_⟩
       have n2_ : Bk w22 gb227 (.cells #[.int .i64 ((rd_T50 t223 x29_1).f0), .int .i64 ((rd_T50 t223 x29_1).f1), .bool ((rd_T50 t223 x29_1).f2)] 50 (0, 0)) := ⟨h2_⟩
       have n3_ : Bk w22 gb228 (.cells #[.int .i64 0, .int .i64 0] 39 (0, 0)) := ⟨h3_⟩
       have n4_ : Bk w22 gb229 (.cells #[.int .i64 0, .int .i64 0] 39 (0, 0)) := ⟨h4_⟩
       have n5_ : Bk w22 gb230 (.cells #[.int .i64 0, .int .i64 0] 39 (0, 0)) := ⟨h5_⟩
       have n6_ : Fc (w.heap.size ≤ gb228) := ⟨h6_⟩
       have n7_ : Fc (w.heap.size ≤ gb228) := ⟨h7_⟩
       have n8_ : Fc (gb227 ≠ gb228) := ⟨h8_⟩
       have n9_ : Fc (gb228 ≠ gb227) := ⟨h9_⟩
       have n10_ : Fc (gb229 ≠ gb228) := ⟨h10_⟩
       have n11_ : Fc (gb228 ≠ gb229) := ⟨h11_⟩
       have n12_ : Fc (gb230 ≠ gb228) := ⟨h12_⟩
       have n13_ : Fc (gb228 ≠ gb230) := ⟨h13_⟩
       have n14_ : Fc (w.heap.size ≤ gb229) := ⟨h14_⟩
       have n15_ : Fc (w.heap.size ≤ gb229) := ⟨h15_⟩
       have n16_ : Fc (gb227 ≠ gb229) := ⟨h16_⟩
       have n17_ : Fc (gb229 ≠ gb227) := ⟨h17_⟩
       have n18_ : Fc (gb230 ≠ gb229) := ⟨h18_⟩
       have n19_ : Fc (gb229 ≠ gb230) := ⟨h19_⟩
       have n20_ : Fc (w.heap.size ≤ gb230) := ⟨h20_⟩
       have n21_ : Fc (w.heap.size ≤ gb230) := ⟨h21_⟩
       have n22_ : Fc (gb227 ≠ gb230) := ⟨h22_⟩
       have n23_ : Fc (gb230 ≠ gb227) := ⟨h23_⟩
       have n24_ : Up w w22 := ⟨h24_⟩
       clear HO_8
       clear HO_27
       clear BK227
       clear HB
       clear h0_ h1_ h2_ h3_ h4_ h5_ h6_ h7_ h8_ h9_ h10_ h11_ h12_ h13_ h14_ h15_ h16_ h17_ h18_ h19_ h20_ h21_ h22_ h23_ h24_
       have HO_27 := n0_
       have HO_8 := n1_
       have BK227 := n2_
       have BK228 := n3_
       have BK229 := n4_
       have BK230 := n5_
       have GW228 := n6_
       have GE228 := n7_
       have NB227_228 := n8_
       have NB228_227 := n9_
       have NB229_228 := n10_
       have NB228_229 := n11_
       have NB230_228 := n12_
       have NB228_230 := n13_
       have GW229 := n14_
       have GE229 := n15_
       have NB227_229 := n16_
       have NB229_227 := n17_
       have NB230_229 := n18_
       have NB229_230 := n19_
       have GW230 := n20_
       have GE230 := n21_
       have NB227_230 := n22_
       have NB230_227 := n23_
       have HB := n24_
       clear n0_ n1_ n2_ n3_ n4_ n5_ n6_ n7_ n8_ n9_ n10_ n11_ n12_ n13_ n14_ n15_ n16_ n17_ n18_ n19_ n20_ n21_ n22_ n23_ n24_
       have hHeld : w22.cell? ⟨gb227, 0, none⟩ = some (.int .i64 ((rd_T50 t223 x29_1).f0)) ∧ w22.cell? ⟨gb227, 1, none⟩ = some (.int .i64 ((rd_T50 t223 x29_1).f1)) ∧ w22.cell? ⟨gb227, 2, none⟩ = some (.bool ((rd_T50 t223 x29_1).f2)) := hS_
       refine norm_ (a' := ?_) ?_ ?_
       rotate_left
       ·simp only [putAll, Act.put, List.setIfInBounds_toArray, List.set_cons_zero, List.set_cons_succ]
        rfl
       refine one_ (i := 26) (N := none) #[true, true, true, true, true, true, true, true, true, true, true, true, true, true, true, true, true, true, true, true, true, true, true, true, true, true, true, false, false] rfl rfl (one_of HT_.out (by kernel_rfl)) (by decide) (fun K hK => ?_)
       have hs23 : w22.cell? ⟨gb228, 0, none⟩ = some (.int .i64 0) := cl gb228 0 (by rfl)
       have hns23_0 := (ne gb227 gb228)
       have hns23_2 := (ne gb229 gb228)
       have hns23_3 := (ne gb230 gb228)
       have hms23_0 := (ne gb228 gb227)
       have hms23_2 := (ne gb228 gb229)
       have hms23_3 := (ne gb228 gb230)
       have hs24 : w22.cell? ⟨gb228, 1, none⟩ = some (.int .i64 0) := cl gb228 1 (by rfl)
       have hns24_0 := (ne gb227 gb228)
       have hns24_2 := (ne gb229 gb228)
       have hns24_3 := (ne gb230 gb228)
       have hms24_0 := (ne gb228 gb227)
       have hms24_2 := (ne gb228 gb229)
       have hms24_3 := (ne gb228 gb230)
       refine skip_ (w1 := ?_) (by rfl) rfl ?_ ?_
       rotate_left
       ·go_simp
        rfl
       refine hK.out _ _ ⟨((cell_far (p := ⟨gb228, _, none⟩) (ne gb227 gb228) _).trans (((cell_far (p := ⟨gb228, _, none⟩) (ne gb227 gb228) _).trans (hHeld.1)))), ((cell_far (p := ⟨gb228, _, none⟩) (ne gb227 gb228) _).trans (((cell_far (p := ⟨gb228, _, none⟩) (ne gb227 gb228) _).trans (hHeld.2.1)))), ((cell_far (p := ⟨gb228, _, none⟩) (ne gb227 gb228) _).trans (((cell_far (p := ⟨gb228, _, none⟩) (ne gb227 gb228) _).trans (hHeld.2.2))))⟩ (fun hHeld => ?_)
       clear hK K
       refine one_ (i := 27) (N := none) #[true, true, true, true, true, true, true, true, true, true, true, true, true, true, true, true, true, true, true, true, true, true, true, true, true, true, true, true, false] rfl rfl (one_of HT_.out (by kernel_rfl)) (by decide) (fun K hK => ?_)
       have hs25 : w22.cell? ⟨gb229, 0, none⟩ = some (.int .i64 0) := cl gb229 0 (by rfl)
       have hns25_0 := (ne gb227 gb229)
       have hns25_1 := (ne gb228 gb229)
       have hns25_3 := (ne gb230 gb229)
       have hms25_0 := (ne gb229 gb227)
       have hms25_1 := (ne gb229 gb228)
       have hms25_3 := (ne gb229 gb230)
       have hs26 : w22.cell? ⟨gb229, 1, none⟩ = some (.int .i64 0) := cl gb229 1 (by rfl)
       have hns26_0 := (ne gb227 gb229)
       have hns26_1 := (ne gb228 gb229)
       have hns26_3 := (ne gb230 gb229)
       have hms26_0 := (ne gb229 gb227)
       have hms26_1 := (ne gb229 gb228)
       have hms26_3 := (ne gb229 gb230)
       refine skip_ (w1 := ?_) (by rfl) rfl ?_ ?_
       rotate_left
       ·go_simp
        rfl
       refine hK.out _ _ ⟨((cell_far (p := ⟨gb229, _, none⟩) (ne gb227 gb229) _).trans (((cell_far (p := ⟨gb229, _, none⟩) (ne gb227 gb229) _).trans (hHeld.1)))), ((cell_far (p := ⟨gb229, _, none⟩) (ne gb227 gb229) _).trans (((cell_far (p := ⟨gb229, _, none⟩) (ne gb227 gb229) _).trans (hHeld.2.1)))), ((cell_far (p := ⟨gb229, _, none⟩) (ne gb227 gb229) _).trans (((cell_far (p := ⟨gb229, _, none⟩) (ne gb227 gb229) _).trans (hHeld.2.2))))⟩ (fun hHeld => ?_)
       clear hK K
       refine one_ (i := 28) (N := none) #[true, true, true, true, true, true, true, true, true, true, true, true, true, true, true, true, true, true, true, true, true, true, true, true, true, true, true, true, true] rfl rfl (one_of HT_.out (by kernel_rfl)) (by decide) (fun K hK => ?_)
       have hs27 : w22.cell? ⟨gb230, 0, none⟩ = some (.int .i64 0) := cl gb230 0 (by rfl)
       have hns27_0 := (ne gb227 gb230)
       have hns27_1 := (ne gb228 gb230)
       have hns27_2 := (ne gb229 gb230)
       have hms27_0 := (ne gb230 gb227)
       have hms27_1 := (ne gb230 gb228)
       have hms27_2 := (ne gb230 gb229)
       have hs28 : w22.cell? ⟨gb230, 1, none⟩ = some (.int .i64 0) := cl gb230 1 (by rfl)
       have hns28_0 := (ne gb227 gb230)
       have hns28_1 := (ne gb228 gb230)
       have hns28_2 := (ne gb229 gb230)
       have hms28_0 := (ne gb230 gb227)
       have hms28_1 := (ne gb230 gb228)
       have hms28_2 := (ne gb230 gb229)
       refine skip_ (w1 := ?_) (by rfl) rfl ?_ ?_
       rotate_left
       ·go_simp
        rfl
       refine hK.out _ _ ⟨((cell_far (p := ⟨gb230, _, none⟩) (ne gb227 gb230) _).trans (((cell_far (p := ⟨gb230, _, none⟩) (ne gb227 gb230) _).trans (hHeld.1)))), ((cell_far (p := ⟨gb230, _, none⟩) (ne gb227 gb230) _).trans (((cell_far (p := ⟨gb230, _, none⟩) (ne gb227 gb230) _).trans (hHeld.2.1)))), ((cell_far (p := ⟨gb230, _, none⟩) (ne gb227 gb230) _).trans (((cell_far (p := ⟨gb230, _, none⟩) (ne gb227 gb230) _).trans (hHeld.2.2))))⟩ (fun hHeld => ?_)
       clear hK K
       refine done_ (done_of HT_.out (by kernel_rfl)) ?_
       go_upto_if 57 with (fail)
       go_cut [] (fun wc => ∃ (kq : Nat) (x229000_13 : Int) (x229001_13 : Int) (x231000_13 : Int) (x231001_13 : Int), As (i_TreeOfTiling.j1 kq a0 a1 l2 x8_1 t223 (t223.length : Int) x29_1 ((rd_T50 t223 x29_1).f0) ((rd_T50 t223 x29_1).f1) ((rd_T50 t223 x29_1).f2) x229000_13 x229001_13 (wrap64 (2 * ((rd_T50 t223 x29_1).f0))) (wrap64 (2 * ((rd_T50 t223 x29_1).f1))) x231000_13 x231001_13 = some (r1, r2)) ∧ As (kq ≤ k1) ∧ As (Kd.R k50 50 wc w.heap.size (fun k_ => some k_ ≠ ((.slice (some ad226) t223.length co10) : Value).ownBlock ∧ k_ ≠ gb227) u8 x8_1) ∧ As (Kd.R k50 50 wc w.heap.size (fun k_ => some k_ ≠ (u8 : Value).ownBlock ∧ k_ ≠ gb227) (.slice (some ad226) t223.length co10) t223) ∧ Bk wc gb227 (.cells #[.int .i64 ((rd_T50 t223 x29_1).f0), .int .i64 ((rd_T50 t223 x29_1).f1), .bool ((rd_T50 t223 x29_1).f2)] 50 (0, 0)) ∧ Bk wc gb228 (.cells #[.int .i64 x229000_13, .int .i64 x229001_13] 39 (0, 0)) ∧ Bk wc gb229 (.cells #[.int .i64 (wrap64 (2 * ((rd_T50 t223 x29_1).f0))), .int .i64 (wrap64 (2 * ((rd_T50 t223 x29_1).f1)))] 39 (0, 0)) ∧ Bk wc gb230 (.cells #[.int .i64 x231000_13, .int .i64 x231001_13] 39 (0, 0)) ∧ Up w wc)
       case first =>
        have H := HC14.out
        clear HC14
        obtain ⟨bq33, hbq33⟩ : ∃ b_ : Bool, b_ = ((rd_T50 t223 x29_1).f2) := ⟨_, rfl⟩
        replace H : (if bq33 = true then (i_TreeOfTiling.j1 k1 a0 a1 l2 x8_1 t223 (t223.length : Int) x29_1 ((rd_T50 t223 x29_1).f0) ((rd_T50 t223 x29_1).f1) bq33 (wrap64 (2 * ((rd_T50 t223 x29_1).f0))) (wrap64 ((wrap64 (2 * ((rd_T50 t223 x29_1).f1))) + 1)) (wrap64 (2 * ((rd_T50 t223 x29_1).f0))) (wrap64 (2 * ((rd_T50 t223 x29_1).f1))) (wrap64 (2 * ((rd_T50 t223 x29_1).f0))) (wrap64 ((wrap64 (2 * ((rd_T50 t223 x29_1).f1))) + 2))) else (i_TreeOfTiling.j1 k1 a0 a1 l2 x8_1 t223 (t223.length : Int) x29_1 ((rd_T50 t223 x29_1).f0) ((rd_T50 t223 x29_1).f1) bq33 (wrap64 ((wrap64 (2 * ((rd_T50 t223 x29_1).f0))) + 1)) (wrap64 (2 * ((rd_T50 t223 x29_1).f1))) (wrap64 (2 * ((rd_T50 t223 x29_1).f0))) (wrap64 (2 * ((rd_T50 t223 x29_1).f1))) (wrap64 ((wrap64 (2 * ((rd_T50 t223 x29_1).f0))) + 2)) (wrap64 (2 * ((rd_T50 t223 x29_1).f1))))) = some (r1, r2) := by rw [← hbq33] at H; exact H
        have Nbq33 := As.mk hbq33
        clear hbq33
        (try rw [← Nbq33.out])
        replace H := bT H; rcases H with ⟨rfl, H⟩ | ⟨rfl, H⟩
        ·have H' := As.mk H
         clear H
         try go_wp2
         have n0_ : As (Kd.R k50 50 ((((((w22.setCell ⟨gb228, 0, none⟩ (.int .i64 (wrap64 ((wrap64 (2 * ((rd_T50 t223 x29_1).f0))) + 1)))).setCell ⟨gb228, 1, none⟩ (.int .i64 (wrap64 (2 * ((rd_T50 t223 x29_1).f1))))).setCell ⟨gb229, 0, none⟩ (.int .i64 (wrap64 (2 * ((rd_T50 t223 x29_1).f0))))).setCell ⟨gb229, 1, none⟩ (.int .i64 (wrap64 (2 * ((rd_T50 t223 x29_1).f1))))).setCell ⟨gb230, 0, none⟩ (.int .i64 (wrap64 ((wrap64 (2 * ((rd_T50 t223 x29_1).f0))) + 2)))).setCell ⟨gb230, 1, none⟩ (.int .i64 (wrap64 (2 * ((rd_T50 t223 x29_1).f1))))) w.heap.size (fun k_ => some k_ ≠ (.slice (some ad226) t223.length co10 : Value).ownBlock ∧ k_ ≠ gb227) u8 x8_1) := ⟨by (with_reducible repeat (first | apply Kd.R_alloc | apply Kd.R_drewN | apply Kd.R_drew)); exact Kd.R_mono (Kd.R_far (p := ⟨gb230, 1, none⟩) (Kd.R_far (p := ⟨gb230, 0, none⟩) (Kd.R_far (p := ⟨gb229, 1, none⟩) (Kd.R_far (p := ⟨gb229, 0, none⟩) (Kd.R_far (p := ⟨gb228, 1, none⟩) (Kd.R_far (p := ⟨gb228, 0, none⟩) (Kd.R_types (Kd.R_types (Kd.R_types HO_8.out (bk gb228) (by decide)) (bk gb229) (by decide)) (bk gb230) (by decide)) (fun _ hk => hk.1.1.2) (.int .i64 (wrap64 ((wrap64 (2 * ((rd_T50 t223 x29_1).f0))) + 1)))) (fun _ hk => hk.1.1.2) (.int .i64 (wrap64 (2 * ((rd_T50 t223 x29_1).f1))))) (fun _ hk => hk.1.2) (.int .i64 (wrap64 (2 * ((rd_T50 t223 x29_1).f0))))) (fun _ hk => hk.1.2) (.int .i64 (wrap64 (2 * ((rd_T50 t223 x29_1).f1))))) (fun _ hk => hk.2) (.int .i64 (wrap64 ((wrap64 (2 * ((rd_T50 t223 x29_1).f0))) + 2)))) (fun _ hk => hk.2) (.int .i64 (wrap64 (2 * ((rd_T50 t223 x29_1).f1))))) (fun _ hk => ⟨hk.1.1.1.1, hk.1.1.1.2⟩)⟩
         have n1_ : As (Kd.R k50 50 ((((((w22.setCell ⟨gb228, 0, none⟩ (.int .i64 (wrap64 ((wrap64 (2 * ((rd_T50 t223 x29_1).f0))) + 1)))).setCell ⟨gb228, 1, none⟩ (.int .i64 (wrap64 (2 * ((rd_T50 t223 x29_1).f1))))).setCell ⟨gb229, 0, none⟩ (.int .i64 (wrap64 (2 * ((rd_T50 t223 x29_1).f0))))).setCell ⟨gb229, 1, none⟩ (.int .i64 (wrap64 (2 * ((rd_T50 t223 x29_1).f1))))).setCell ⟨gb230, 0, none⟩ (.int .i64 (wrap64 ((wrap64 (2 * ((rd_T50 t223 x29_1).f0))) + 2)))).setCell ⟨gb230, 1, none⟩ (.int .i64 (wrap64 (2 * ((rd_T50 t223 x29_1).f1))))) w.heap.size (fun k_ => some k_ ≠ (u8 : Value).ownBlock ∧ k_ ≠ gb227) (.slice (some ad226) t223.length co10) t223) := ⟨by (with_reducible repeat (first | apply Kd.R_alloc | apply Kd.R_drewN | apply Kd.R_drew)); exact Kd.R_mono (Kd.R_far (p := ⟨gb230, 1, none⟩) (Kd.R_far (p := ⟨gb230, 0, none⟩) (Kd.R_far (p := ⟨gb229, 1, none⟩) (Kd.R_far (p := ⟨gb229, 0, none⟩) (Kd.R_far (p := ⟨gb228, 1, none⟩) (Kd.R_far (p := ⟨gb228, 0, none⟩) (Kd.R_types (Kd.R_types (Kd.R_types HO_27.out (bk gb228) (by decide)) (bk gb229) (by decide)) (bk gb230) (by decide)) (fun _ hk => hk.1.1.2) (.int .i64 (wrap64 ((wrap64 (2 * ((rd_T50 t223 x29_1).f0))) + 1)))) (fun _ hk => hk.1.1.2) (.int .i64 (wrap64 (2 * ((rd_T50 t223 x29_1).f1))))) (fun _ hk => hk.1.2) (.int .i64 (wrap64 (2 * ((rd_T50 t223 x29_1).f0))))) (fun _ hk => hk.1.2) (.int .i64 (wrap64 (2 * ((rd_T50 t223 x29_1).f1))))) (fun _ hk => hk.2) (.int .i64 (wrap64 ((wrap64 (2 * ((rd_T50 t223 x29_1).f0))) + 2)))) (fun _ hk => hk.2) (.int .i64 (wrap64 (2 * ((rd_T50 t223 x29_1).f1))))) (fun _ hk => ⟨hk.1.1.1.1, hk.1.1.1.2⟩)⟩
         have n2_ : Bk ((((((w22.setCell ⟨gb228, 0, none⟩ (.int .i64 (wrap64 ((wrap64 (2 * ((rd_T50 t223 x29_1).f0))) + 1)))).setCell ⟨gb228, 1, none⟩ (.int .i64 (wrap64 (2 * ((rd_T50 t223 x29_1).f1))))).setCell ⟨gb229, 0, none⟩ (.int .i64 (wrap64 (2 * ((rd_T50 t223 x29_1).f0))))).setCell ⟨gb229, 1, none⟩ (.int .i64 (wrap64 (2 * ((rd_T50 t223 x29_1).f1))))).setCell ⟨gb230, 0, none⟩ (.int .i64 (wrap64 ((wrap64 (2 * ((rd_T50 t223 x29_1).f0))) + 2)))).setCell ⟨gb230, 1, none⟩ (.int .i64 (wrap64 (2 * ((rd_T50 t223 x29_1).f1))))) gb227 (.cells #[.int .i64 ((rd_T50 t223 x29_1).f0), .int .i64 ((rd_T50 t223 x29_1).f1), .bool true] 50 (0, 0)) := bM (by first | rfl | (rw [Nbq33.out]; rfl) | rw [Nbq33.out])
         have n3_ : Bk ((((((w22.setCell ⟨gb228, 0, none⟩ (.int .i64 (wrap64 ((wrap64 (2 * ((rd_T50 t223 x29_1).f0))) + 1)))).setCell ⟨gb228, 1, none⟩ (.int .i64 (wrap64 (2 * ((rd_T50 t223 x29_1).f1))))).setCell ⟨gb229, 0, none⟩ (.int .i64 (wrap64 (2 * ((rd_T50 t223 x29_1).f0))))).setCell ⟨gb229, 1, none⟩ (.int .i64 (wrap64 (2 * ((rd_T50 t223 x29_1).f1))))).setCell ⟨gb230, 0, none⟩ (.int .i64 (wrap64 ((wrap64 (2 * ((rd_T50 t223 x29_1).f0))) + 2)))).setCell ⟨gb230, 1, none⟩ (.int .i64 (wrap64 (2 * ((rd_T50 t223 x29_1).f1))))) gb228 (.cells #[.int .i64 (wrap64 ((wrap64 (2 * ((rd_T50 t223 x29_1).f0))) + 1)), .int .i64 (wrap64 (2 * ((rd_T50 t223 x29_1).f1)))] 39 (0, 0)) := bM (by first | rfl | (rw [Nbq33.out]; rfl) | rw [Nbq33.out])
         have n4_ : Bk ((((((w22.setCell ⟨gb228, 0, none⟩ (.int .i64 (wrap64 ((wrap64 (2 * ((rd_T50 t223 x29_1).f0))) + 1)))).setCell ⟨gb228, 1, none⟩ (.int .i64 (wrap64 (2 * ((rd_T50 t223 x29_1).f1))))).setCell ⟨gb229, 0, none⟩ (.int .i64 (wrap64 (2 * ((rd_T50 t223 x29_1).f0))))).setCell ⟨gb229, 1, none⟩ (.int .i64 (wrap64 (2 * ((rd_T50 t223 x29_1).f1))))).setCell ⟨gb230, 0, none⟩ (.int .i64 (wrap64 ((wrap64 (2 * ((rd_T50 t223 x29_1).f0))) + 2)))).setCell ⟨gb230, 1, none⟩ (.int .i64 (wrap64 (2 * ((rd_T50 t223 x29_1).f1))))) gb229 (.cells #[.int .i64 (wrap64 (2 * ((rd_T50 t223 x29_1).f0))), .int .i64 (wrap64 (2 * ((rd_T50 t223 x29_1).f1)))] 39 (0, 0)) := bM (by first | rfl | (rw [Nbq33.out]; rfl) | rw [Nbq33.out])
         have n5_ : Bk ((((((w22.setCell ⟨gb228, 0, none⟩ (.int .i64 (wrap64 ((wrap64 (2 * ((rd_T50 t223 x29_1).f0))) + 1)))).setCell ⟨gb228, 1, none⟩ (.int .i64 (wrap64 (2 * ((rd_T50 t223 x29_1).f1))))).setCell ⟨gb229, 0, none⟩ (.int .i64 (wrap64 (2 * ((rd_T50 t223 x29_1).f0))))).setCell ⟨gb229, 1, none⟩ (.int .i64 (wrap64 (2 * ((rd_T50 t223 x29_1).f1))))).setCell ⟨gb230, 0, none⟩ (.int .i64 (wrap64 ((wrap64 (2 * ((rd_T50 t223 x29_1).f0))) + 2)))).setCell ⟨gb230, 1, none⟩ (.int .i64 (wrap64 (2 * ((rd_T50 t223 x29_1).f1))))) gb230 (.cells #[.int .i64 (wrap64 ((wrap64 (2 * ((rd_T50 t223 x29_1).f0))) + 2)), .int .i64 (wrap64 (2 * ((rd_T50 t223 x29_1).f1)))] 39 (0, 0)) := bM (by first | rfl | (rw [Nbq33.out]; rfl) | rw [Nbq33.out])
         have n6_ : Up w ((((((w22.setCell ⟨gb228, 0, none⟩ (.int .i64 (wrap64 ((wrap64 (2 * ((rd_T50 t223 x29_1).f0))) + 1)))).setCell ⟨gb228, 1, none⟩ (.int .i64 (wrap64 (2 * ((rd_T50 t223 x29_1).f1))))).setCell ⟨gb229, 0, none⟩ (.int .i64 (wrap64 (2 * ((rd_T50 t223 x29_1).f0))))).setCell ⟨gb229, 1, none⟩ (.int .i64 (wrap64 (2 * ((rd_T50 t223 x29_1).f1))))).setCell ⟨gb230, 0, none⟩ (.int .i64 (wrap64 ((wrap64 (2 * ((rd_T50 t223 x29_1).f0))) + 2)))).setCell ⟨gb230, 1, none⟩ (.int .i64 (wrap64 (2 * ((rd_T50 t223 x29_1).f1))))) := ⟨uw w⟩
         (try clear HO_8)
         (try clear HO_27)
         generalize ((((((w22.setCell ⟨gb228, 0, none⟩ (.int .i64 (wrap64 ((wrap64 (2 * ((rd_T50 t223 x29_1).f0))) + 1)))).setCell ⟨gb228, 1, none⟩ (.int .i64 (wrap64 (2 * ((rd_T50 t223 x29_1).f1))))).setCell ⟨gb229, 0, none⟩ (.int .i64 (wrap64 (2 * ((rd_T50 t223 x29_1).f0))))).setCell ⟨gb229, 1, none⟩ (.int .i64 (wrap64 (2 * ((rd_T50 t223 x29_1).f1))))).setCell ⟨gb230, 0, none⟩ (.int .i64 (wrap64 ((wrap64 (2 * ((rd_T50 t223 x29_1).f0))) + 2)))).setCell ⟨gb230, 1, none⟩ (.int .i64 (wrap64 (2 * ((rd_T50 t223 x29_1).f1))))) = w35 at n0_ n1_ n2_ n3_ n4_ n5_ n6_ ⊢
         have HO_8 := n0_
         have HO_27 := n1_
         have BK227 := n2_
         have BK228 := n3_
         have BK229 := n4_
         have BK230 := n5_
         have HB := n6_
         clear n0_ n1_ n2_ n3_ n4_ n5_ n6_
         replace HO_8 := As.mk (Kd.R_drew HO_8.out)
         replace HO_27 := As.mk (Kd.R_drew HO_27.out)
         refine sV [(0,58),(3,61),(8,66),(11,69),(1,59),(2,60),(4,62),(5,63),(6,64),(7,65),(9,67),(10,68),(12,70),(13,71),(14,72),(15,73),(16,0),(17,0)] (fun w' => w'.cell? ⟨gb227, 0, none⟩ = some (.int .i64 ((rd_T50 t223 x29_1).f0)) ∧ w'.cell? ⟨gb227, 1, none⟩ = some (.int .i64 ((rd_T50 t223 x29_1).f1)) ∧ w'.cell? ⟨gb227, 2, none⟩ = some (.bool true)) [] (by kernel_rfl) rfl ⟨cl gb227 0 (by rfl), cl gb227 1 (by rfl), cl gb227 2 (by first | rfl | (rw [Nbq33.out]; rfl))⟩ (fun hHeld => ?_); refine wTW i_TreeOfTiling.tab9 i_TreeOfTiling.bits9 (fun HT_ HW_ => ?_)
         have hd_ := stD w35
         generalize w35.drew = w36 at hd_ HO_8 HO_27 hHeld ⊢
         iterate 4 refine pV rfl rfl (any_of HT_.out (by kernel_rfl)) (by rfl) (fun _ _ _ _ h => h) ⟨_, fun w' => by go_simp; with_reducible rfl, _, by simp only [Act.put, sA, sB, sC, i64_w, i32_w]; rfl, ?_⟩
         refine tV rfl rfl (take_ofW HT_.out HW_.out (by kernel_rfl)) (by rfl) (fun _ _ _ _ h => h) hHeld ⟨_, fun w' s => by go_simp; with_reducible rfl, _, by simp only [Act.put, sA, sB, sC, i64_w, i32_w]; rfl, ?_⟩
         refine pV rfl rfl (any_of HT_.out (by kernel_rfl)) (by rfl) (fun _ _ _ _ h => h) ⟨_, fun w' => by go_simp; with_reducible rfl, _, by simp only [Act.put, sA, sB, sC, i64_w, i32_w]; rfl, ?_⟩
         refine tV rfl rfl (take_ofW HT_.out HW_.out (by kernel_rfl)) (by rfl) (fun _ _ _ _ h => h) hHeld ⟨_, fun w' s => by go_simp; with_reducible rfl, _, by simp only [Act.put, sA, sB, sC, i64_w, i32_w]; rfl, ?_⟩
         iterate 3 refine pV rfl rfl (any_of HT_.out (by kernel_rfl)) (by rfl) (fun _ _ _ _ h => h) ⟨_, fun w' => by go_simp; with_reducible rfl, _, by simp only [Act.put, sA, sB, sC, i64_w, i32_w]; rfl, ?_⟩
         refine tV rfl rfl (take_ofW HT_.out HW_.out (by kernel_rfl)) (by rfl) (fun _ _ _ _ h => h) hHeld ⟨_, fun w' s => by go_simp; with_reducible rfl, _, by simp only [Act.put, sA, sB, sC, i64_w, i32_w]; rfl, ?_⟩
         refine pV rfl rfl (any_of HT_.out (by kernel_rfl)) (by rfl) (fun _ _ _ _ h => h) ⟨_, fun w' => by go_simp; with_reducible rfl, _, by simp only [Act.put, sA, sB, sC, i64_w, i32_w]; rfl, ?_⟩
         refine tV rfl rfl (take_ofW HT_.out HW_.out (by kernel_rfl)) (by rfl) (fun _ _ _ _ h => h) hHeld ⟨_, fun w' s => by go_simp; with_reducible rfl, _, by simp only [Act.put, sA, sB, sC, i64_w, i32_w]; rfl, ?_⟩
         iterate 3 refine pV rfl rfl (any_of HT_.out (by kernel_rfl)) (by rfl) (fun _ _ _ _ h => h) ⟨_, fun w' => by go_simp; with_reducible rfl, _, by simp only [Act.put, sA, sB, sC, i64_w, i32_w]; rfl, ?_⟩
         refine oV (N := none) rfl rfl (one_of HT_.out (by kernel_rfl)) (by decide) (fun K hK => ?_)
         have hs37 : w36.cell? ⟨gb228, 0, none⟩ = some (.int .i64 (wrap64 ((wrap64 (2 * ((rd_T50 t223 x29_1).f0))) + 1))) := cl gb228 0 (by rfl)
         have hns37_0 := (ne gb227 gb228)
         have hns37_2 := (ne gb229 gb228)
         have hns37_3 := (ne gb230 gb228)
         have hms37_0 := (ne gb228 gb227)
         have hms37_2 := (ne gb228 gb229)
         have hms37_3 := (ne gb228 gb230)
         have hs38 : w36.cell? ⟨gb228, 1, none⟩ = some (.int .i64 (wrap64 (2 * ((rd_T50 t223 x29_1).f1)))) := cl gb228 1 (by rfl)
         have hns38_0 := (ne gb227 gb228)
         have hns38_2 := (ne gb229 gb228)
         have hns38_3 := (ne gb230 gb228)
         have hms38_0 := (ne gb228 gb227)
         have hms38_2 := (ne gb228 gb229)
         have hms38_3 := (ne gb228 gb230)
         refine skip_ (w1 := ?_) (by rfl) rfl ?_ ?_
         rotate_left
         ·go_simp
          rfl
         refine hK.out _ _ ⟨((cell_far (p := ⟨gb228, _, none⟩) (ne gb227 gb228) _).trans (((cell_far (p := ⟨gb228, _, none⟩) (ne gb227 gb228) _).trans (hHeld.1)))), ((cell_far (p := ⟨gb228, _, none⟩) (ne gb227 gb228) _).trans (((cell_far (p := ⟨gb228, _, none⟩) (ne gb227 gb228) _).trans (hHeld.2.1)))), ((cell_far (p := ⟨gb228, _, none⟩) (ne gb227 gb228) _).trans (((cell_far (p := ⟨gb228, _, none⟩) (ne gb227 gb228) _).trans (hHeld.2.2))))⟩ (fun hHeld => ?_)
         clear hK K
         refine oV (N := none) rfl rfl (one_of HT_.out (by kernel_rfl)) (by decide) (fun K hK => ?_)
         have hs39 : w36.cell? ⟨gb230, 0, none⟩ = some (.int .i64 (wrap64 ((wrap64 (2 * ((rd_T50 t223 x29_1).f0))) + 2))) := cl gb230 0 (by rfl)
         have hns39_0 := (ne gb227 gb230)
         have hns39_1 := (ne gb228 gb230)
         have hns39_2 := (ne gb229 gb230)
         have hms39_0 := (ne gb230 gb227)
         have hms39_1 := (ne gb230 gb228)
         have hms39_2 := (ne gb230 gb229)
         have hs40 : w36.cell? ⟨gb230, 1, none⟩ = some (.int .i64 (wrap64 (2 * ((rd_T50 t223 x29_1).f1)))) := cl gb230 1 (by rfl)
         have hns40_0 := (ne gb227 gb230)
         have hns40_1 := (ne gb228 gb230)
         have hns40_2 := (ne gb229 gb230)
         have hms40_0 := (ne gb230 gb227)
         have hms40_1 := (ne gb230 gb228)
         have hms40_2 := (ne gb230 gb229)
         refine skip_ (w1 := ?_) (by rfl) rfl ?_ ?_
         rotate_left
         ·go_simp
          rfl
         refine hK.out _ _ ⟨((cell_far (p := ⟨gb230, _, none⟩) (ne gb227 gb230) _).trans (((cell_far (p := ⟨gb230, _, none⟩) (ne gb227 gb230) _).trans (hHeld.1)))), ((cell_far (p := ⟨gb230, _, none⟩) (ne gb227 gb230) _).trans (((cell_far (p := ⟨gb230, _, none⟩) (ne gb227 gb230) _).trans (hHeld.2.1)))), ((cell_far (p := ⟨gb230, _, none⟩) (ne gb227 gb230) _).trans (((cell_far (p := ⟨gb230, _, none⟩) (ne gb227 gb230) _).trans (hHeld.2.2))))⟩ (fun hHeld => ?_)
         clear hK K
         refine dV (done_of HT_.out (by kernel_rfl)) ?_
         try go_wp2
         go_meet
         case rel => exact ⟨_, (wrap64 (2 * ((rd_T50 t223 x29_1).f0))), (wrap64 ((wrap64 (2 * ((rd_T50 t223 x29_1).f1))) + 1)), (wrap64 (2 * ((rd_T50 t223 x29_1).f0))), (wrap64 ((wrap64 (2 * ((rd_T50 t223 x29_1).f1))) + 2)), (by have h_ := H'; rw [Nbq33.out] at h_; exact h_), ⟨by have := HK1.out; first | omega | exact Nat.le_refl _⟩, ⟨by (with_reducible repeat (first | apply Kd.R_alloc | apply Kd.R_drewN | apply Kd.R_drew)); exact Kd.R_mono (Kd.R_far (p := ⟨gb230, 1, none⟩) (Kd.R_far (p := ⟨gb230, 0, none⟩) (Kd.R_far (p := ⟨gb228, 1, none⟩) (Kd.R_far (p := ⟨gb228, 0, none⟩) (Kd.R_types (Kd.R_types HO_8.out (bk gb228) (by decide)) (bk gb230) (by decide)) (fun _ hk => hk.1.2) (.int .i64 (wrap64 (2 * ((rd_T50 t223 x29_1).f0))))) (fun _ hk => hk.1.2) (.int .i64 (wrap64 ((wrap64 (2 * ((rd_T50 t223 x29_1).f1))) + 1)))) (fun _ hk => hk.2) (.int .i64 (wrap64 (2 * ((rd_T50 t223 x29_1).f0))))) (fun _ hk => hk.2) (.int .i64 (wrap64 ((wrap64 (2 * ((rd_T50 t223 x29_1).f1))) + 2)))) (fun _ hk => ⟨hk.1.1.1, hk.1.1.2⟩)⟩, ⟨by (with_reducible repeat (first | apply Kd.R_alloc | apply Kd.R_drewN | apply Kd.R_drew)); exact Kd.R_mono (Kd.R_far (p := ⟨gb230, 1, none⟩) (Kd.R_far (p := ⟨gb230, 0, none⟩) (Kd.R_far (p := ⟨gb228, 1, none⟩) (Kd.R_far (p := ⟨gb228, 0, none⟩) (Kd.R_types (Kd.R_types HO_27.out (bk gb228) (by decide)) (bk gb230) (by decide)) (fun _ hk => hk.1.2) (.int .i64 (wrap64 (2 * ((rd_T50 t223 x29_1).f0))))) (fun _ hk => hk.1.2) (.int .i64 (wrap64 ((wrap64 (2 * ((rd_T50 t223 x29_1).f1))) + 1)))) (fun _ hk => hk.2) (.int .i64 (wrap64 (2 * ((rd_T50 t223 x29_1).f0))))) (fun _ hk => hk.2) (.int .i64 (wrap64 ((wrap64 (2 * ((rd_T50 t223 x29_1).f1))) + 2)))) (fun _ hk => ⟨hk.1.1.1, hk.1.1.2⟩)⟩, bM (by first | rfl | (rw [Nbq33.out]; rfl) | rw [Nbq33.out]), bM (by first | rfl | (rw [Nbq33.out]; rfl) | rw [Nbq33.out]), bM (by first | rfl | (rw [Nbq33.out]; rfl) | rw [Nbq33.out]), bM (by first | rfl | (rw [Nbq33.out]; rfl) | rw [Nbq33.out]), ⟨uw w⟩⟩
        ·have H' := As.mk H
         clear H
         go_wp2
         go_meet
         case rel => exact ⟨_, (wrap64 ((wrap64 (2 * ((rd_T50 t223 x29_1).f0))) + 1)), (wrap64 (2 * ((rd_T50 t223 x29_1).f1))), (wrap64 ((wrap64 (2 * ((rd_T50 t223 x29_1).f0))) + 2)), (wrap64 (2 * ((rd_T50 t223 x29_1).f1))), (by have h_ := H'; rw [Nbq33.out] at h_; exact h_), ⟨by have := HK1.out; first | omega | exact Nat.le_refl _⟩, ⟨by (with_reducible repeat (first | apply Kd.R_alloc | apply Kd.R_drewN | apply Kd.R_drew)); exact Kd.R_mono (Kd.R_far (p := ⟨gb230, 1, none⟩) (Kd.R_far (p := ⟨gb230, 0, none⟩) (Kd.R_far (p := ⟨gb229, 1, none⟩) (Kd.R_far (p := ⟨gb229, 0, none⟩) (Kd.R_far (p := ⟨gb228, 1, none⟩) (Kd.R_far (p := ⟨gb228, 0, none⟩) (Kd.R_types (Kd.R_types (Kd.R_types HO_8.out (bk gb228) (by decide)) (bk gb229) (by decide)) (bk gb230) (by decide)) (fun _ hk => hk.1.1.2) (.int .i64 (wrap64 ((wrap64 (2 * ((rd_T50 t223 x29_1).f0))) + 1)))) (fun _ hk => hk.1.1.2) (.int .i64 (wrap64 (2 * ((rd_T50 t223 x29_1).f1))))) (fun _ hk => hk.1.2) (.int .i64 (wrap64 (2 * ((rd_T50 t223 x29_1).f0))))) (fun _ hk => hk.1.2) (.int .i64 (wrap64 (2 * ((rd_T50 t223 x29_1).f1))))) (fun _ hk => hk.2) (.int .i64 (wrap64 ((wrap64 (2 * ((rd_T50 t223 x29_1).f0))) + 2)))) (fun _ hk => hk.2) (.int .i64 (wrap64 (2 * ((rd_T50 t223 x29_1).f1))))) (fun _ hk => ⟨hk.1.1.1.1, hk.1.1.1.2⟩)⟩, ⟨by (with_reducible repeat (first | apply Kd.R_alloc | apply Kd.R_drewN | apply Kd.R_drew)); exact Kd.R_mono (Kd.R_far (p := ⟨gb230, 1, none⟩) (Kd.R_far (p := ⟨gb230, 0, none⟩) (Kd.R_far (p := ⟨gb229, 1, none⟩) (Kd.R_far (p := ⟨gb229, 0, none⟩) (Kd.R_far (p := ⟨gb228, 1, none⟩) (Kd.R_far (p := ⟨gb228, 0, none⟩) (Kd.R_types (Kd.R_types (Kd.R_types HO_27.out (bk gb228) (by decide)) (bk gb229) (by decide)) (bk gb230) (by decide)) (fun _ hk => hk.1.1.2) (.int .i64 (wrap64 ((wrap64 (2 * ((rd_T50 t223 x29_1).f0))) + 1)))) (fun _ hk => hk.1.1.2) (.int .i64 (wrap64 (2 * ((rd_T50 t223 x29_1).f1))))) (fun _ hk => hk.1.2) (.int .i64 (wrap64 (2 * ((rd_T50 t223 x29_1).f0))))) (fun _ hk => hk.1.2) (.int .i64 (wrap64 (2 * ((rd_T50 t223 x29_1).f1))))) (fun _ hk => hk.2) (.int .i64 (wrap64 ((wrap64 (2 * ((rd_T50 t223 x29_1).f0))) + 2)))) (fun _ hk => hk.2) (.int .i64 (wrap64 (2 * ((rd_T50 t223 x29_1).f1))))) (fun _ hk => ⟨hk.1.1.1.1, hk.1.1.1.2⟩)⟩, bM (by first | rfl | (rw [Nbq33.out]; rfl) | rw [Nbq33.out]), bM (by first | rfl | (rw [Nbq33.out]; rfl) | rw [Nbq33.out]), bM (by first | rfl | (rw [Nbq33.out]; rfl) | rw [Nbq33.out]), bM (by first | rfl | (rw [Nbq33.out]; rfl) | rw [Nbq33.out]), ⟨uw w⟩⟩
       case rest =>
        clear HC14
        obtain ⟨kq, x229000_13, x229001_13, x231000_13, x231001_13, HA, HJ13, HO_8, HO_27, BK227, BK228, BK229, BK230, HB⟩ := hcut
        cases kq with
        | zero => exact absurd HA.out (by simp [i_TreeOfTiling.j1])
        | succ kj13 =>
         have H := HA.out
         clear HA
         simp only [i_TreeOfTiling.j1] at H
         obtain ⟨⟨t231, t232, t233, t234⟩, A41, H⟩ := bI H
         dsimp only at H
         obtain ⟨⟨t236, t237, t238, t239⟩, A42, H⟩ := bI H
         dsimp only at H
         obtain ⟨t241, A43, H⟩ := bI H
         replace H := bT H; rcases H with ⟨rfl, H⟩ | ⟨rfl, H⟩
         ·by_cases c45 : x8_1.length < 5864062014805
          ·rw [if_pos c45] at H
           have LMc45 := As.mk c45
           clear c45
           obtain ⟨y242, hy242⟩ : ∃ y_ : List (S50), y_ = (x8_1 ++ [(⟨((rd_T50 t223 x29_1).f0), ((rd_T50 t223 x29_1).f1), ((rd_T50 t223 x29_1).f2)⟩ : S50)]) := ⟨_, rfl⟩
           replace H : (i_TreeOfTiling.l0 kj13 a0 a1 l2 y242 t223 (t223.length : Int) (wrap64 (x29_1 + 1))) = some (r1, r2) := by first | (rw [hy242]; with_reducible exact H) | (have H2_ := (Option.bind_some _ _).symm.trans H; rw [hy242]; with_reducible exact H2_) | (have H2_ := (Option.bind_some _ _).symm.trans H; with_reducible exact H2_) | with_reducible exact H | (rw [hy242]; exact H) | exact H
           have Ny242 := As.mk hy242
           clear hy242
           have H' := As.mk H
           clear H
           go_wp2_with (first | ((with_reducible refine gC 79 rfl ?_); refine gK (some 77) rfl rfl Try.func79 (by kernel_rfl) rfl #[.agg #[.int .i64 (wrap64 (2 * ((rd_T50 t223 x29_1).f0))), .int .i64 (wrap64 (2 * ((rd_T50 t223 x29_1).f1)))], .agg #[.int .i64 x229000_13, .int .i64 x229001_13]] rfl (by (try simp only [sD, sE, sF]); first | done | rfl) (i_DominoOver.calls (wrap64 (2 * ((rd_T50 t223 x29_1).f0))) (wrap64 (2 * ((rd_T50 t223 x29_1).f1))) x229000_13 x229001_13 t231 t232 t233 t234 _ A41.out) ?_; intro w53 sb; have hb := sb.out; replace HO_8 := hB HO_8 hb; replace HO_27 := hB HO_27 hb) | ((with_reducible refine gD 14 rfl ?_); refine bxE rfl #[.int .i64 0, .int .i64 0, .bool false] 41 ?_ ?_; (focus first | (go_simp; done) | (go_simp; rfl)); intro gb235 _ w54 sb _; have hb := sb.out; have hg := nw gb235; have hbox := bk gb235 (w := w54); replace HO_8 := hB HO_8 hb; replace HO_27 := hB HO_27 hb; clear hb hg hbox) | ((with_reducible refine gC 79 rfl ?_); refine gK (some 83) rfl rfl Try.func79 (by kernel_rfl) rfl #[.agg #[.int .i64 x229000_13, .int .i64 x229001_13], .agg #[.int .i64 x231000_13, .int .i64 x231001_13]] rfl (by (try simp only [sD, sE, sF]); first | done | rfl) (i_DominoOver.calls x229000_13 x229001_13 x231000_13 x231001_13 t236 t237 t238 t239 _ A42.out) ?_; intro w63 sb; have hb := sb.out; replace HO_8 := As.mk (Kd.R_below (by (with_reducible repeat (first | apply Kd.R_alloc | apply Kd.R_drewN | apply Kd.R_drew)); exact (Kd.R_mono (Kd.R_far (p := ⟨gb235, 2, none⟩) (Kd.R_far (p := ⟨gb235, 1, none⟩) (Kd.R_far (p := ⟨gb235, 0, none⟩) (Kd.R_types HO_8.out (bk gb235) (by decide)) (fun _ hk => hk.2) (.int .i64 t231)) (fun _ hk => hk.2) (.int .i64 t232)) (fun _ hk => hk.2) (.bool t233)) (fun _ h_ => h_.1))) hb); replace HO_27 := As.mk (Kd.R_below (by (with_reducible repeat (first | apply Kd.R_alloc | apply Kd.R_drewN | apply Kd.R_drew)); exact (Kd.R_mono (Kd.R_far (p := ⟨gb235, 2, none⟩) (Kd.R_far (p := ⟨gb235, 1, none⟩) (Kd.R_far (p := ⟨gb235, 0, none⟩) (Kd.R_types HO_27.out (bk gb235) (by decide)) (fun _ hk => hk.2) (.int .i64 t231)) (fun _ hk => hk.2) (.int .i64 t232)) (fun _ hk => hk.2) (.bool t233)) (fun _ h_ => h_.1))) hb)) | ((with_reducible refine gD 16 rfl ?_); refine bxE rfl #[.int .i64 0, .int .i64 0, .bool false] 41 ?_ ?_; (focus first | (go_simp; done) | (go_simp; rfl)); intro gb240 _ w64 sb _; have hb := sb.out; have hg := nw gb240; have hbox := bk gb240 (w := w64); replace HO_8 := hB HO_8 hb; replace HO_27 := hB HO_27 hb; clear hb hg hbox) | ((with_reducible refine gC 59 rfl ?_); refine gK (some 88) rfl rfl Try.func59 (by kernel_rfl) rfl #[.slice A2 l2.length c2, .agg #[.int .i64 t231, .int .i64 t232, .bool t233]] rfl (by (try simp only [sD, sE, sF]); first | done | rfl) (i_hasDomino.calls kj13 _ _ l2 t231 t232 t233 true _ ?side1 ?side2 A43.out) ?_; (case side1 => exact Kd.C_below HR2.out (uw w)); (case side2 => exact HC2.out); intro w72 sb; have hb := sb.out; replace HO_8 := As.mk (Kd.R_below (by (with_reducible repeat (first | apply Kd.R_alloc | apply Kd.R_drewN | apply Kd.R_drew)); exact (Kd.R_mono (Kd.R_far (p := ⟨gb240, 2, none⟩) (Kd.R_far (p := ⟨gb240, 1, none⟩) (Kd.R_far (p := ⟨gb240, 0, none⟩) (Kd.R_types HO_8.out (bk gb240) (by decide)) (fun _ hk => hk.2) (.int .i64 t236)) (fun _ hk => hk.2) (.int .i64 t237)) (fun _ hk => hk.2) (.bool t238)) (fun _ h_ => h_.1))) hb); replace HO_27 := As.mk (Kd.R_below (by (with_reducible repeat (first | apply Kd.R_alloc | apply Kd.R_drewN | apply Kd.R_drew)); exact (Kd.R_mono (Kd.R_far (p := ⟨gb240, 2, none⟩) (Kd.R_far (p := ⟨gb240, 1, none⟩) (Kd.R_far (p := ⟨gb240, 0, none⟩) (Kd.R_types HO_27.out (bk gb240) (by decide)) (fun _ hk => hk.2) (.int .i64 t236)) (fun _ hk => hk.2) (.int .i64 t237)) (fun _ hk => hk.2) (.bool t238)) (fun _ h_ => h_.1))) hb)) | ((with_reducible refine gate_builtin (b := .append) (xs := #[.tmp 94, .tmp 96]) rfl ?_); at_builtin; refine Kd.R_append k50 (w0 := w) w.heap.size rfl (.tmp 94) (.tmp 96) 44 50 (.agg #[(.int .i64 0), (.int .i64 0), (.bool false)]) 24 rfl Try.underlying44 info50 rfl (by decide) (by omega) u8 x8_1 (⟨((rd_T50 t223 x29_1).f0), ((rd_T50 t223 x29_1).f1), ((rd_T50 t223 x29_1).f2)⟩ : S50) [.int .i64 ((rd_T50 t223 x29_1).f0), .int .i64 ((rd_T50 t223 x29_1).f1), .bool ((rd_T50 t223 x29_1).f2)] (fun k_ => some k_ ≠ (.slice (some ad226) t223.length co10 : Value).ownBlock ∧ k_ ≠ gb227) (fun _ => False) rfl rfl ?aP (fun _ hk => hk.elim) ?aF ?aO ?aB ?aS ?aL ?_; (case aP => exact k50_mkM _ _ _ (⟨((rd_T50 t223 x29_1).f0), ((rd_T50 t223 x29_1).f1), ((rd_T50 t223 x29_1).f2)⟩ : S50)); (case aB => exact (uw w)); (case aF => exact (fun k_ hk => ⟨Kd.fresh' (Kd.R_lt (rX HO_27.out)) k_ hk, Kd.freshB (g := gb227) (o := .cells #[.int .i64 ((rd_T50 t223 x29_1).f0), .int .i64 ((rd_T50 t223 x29_1).f1), .bool ((rd_T50 t223 x29_1).f2)] 50 (0, 0)) (bkr gb227 (by rfl)) k_ hk⟩)); (case aO => exact (rX HO_8.out)); (case aS => exact (below_size (uw w))); (case aL => have := LMc45.out; omega); intro v243 w74 ho hb hg hat; rw [← Ny242.out] at ho; have n0_ := As.mk (Kd.R_after (ok := (fun k_ => k_ ≠ gb227)) (by (with_reducible repeat (first | apply Kd.R_alloc | apply Kd.R_drewN | apply Kd.R_drew)); exact Kd.R_mono HO_27.out (fun _ hk => ⟨hk.2, hk.1⟩)) hg hat); have n1_ := Bk.mk (blk_grown (g := gb227) (o := .cells #[.int .i64 ((rd_T50 t223 x29_1).f0), .int .i64 ((rd_T50 t223 x29_1).f1), .bool ((rd_T50 t223 x29_1).f2)] 50 (0, 0)) (bkr gb227 (by rfl)) hg (Kd.R_away HO_8.out (fun _ hk => hk.2))); have n2_ := Bk.mk (blk_grown (g := gb228) (o := .cells #[.int .i64 x229000_13, .int .i64 x229001_13] 39 (0, 0)) (bkr gb228 (by rfl)) hg (Kd.R_ne HO_8.out (bk gb228) (by decide))); have n3_ := Bk.mk (blk_grown (g := gb229) (o := .cells #[.int .i64 (wrap64 (2 * ((rd_T50 t223 x29_1).f0))), .int .i64 (wrap64 (2 * ((rd_T50 t223 x29_1).f1)))] 39 (0, 0)) (bkr gb229 (by rfl)) hg (Kd.R_ne HO_8.out (bk gb229) (by decide))); have n4_ := Bk.mk (blk_grown (g := gb230) (o := .cells #[.int .i64 x231000_13, .int .i64 x231001_13] 39 (0, 0)) (bkr gb230 (by rfl)) hg (Kd.R_ne HO_8.out (bk gb230) (by decide))); have n5_ := Bk.mk (blk_grown (g := gb235) (o := .cells #[.int .i64 t231, .int .i64 t232, .bool t233] 41 (0, 0)) (bkr gb235 (by rfl)) hg (Kd.R_ne HO_8.out (bk gb235) (by decide))); have n6_ := Bk.mk (blk_grown (g := gb240) (o := .cells #[.int .i64 t236, .int .i64 t237, .bool t238] 41 (0, 0)) (bkr gb240 (by rfl)) hg (Kd.R_ne HO_8.out (bk gb240) (by decide))); have n7_ := Up.mk (hb); have n8_ := As.mk (ho); clear HO_27; clear HO_8; have HO_27 := n0_; have BK227 := n1_; have BK228 := n2_; have BK229 := n3_; have BK230 := n4_; have BK235 := n5_; have BK240 := n6_; have HB := n7_; have HO244 := n8_; clear n0_ n1_ n2_ n3_ n4_ n5_ n6_ n7_ n8_; clear ho hb hg hat))
           go_roundg kj13
           case measure => have := HK1.out; have := HJ13.out; omega
           case rel => exact ⟨(y242), (wrap64 (x29_1 + 1)), (by first | rfl | (simp; done) | (simp [*]; done)), H', ⟨by have := HK1.out; have := HJ13.out; omega⟩, ⟨by (with_reducible repeat (first | apply Kd.R_alloc | apply Kd.R_drewN | apply Kd.R_drew)); exact Kd.R_mono HO244.out (fun _ hk => hk.1)⟩, ⟨by (with_reducible repeat (first | apply Kd.R_alloc | apply Kd.R_drewN | apply Kd.R_drew)); exact Kd.R_mono HO_27.out (fun _ hk => hk.2)⟩, ⟨uw w⟩⟩
          ·rw [if_neg c45] at H
           exact absurd H (by simp)
         ·obtain ⟨t245, A75, H⟩ := bI H
          replace H := bT H; rcases H with ⟨rfl, H⟩ | ⟨rfl, H⟩
          ·by_cases c77 : x8_1.length < 5864062014805
           ·rw [if_pos c77] at H
            have LMc77 := As.mk c77
            clear c77
            obtain ⟨y246, hy246⟩ : ∃ y_ : List (S50), y_ = (x8_1 ++ [(⟨((rd_T50 t223 x29_1).f0), ((rd_T50 t223 x29_1).f1), ((rd_T50 t223 x29_1).f2)⟩ : S50)]) := ⟨_, rfl⟩
            replace H : (i_TreeOfTiling.l0 kj13 a0 a1 l2 y246 t223 (t223.length : Int) (wrap64 (x29_1 + 1))) = some (r1, r2) := by first | (rw [hy246]; with_reducible exact H) | (have H2_ := (Option.bind_some _ _).symm.trans H; rw [hy246]; with_reducible exact H2_) | (have H2_ := (Option.bind_some _ _).symm.trans H; with_reducible exact H2_) | with_reducible exact H | (rw [hy246]; exact H) | exact H
            have Ny246 := As.mk hy246
            clear hy246
            have H' := As.mk H
            clear H
            go_wp2_with (first | ((with_reducible refine gC 79 rfl ?_); refine gK (some 77) rfl rfl Try.func79 (by kernel_rfl) rfl #[.agg #[.int .i64 (wrap64 (2 * ((rd_T50 t223 x29_1).f0))), .int .i64 (wrap64 (2 * ((rd_T50 t223 x29_1).f1)))], .agg #[.int .i64 x229000_13, .int .i64 x229001_13]] rfl (by (try simp only [sD, sE, sF]); first | done | rfl) (i_DominoOver.calls (wrap64 (2 * ((rd_T50 t223 x29_1).f0))) (wrap64 (2 * ((rd_T50 t223 x29_1).f1))) x229000_13 x229001_13 t231 t232 t233 t234 _ A41.out) ?_; intro w85 sb; have hb := sb.out; replace HO_8 := hB HO_8 hb; replace HO_27 := hB HO_27 hb) | ((with_reducible refine gD 14 rfl ?_); refine bxE rfl #[.int .i64 0, .int .i64 0, .bool false] 41 ?_ ?_; (focus first | (go_simp; done) | (go_simp; rfl)); intro gb235 _ w86 sb _; have hb := sb.out; have hg := nw gb235; have hbox := bk gb235 (w := w86); replace HO_8 := hB HO_8 hb; replace HO_27 := hB HO_27 hb; clear hb hg hbox) | ((with_reducible refine gC 79 rfl ?_); refine gK (some 83) rfl rfl Try.func79 (by kernel_rfl) rfl #[.agg #[.int .i64 x229000_13, .int .i64 x229001_13], .agg #[.int .i64 x231000_13, .int .i64 x231001_13]] rfl (by (try simp only [sD, sE, sF]); first | done | rfl) (i_DominoOver.calls x229000_13 x229001_13 x231000_13 x231001_13 t236 t237 t238 t239 _ A42.out) ?_; intro w95 sb; have hb := sb.out; replace HO_8 := As.mk (Kd.R_below (by (with_reducible repeat (first | apply Kd.R_alloc | apply Kd.R_drewN | apply Kd.R_drew)); exact (Kd.R_mono (Kd.R_far (p := ⟨gb235, 2, none⟩) (Kd.R_far (p := ⟨gb235, 1, none⟩) (Kd.R_far (p := ⟨gb235, 0, none⟩) (Kd.R_types HO_8.out (bk gb235) (by decide)) (fun _ hk => hk.2) (.int .i64 t231)) (fun _ hk => hk.2) (.int .i64 t232)) (fun _ hk => hk.2) (.bool t233)) (fun _ h_ => h_.1))) hb); replace HO_27 := As.mk (Kd.R_below (by (with_reducible repeat (first | apply Kd.R_alloc | apply Kd.R_drewN | apply Kd.R_drew)); exact (Kd.R_mono (Kd.R_far (p := ⟨gb235, 2, none⟩) (Kd.R_far (p := ⟨gb235, 1, none⟩) (Kd.R_far (p := ⟨gb235, 0, none⟩) (Kd.R_types HO_27.out (bk gb235) (by decide)) (fun _ hk => hk.2) (.int .i64 t231)) (fun _ hk => hk.2) (.int .i64 t232)) (fun _ hk => hk.2) (.bool t233)) (fun _ h_ => h_.1))) hb)) | ((with_reducible refine gD 16 rfl ?_); refine bxE rfl #[.int .i64 0, .int .i64 0, .bool false] 41 ?_ ?_; (focus first | (go_simp; done) | (go_simp; rfl)); intro gb240 _ w96 sb _; have hb := sb.out; have hg := nw gb240; have hbox := bk gb240 (w := w96); replace HO_8 := hB HO_8 hb; replace HO_27 := hB HO_27 hb; clear hb hg hbox) | ((with_reducible refine gC 59 rfl ?_); refine gK (some 88) rfl rfl Try.func59 (by kernel_rfl) rfl #[.slice A2 l2.length c2, .agg #[.int .i64 t231, .int .i64 t232, .bool t233]] rfl (by (try simp only [sD, sE, sF]); first | done | rfl) (i_hasDomino.calls kj13 _ _ l2 t231 t232 t233 false _ ?side1 ?side2 A43.out) ?_; (case side1 => exact Kd.C_below HR2.out (uw w)); (case side2 => exact HC2.out); intro w104 sb; have hb := sb.out; replace HO_8 := As.mk (Kd.R_below (by (with_reducible repeat (first | apply Kd.R_alloc | apply Kd.R_drewN | apply Kd.R_drew)); exact (Kd.R_mono (Kd.R_far (p := ⟨gb240, 2, none⟩) (Kd.R_far (p := ⟨gb240, 1, none⟩) (Kd.R_far (p := ⟨gb240, 0, none⟩) (Kd.R_types HO_8.out (bk gb240) (by decide)) (fun _ hk => hk.2) (.int .i64 t236)) (fun _ hk => hk.2) (.int .i64 t237)) (fun _ hk => hk.2) (.bool t238)) (fun _ h_ => h_.1))) hb); replace HO_27 := As.mk (Kd.R_below (by (with_reducible repeat (first | apply Kd.R_alloc | apply Kd.R_drewN | apply Kd.R_drew)); exact (Kd.R_mono (Kd.R_far (p := ⟨gb240, 2, none⟩) (Kd.R_far (p := ⟨gb240, 1, none⟩) (Kd.R_far (p := ⟨gb240, 0, none⟩) (Kd.R_types HO_27.out (bk gb240) (by decide)) (fun _ hk => hk.2) (.int .i64 t236)) (fun _ hk => hk.2) (.int .i64 t237)) (fun _ hk => hk.2) (.bool t238)) (fun _ h_ => h_.1))) hb)) | (go_at_call 59; (with_reducible refine (i_hasDomino.calls kj13 _ _ l2 t236 t237 t238 true _ ?side1 ?side2 A75.out).mono ?_); (case side1 => exact (Kd.C_below HR2.out (uw w))); (case side2 => exact HC2.out); rintro e w106 ⟨rfl, hb⟩; have := Stp.mk hb; replace HO_8 := hB HO_8 hb; replace HO_27 := hB HO_27 hb) | ((with_reducible refine gate_builtin (b := .append) (xs := #[.tmp 94, .tmp 96]) rfl ?_); at_builtin; refine Kd.R_append k50 (w0 := w) w.heap.size rfl (.tmp 94) (.tmp 96) 44 50 (.agg #[(.int .i64 0), (.int .i64 0), (.bool false)]) 24 rfl Try.underlying44 info50 rfl (by decide) (by omega) u8 x8_1 (⟨((rd_T50 t223 x29_1).f0), ((rd_T50 t223 x29_1).f1), ((rd_T50 t223 x29_1).f2)⟩ : S50) [.int .i64 ((rd_T50 t223 x29_1).f0), .int .i64 ((rd_T50 t223 x29_1).f1), .bool ((rd_T50 t223 x29_1).f2)] (fun k_ => some k_ ≠ (.slice (some ad226) t223.length co10 : Value).ownBlock ∧ k_ ≠ gb227) (fun _ => False) rfl rfl ?aP (fun _ hk => hk.elim) ?aF ?aO ?aB ?aS ?aL ?_; (case aP => exact k50_mkM _ _ _ (⟨((rd_T50 t223 x29_1).f0), ((rd_T50 t223 x29_1).f1), ((rd_T50 t223 x29_1).f2)⟩ : S50)); (case aB => exact (uw w)); (case aF => exact (fun k_ hk => ⟨Kd.fresh' (Kd.R_lt (rX HO_27.out)) k_ hk, Kd.freshB (g := gb227) (o := .cells #[.int .i64 ((rd_T50 t223 x29_1).f0), .int .i64 ((rd_T50 t223 x29_1).f1), .bool ((rd_T50 t223 x29_1).f2)] 50 (0, 0)) (bkr gb227 (by rfl)) k_ hk⟩)); (case aO => exact (rX HO_8.out)); (case aS => exact (below_size (uw w))); (case aL => have := LMc77.out; omega); intro v247 w108 ho hb hg hat; rw [← Ny246.out] at ho; have n0_ := As.mk (Kd.R_after (ok := (fun k_ => k_ ≠ gb227)) (by (with_reducible repeat (first | apply Kd.R_alloc | apply Kd.R_drewN | apply Kd.R_drew)); exact Kd.R_mono HO_27.out (fun _ hk => ⟨hk.2, hk.1⟩)) hg hat); have n1_ := Bk.mk (blk_grown (g := gb227) (o := .cells #[.int .i64 ((rd_T50 t223 x29_1).f0), .int .i64 ((rd_T50 t223 x29_1).f1), .bool ((rd_T50 t223 x29_1).f2)] 50 (0, 0)) (bkr gb227 (by rfl)) hg (Kd.R_away HO_8.out (fun _ hk => hk.2))); have n2_ := Bk.mk (blk_grown (g := gb228) (o := .cells #[.int .i64 x229000_13, .int .i64 x229001_13] 39 (0, 0)) (bkr gb228 (by rfl)) hg (Kd.R_ne HO_8.out (bk gb228) (by decide))); have n3_ := Bk.mk (blk_grown (g := gb229) (o := .cells #[.int .i64 (wrap64 (2 * ((rd_T50 t223 x29_1).f0))), .int .i64 (wrap64 (2 * ((rd_T50 t223 x29_1).f1)))] 39 (0, 0)) (bkr gb229 (by rfl)) hg (Kd.R_ne HO_8.out (bk gb229) (by decide))); have n4_ := Bk.mk (blk_grown (g := gb230) (o := .cells #[.int .i64 x231000_13, .int .i64 x231001_13] 39 (0, 0)) (bkr gb230 (by rfl)) hg (Kd.R_ne HO_8.out (bk gb230) (by decide))); have n5_ := Bk.mk (blk_grown (g := gb235) (o := .cells #[.int .i64 t231, .int .i64 t232, .bool t233] 41 (0, 0)) (bkr gb235 (by rfl)) hg (Kd.R_ne HO_8.out (bk gb235) (by decide))); have n6_ := Bk.mk (blk_grown (g := gb240) (o := .cells #[.int .i64 t236, .int .i64 t237, .bool t238] 41 (0, 0)) (bkr gb240 (by rfl)) hg (Kd.R_ne HO_8.out (bk gb240) (by decide))); have n7_ := Up.mk (hb); have n8_ := As.mk (ho); clear HO_27; clear HO_8; have HO_27 := n0_; have BK227 := n1_; have BK228 := n2_; have BK229 := n3_; have BK230 := n4_; have BK235 := n5_; have BK240 := n6_; have HB := n7_; have HO248 := n8_; clear n0_ n1_ n2_ n3_ n4_ n5_ n6_ n7_ n8_; clear ho hb hg hat))
            go_roundg kj13
            case measure => have := HK1.out; have := HJ13.out; omega
            case rel => exact ⟨(y246), (wrap64 (x29_1 + 1)), (by first | rfl | (simp; done) | (simp [*]; done)), H', ⟨by have := HK1.out; have := HJ13.out; omega⟩, ⟨by (with_reducible repeat (first | apply Kd.R_alloc | apply Kd.R_drewN | apply Kd.R_drew)); exact Kd.R_mono HO248.out (fun _ hk => hk.1)⟩, ⟨by (with_reducible repeat (first | apply Kd.R_alloc | apply Kd.R_drewN | apply Kd.R_drew)); exact Kd.R_mono HO_27.out (fun _ hk => hk.2)⟩, ⟨uw w⟩⟩
           ·rw [if_neg c77] at H
            exact absurd H (by simp)
          ·have H' := As.mk H
           clear H
           go_wp2_with (first | ((with_reducible refine gC 79 rfl ?_); refine gK (some 77) rfl rfl Try.func79 (by kernel_rfl) rfl #[.agg #[.int .i64 (wrap64 (2 * ((rd_T50 t223 x29_1).f0))), .int .i64 (wrap64 (2 * ((rd_T50 t223 x29_1).f1)))], .agg #[.int .i64 x229000_13, .int .i64 x229001_13]] rfl (by (try simp only [sD, sE, sF]); first | done | rfl) (i_DominoOver.calls (wrap64 (2 * ((rd_T50 t223 x29_1).f0))) (wrap64 (2 * ((rd_T50 t223 x29_1).f1))) x229000_13 x229001_13 t231 t232 t233 t234 _ A41.out) ?_; intro w116 sb; have hb := sb.out; replace HO_8 := hB HO_8 hb; replace HO_27 := hB HO_27 hb) | ((with_reducible refine gD 14 rfl ?_); refine bxE rfl #[.int .i64 0, .int .i64 0, .bool false] 41 ?_ ?_; (focus first | (go_simp; done) | (go_simp; rfl)); intro gb235 _ w117 sb _; have hb := sb.out; have hg := nw gb235; have hbox := bk gb235 (w := w117); replace HO_8 := hB HO_8 hb; replace HO_27 := hB HO_27 hb; clear hb hg hbox) | ((with_reducible refine gC 79 rfl ?_); refine gK (some 83) rfl rfl Try.func79 (by kernel_rfl) rfl #[.agg #[.int .i64 x229000_13, .int .i64 x229001_13], .agg #[.int .i64 x231000_13, .int .i64 x231001_13]] rfl (by (try simp only [sD, sE, sF]); first | done | rfl) (i_DominoOver.calls x229000_13 x229001_13 x231000_13 x231001_13 t236 t237 t238 t239 _ A42.out) ?_; intro w126 sb; have hb := sb.out; replace HO_8 := As.mk (Kd.R_below (by (with_reducible repeat (first | apply Kd.R_alloc | apply Kd.R_drewN | apply Kd.R_drew)); exact (Kd.R_mono (Kd.R_far (p := ⟨gb235, 2, none⟩) (Kd.R_far (p := ⟨gb235, 1, none⟩) (Kd.R_far (p := ⟨gb235, 0, none⟩) (Kd.R_types HO_8.out (bk gb235) (by decide)) (fun _ hk => hk.2) (.int .i64 t231)) (fun _ hk => hk.2) (.int .i64 t232)) (fun _ hk => hk.2) (.bool t233)) (fun _ h_ => h_.1))) hb); replace HO_27 := As.mk (Kd.R_below (by (with_reducible repeat (first | apply Kd.R_alloc | apply Kd.R_drewN | apply Kd.R_drew)); exact (Kd.R_mono (Kd.R_far (p := ⟨gb235, 2, none⟩) (Kd.R_far (p := ⟨gb235, 1, none⟩) (Kd.R_far (p := ⟨gb235, 0, none⟩) (Kd.R_types HO_27.out (bk gb235) (by decide)) (fun _ hk => hk.2) (.int .i64 t231)) (fun _ hk => hk.2) (.int .i64 t232)) (fun _ hk => hk.2) (.bool t233)) (fun _ h_ => h_.1))) hb)) | ((with_reducible refine gD 16 rfl ?_); refine bxE rfl #[.int .i64 0, .int .i64 0, .bool false] 41 ?_ ?_; (focus first | (go_simp; done) | (go_simp; rfl)); intro gb240 _ w127 sb _; have hb := sb.out; have hg := nw gb240; have hbox := bk gb240 (w := w127); replace HO_8 := hB HO_8 hb; replace HO_27 := hB HO_27 hb; clear hb hg hbox) | ((with_reducible refine gC 59 rfl ?_); refine gK (some 88) rfl rfl Try.func59 (by kernel_rfl) rfl #[.slice A2 l2.length c2, .agg #[.int .i64 t231, .int .i64 t232, .bool t233]] rfl (by (try simp only [sD, sE, sF]); first | done | rfl) (i_hasDomino.calls kj13 _ _ l2 t231 t232 t233 false _ ?side1 ?side2 A43.out) ?_; (case side1 => exact Kd.C_below HR2.out (uw w)); (case side2 => exact HC2.out); intro w135 sb; have hb := sb.out; replace HO_8 := As.mk (Kd.R_below (by (with_reducible repeat (first | apply Kd.R_alloc | apply Kd.R_drewN | apply Kd.R_drew)); exact (Kd.R_mono (Kd.R_far (p := ⟨gb240, 2, none⟩) (Kd.R_far (p := ⟨gb240, 1, none⟩) (Kd.R_far (p := ⟨gb240, 0, none⟩) (Kd.R_types HO_8.out (bk gb240) (by decide)) (fun _ hk => hk.2) (.int .i64 t236)) (fun _ hk => hk.2) (.int .i64 t237)) (fun _ hk => hk.2) (.bool t238)) (fun _ h_ => h_.1))) hb); replace HO_27 := As.mk (Kd.R_below (by (with_reducible repeat (first | apply Kd.R_alloc | apply Kd.R_drewN | apply Kd.R_drew)); exact (Kd.R_mono (Kd.R_far (p := ⟨gb240, 2, none⟩) (Kd.R_far (p := ⟨gb240, 1, none⟩) (Kd.R_far (p := ⟨gb240, 0, none⟩) (Kd.R_types HO_27.out (bk gb240) (by decide)) (fun _ hk => hk.2) (.int .i64 t236)) (fun _ hk => hk.2) (.int .i64 t237)) (fun _ hk => hk.2) (.bool t238)) (fun _ h_ => h_.1))) hb)) | (go_at_call 59; (with_reducible refine (i_hasDomino.calls kj13 _ _ l2 t236 t237 t238 false _ ?side1 ?side2 A75.out).mono ?_); (case side1 => exact (Kd.C_below HR2.out (uw w))); (case side2 => exact HC2.out); rintro e w137 ⟨rfl, hb⟩; have := Stp.mk hb; replace HO_8 := hB HO_8 hb; replace HO_27 := hB HO_27 hb))
           go_roundg kj13
           case measure => have := HK1.out; have := HJ13.out; omega
           case rel => exact ⟨(x8_1), (wrap64 (x29_1 + 1)), (by first | rfl | (simp; done) | (simp [*]; done)), H', ⟨by have := HK1.out; have := HJ13.out; omega⟩, ⟨by (with_reducible repeat (first | apply Kd.R_alloc | apply Kd.R_drewN | apply Kd.R_drew)); exact Kd.R_mono HO_8.out (fun _ hk => hk.1)⟩, ⟨by (with_reducible repeat (first | apply Kd.R_alloc | apply Kd.R_drewN | apply Kd.R_drew)); exact Kd.R_mono HO_27.out (fun _ hk => hk.1)⟩, ⟨uw w⟩⟩
      ·rw [if_neg c13] at H
       exact absurd H (by simp)
     ·rw [if_neg c12] at H
      exact absurd H (by simp)
    ·rw [if_neg c11] at H
     have c11b0 : decide (x29_1 < (t223.length : Int)) = false := decide_eq_false c11
     clear c11
     obtain ⟨⟨t249, t250⟩, A138, H⟩ := bI H
     dsimp only at H
     replace H := bT H; rcases H with ⟨rfl, H⟩ | ⟨rfl, H⟩
     ·obtain ⟨t253, A140, H⟩ := bI H
      replace H := bT H; rcases H with ⟨rfl, H⟩ | ⟨rfl, H⟩
      ·simp only [Option.some.injEq, Prod.mk.injEq] at H
       obtain ⟨rfl, rfl⟩ := H
       obtain ⟨Ao142, co142, eo142⟩ := Kd.R_slice HO_8.out
       subst eo142
       go_wp2_with (first | ((with_reducible refine gC 23 rfl ?_); refine goesL_ (some 103) rfl rfl Try.func23 (by kernel_rfl) rfl #[.int .i64 a0, .int .i64 a1, .slice Ao142 x8_1.length co142] rfl (by (try simp only [sD, sE, sF]); first | done | rfl) ?_; (with_reducible refine (i_TilingOfTree.calls k1 a0 a1 _ _ x8_1 t249 true _ ?side1 ?side2 A138.out).mono ?_); (case side1 => repeat (first | exact (Kd.R_reads' HO_8.out).2.2 | (with_reducible refine Kd.C_alloc ?_ _) | (with_reducible refine Kd.C_drewN ?_ _) | (with_reducible refine Kd.C_drew ?_))); (case side2 => exact (Kd.R_reads' HO_8.out).2.1); rintro e w143 ⟨v251, rfl, ho0, hb⟩; refine ⟨_, rfl, ?_⟩; have := Stp.mk hb; replace HO_8 := hB HO_8 hb; replace HO_27 := hB HO_27 hb; have HO252 := As.mk (Kd.R_lower ho0 (below_size (uw w))); (try clear ho0); obtain ⟨Ao144, co144, eo144⟩ := Kd.R_slice HO252.out; subst eo144) | (go_at_call 83; (with_reducible refine (i_SameDominoes.calls k1 _ _ t249 _ _ l2 true _ ?side1 ?side2 ?side3 ?side4 A140.out).mono ?_); (case side1 => repeat (first | exact (Kd.R_reads' HO252.out).2.2 | (with_reducible refine Kd.C_alloc ?_ _) | (with_reducible refine Kd.C_drewN ?_ _) | (with_reducible refine Kd.C_drew ?_))); (case side2 => exact (Kd.R_reads' HO252.out).2.1); (case side3 => exact (Kd.C_below HR2.out (uw w))); (case side4 => exact HC2.out); rintro e w' ⟨rfl, ⟨nd, rfl⟩⟩))
       go_ret2
       exact ⟨_, by first | rfl | (simp [*, errW_none, errW_some] <;> rfl), by (with_reducible repeat (first | apply Kd.R_alloc | apply Kd.R_drewN | apply Kd.R_drew)); exact Kd.R_mono HO_8.out (fun _ hk => trivial), uw w⟩
      ·simp only [Option.some.injEq, Prod.mk.injEq] at H
       obtain ⟨rfl, rfl⟩ := H
       obtain ⟨Ao145, co145, eo145⟩ := Kd.R_slice HO_8.out
       subst eo145
       go_wp2_with (first | ((with_reducible refine gC 23 rfl ?_); refine goesL_ (some 103) rfl rfl Try.func23 (by kernel_rfl) rfl #[.int .i64 a0, .int .i64 a1, .slice Ao145 x8_1.length co145] rfl (by (try simp only [sD, sE, sF]); first | done | rfl) ?_; (with_reducible refine (i_TilingOfTree.calls k1 a0 a1 _ _ x8_1 t249 true _ ?side1 ?side2 A138.out).mono ?_); (case side1 => repeat (first | exact (Kd.R_reads' HO_8.out).2.2 | (with_reducible refine Kd.C_alloc ?_ _) | (with_reducible refine Kd.C_drewN ?_ _) | (with_reducible refine Kd.C_drew ?_))); (case side2 => exact (Kd.R_reads' HO_8.out).2.1); rintro e w146 ⟨v251, rfl, ho0, hb⟩; refine ⟨_, rfl, ?_⟩; have := Stp.mk hb; replace HO_8 := hB HO_8 hb; replace HO_27 := hB HO_27 hb; have HO252 := As.mk (Kd.R_lower ho0 (below_size (uw w))); (try clear ho0); obtain ⟨Ao147, co147, eo147⟩ := Kd.R_slice HO252.out; subst eo147) | (go_at_call 83; (with_reducible refine (i_SameDominoes.calls k1 _ _ t249 _ _ l2 false _ ?side1 ?side2 ?side3 ?side4 A140.out).mono ?_); (case side1 => repeat (first | exact (Kd.R_reads' HO252.out).2.2 | (with_reducible refine Kd.C_alloc ?_ _) | (with_reducible refine Kd.C_drewN ?_ _) | (with_reducible refine Kd.C_drew ?_))); (case side2 => exact (Kd.R_reads' HO252.out).2.1); (case side3 => exact (Kd.C_below HR2.out (uw w))); (case side4 => exact HC2.out); rintro e w' ⟨rfl, ⟨nd, rfl⟩⟩))
       go_ret2
       exact ⟨_, by first | rfl | (simp [*, errW_none, errW_some] <;> rfl), by first | exact Kd.R_nil _ _ _ _ _ | exact Kd.N_nil _ _ _ _ _ | exact Kd.V_nil _ _ _ _ _ | exact Kd.Q_nil _ _ _ _ _ | exact Kd.S_nil _ _ _ _ _, uw w⟩
     ·simp only [Option.some.injEq, Prod.mk.injEq] at H
      obtain ⟨rfl, rfl⟩ := H
      obtain ⟨Ao148, co148, eo148⟩ := Kd.R_slice HO_8.out
      subst eo148
      go_wp2_with (first | ((with_reducible refine gC 23 rfl ?_); refine goesL_ (some 103) rfl rfl Try.func23 (by kernel_rfl) rfl #[.int .i64 a0, .int .i64 a1, .slice Ao148 x8_1.length co148] rfl (by (try simp only [sD, sE, sF]); first | done | rfl) ?_; (with_reducible refine (i_TilingOfTree.calls k1 a0 a1 _ _ x8_1 t249 false _ ?side1 ?side2 A138.out).mono ?_); (case side1 => repeat (first | exact (Kd.R_reads' HO_8.out).2.2 | (with_reducible refine Kd.C_alloc ?_ _) | (with_reducible refine Kd.C_drewN ?_ _) | (with_reducible refine Kd.C_drew ?_))); (case side2 => exact (Kd.R_reads' HO_8.out).2.1); rintro e w149 ⟨v251, rfl, ho0, hb⟩; refine ⟨_, rfl, ?_⟩; have := Stp.mk hb; replace HO_8 := hB HO_8 hb; replace HO_27 := hB HO_27 hb; have HO252 := As.mk (Kd.R_lower ho0 (below_size (uw w))); (try clear ho0)))
      go_ret2
      exact ⟨_, by first | rfl | (simp [*, errW_none, errW_some] <;> rfl), by first | exact Kd.R_nil _ _ _ _ _ | exact Kd.N_nil _ _ _ _ _ | exact Kd.V_nil _ _ _ _ _ | exact Kd.Q_nil _ _ _ _ _ | exact Kd.S_nil _ _ _ _ _, uw w⟩
 ·simp only [Option.some.injEq, Prod.mk.injEq] at H
  obtain ⟨rfl, rfl⟩ := H
  go_enter Try.func24, Try.ntmps24
  go_wp2_with (first | ((with_reducible refine gC 81 rfl ?_); refine goesL_ (some 22) rfl rfl Try.func81 (by kernel_rfl) rfl #[.int .i64 a0, .int .i64 a1] rfl (by (try simp only [sD, sE, sF]); first | done | rfl) ?_; (with_reducible refine (i_GridOk.calls a0 a1 false _ A4.out).mono ?_); rintro e w' ⟨rfl, ⟨nd, rfl⟩⟩; refine ⟨_, rfl, ?_⟩))
  go_ret2
  exact ⟨_, by first | rfl | (simp [*, errW_none, errW_some] <;> rfl), by first | exact Kd.R_nil _ _ _ _ _ | exact Kd.N_nil _ _ _ _ _ | exact Kd.V_nil _ _ _ _ _ | exact Kd.Q_nil _ _ _ _ _ | exact Kd.S_nil _ _ _ _ _, uw w⟩
def l_eqDomino.f (a0_0 : Int) (a0_1 : Int) (a0_2 : Bool) (a1_0 : Int) (a1_1 : Int) (a1_2 : Bool) : Option (Bool) := if a0_0 = a1_0 then (if a0_1 = a1_1 then (if (a0_2 != a1_2) = true then (some false) else (some true)) else (some false)) else (some false)
set_option maxRecDepth 100000 in
theorem l_eqDomino.calls (a0_0 : Int) (a0_1 : Int) (a0_2 : Bool) (a1_0 : Int) (a1_1 : Int) (a1_2 : Bool) (r : Bool) (w : World) (h : l_eqDomino.f a0_0 a0_1 a0_2 a1_0 a1_1 a1_2 = some r) :
  Calls Try.prog 101 #[.agg #[.int .i64 a0_0, .int .i64 a0_1, .bool a0_2], .agg #[.int .i64 a1_0, .int .i64 a1_1, .bool a1_2]] w fun e w' => e = .returned (.bool r) ∧ Below w.heap.size w w' := by
 have hu41 := Try.underlying41
 have HB : Up w w := ⟨Below.refl _ _⟩
 have H : (if a0_0 = a1_0 then (if a0_1 = a1_1 then (if (a0_2 != a1_2) = true then (some false) else (some true)) else (some false)) else (some false)) = some r := h
 clear h
 by_cases c3 : a0_0 = a1_0
 ·rw [if_pos c3] at H
  have c3b0 : (a0_0 == a1_0) = true := beq_iff_eq.mpr c3
  have c3b1 : (a0_0 != a1_0) = false := bne_eq_false_iff_eq.mpr c3
  clear c3
  by_cases c4 : a0_1 = a1_1
  ·rw [if_pos c4] at H
   have c4b0 : (a0_1 == a1_1) = true := beq_iff_eq.mpr c4
   have c4b1 : (a0_1 != a1_1) = false := bne_eq_false_iff_eq.mpr c4
   clear c4
   by_cases c5 : (a0_2 != a1_2) = true
   ·rw [if_pos c5] at H
    have c5b0 : (a0_2 != a1_2) = true := c5
    (try (have c5b1 : decide (a0_2 = a1_2) = false := by simpa using c5))
    (try (have c5b2 : (a0_2 == a1_2) = false := by simpa using c5))
    (try (have c5b3 : ¬ (a0_2 = a1_2) := by simpa using c5))
    clear c5
    obtain rfl := Option.some.inj H
    go_enter Try.func101, Try.ntmps101
    go_wp2_with (first | ((with_reducible refine gD 2 rfl ?_); refine bxE rfl #[.int .i64 a0_0, .int .i64 a0_1, .bool a0_2] 41 ?_ ?_; (focus first | (go_simp; done) | (go_simp; rfl)); intro gb254 _ w6 _ _) | ((with_reducible refine gD 3 rfl ?_); refine bxE rfl #[.int .i64 a1_0, .int .i64 a1_1, .bool a1_2] 41 ?_ ?_; (focus first | (go_simp; done) | (go_simp; rfl)); intro gb255 _ w7 _ _))
    go_ret
    exact ⟨by first | rfl | (simp [*, errW_none, errW_some] <;> rfl), uw w⟩
   ·rw [if_neg c5] at H
    have c5b0 : (a0_2 != a1_2) = false := by simpa using c5
    (try (have c5b1 : decide (a0_2 = a1_2) = true := by simpa using c5))
    (try (have c5b2 : (a0_2 == a1_2) = true := by simpa using c5))
    clear c5
    obtain rfl := Option.some.inj H
    go_enter Try.func101, Try.ntmps101
    go_wp2_with (first | ((with_reducible refine gD 2 rfl ?_); refine bxE rfl #[.int .i64 a0_0, .int .i64 a0_1, .bool a0_2] 41 ?_ ?_; (focus first | (go_simp; done) | (go_simp; rfl)); intro gb254 _ w11 _ _) | ((with_reducible refine gD 3 rfl ?_); refine bxE rfl #[.int .i64 a1_0, .int .i64 a1_1, .bool a1_2] 41 ?_ ?_; (focus first | (go_simp; done) | (go_simp; rfl)); intro gb255 _ w12 _ _))
    go_ret
    exact ⟨by first | rfl | (simp [*, errW_none, errW_some] <;> rfl), uw w⟩
  ·rw [if_neg c4] at H
   have c4b0 : (a0_1 == a1_1) = false := beq_eq_false_iff_ne.mpr c4
   have c4b1 : (a0_1 != a1_1) = true := bne_iff_ne.mpr c4
   obtain rfl := Option.some.inj H
   go_enter Try.func101, Try.ntmps101
   go_wp2_with (first | ((with_reducible refine gD 2 rfl ?_); refine bxE rfl #[.int .i64 a0_0, .int .i64 a0_1, .bool a0_2] 41 ?_ ?_; (focus first | (go_simp; done) | (go_simp; rfl)); intro gb254 _ w16 _ _) | ((with_reducible refine gD 3 rfl ?_); refine bxE rfl #[.int .i64 a1_0, .int .i64 a1_1, .bool a1_2] 41 ?_ ?_; (focus first | (go_simp; done) | (go_simp; rfl)); intro gb255 _ w17 _ _))
   go_ret
   exact ⟨by first | rfl | (simp [*, errW_none, errW_some] <;> rfl), uw w⟩
 ·rw [if_neg c3] at H
  have c3b0 : (a0_0 == a1_0) = false := beq_eq_false_iff_ne.mpr c3
  have c3b1 : (a0_0 != a1_0) = true := bne_iff_ne.mpr c3
  obtain rfl := Option.some.inj H
  go_enter Try.func101, Try.ntmps101
  go_wp2_with (first | ((with_reducible refine gD 2 rfl ?_); refine bxE rfl #[.int .i64 a0_0, .int .i64 a0_1, .bool a0_2] 41 ?_ ?_; (focus first | (go_simp; done) | (go_simp; rfl)); intro gb254 _ w21 _ _) | ((with_reducible refine gD 3 rfl ?_); refine bxE rfl #[.int .i64 a1_0, .int .i64 a1_1, .bool a1_2] 41 ?_ ?_; (focus first | (go_simp; done) | (go_simp; rfl)); intro gb255 _ w22 _ _))
  go_ret
  exact ⟨by first | rfl | (simp [*, errW_none, errW_some] <;> rfl), uw w⟩
def l_eqDominoS.l0 : Nat → List (S41) → List (S41) → Int → Option (Bool)
 | 0, _, _, _ => none
 | k + 1, x0, x1, x5 => if x5 < (x0.length : Int) then (if 0 ≤ x5 then (if x5 < (x1.length : Int) then ((l_eqDomino.f ((rd_T41 x0 x5).f0) ((rd_T41 x0 x5).f1) ((rd_T41 x0 x5).f2) ((rd_T41 x1 x5).f0) ((rd_T41 x1 x5).f1) ((rd_T41 x1 x5).f2)).bind fun t258 => (if t258 = true then (l_eqDominoS.l0 k x0 x1 (wrap64 (x5 + 1))) else (some false))) else (none)) else (none)) else (some true)
def l_eqDominoS.f (k : Nat) (l0 : List (S41)) (l1 : List (S41)) : Option (Bool) := if (l0.length : Int) = (l1.length : Int) then (l_eqDominoS.l0 k l0 l1 0) else (some false)
theorem l_eqDominoS.mono_l : ∀ k, (∀ y0 y1 y2, LeO (l_eqDominoS.l0 k y0 y1 y2) (l_eqDominoS.l0 (k + 1) y0 y1 y2))
 | 0 => fun _ _ _ r h => by simp [l_eqDominoS.l0] at h
 | k + 1 => by
  have ih0 := l_eqDominoS.mono_l k
  ·intro y0 y1 y2
   unfold l_eqDominoS.l0
   repeat' with_reducible first
   | exact ih0 _ _ _
   | exact LeO.refl _
   | exact LeO.none _
   | refine LeO.ite ?_ ?_
   | refine LeO.bind ?_ (fun _ => ?_)
theorem l_eqDominoS.mono : ∀ a0 a1 k, LeO (l_eqDominoS.f k a0 a1) (l_eqDominoS.f (k + 1) a0 a1) := by
 intro a0 a1 k
 have ih0 := l_eqDominoS.mono_l k
 unfold l_eqDominoS.f
 repeat' with_reducible first
 | exact ih0 _ _ _
 | exact LeO.refl _
 | exact LeO.none _
 | refine LeO.ite ?_ ?_
 | refine LeO.bind ?_ (fun _ => ?_)
def l_eqDominoS.T6 : Bool × List (List Nat × List Nat) := (true, [([], []), ([], []), ([0, 1], [0, 1]), ([2], [2]), ([], []), ([], []), ([4, 5], [4, 5]), ([6], [6]), ([3, 7], [3, 7]), ([8], [8])])
def l_eqDominoS.B6 : List Nat := [0, 0, 3, 7, 0, 0, 48, 112, 255, 511]
theorem l_eqDominoS.tab6 : rtab .any (opsOf Try.f36 6) = l_eqDominoS.T6 := by kernel_rfl
theorem l_eqDominoS.bits6 : waitsOk l_eqDominoS.T6.2 l_eqDominoS.B6 = true := by kernel_rfl
set_option maxRecDepth 100000 in
theorem l_eqDominoS.calls (k : Nat) (A0 : Option Addr) (c0 : Nat) (l0 : List (S41)) (A1 : Option Addr) (c1 : Nat) (l1 : List (S41)) (r : Bool) (w : World) (hr0 : Kd.C k41 w A0 l0.length l0) (hc0 : l0.length ≤ c0) (hr1 : Kd.C k41 w A1 l1.length l1) (hc1 : l1.length ≤ c1) (h : l_eqDominoS.f k l0 l1 = some r) :
  Calls Try.prog 36 #[.slice A0 l0.length c0, .slice A1 l1.length c1] w fun e w' => e = .returned (.bool r) ∧ Below w.heap.size w w' := by
 have hu41 := Try.underlying41
 have HR0 := As.mk hr0
 have HC0 := As.mk hc0
 clear hr0 hc0
 have HR1 := As.mk hr1
 have HC1 := As.mk hc1
 clear hr1 hc1
 have HB : Up w w := ⟨Below.refl _ _⟩
 have H : (if (l0.length : Int) = (l1.length : Int) then (l_eqDominoS.l0 k l0 l1 0) else (some false)) = some r := h
 clear h
 by_cases c3 : (l0.length : Int) = (l1.length : Int)
 ·rw [if_pos c3] at H
  have c3b0 : ((l0.length : Int) == (l1.length : Int)) = true := beq_iff_eq.mpr c3
  have c3b1 : ((l0.length : Int) != (l1.length : Int)) = false := bne_eq_false_iff_eq.mpr c3
  have c3b2 : (l0.length == l1.length) = true := by first | simpa using c3 | (simp at c3 ⊢; omega)
  clear c3
  have H' := As.mk H
  clear H
  go_enter Try.func36, Try.ntmps36
  go_wp2
  go_loopg [5] k (fun kq v5 w' => ∃ (x5_1 : Int), v5 = .int .i64 x5_1 ∧ As (l_eqDominoS.l0 kq l0 l1 x5_1 = some r) ∧ As (kq ≤ k) ∧ Up w w')
  case atStart => exact ⟨(0), (by first | rfl | (simp; done) | (simp [*]; done)), H', ⟨Nat.le_refl _⟩, ⟨uw w⟩⟩
  case round =>
   clear H'
   try clear c3
   try clear c3b0
   try clear c3b1
   try clear c3b2
   obtain ⟨x5_1, rfl, HA, HK1, HB⟩ := hrel
   cases gk with
   | zero => exact absurd HA.out (by simp [l_eqDominoS.l0])
   | succ k1 =>
    have H := HA.out
    clear HA
    simp only [l_eqDominoS.l0] at H
    by_cases c4 : x5_1 < (l0.length : Int)
    ·rw [if_pos c4] at H
     have c4b0 : decide (x5_1 < (l0.length : Int)) = true := decide_eq_true c4
     clear c4
     by_cases c5 : 0 ≤ x5_1
     ·rw [if_pos c5] at H
      have c5b0 : decide (0 ≤ x5_1) = true := decide_eq_true c5
      clear c5
      by_cases c6 : x5_1 < (l1.length : Int)
      ·rw [if_pos c6] at H
       have c6b0 : decide (x5_1 < (l1.length : Int)) = true := decide_eq_true c6
       clear c6
       obtain ⟨t258, A7, H⟩ := bI H
       replace H := bT H; rcases H with ⟨rfl, H⟩ | ⟨rfl, H⟩
       ·have H' := As.mk H
        clear H
        try go_wp2
        have p256 : 0 ≤ (x5_1 : Int) := oD
        have q256 : x5_1 < (l0.length : Int) := oD
        obtain ⟨ad256, e256, hx256_0, hx256_1, hx256_2⟩ := at_T41 HR0.out x5_1 p256 q256
        have hw256_2 := hx256_2
        have hw256_1 := hx256_1
        have hw256_0 := hx256_0
        cases e256
        replace hx256_0 := cx wr hx256_0
        replace hx256_1 := cx wr hx256_1
        replace hx256_2 := cx wr hx256_2
        replace p256 := eq_true p256
        replace q256 := eq_true q256
        have p257 : 0 ≤ (x5_1 : Int) := oD
        have q257 : x5_1 < (l1.length : Int) := oD
        obtain ⟨ad257, e257, hx257_0, hx257_1, hx257_2⟩ := at_T41 HR1.out x5_1 p257 q257
        have hw257_2 := hx257_2
        have hw257_1 := hx257_1
        have hw257_0 := hx257_0
        cases e257
        replace hx257_0 := cx wr hx257_0
        replace hx257_1 := cx wr hx257_1
        replace hx257_2 := cx wr hx257_2
        replace p257 := eq_true p257
        replace q257 := eq_true q257
        refine sV [(0,17),(1,18),(2,19),(4,21),(5,22),(6,23),(3,20),(7,24),(8,25),(9,26)] (fun w' => w'.cell? (ad256.add ((x5_1).toNat * 3)) = some (.int .i64 ((rd_T41 l0 x5_1).f0)) ∧ w'.cell? ⟨(ad256.add ((x5_1).toNat * 3)).block, (ad256.add ((x5_1).toNat * 3)).off + 1, none⟩ = some (.int .i64 ((rd_T41 l0 x5_1).f1)) ∧ w'.cell? ⟨(ad256.add ((x5_1).toNat * 3)).block, (ad256.add ((x5_1).toNat * 3)).off + 2, none⟩ = some (.bool ((rd_T41 l0 x5_1).f2)) ∧ w'.cell? (ad257.add ((x5_1).toNat * 3)) = some (.int .i64 ((rd_T41 l1 x5_1).f0)) ∧ w'.cell? ⟨(ad257.add ((x5_1).toNat * 3)).block, (ad257.add ((x5_1).toNat * 3)).off + 1, none⟩ = some (.int .i64 ((rd_T41 l1 x5_1).f1)) ∧ w'.cell? ⟨(ad257.add ((x5_1).toNat * 3)).block, (ad257.add ((x5_1).toNat * 3)).off + 2, none⟩ = some (.bool ((rd_T41 l1 x5_1).f2))) [] (by kernel_rfl) rfl ⟨(cx wr hw256_0), (cx wr hw256_1), (cx wr hw256_2), (cx wr hw257_0), (cx wr hw257_1), (cx wr hw257_2)⟩ (fun hHeld => ?_); refine wTW l_eqDominoS.tab6 l_eqDominoS.bits6 (fun HT_ HW_ => ?_)
        have hd_ := stD wr
        generalize wr.drew = w9 at hd_ hx256_0 hx256_1 hx256_2 hx257_0 hx257_1 hx257_2 hHeld ⊢
        iterate 6 refine pV rfl rfl (any_of HT_.out (by kernel_rfl)) (by rfl) (fun _ _ _ _ h => h) ⟨_, fun w' => by go_simp; with_reducible rfl, _, by simp only [Act.put, sA, sB, sC, i64_w, i32_w]; rfl, ?_⟩
        iterate 2 refine tV rfl rfl (take_ofW HT_.out HW_.out (by kernel_rfl)) (by rfl) (fun _ _ _ _ h => h) hHeld ⟨_, fun w' s => by go_simp; with_reducible rfl, _, by simp only [Act.put, sA, sB, sC, i64_w, i32_w]; rfl, ?_⟩
        refine oV (N := some 25) rfl rfl (one_of HT_.out (by kernel_rfl)) (by decide) (fun K hK => ?_)
        refine goes_ Try.func101 (by kernel_rfl) rfl #[.agg #[.int .i64 ((rd_T41 l0 x5_1).f0), .int .i64 ((rd_T41 l0 x5_1).f1), .bool ((rd_T41 l0 x5_1).f2)], .agg #[.int .i64 ((rd_T41 l1 x5_1).f0), .int .i64 ((rd_T41 l1 x5_1).f1), .bool ((rd_T41 l1 x5_1).f2)]] (by rfl) rfl rfl (by (try simp only [sD, sE, sF]); first | done | rfl) ?_
        with_reducible refine (l_eqDomino.calls ((rd_T41 l0 x5_1).f0) ((rd_T41 l0 x5_1).f1) ((rd_T41 l0 x5_1).f2) ((rd_T41 l1 x5_1).f0) ((rd_T41 l1 x5_1).f1) ((rd_T41 l1 x5_1).f2) true _ A7.out).mono ?_
        rintro e w10 ⟨rfl, hb⟩
        refine ⟨_, rfl, ?_⟩
        have := Stp.mk hb
        refine hK.out _ _ ⟨(cx w10 hw256_0), (cx w10 hw256_1), (cx w10 hw256_2), (cx w10 hw257_0), (cx w10 hw257_1), (cx w10 hw257_2)⟩ (fun hHeld => ?_)
        clear hK K
        refine nV ⟨_, by show Act.put _ (some 25) _ = _; simp only [Act.put, sA, sB, sC, i64_w, i32_w]; rfl, ?_⟩
        refine pV rfl rfl (any_of HT_.out (by kernel_rfl)) (by rfl) (fun _ _ _ _ h => h) ⟨_, fun w' => by go_simp; with_reducible rfl, _, by simp only [Act.put, sA, sB, sC, i64_w, i32_w]; rfl, ?_⟩
        refine dV (done_of HT_.out (by kernel_rfl)) ?_
        try go_wp2
        go_roundg k1
        case measure => have := HK1.out; omega
        case rel => exact ⟨(wrap64 (x5_1 + 1)), (by first | rfl | (simp; done) | (simp [*]; done)), H', ⟨by have := HK1.out; omega⟩, ⟨uw w⟩⟩
       ·obtain rfl := Option.some.inj H
        try go_wp2
        have p256 : 0 ≤ (x5_1 : Int) := oD
        have q256 : x5_1 < (l0.length : Int) := oD
        obtain ⟨ad256, e256, hx256_0, hx256_1, hx256_2⟩ := at_T41 HR0.out x5_1 p256 q256
        have hw256_2 := hx256_2
        have hw256_1 := hx256_1
        have hw256_0 := hx256_0
        cases e256
        replace hx256_0 := cx wr hx256_0
        replace hx256_1 := cx wr hx256_1
        replace hx256_2 := cx wr hx256_2
        replace p256 := eq_true p256
        replace q256 := eq_true q256
        have p257 : 0 ≤ (x5_1 : Int) := oD
        have q257 : x5_1 < (l1.length : Int) := oD
        obtain ⟨ad257, e257, hx257_0, hx257_1, hx257_2⟩ := at_T41 HR1.out x5_1 p257 q257
        have hw257_2 := hx257_2
        have hw257_1 := hx257_1
        have hw257_0 := hx257_0
        cases e257
        replace hx257_0 := cx wr hx257_0
        replace hx257_1 := cx wr hx257_1
        replace hx257_2 := cx wr hx257_2
        replace p257 := eq_true p257
        replace q257 := eq_true q257
        refine sV [(0,17),(1,18),(2,19),(4,21),(5,22),(6,23),(3,20),(7,24),(8,25),(9,26)] (fun w' => w'.cell? (ad256.add ((x5_1).toNat * 3)) = some (.int .i64 ((rd_T41 l0 x5_1).f0)) ∧ w'.cell? ⟨(ad256.add ((x5_1).toNat * 3)).block, (ad256.add ((x5_1).toNat * 3)).off + 1, none⟩ = some (.int .i64 ((rd_T41 l0 x5_1).f1)) ∧ w'.cell? ⟨(ad256.add ((x5_1).toNat * 3)).block, (ad256.add ((x5_1).toNat * 3)).off + 2, none⟩ = some (.bool ((rd_T41 l0 x5_1).f2)) ∧ w'.cell? (ad257.add ((x5_1).toNat * 3)) = some (.int .i64 ((rd_T41 l1 x5_1).f0)) ∧ w'.cell? ⟨(ad257.add ((x5_1).toNat * 3)).block, (ad257.add ((x5_1).toNat * 3)).off + 1, none⟩ = some (.int .i64 ((rd_T41 l1 x5_1).f1)) ∧ w'.cell? ⟨(ad257.add ((x5_1).toNat * 3)).block, (ad257.add ((x5_1).toNat * 3)).off + 2, none⟩ = some (.bool ((rd_T41 l1 x5_1).f2))) [] (by kernel_rfl) rfl ⟨(cx wr hw256_0), (cx wr hw256_1), (cx wr hw256_2), (cx wr hw257_0), (cx wr hw257_1), (cx wr hw257_2)⟩ (fun hHeld => ?_); refine wTW l_eqDominoS.tab6 l_eqDominoS.bits6 (fun HT_ HW_ => ?_)
        have hd_ := stD wr
        generalize wr.drew = w11 at hd_ hx256_0 hx256_1 hx256_2 hx257_0 hx257_1 hx257_2 hHeld ⊢
        iterate 6 refine pV rfl rfl (any_of HT_.out (by kernel_rfl)) (by rfl) (fun _ _ _ _ h => h) ⟨_, fun w' => by go_simp; with_reducible rfl, _, by simp only [Act.put, sA, sB, sC, i64_w, i32_w]; rfl, ?_⟩
        iterate 2 refine tV rfl rfl (take_ofW HT_.out HW_.out (by kernel_rfl)) (by rfl) (fun _ _ _ _ h => h) hHeld ⟨_, fun w' s => by go_simp; with_reducible rfl, _, by simp only [Act.put, sA, sB, sC, i64_w, i32_w]; rfl, ?_⟩
        refine oV (N := some 25) rfl rfl (one_of HT_.out (by kernel_rfl)) (by decide) (fun K hK => ?_)
        refine goes_ Try.func101 (by kernel_rfl) rfl #[.agg #[.int .i64 ((rd_T41 l0 x5_1).f0), .int .i64 ((rd_T41 l0 x5_1).f1), .bool ((rd_T41 l0 x5_1).f2)], .agg #[.int .i64 ((rd_T41 l1 x5_1).f0), .int .i64 ((rd_T41 l1 x5_1).f1), .bool ((rd_T41 l1 x5_1).f2)]] (by rfl) rfl rfl (by (try simp only [sD, sE, sF]); first | done | rfl) ?_
        with_reducible refine (l_eqDomino.calls ((rd_T41 l0 x5_1).f0) ((rd_T41 l0 x5_1).f1) ((rd_T41 l0 x5_1).f2) ((rd_T41 l1 x5_1).f0) ((rd_T41 l1 x5_1).f1) ((rd_T41 l1 x5_1).f2) false _ A7.out).mono ?_
        rintro e w12 ⟨rfl, hb⟩
        refine ⟨_, rfl, ?_⟩
        have := Stp.mk hb
        refine hK.out _ _ ⟨(cx w12 hw256_0), (cx w12 hw256_1), (cx w12 hw256_2), (cx w12 hw257_0), (cx w12 hw257_1), (cx w12 hw257_2)⟩ (fun hHeld => ?_)
        clear hK K
        refine nV ⟨_, by show Act.put _ (some 25) _ = _; simp only [Act.put, sA, sB, sC, i64_w, i32_w]; rfl, ?_⟩
        refine pV rfl rfl (any_of HT_.out (by kernel_rfl)) (by rfl) (fun _ _ _ _ h => h) ⟨_, fun w' => by go_simp; with_reducible rfl, _, by simp only [Act.put, sA, sB, sC, i64_w, i32_w]; rfl, ?_⟩
        refine dV (done_of HT_.out (by kernel_rfl)) ?_
        try go_wp2
        go_ret
        exact ⟨by first | rfl | (simp [*, errW_none, errW_some] <;> rfl), uw w⟩
      ·rw [if_neg c6] at H
       exact absurd H (by simp)
     ·rw [if_neg c5] at H
      exact absurd H (by simp)
    ·rw [if_neg c4] at H
     have c4b0 : decide (x5_1 < (l0.length : Int)) = false := decide_eq_false c4
     clear c4
     obtain rfl := Option.some.inj H
     go_wp2
     go_ret
     exact ⟨by first | rfl | (simp [*, errW_none, errW_some] <;> rfl), uw w⟩
 ·rw [if_neg c3] at H
  have c3b0 : ((l0.length : Int) == (l1.length : Int)) = false := beq_eq_false_iff_ne.mpr c3
  have c3b1 : ((l0.length : Int) != (l1.length : Int)) = true := bne_iff_ne.mpr c3
  have c3b2 : (l0.length == l1.length) = false := by first | simpa using c3 | (simp at c3 ⊢; omega)
  obtain rfl := Option.some.inj H
  go_enter Try.func36, Try.ntmps36
  go_wp2
  go_ret
  exact ⟨by first | rfl | (simp [*, errW_none, errW_some] <;> rfl), uw w⟩
def l_eqLink.f (a0_0 : Int) (a0_1 : Int) (a0_2 : Bool) (a1_0 : Int) (a1_1 : Int) (a1_2 : Bool) : Option (Bool) := if a0_0 = a1_0 then (if a0_1 = a1_1 then (if (a0_2 != a1_2) = true then (some false) else (some true)) else (some false)) else (some false)
set_option maxRecDepth 100000 in
theorem l_eqLink.calls (a0_0 : Int) (a0_1 : Int) (a0_2 : Bool) (a1_0 : Int) (a1_1 : Int) (a1_2 : Bool) (r : Bool) (w : World) (h : l_eqLink.f a0_0 a0_1 a0_2 a1_0 a1_1 a1_2 = some r) :
  Calls Try.prog 102 #[.agg #[.int .i64 a0_0, .int .i64 a0_1, .bool a0_2], .agg #[.int .i64 a1_0, .int .i64 a1_1, .bool a1_2]] w fun e w' => e = .returned (.bool r) ∧ Below w.heap.size w w' := by
 have hu50 := Try.underlying50
 have HB : Up w w := ⟨Below.refl _ _⟩
 have H : (if a0_0 = a1_0 then (if a0_1 = a1_1 then (if (a0_2 != a1_2) = true then (some false) else (some true)) else (some false)) else (some false)) = some r := h
 clear h
 by_cases c3 : a0_0 = a1_0
 ·rw [if_pos c3] at H
  have c3b0 : (a0_0 == a1_0) = true := beq_iff_eq.mpr c3
  have c3b1 : (a0_0 != a1_0) = false := bne_eq_false_iff_eq.mpr c3
  clear c3
  by_cases c4 : a0_1 = a1_1
  ·rw [if_pos c4] at H
   have c4b0 : (a0_1 == a1_1) = true := beq_iff_eq.mpr c4
   have c4b1 : (a0_1 != a1_1) = false := bne_eq_false_iff_eq.mpr c4
   clear c4
   by_cases c5 : (a0_2 != a1_2) = true
   ·rw [if_pos c5] at H
    have c5b0 : (a0_2 != a1_2) = true := c5
    (try (have c5b1 : decide (a0_2 = a1_2) = false := by simpa using c5))
    (try (have c5b2 : (a0_2 == a1_2) = false := by simpa using c5))
    (try (have c5b3 : ¬ (a0_2 = a1_2) := by simpa using c5))
    clear c5
    obtain rfl := Option.some.inj H
    go_enter Try.func102, Try.ntmps102
    go_wp2_with (first | ((with_reducible refine gD 2 rfl ?_); refine bxE rfl #[.int .i64 a0_0, .int .i64 a0_1, .bool a0_2] 50 ?_ ?_; (focus first | (go_simp; done) | (go_simp; rfl)); intro gb259 _ w6 _ _) | ((with_reducible refine gD 3 rfl ?_); refine bxE rfl #[.int .i64 a1_0, .int .i64 a1_1, .bool a1_2] 50 ?_ ?_; (focus first | (go_simp; done) | (go_simp; rfl)); intro gb260 _ w7 _ _))
    go_ret
    exact ⟨by first | rfl | (simp [*, errW_none, errW_some] <;> rfl), uw w⟩
   ·rw [if_neg c5] at H
    have c5b0 : (a0_2 != a1_2) = false := by simpa using c5
    (try (have c5b1 : decide (a0_2 = a1_2) = true := by simpa using c5))
    (try (have c5b2 : (a0_2 == a1_2) = true := by simpa using c5))
    clear c5
    obtain rfl := Option.some.inj H
    go_enter Try.func102, Try.ntmps102
    go_wp2_with (first | ((with_reducible refine gD 2 rfl ?_); refine bxE rfl #[.int .i64 a0_0, .int .i64 a0_1, .bool a0_2] 50 ?_ ?_; (focus first | (go_simp; done) | (go_simp; rfl)); intro gb259 _ w11 _ _) | ((with_reducible refine gD 3 rfl ?_); refine bxE rfl #[.int .i64 a1_0, .int .i64 a1_1, .bool a1_2] 50 ?_ ?_; (focus first | (go_simp; done) | (go_simp; rfl)); intro gb260 _ w12 _ _))
    go_ret
    exact ⟨by first | rfl | (simp [*, errW_none, errW_some] <;> rfl), uw w⟩
  ·rw [if_neg c4] at H
   have c4b0 : (a0_1 == a1_1) = false := beq_eq_false_iff_ne.mpr c4
   have c4b1 : (a0_1 != a1_1) = true := bne_iff_ne.mpr c4
   obtain rfl := Option.some.inj H
   go_enter Try.func102, Try.ntmps102
   go_wp2_with (first | ((with_reducible refine gD 2 rfl ?_); refine bxE rfl #[.int .i64 a0_0, .int .i64 a0_1, .bool a0_2] 50 ?_ ?_; (focus first | (go_simp; done) | (go_simp; rfl)); intro gb259 _ w16 _ _) | ((with_reducible refine gD 3 rfl ?_); refine bxE rfl #[.int .i64 a1_0, .int .i64 a1_1, .bool a1_2] 50 ?_ ?_; (focus first | (go_simp; done) | (go_simp; rfl)); intro gb260 _ w17 _ _))
   go_ret
   exact ⟨by first | rfl | (simp [*, errW_none, errW_some] <;> rfl), uw w⟩
 ·rw [if_neg c3] at H
  have c3b0 : (a0_0 == a1_0) = false := beq_eq_false_iff_ne.mpr c3
  have c3b1 : (a0_0 != a1_0) = true := bne_iff_ne.mpr c3
  obtain rfl := Option.some.inj H
  go_enter Try.func102, Try.ntmps102
  go_wp2_with (first | ((with_reducible refine gD 2 rfl ?_); refine bxE rfl #[.int .i64 a0_0, .int .i64 a0_1, .bool a0_2] 50 ?_ ?_; (focus first | (go_simp; done) | (go_simp; rfl)); intro gb259 _ w21 _ _) | ((with_reducible refine gD 3 rfl ?_); refine bxE rfl #[.int .i64 a1_0, .int .i64 a1_1, .bool a1_2] 50 ?_ ?_; (focus first | (go_simp; done) | (go_simp; rfl)); intro gb260 _ w22 _ _))
  go_ret
  exact ⟨by first | rfl | (simp [*, errW_none, errW_some] <;> rfl), uw w⟩
def l_eqLinkS.l0 : Nat → List (S50) → List (S50) → Int → Option (Bool)
 | 0, _, _, _ => none
 | k + 1, x0, x1, x5 => if x5 < (x0.length : Int) then (if 0 ≤ x5 then (if x5 < (x1.length : Int) then ((l_eqLink.f ((rd_T50 x0 x5).f0) ((rd_T50 x0 x5).f1) ((rd_T50 x0 x5).f2) ((rd_T50 x1 x5).f0) ((rd_T50 x1 x5).f1) ((rd_T50 x1 x5).f2)).bind fun t263 => (if t263 = true then (l_eqLinkS.l0 k x0 x1 (wrap64 (x5 + 1))) else (some false))) else (none)) else (none)) else (some true)
def l_eqLinkS.f (k : Nat) (l0 : List (S50)) (l1 : List (S50)) : Option (Bool) := if (l0.length : Int) = (l1.length : Int) then (l_eqLinkS.l0 k l0 l1 0) else (some false)
theorem l_eqLinkS.mono_l : ∀ k, (∀ y0 y1 y2, LeO (l_eqLinkS.l0 k y0 y1 y2) (l_eqLinkS.l0 (k + 1) y0 y1 y2))
 | 0 => fun _ _ _ r h => by simp [l_eqLinkS.l0] at h
 | k + 1 => by
  have ih0 := l_eqLinkS.mono_l k
  ·intro y0 y1 y2
   unfold l_eqLinkS.l0
   repeat' with_reducible first
   | exact ih0 _ _ _
   | exact LeO.refl _
   | exact LeO.none _
   | refine LeO.ite ?_ ?_
   | refine LeO.bind ?_ (fun _ => ?_)
theorem l_eqLinkS.mono : ∀ a0 a1 k, LeO (l_eqLinkS.f k a0 a1) (l_eqLinkS.f (k + 1) a0 a1) := by
 intro a0 a1 k
 have ih0 := l_eqLinkS.mono_l k
 unfold l_eqLinkS.f
 repeat' with_reducible first
 | exact ih0 _ _ _
 | exact LeO.refl _
 | exact LeO.none _
 | refine LeO.ite ?_ ?_
 | refine LeO.bind ?_ (fun _ => ?_)
def l_eqLinkS.T6 : Bool × List (List Nat × List Nat) := (true, [([], []), ([], []), ([0, 1], [0, 1]), ([2], [2]), ([], []), ([], []), ([4, 5], [4, 5]), ([6], [6]), ([3, 7], [3, 7]), ([8], [8])])
def l_eqLinkS.B6 : List Nat := [0, 0, 3, 7, 0, 0, 48, 112, 255, 511]
theorem l_eqLinkS.tab6 : rtab .any (opsOf Try.f37 6) = l_eqLinkS.T6 := by kernel_rfl
theorem l_eqLinkS.bits6 : waitsOk l_eqLinkS.T6.2 l_eqLinkS.B6 = true := by kernel_rfl
set_option maxRecDepth 100000 in
theorem l_eqLinkS.calls (k : Nat) (A0 : Option Addr) (c0 : Nat) (l0 : List (S50)) (A1 : Option Addr) (c1 : Nat) (l1 : List (S50)) (r : Bool) (w : World) (hr0 : Kd.C k50 w A0 l0.length l0) (hc0 : l0.length ≤ c0) (hr1 : Kd.C k50 w A1 l1.length l1) (hc1 : l1.length ≤ c1) (h : l_eqLinkS.f k l0 l1 = some r) :
  Calls Try.prog 37 #[.slice A0 l0.length c0, .slice A1 l1.length c1] w fun e w' => e = .returned (.bool r) ∧ Below w.heap.size w w' := by
 have hu50 := Try.underlying50
 have HR0 := As.mk hr0
 have HC0 := As.mk hc0
 clear hr0 hc0
 have HR1 := As.mk hr1
 have HC1 := As.mk hc1
 clear hr1 hc1
 have HB : Up w w := ⟨Below.refl _ _⟩
 have H : (if (l0.length : Int) = (l1.length : Int) then (l_eqLinkS.l0 k l0 l1 0) else (some false)) = some r := h
 clear h
 by_cases c3 : (l0.length : Int) = (l1.length : Int)
 ·rw [if_pos c3] at H
  have c3b0 : ((l0.length : Int) == (l1.length : Int)) = true := beq_iff_eq.mpr c3
  have c3b1 : ((l0.length : Int) != (l1.length : Int)) = false := bne_eq_false_iff_eq.mpr c3
  have c3b2 : (l0.length == l1.length) = true := by first | simpa using c3 | (simp at c3 ⊢; omega)
  clear c3
  have H' := As.mk H
  clear H
  go_enter Try.func37, Try.ntmps37
  go_wp2
  go_loopg [5] k (fun kq v5 w' => ∃ (x5_1 : Int), v5 = .int .i64 x5_1 ∧ As (l_eqLinkS.l0 kq l0 l1 x5_1 = some r) ∧ As (kq ≤ k) ∧ Up w w')
  case atStart => exact ⟨(0), (by first | rfl | (simp; done) | (simp [*]; done)), H', ⟨Nat.le_refl _⟩, ⟨uw w⟩⟩
  case round =>
   clear H'
   try clear c3
   try clear c3b0
   try clear c3b1
   try clear c3b2
   obtain ⟨x5_1, rfl, HA, HK1, HB⟩ := hrel
   cases gk with
   | zero => exact absurd HA.out (by simp [l_eqLinkS.l0])
   | succ k1 =>
    have H := HA.out
    clear HA
    simp only [l_eqLinkS.l0] at H
    by_cases c4 : x5_1 < (l0.length : Int)
    ·rw [if_pos c4] at H
     have c4b0 : decide (x5_1 < (l0.length : Int)) = true := decide_eq_true c4
     clear c4
     by_cases c5 : 0 ≤ x5_1
     ·rw [if_pos c5] at H
      have c5b0 : decide (0 ≤ x5_1) = true := decide_eq_true c5
      clear c5
      by_cases c6 : x5_1 < (l1.length : Int)
      ·rw [if_pos c6] at H
       have c6b0 : decide (x5_1 < (l1.length : Int)) = true := decide_eq_true c6
       clear c6
       obtain ⟨t263, A7, H⟩ := bI H
       replace H := bT H; rcases H with ⟨rfl, H⟩ | ⟨rfl, H⟩
       ·have H' := As.mk H
        clear H
        try go_wp2
        have p261 : 0 ≤ (x5_1 : Int) := oD
        have q261 : x5_1 < (l0.length : Int) := oD
        obtain ⟨ad261, e261, hx261_0, hx261_1, hx261_2⟩ := at_T50 HR0.out x5_1 p261 q261
        have hw261_2 := hx261_2
        have hw261_1 := hx261_1
        have hw261_0 := hx261_0
        cases e261
        replace hx261_0 := cx wr hx261_0
        replace hx261_1 := cx wr hx261_1
        replace hx261_2 := cx wr hx261_2
        replace p261 := eq_true p261
        replace q261 := eq_true q261
        have p262 : 0 ≤ (x5_1 : Int) := oD
        have q262 : x5_1 < (l1.length : Int) := oD
        obtain ⟨ad262, e262, hx262_0, hx262_1, hx262_2⟩ := at_T50 HR1.out x5_1 p262 q262
        have hw262_2 := hx262_2
        have hw262_1 := hx262_1
        have hw262_0 := hx262_0
        cases e262
        replace hx262_0 := cx wr hx262_0
        replace hx262_1 := cx wr hx262_1
        replace hx262_2 := cx wr hx262_2
        replace p262 := eq_true p262
        replace q262 := eq_true q262
        refine sV [(0,17),(1,18),(2,19),(4,21),(5,22),(6,23),(3,20),(7,24),(8,25),(9,26)] (fun w' => w'.cell? (ad261.add ((x5_1).toNat * 3)) = some (.int .i64 ((rd_T50 l0 x5_1).f0)) ∧ w'.cell? ⟨(ad261.add ((x5_1).toNat * 3)).block, (ad261.add ((x5_1).toNat * 3)).off + 1, none⟩ = some (.int .i64 ((rd_T50 l0 x5_1).f1)) ∧ w'.cell? ⟨(ad261.add ((x5_1).toNat * 3)).block, (ad261.add ((x5_1).toNat * 3)).off + 2, none⟩ = some (.bool ((rd_T50 l0 x5_1).f2)) ∧ w'.cell? (ad262.add ((x5_1).toNat * 3)) = some (.int .i64 ((rd_T50 l1 x5_1).f0)) ∧ w'.cell? ⟨(ad262.add ((x5_1).toNat * 3)).block, (ad262.add ((x5_1).toNat * 3)).off + 1, none⟩ = some (.int .i64 ((rd_T50 l1 x5_1).f1)) ∧ w'.cell? ⟨(ad262.add ((x5_1).toNat * 3)).block, (ad262.add ((x5_1).toNat * 3)).off + 2, none⟩ = some (.bool ((rd_T50 l1 x5_1).f2))) [] (by kernel_rfl) rfl ⟨(cx wr hw261_0), (cx wr hw261_1), (cx wr hw261_2), (cx wr hw262_0), (cx wr hw262_1), (cx wr hw262_2)⟩ (fun hHeld => ?_); refine wTW l_eqLinkS.tab6 l_eqLinkS.bits6 (fun HT_ HW_ => ?_)
        have hd_ := stD wr
        generalize wr.drew = w9 at hd_ hx261_0 hx261_1 hx261_2 hx262_0 hx262_1 hx262_2 hHeld ⊢
        iterate 6 refine pV rfl rfl (any_of HT_.out (by kernel_rfl)) (by rfl) (fun _ _ _ _ h => h) ⟨_, fun w' => by go_simp; with_reducible rfl, _, by simp only [Act.put, sA, sB, sC, i64_w, i32_w]; rfl, ?_⟩
        iterate 2 refine tV rfl rfl (take_ofW HT_.out HW_.out (by kernel_rfl)) (by rfl) (fun _ _ _ _ h => h) hHeld ⟨_, fun w' s => by go_simp; with_reducible rfl, _, by simp only [Act.put, sA, sB, sC, i64_w, i32_w]; rfl, ?_⟩
        refine oV (N := some 25) rfl rfl (one_of HT_.out (by kernel_rfl)) (by decide) (fun K hK => ?_)
        refine goes_ Try.func102 (by kernel_rfl) rfl #[.agg #[.int .i64 ((rd_T50 l0 x5_1).f0), .int .i64 ((rd_T50 l0 x5_1).f1), .bool ((rd_T50 l0 x5_1).f2)], .agg #[.int .i64 ((rd_T50 l1 x5_1).f0), .int .i64 ((rd_T50 l1 x5_1).f1), .bool ((rd_T50 l1 x5_1).f2)]] (by rfl) rfl rfl (by (try simp only [sD, sE, sF]); first | done | rfl) ?_
        with_reducible refine (l_eqLink.calls ((rd_T50 l0 x5_1).f0) ((rd_T50 l0 x5_1).f1) ((rd_T50 l0 x5_1).f2) ((rd_T50 l1 x5_1).f0) ((rd_T50 l1 x5_1).f1) ((rd_T50 l1 x5_1).f2) true _ A7.out).mono ?_
        rintro e w10 ⟨rfl, hb⟩
        refine ⟨_, rfl, ?_⟩
        have := Stp.mk hb
        refine hK.out _ _ ⟨(cx w10 hw261_0), (cx w10 hw261_1), (cx w10 hw261_2), (cx w10 hw262_0), (cx w10 hw262_1), (cx w10 hw262_2)⟩ (fun hHeld => ?_)
        clear hK K
        refine nV ⟨_, by show Act.put _ (some 25) _ = _; simp only [Act.put, sA, sB, sC, i64_w, i32_w]; rfl, ?_⟩
        refine pV rfl rfl (any_of HT_.out (by kernel_rfl)) (by rfl) (fun _ _ _ _ h => h) ⟨_, fun w' => by go_simp; with_reducible rfl, _, by simp only [Act.put, sA, sB, sC, i64_w, i32_w]; rfl, ?_⟩
        refine dV (done_of HT_.out (by kernel_rfl)) ?_
        try go_wp2
        go_roundg k1
        case measure => have := HK1.out; omega
        case rel => exact ⟨(wrap64 (x5_1 + 1)), (by first | rfl | (simp; done) | (simp [*]; done)), H', ⟨by have := HK1.out; omega⟩, ⟨uw w⟩⟩
       ·obtain rfl := Option.some.inj H
        try go_wp2
        have p261 : 0 ≤ (x5_1 : Int) := oD
        have q261 : x5_1 < (l0.length : Int) := oD
        obtain ⟨ad261, e261, hx261_0, hx261_1, hx261_2⟩ := at_T50 HR0.out x5_1 p261 q261
        have hw261_2 := hx261_2
        have hw261_1 := hx261_1
        have hw261_0 := hx261_0
        cases e261
        replace hx261_0 := cx wr hx261_0
        replace hx261_1 := cx wr hx261_1
        replace hx261_2 := cx wr hx261_2
        replace p261 := eq_true p261
        replace q261 := eq_true q261
        have p262 : 0 ≤ (x5_1 : Int) := oD
        have q262 : x5_1 < (l1.length : Int) := oD
        obtain ⟨ad262, e262, hx262_0, hx262_1, hx262_2⟩ := at_T50 HR1.out x5_1 p262 q262
        have hw262_2 := hx262_2
        have hw262_1 := hx262_1
        have hw262_0 := hx262_0
        cases e262
        replace hx262_0 := cx wr hx262_0
        replace hx262_1 := cx wr hx262_1
        replace hx262_2 := cx wr hx262_2
        replace p262 := eq_true p262
        replace q262 := eq_true q262
        refine sV [(0,17),(1,18),(2,19),(4,21),(5,22),(6,23),(3,20),(7,24),(8,25),(9,26)] (fun w' => w'.cell? (ad261.add ((x5_1).toNat * 3)) = some (.int .i64 ((rd_T50 l0 x5_1).f0)) ∧ w'.cell? ⟨(ad261.add ((x5_1).toNat * 3)).block, (ad261.add ((x5_1).toNat * 3)).off + 1, none⟩ = some (.int .i64 ((rd_T50 l0 x5_1).f1)) ∧ w'.cell? ⟨(ad261.add ((x5_1).toNat * 3)).block, (ad261.add ((x5_1).toNat * 3)).off + 2, none⟩ = some (.bool ((rd_T50 l0 x5_1).f2)) ∧ w'.cell? (ad262.add ((x5_1).toNat * 3)) = some (.int .i64 ((rd_T50 l1 x5_1).f0)) ∧ w'.cell? ⟨(ad262.add ((x5_1).toNat * 3)).block, (ad262.add ((x5_1).toNat * 3)).off + 1, none⟩ = some (.int .i64 ((rd_T50 l1 x5_1).f1)) ∧ w'.cell? ⟨(ad262.add ((x5_1).toNat * 3)).block, (ad262.add ((x5_1).toNat * 3)).off + 2, none⟩ = some (.bool ((rd_T50 l1 x5_1).f2))) [] (by kernel_rfl) rfl ⟨(cx wr hw261_0), (cx wr hw261_1), (cx wr hw261_2), (cx wr hw262_0), (cx wr hw262_1), (cx wr hw262_2)⟩ (fun hHeld => ?_); refine wTW l_eqLinkS.tab6 l_eqLinkS.bits6 (fun HT_ HW_ => ?_)
        have hd_ := stD wr
        generalize wr.drew = w11 at hd_ hx261_0 hx261_1 hx261_2 hx262_0 hx262_1 hx262_2 hHeld ⊢
        iterate 6 refine pV rfl rfl (any_of HT_.out (by kernel_rfl)) (by rfl) (fun _ _ _ _ h => h) ⟨_, fun w' => by go_simp; with_reducible rfl, _, by simp only [Act.put, sA, sB, sC, i64_w, i32_w]; rfl, ?_⟩
        iterate 2 refine tV rfl rfl (take_ofW HT_.out HW_.out (by kernel_rfl)) (by rfl) (fun _ _ _ _ h => h) hHeld ⟨_, fun w' s => by go_simp; with_reducible rfl, _, by simp only [Act.put, sA, sB, sC, i64_w, i32_w]; rfl, ?_⟩
        refine oV (N := some 25) rfl rfl (one_of HT_.out (by kernel_rfl)) (by decide) (fun K hK => ?_)
        refine goes_ Try.func102 (by kernel_rfl) rfl #[.agg #[.int .i64 ((rd_T50 l0 x5_1).f0), .int .i64 ((rd_T50 l0 x5_1).f1), .bool ((rd_T50 l0 x5_1).f2)], .agg #[.int .i64 ((rd_T50 l1 x5_1).f0), .int .i64 ((rd_T50 l1 x5_1).f1), .bool ((rd_T50 l1 x5_1).f2)]] (by rfl) rfl rfl (by (try simp only [sD, sE, sF]); first | done | rfl) ?_
        with_reducible refine (l_eqLink.calls ((rd_T50 l0 x5_1).f0) ((rd_T50 l0 x5_1).f1) ((rd_T50 l0 x5_1).f2) ((rd_T50 l1 x5_1).f0) ((rd_T50 l1 x5_1).f1) ((rd_T50 l1 x5_1).f2) false _ A7.out).mono ?_
        rintro e w12 ⟨rfl, hb⟩
        refine ⟨_, rfl, ?_⟩
        have := Stp.mk hb
        refine hK.out _ _ ⟨(cx w12 hw261_0), (cx w12 hw261_1), (cx w12 hw261_2), (cx w12 hw262_0), (cx w12 hw262_1), (cx w12 hw262_2)⟩ (fun hHeld => ?_)
        clear hK K
        refine nV ⟨_, by show Act.put _ (some 25) _ = _; simp only [Act.put, sA, sB, sC, i64_w, i32_w]; rfl, ?_⟩
        refine pV rfl rfl (any_of HT_.out (by kernel_rfl)) (by rfl) (fun _ _ _ _ h => h) ⟨_, fun w' => by go_simp; with_reducible rfl, _, by simp only [Act.put, sA, sB, sC, i64_w, i32_w]; rfl, ?_⟩
        refine dV (done_of HT_.out (by kernel_rfl)) ?_
        try go_wp2
        go_ret
        exact ⟨by first | rfl | (simp [*, errW_none, errW_some] <;> rfl), uw w⟩
      ·rw [if_neg c6] at H
       exact absurd H (by simp)
     ·rw [if_neg c5] at H
      exact absurd H (by simp)
    ·rw [if_neg c4] at H
     have c4b0 : decide (x5_1 < (l0.length : Int)) = false := decide_eq_false c4
     clear c4
     obtain rfl := Option.some.inj H
     go_wp2
     go_ret
     exact ⟨by first | rfl | (simp [*, errW_none, errW_some] <;> rfl), uw w⟩
 ·rw [if_neg c3] at H
  have c3b0 : ((l0.length : Int) == (l1.length : Int)) = false := beq_eq_false_iff_ne.mpr c3
  have c3b1 : ((l0.length : Int) != (l1.length : Int)) = true := bne_iff_ne.mpr c3
  have c3b2 : (l0.length == l1.length) = false := by first | simpa using c3 | (simp at c3 ⊢; omega)
  obtain rfl := Option.some.inj H
  go_enter Try.func37, Try.ntmps37
  go_wp2
  go_ret
  exact ⟨by first | rfl | (simp [*, errW_none, errW_some] <;> rfl), uw w⟩
end Go.Proofs.Ytnfnlmilmpaofaa.PFnExactTreeOfTiling
namespace Go.Proofs.Ytnfnlmilmpaofaa.PFnExactTreeOfTiling
open Go.RowKit Go.Proofs.YtnfnlmilmpaofaaW.PrintWords Go.Proofs.YtnfnlmilmpaofaaW.PrintLast Go.Proofs.YtnfnlmilmpaofaaW.PrintMore
attribute [local go_sem] max2_int min2_int max_two min_two max_three min_three max_four min_four
set_option linter.unusedVariables false
set_option linter.unusedSimpArgs false
def l_markLinkS.l0 : Nat → List (S50) → Int → Int → Option (Int × (List (S50)))
 | 0, _, _, _ => none
 | k + 1, x0, x1, x5 => if x5 < (x0.length : Int) then (if 0 ≤ x5 then ((some (x0.set (x5 : Int).toNat (⟨x1, (rd_T50 x0 x5).f1, (rd_T50 x0 x5).f2⟩ : S50) : List (S50))).bind fun y264 => ((some (y264.set (x5 : Int).toNat (⟨(rd_T50 y264 x5).f0, wrap64 (x1 + 1), (rd_T50 y264 x5).f2⟩ : S50) : List (S50))).bind fun y265 => (l_markLinkS.l0 k (y265.set (x5 : Int).toNat (⟨(rd_T50 y265 x5).f0, (rd_T50 y265 x5).f1, ((Int.tmod (wrap64 ((wrap64 (x1 + 1)) + 1)) 3) == 0)⟩ : S50)) (wrap64 ((wrap64 ((wrap64 (x1 + 1)) + 1)) + 1)) (wrap64 (x5 + 1))))) else (none)) else (some (x1, x0))
def l_markLinkS.f (k : Nat) (l0 : List (S50)) (a1 : Int) : Option (Int × (List (S50))) := l_markLinkS.l0 k l0 a1 0
theorem l_markLinkS.mono_l : ∀ k, (∀ y0 y1 y2, LeO (l_markLinkS.l0 k y0 y1 y2) (l_markLinkS.l0 (k + 1) y0 y1 y2))
 | 0 => fun _ _ _ r h => by simp [l_markLinkS.l0] at h
 | k + 1 => by
  have ih0 := l_markLinkS.mono_l k
  ·intro y0 y1 y2
   unfold l_markLinkS.l0
   repeat' with_reducible first
   | exact ih0 _ _ _
   | exact LeO.refl _
   | exact LeO.none _
   | refine LeO.ite ?_ ?_
   | refine LeO.bind ?_ (fun _ => ?_)
theorem l_markLinkS.mono : ∀ a0 a1 k, LeO (l_markLinkS.f k a0 a1) (l_markLinkS.f (k + 1) a0 a1) := by
 intro a0 a1 k
 have ih0 := l_markLinkS.mono_l k
 unfold l_markLinkS.f
 repeat' with_reducible first
 | exact ih0 _ _ _
 | exact LeO.refl _
 | exact LeO.none _
 | refine LeO.ite ?_ ?_
 | refine LeO.bind ?_ (fun _ => ?_)
set_option maxRecDepth 100000 in
theorem l_markLinkS.calls (k : Nat) (P0_ : Nat → Prop) (u9000_ : Value) (l0 : List (S50)) (a1 : Int) (r1 : Int) (r2 : List (S50)) (w0 w : World) (hB : Below w0.heap.size w0 w) (ho0 : Kd.R k50 50 w w0.heap.size P0_ u9000_ l0) (h : l_markLinkS.f k l0 a1 = some (r1, r2)) :
  Calls Try.prog 38 #[u9000_, .int .i64 a1] w fun e w' => e = .returned (.int .i64 r1) ∧ Kd.R k50 50 w' w0.heap.size (fun k_ => (P0_ k_ ∨ w.heap.size ≤ k_)) u9000_ r2 ∧ Below w0.heap.size w0 w' ∧ Kept w w' (fun k_ => P0_ k_) := by
 have HO0 := As.mk (show Kd.R k50 50 w w0.heap.size (fun k_ => (P0_ k_ ∨ w.heap.size ≤ k_)) u9000_ l0 from Kd.R_mono ho0 (fun k_ hk => (.inl hk)))
 have HK := As.mk (Kept.refl w (fun k_ => P0_ k_))
 have HW0 := As.mk hB.size
 have HB := As.mk hB
 clear hB
 have H : (l_markLinkS.l0 k l0 a1 0) = some (r1, r2) := h
 clear h
 have H' := As.mk H
 clear H
 go_enter Try.func38, Try.ntmps38
 go_wp2
 go_loopg [1, 5] k (fun kq v1 v5 w' => ∃ (x0_1 : List (S50)) (x1_1 : Int) (x5_1 : Int), v1 = .int .i64 x1_1 ∧ v5 = .int .i64 x5_1 ∧ As (l_markLinkS.l0 kq x0_1 x1_1 x5_1 = some (r1, r2)) ∧ As (kq ≤ k) ∧ As (Kd.R k50 50 w' w0.heap.size (fun k_ => (P0_ k_ ∨ w.heap.size ≤ k_)) u9000_ x0_1) ∧ As (Kept w w' (fun k_ => P0_ k_)) ∧ As (Below w0.heap.size w0 w'))
 case atStart => exact ⟨(l0), (a1), (0), (by first | rfl | (simp; done) | (simp [*]; done)), (by first | rfl | (simp; done) | (simp [*]; done)), H', ⟨Nat.le_refl _⟩, ⟨rX HO0.out⟩, ⟨by repeat (first | (with_reducible first | exact HK.out | apply Kept.alloc | apply Kept.drewN | apply Kept.drew) | exact HK.out)⟩, ⟨bX HB.out⟩⟩
 case round =>
  clear H'
  obtain ⟨x0_1, x1_1, x5_1, rfl, rfl, HA, HK1, HO_0, HK, HB⟩ := hrel
  cases gk with
  | zero => exact absurd HA.out (by simp [l_markLinkS.l0])
  | succ k1 =>
   have H := HA.out
   clear HA
   simp only [l_markLinkS.l0] at H
   by_cases c3 : x5_1 < (x0_1.length : Int)
   ·rw [if_pos c3] at H
    have c3b0 : decide (x5_1 < (x0_1.length : Int)) = true := decide_eq_true c3
    clear c3
    by_cases c4 : 0 ≤ x5_1
    ·rw [if_pos c4] at H
     have c4b0 : decide (0 ≤ x5_1) = true := decide_eq_true c4
     clear c4
     obtain ⟨y264, hy264⟩ : ∃ y_ : List (S50), y_ = (x0_1.set (x5_1 : Int).toNat (⟨x1_1, (rd_T50 x0_1 x5_1).f1, (rd_T50 x0_1 x5_1).f2⟩ : S50)) := ⟨_, rfl⟩
     replace H : ((some (y264.set (x5_1 : Int).toNat (⟨(rd_T50 y264 x5_1).f0, wrap64 (x1_1 + 1), (rd_T50 y264 x5_1).f2⟩ : S50) : List (S50))).bind fun y265 => (l_markLinkS.l0 k1 (y265.set (x5_1 : Int).toNat (⟨(rd_T50 y265 x5_1).f0, (rd_T50 y265 x5_1).f1, ((Int.tmod (wrap64 ((wrap64 (x1_1 + 1)) + 1)) 3) == 0)⟩ : S50)) (wrap64 ((wrap64 ((wrap64 (x1_1 + 1)) + 1)) + 1)) (wrap64 (x5_1 + 1)))) = some (r1, r2) := by first | (rw [hy264]; with_reducible exact H) | (have H2_ := (Option.bind_some _ _).symm.trans H; rw [hy264]; with_reducible exact H2_) | (have H2_ := (Option.bind_some _ _).symm.trans H; with_reducible exact H2_) | with_reducible exact H | (rw [hy264]; exact H) | exact H
     have Ny264 := As.mk hy264
     clear hy264
     obtain ⟨y265, hy265⟩ : ∃ y_ : List (S50), y_ = (y264.set (x5_1 : Int).toNat (⟨(rd_T50 y264 x5_1).f0, wrap64 (x1_1 + 1), (rd_T50 y264 x5_1).f2⟩ : S50)) := ⟨_, rfl⟩
     replace H : (l_markLinkS.l0 k1 (y265.set (x5_1 : Int).toNat (⟨(rd_T50 y265 x5_1).f0, (rd_T50 y265 x5_1).f1, ((Int.tmod (wrap64 ((wrap64 (x1_1 + 1)) + 1)) 3) == 0)⟩ : S50)) (wrap64 ((wrap64 ((wrap64 (x1_1 + 1)) + 1)) + 1)) (wrap64 (x5_1 + 1))) = some (r1, r2) := by first | (rw [hy265]; with_reducible exact H) | (have H2_ := (Option.bind_some _ _).symm.trans H; rw [hy265]; with_reducible exact H2_) | (have H2_ := (Option.bind_some _ _).symm.trans H; with_reducible exact H2_) | with_reducible exact H | (rw [hy265]; exact H) | exact H
     have Ny265 := As.mk hy265
     clear hy265
     obtain ⟨y266, hy266⟩ : ∃ y_ : List (S50), y_ = (y265.set (x5_1 : Int).toNat (⟨(rd_T50 y265 x5_1).f0, (rd_T50 y265 x5_1).f1, ((Int.tmod (wrap64 ((wrap64 (x1_1 + 1)) + 1)) 3) == 0)⟩ : S50)) := ⟨_, rfl⟩
     replace H : (l_markLinkS.l0 k1 y266 (wrap64 ((wrap64 ((wrap64 (x1_1 + 1)) + 1)) + 1)) (wrap64 (x5_1 + 1))) = some (r1, r2) := by first | (rw [hy266]; with_reducible exact H) | (have H2_ := (Option.bind_some _ _).symm.trans H; rw [hy266]; with_reducible exact H2_) | (have H2_ := (Option.bind_some _ _).symm.trans H; with_reducible exact H2_) | with_reducible exact H | (rw [hy266]; exact H) | exact H
     have Ny266 := As.mk hy266
     clear hy266
     have H' := As.mk H
     clear H
     obtain ⟨Ao8, co8, eo8⟩ := Kd.R_slice HO_0.out
     subst eo8
     have p5 : 0 ≤ (x5_1 : Int) := oD
     have q5 : (x5_1 : Int) < ((x0_1.length : Int) : Int) := oD
     obtain ⟨go5, co5, eo5, gb5, gl5, cl5, HG5⟩ := Kd.R_form HO_0.out (by omega)
     (first | cases eo5 | (injection eo5 with ea_ en_ ec_; (first | subst ea_ | (injection ea_ with ea_; subst ea_)); subst ec_; clear en_))
     have GB5 := As.mk gb5
     have GG5 := As.mk HG5
     clear gb5 gl5 HG5
     have HMgo5 := As.mk (show (P0_ go5 ∨ w.heap.size ≤ go5) from (HO_0.out.1 _ rfl))
     obtain ⟨ce5, hcl5, hM5, hcc5, hfr5⟩ := Kd.R_elem HO_0.out z50 (x5_1 : Int) p5 q5
     obtain rfl := k50_openM hM5
     have hx5_0 : wr.cell? ⟨go5, (x5_1 : Int).toNat * 3, none⟩ = some (.int .i64 ((rd_T50 x0_1 x5_1).f0)) := hcc5 0 _ rfl
     have hx5_1 : wr.cell? ⟨go5, (x5_1 : Int).toNat * 3 + 1, none⟩ = some (.int .i64 ((rd_T50 x0_1 x5_1).f1)) := hcc5 1 _ rfl
     have hx5_2 : wr.cell? ⟨go5, (x5_1 : Int).toNat * 3 + 2, none⟩ = some (.bool ((rd_T50 x0_1 x5_1).f2)) := hcc5 2 _ rfl
     have hf5_0 : wr.frozen? ⟨go5, (x5_1 : Int).toNat * 3, none⟩ = false := hfr5 0
     have hf5_1 : wr.frozen? ⟨go5, (x5_1 : Int).toNat * 3 + 1, none⟩ = false := hfr5 1
     have hf5_2 : wr.frozen? ⟨go5, (x5_1 : Int).toNat * 3 + 2, none⟩ = false := hfr5 2
     clear hcl5 hcc5 hfr5 hM5
     replace p5 := eq_true p5
     replace q5 := eq_true q5
     have HX9 := As.mk (show Kd.R k50 50 wr w0.heap.size (fun k_ => (P0_ k_ ∨ w.heap.size ≤ k_)) (.slice (some ⟨go5, 0, none⟩) x0_1.length co8) x0_1 from (rX HO_0.out))
     obtain ⟨ce9, hcl9, hM9, hcc9, hfr9⟩ := Kd.R_elem HX9.out z50 (x5_1 : Int) (oD) (by have h_ : (x5_1 : Int) < ((x0_1.length : Int) : Int) := oD; first | exact h_ | (have e_ := (Kd.R_reads' HO_0.out).1; omega) | simpa using h_)
     obtain rfl := k50_openM hM9
     have HP9 := Kd.R_seg HX9.out (x5_1 : Int) (oD) (by have h_ : (x5_1 : Int) < ((x0_1.length : Int) : Int) := oD; first | exact h_ | (have e_ := (Kd.R_reads' HO_0.out).1; omega) | simpa using h_) (seg := [.int .i64 x1_1]) (j := 0) hcl9 hcc9 (show 1 ≤ 3 from by decide) (x' := (⟨x1_1, (rd_T50 x0_1 x5_1).f1, (rd_T50 x0_1 x5_1).f2⟩ : S50)) (k50_mkM _ _ _ (⟨x1_1, (rd_T50 x0_1 x5_1).f1, (rd_T50 x0_1 x5_1).f2⟩ : S50) ) (fun _ hk => hk)
     have hx9_0 := hcc9 0 _ rfl
     (try simp only [show (k50).sz = 3 from rfl, Nat.mul_one, Nat.add_zero] at hx9_0)
     have hf9_0 := hfr9 0
     (try simp only [show (k50).sz = 3 from rfl, Nat.mul_one, Nat.add_zero] at hf9_0)
     clear hcl9 hcc9 hfr9 hM9
     go_wp2_with (first | ((with_reducible refine gate_store (t := 3) (p := 16) rfl ?_); refine store_event (t := 3) (p := 16) (v := ?vo_w10) (w1 := (wr.setCell ⟨go5, (x5_1 : Int).toNat * 3, none⟩ (.int .i64 x1_1))) ?hg ?ho ?hn ?hr ?_; (case ho => rfl); (case hg => rfl); (case hn => rfl); (case hr => first | (go_simp; done) | (go_simp; rfl)); intro w10 hw; have hg : wr.grownBy w10 (some go5) := (by rw [hw]; exact HP9.2); have hp_ : Kd.R k50 50 w10 w0.heap.size (fun k_ => (P0_ k_ ∨ w.heap.size ≤ k_)) (.slice (some ⟨go5, 0, none⟩) x0_1.length co8) y264 := (by rw [hw, Ny264.out]; exact HP9.1); clear HP9; have n0_ := As.mk (hp_); have n1_ := As.mk ((by rw [hw]; exact below_set (HB.out) GB5.out : Below w0.heap.size w0 w10)); have n2_ := As.mk (Kept.of_grown (S := (fun k_ => P0_ k_)) hg (by repeat (first | (with_reducible first | exact HK.out | apply Kept.alloc | apply Kept.drewN | apply Kept.drew) | exact HK.out)) (fun k_ e_ => (HO_0.out.1 k_ e_))); clear HO_0; clear HB; clear HK; have HO_0 := n0_; have HB := n1_; have HK := n2_; clear n0_ n1_ n2_; clear hg hw hp_; have p6 : 0 ≤ (x5_1 : Int) := oD; have q6 : (x5_1 : Int) < ((x0_1.length : Int) : Int) := oD; obtain ⟨ce6, hcl6, hM6, hcc6, hfr6⟩ := Kd.R_elem HO_0.out z50 (x5_1 : Int) p6 q6; obtain rfl := k50_openM hM6; have hx6_0 : w10.cell? ⟨go5, (x5_1 : Int).toNat * 3, none⟩ = some (.int .i64 ((rd_T50 y264 x5_1).f0)) := hcc6 0 _ rfl; have hx6_1 : w10.cell? ⟨go5, (x5_1 : Int).toNat * 3 + 1, none⟩ = some (.int .i64 ((rd_T50 y264 x5_1).f1)) := hcc6 1 _ rfl; have hx6_2 : w10.cell? ⟨go5, (x5_1 : Int).toNat * 3 + 2, none⟩ = some (.bool ((rd_T50 y264 x5_1).f2)) := hcc6 2 _ rfl; have hf6_0 : w10.frozen? ⟨go5, (x5_1 : Int).toNat * 3, none⟩ = false := hfr6 0; have hf6_1 : w10.frozen? ⟨go5, (x5_1 : Int).toNat * 3 + 1, none⟩ = false := hfr6 1; have hf6_2 : w10.frozen? ⟨go5, (x5_1 : Int).toNat * 3 + 2, none⟩ = false := hfr6 2; clear hcl6 hcc6 hfr6 hM6; replace p6 := eq_true p6; replace q6 := eq_true q6; have HX11 := As.mk (show Kd.R k50 50 w10 w0.heap.size (fun k_ => (P0_ k_ ∨ w.heap.size ≤ k_)) (.slice (some ⟨go5, 0, none⟩) x0_1.length co8) y264 from (rX HO_0.out)); obtain ⟨ce11, hcl11, hM11, hcc11, hfr11⟩ := Kd.R_elem HX11.out z50 (x5_1 : Int) (oD) (by have h_ : (x5_1 : Int) < ((x0_1.length : Int) : Int) := oD; first | exact h_ | (have e_ := (Kd.R_reads' HO_0.out).1; omega) | simpa using h_); obtain rfl := k50_openM hM11; have HP11 := Kd.R_seg HX11.out (x5_1 : Int) (oD) (by have h_ : (x5_1 : Int) < ((x0_1.length : Int) : Int) := oD; first | exact h_ | (have e_ := (Kd.R_reads' HO_0.out).1; omega) | simpa using h_) (seg := [.int .i64 (wrap64 (x1_1 + 1))]) (j := 1) hcl11 hcc11 (show 2 ≤ 3 from by decide) (x' := (⟨(rd_T50 y264 x5_1).f0, wrap64 (x1_1 + 1), (rd_T50 y264 x5_1).f2⟩ : S50)) (k50_mkM _ _ _ (⟨(rd_T50 y264 x5_1).f0, wrap64 (x1_1 + 1), (rd_T50 y264 x5_1).f2⟩ : S50) ) (fun _ hk => hk); have hx11_1 := hcc11 1 _ rfl; (try simp only [show (k50).sz = 3 from rfl, Nat.mul_one, Nat.add_zero] at hx11_1); have hf11_1 := hfr11 1; (try simp only [show (k50).sz = 3 from rfl, Nat.mul_one, Nat.add_zero] at hf11_1); clear hcl11 hcc11 hfr11 hM11) | ((with_reducible refine gate_store (t := 3) (p := 23) rfl ?_); refine store_event (t := 3) (p := 23) (v := ?vo_w12) (w1 := (w10.setCell ⟨go5, (x5_1 : Int).toNat * 3 + 1, none⟩ (.int .i64 (wrap64 (x1_1 + 1))))) ?hg ?ho ?hn ?hr ?_; (case ho => rfl); (case hg => rfl); (case hn => rfl); (case hr => first | (go_simp; done) | (go_simp; rfl)); intro w12 hw; have hg : w10.grownBy w12 (some go5) := (by rw [hw]; exact HP11.2); have hp_ : Kd.R k50 50 w12 w0.heap.size (fun k_ => (P0_ k_ ∨ w.heap.size ≤ k_)) (.slice (some ⟨go5, 0, none⟩) x0_1.length co8) y265 := (by rw [hw, Ny265.out]; exact HP11.1); clear HP11; have n0_ := As.mk (hp_); have n1_ := As.mk ((by rw [hw]; exact below_set (HB.out) GB5.out : Below w0.heap.size w0 w12)); have n2_ := As.mk (Kept.of_grown (S := (fun k_ => P0_ k_)) hg (by repeat (first | (with_reducible first | exact HK.out | apply Kept.alloc | apply Kept.drewN | apply Kept.drew) | exact HK.out)) (fun k_ e_ => (HO_0.out.1 k_ e_))); clear HO_0; clear HB; clear HK; have HO_0 := n0_; have HB := n1_; have HK := n2_; clear n0_ n1_ n2_; clear hg hw hp_; have p7 : 0 ≤ (x5_1 : Int) := oD; have q7 : (x5_1 : Int) < ((x0_1.length : Int) : Int) := oD; obtain ⟨ce7, hcl7, hM7, hcc7, hfr7⟩ := Kd.R_elem HO_0.out z50 (x5_1 : Int) p7 q7; obtain rfl := k50_openM hM7; have hx7_0 : w12.cell? ⟨go5, (x5_1 : Int).toNat * 3, none⟩ = some (.int .i64 ((rd_T50 y265 x5_1).f0)) := hcc7 0 _ rfl; have hx7_1 : w12.cell? ⟨go5, (x5_1 : Int).toNat * 3 + 1, none⟩ = some (.int .i64 ((rd_T50 y265 x5_1).f1)) := hcc7 1 _ rfl; have hx7_2 : w12.cell? ⟨go5, (x5_1 : Int).toNat * 3 + 2, none⟩ = some (.bool ((rd_T50 y265 x5_1).f2)) := hcc7 2 _ rfl; have hf7_0 : w12.frozen? ⟨go5, (x5_1 : Int).toNat * 3, none⟩ = false := hfr7 0; have hf7_1 : w12.frozen? ⟨go5, (x5_1 : Int).toNat * 3 + 1, none⟩ = false := hfr7 1; have hf7_2 : w12.frozen? ⟨go5, (x5_1 : Int).toNat * 3 + 2, none⟩ = false := hfr7 2; clear hcl7 hcc7 hfr7 hM7; replace p7 := eq_true p7; replace q7 := eq_true q7; have HX13 := As.mk (show Kd.R k50 50 w12 w0.heap.size (fun k_ => (P0_ k_ ∨ w.heap.size ≤ k_)) (.slice (some ⟨go5, 0, none⟩) x0_1.length co8) y265 from (rX HO_0.out)); obtain ⟨ce13, hcl13, hM13, hcc13, hfr13⟩ := Kd.R_elem HX13.out z50 (x5_1 : Int) (oD) (by have h_ : (x5_1 : Int) < ((x0_1.length : Int) : Int) := oD; first | exact h_ | (have e_ := (Kd.R_reads' HO_0.out).1; omega) | simpa using h_); obtain rfl := k50_openM hM13; have HP13 := Kd.R_seg HX13.out (x5_1 : Int) (oD) (by have h_ : (x5_1 : Int) < ((x0_1.length : Int) : Int) := oD; first | exact h_ | (have e_ := (Kd.R_reads' HO_0.out).1; omega) | simpa using h_) (seg := [.bool ((Int.tmod (wrap64 ((wrap64 (x1_1 + 1)) + 1)) 3) == 0)]) (j := 2) hcl13 hcc13 (show 3 ≤ 3 from by decide) (x' := (⟨(rd_T50 y265 x5_1).f0, (rd_T50 y265 x5_1).f1, ((Int.tmod (wrap64 ((wrap64 (x1_1 + 1)) + 1)) 3) == 0)⟩ : S50)) (k50_mkM _ _ _ (⟨(rd_T50 y265 x5_1).f0, (rd_T50 y265 x5_1).f1, ((Int.tmod (wrap64 ((wrap64 (x1_1 + 1)) + 1)) 3) == 0)⟩ : S50) ) (fun _ hk => hk); have hx13_2 := hcc13 2 _ rfl; (try simp only [show (k50).sz = 3 from rfl, Nat.mul_one, Nat.add_zero] at hx13_2); have hf13_2 := hfr13 2; (try simp only [show (k50).sz = 3 from rfl, Nat.mul_one, Nat.add_zero] at hf13_2); clear hcl13 hcc13 hfr13 hM13) | ((with_reducible refine gate_store (t := 4) (p := 32) rfl ?_); refine store_event (t := 4) (p := 32) (v := ?vo_w14) (w1 := (w12.setCell ⟨go5, (x5_1 : Int).toNat * 3 + 2, none⟩ (.bool ((Int.tmod (wrap64 ((wrap64 (x1_1 + 1)) + 1)) 3) == 0)))) ?hg ?ho ?hn ?hr ?_; (case ho => rfl); (case hg => rfl); (case hn => rfl); (case hr => first | (go_simp; done) | (go_simp; rfl)); intro w14 hw; have hg : w12.grownBy w14 (some go5) := (by rw [hw]; exact HP13.2); have hp_ : Kd.R k50 50 w14 w0.heap.size (fun k_ => (P0_ k_ ∨ w.heap.size ≤ k_)) (.slice (some ⟨go5, 0, none⟩) x0_1.length co8) y266 := (by rw [hw, Ny266.out]; exact HP13.1); clear HP13; have n0_ := As.mk (hp_); have n1_ := As.mk ((by rw [hw]; exact below_set (HB.out) GB5.out : Below w0.heap.size w0 w14)); have n2_ := As.mk (Kept.of_grown (S := (fun k_ => P0_ k_)) hg (by repeat (first | (with_reducible first | exact HK.out | apply Kept.alloc | apply Kept.drewN | apply Kept.drew) | exact HK.out)) (fun k_ e_ => (HO_0.out.1 k_ e_))); clear HO_0; clear HB; clear HK; have HO_0 := n0_; have HB := n1_; have HK := n2_; clear n0_ n1_ n2_; clear hg hw hp_))
     go_roundg k1
     case measure => have := HK1.out; omega
     case rel => exact ⟨(y266), (wrap64 ((wrap64 ((wrap64 (x1_1 + 1)) + 1)) + 1)), (wrap64 (x5_1 + 1)), (by first | rfl | (simp; done) | (simp [*]; done)), (by first | rfl | (simp; done) | (simp [*]; done)), H', ⟨by have := HK1.out; omega⟩, ⟨rX HO_0.out⟩, ⟨by repeat (first | (with_reducible first | exact HK.out | apply Kept.alloc | apply Kept.drewN | apply Kept.drew) | exact HK.out)⟩, ⟨bX HB.out⟩⟩
    ·rw [if_neg c4] at H
     exact absurd H (by simp)
   ·rw [if_neg c3] at H
    have c3b0 : decide (x5_1 < (x0_1.length : Int)) = false := decide_eq_false c3
    clear c3
    simp only [Option.some.injEq, Prod.mk.injEq] at H
    obtain ⟨rfl, rfl⟩ := H
    obtain ⟨Ao15, co15, eo15⟩ := Kd.R_slice HO_0.out
    subst eo15
    go_wp2
    go_ret
    exact ⟨by first | rfl | (simp [*, errW_none, errW_some] <;> rfl), rX HO_0.out, bX HB.out, by repeat (first | (with_reducible first | exact HK.out | apply Kept.alloc | apply Kept.drewN | apply Kept.drew) | exact HK.out)⟩
def l_markDominoS.l0 : Nat → List (S41) → Int → Int → Option (Int × (List (S41)))
 | 0, _, _, _ => none
 | k + 1, x0, x1, x5 => if x5 < (x0.length : Int) then (if 0 ≤ x5 then ((some (x0.set (x5 : Int).toNat (⟨x1, (rd_T41 x0 x5).f1, (rd_T41 x0 x5).f2⟩ : S41) : List (S41))).bind fun y267 => ((some (y267.set (x5 : Int).toNat (⟨(rd_T41 y267 x5).f0, wrap64 (x1 + 1), (rd_T41 y267 x5).f2⟩ : S41) : List (S41))).bind fun y268 => (l_markDominoS.l0 k (y268.set (x5 : Int).toNat (⟨(rd_T41 y268 x5).f0, (rd_T41 y268 x5).f1, ((Int.tmod (wrap64 ((wrap64 (x1 + 1)) + 1)) 3) == 0)⟩ : S41)) (wrap64 ((wrap64 ((wrap64 (x1 + 1)) + 1)) + 1)) (wrap64 (x5 + 1))))) else (none)) else (some (x1, x0))
def l_markDominoS.f (k : Nat) (l0 : List (S41)) (a1 : Int) : Option (Int × (List (S41))) := l_markDominoS.l0 k l0 a1 0
theorem l_markDominoS.mono_l : ∀ k, (∀ y0 y1 y2, LeO (l_markDominoS.l0 k y0 y1 y2) (l_markDominoS.l0 (k + 1) y0 y1 y2))
 | 0 => fun _ _ _ r h => by simp [l_markDominoS.l0] at h
 | k + 1 => by
  have ih0 := l_markDominoS.mono_l k
  ·intro y0 y1 y2
   unfold l_markDominoS.l0
   repeat' with_reducible first
   | exact ih0 _ _ _
   | exact LeO.refl _
   | exact LeO.none _
   | refine LeO.ite ?_ ?_
   | refine LeO.bind ?_ (fun _ => ?_)
theorem l_markDominoS.mono : ∀ a0 a1 k, LeO (l_markDominoS.f k a0 a1) (l_markDominoS.f (k + 1) a0 a1) := by
 intro a0 a1 k
 have ih0 := l_markDominoS.mono_l k
 unfold l_markDominoS.f
 repeat' with_reducible first
 | exact ih0 _ _ _
 | exact LeO.refl _
 | exact LeO.none _
 | refine LeO.ite ?_ ?_
 | refine LeO.bind ?_ (fun _ => ?_)
set_option maxRecDepth 100000 in
theorem l_markDominoS.calls (k : Nat) (P0_ : Nat → Prop) (u9000_ : Value) (l0 : List (S41)) (a1 : Int) (r1 : Int) (r2 : List (S41)) (w0 w : World) (hB : Below w0.heap.size w0 w) (ho0 : Kd.R k41 41 w w0.heap.size P0_ u9000_ l0) (h : l_markDominoS.f k l0 a1 = some (r1, r2)) :
  Calls Try.prog 39 #[u9000_, .int .i64 a1] w fun e w' => e = .returned (.int .i64 r1) ∧ Kd.R k41 41 w' w0.heap.size (fun k_ => (P0_ k_ ∨ w.heap.size ≤ k_)) u9000_ r2 ∧ Below w0.heap.size w0 w' ∧ Kept w w' (fun k_ => P0_ k_) := by
 have HO0 := As.mk (show Kd.R k41 41 w w0.heap.size (fun k_ => (P0_ k_ ∨ w.heap.size ≤ k_)) u9000_ l0 from Kd.R_mono ho0 (fun k_ hk => (.inl hk)))
 have HK := As.mk (Kept.refl w (fun k_ => P0_ k_))
 have HW0 := As.mk hB.size
 have HB := As.mk hB
 clear hB
 have H : (l_markDominoS.l0 k l0 a1 0) = some (r1, r2) := h
 clear h
 have H' := As.mk H
 clear H
 go_enter Try.func39, Try.ntmps39
 go_wp2
 go_loopg [1, 5] k (fun kq v1 v5 w' => ∃ (x0_1 : List (S41)) (x1_1 : Int) (x5_1 : Int), v1 = .int .i64 x1_1 ∧ v5 = .int .i64 x5_1 ∧ As (l_markDominoS.l0 kq x0_1 x1_1 x5_1 = some (r1, r2)) ∧ As (kq ≤ k) ∧ As (Kd.R k41 41 w' w0.heap.size (fun k_ => (P0_ k_ ∨ w.heap.size ≤ k_)) u9000_ x0_1) ∧ As (Kept w w' (fun k_ => P0_ k_)) ∧ As (Below w0.heap.size w0 w'))
 case atStart => exact ⟨(l0), (a1), (0), (by first | rfl | (simp; done) | (simp [*]; done)), (by first | rfl | (simp; done) | (simp [*]; done)), H', ⟨Nat.le_refl _⟩, ⟨rX HO0.out⟩, ⟨by repeat (first | (with_reducible first | exact HK.out | apply Kept.alloc | apply Kept.drewN | apply Kept.drew) | exact HK.out)⟩, ⟨bX HB.out⟩⟩
 case round =>
  clear H'
  obtain ⟨x0_1, x1_1, x5_1, rfl, rfl, HA, HK1, HO_0, HK, HB⟩ := hrel
  cases gk with
  | zero => exact absurd HA.out (by simp [l_markDominoS.l0])
  | succ k1 =>
   have H := HA.out
   clear HA
   simp only [l_markDominoS.l0] at H
   by_cases c3 : x5_1 < (x0_1.length : Int)
   ·rw [if_pos c3] at H
    have c3b0 : decide (x5_1 < (x0_1.length : Int)) = true := decide_eq_true c3
    clear c3
    by_cases c4 : 0 ≤ x5_1
    ·rw [if_pos c4] at H
     have c4b0 : decide (0 ≤ x5_1) = true := decide_eq_true c4
     clear c4
     obtain ⟨y267, hy267⟩ : ∃ y_ : List (S41), y_ = (x0_1.set (x5_1 : Int).toNat (⟨x1_1, (rd_T41 x0_1 x5_1).f1, (rd_T41 x0_1 x5_1).f2⟩ : S41)) := ⟨_, rfl⟩
     replace H : ((some (y267.set (x5_1 : Int).toNat (⟨(rd_T41 y267 x5_1).f0, wrap64 (x1_1 + 1), (rd_T41 y267 x5_1).f2⟩ : S41) : List (S41))).bind fun y268 => (l_markDominoS.l0 k1 (y268.set (x5_1 : Int).toNat (⟨(rd_T41 y268 x5_1).f0, (rd_T41 y268 x5_1).f1, ((Int.tmod (wrap64 ((wrap64 (x1_1 + 1)) + 1)) 3) == 0)⟩ : S41)) (wrap64 ((wrap64 ((wrap64 (x1_1 + 1)) + 1)) + 1)) (wrap64 (x5_1 + 1)))) = some (r1, r2) := by first | (rw [hy267]; with_reducible exact H) | (have H2_ := (Option.bind_some _ _).symm.trans H; rw [hy267]; with_reducible exact H2_) | (have H2_ := (Option.bind_some _ _).symm.trans H; with_reducible exact H2_) | with_reducible exact H | (rw [hy267]; exact H) | exact H
     have Ny267 := As.mk hy267
     clear hy267
     obtain ⟨y268, hy268⟩ : ∃ y_ : List (S41), y_ = (y267.set (x5_1 : Int).toNat (⟨(rd_T41 y267 x5_1).f0, wrap64 (x1_1 + 1), (rd_T41 y267 x5_1).f2⟩ : S41)) := ⟨_, rfl⟩
     replace H : (l_markDominoS.l0 k1 (y268.set (x5_1 : Int).toNat (⟨(rd_T41 y268 x5_1).f0, (rd_T41 y268 x5_1).f1, ((Int.tmod (wrap64 ((wrap64 (x1_1 + 1)) + 1)) 3) == 0)⟩ : S41)) (wrap64 ((wrap64 ((wrap64 (x1_1 + 1)) + 1)) + 1)) (wrap64 (x5_1 + 1))) = some (r1, r2) := by first | (rw [hy268]; with_reducible exact H) | (have H2_ := (Option.bind_some _ _).symm.trans H; rw [hy268]; with_reducible exact H2_) | (have H2_ := (Option.bind_some _ _).symm.trans H; with_reducible exact H2_) | with_reducible exact H | (rw [hy268]; exact H) | exact H
     have Ny268 := As.mk hy268
     clear hy268
     obtain ⟨y269, hy269⟩ : ∃ y_ : List (S41), y_ = (y268.set (x5_1 : Int).toNat (⟨(rd_T41 y268 x5_1).f0, (rd_T41 y268 x5_1).f1, ((Int.tmod (wrap64 ((wrap64 (x1_1 + 1)) + 1)) 3) == 0)⟩ : S41)) := ⟨_, rfl⟩
     replace H : (l_markDominoS.l0 k1 y269 (wrap64 ((wrap64 ((wrap64 (x1_1 + 1)) + 1)) + 1)) (wrap64 (x5_1 + 1))) = some (r1, r2) := by first | (rw [hy269]; with_reducible exact H) | (have H2_ := (Option.bind_some _ _).symm.trans H; rw [hy269]; with_reducible exact H2_) | (have H2_ := (Option.bind_some _ _).symm.trans H; with_reducible exact H2_) | with_reducible exact H | (rw [hy269]; exact H) | exact H
     have Ny269 := As.mk hy269
     clear hy269
     have H' := As.mk H
     clear H
     obtain ⟨Ao8, co8, eo8⟩ := Kd.R_slice HO_0.out
     subst eo8
     have p5 : 0 ≤ (x5_1 : Int) := oD
     have q5 : (x5_1 : Int) < ((x0_1.length : Int) : Int) := oD
     obtain ⟨go5, co5, eo5, gb5, gl5, cl5, HG5⟩ := Kd.R_form HO_0.out (by omega)
     (first | cases eo5 | (injection eo5 with ea_ en_ ec_; (first | subst ea_ | (injection ea_ with ea_; subst ea_)); subst ec_; clear en_))
     have GB5 := As.mk gb5
     have GG5 := As.mk HG5
     clear gb5 gl5 HG5
     have HMgo5 := As.mk (show (P0_ go5 ∨ w.heap.size ≤ go5) from (HO_0.out.1 _ rfl))
     obtain ⟨ce5, hcl5, hM5, hcc5, hfr5⟩ := Kd.R_elem HO_0.out z41 (x5_1 : Int) p5 q5
     obtain rfl := k41_openM hM5
     have hx5_0 : wr.cell? ⟨go5, (x5_1 : Int).toNat * 3, none⟩ = some (.int .i64 ((rd_T41 x0_1 x5_1).f0)) := hcc5 0 _ rfl
     have hx5_1 : wr.cell? ⟨go5, (x5_1 : Int).toNat * 3 + 1, none⟩ = some (.int .i64 ((rd_T41 x0_1 x5_1).f1)) := hcc5 1 _ rfl
     have hx5_2 : wr.cell? ⟨go5, (x5_1 : Int).toNat * 3 + 2, none⟩ = some (.bool ((rd_T41 x0_1 x5_1).f2)) := hcc5 2 _ rfl
     have hf5_0 : wr.frozen? ⟨go5, (x5_1 : Int).toNat * 3, none⟩ = false := hfr5 0
     have hf5_1 : wr.frozen? ⟨go5, (x5_1 : Int).toNat * 3 + 1, none⟩ = false := hfr5 1
     have hf5_2 : wr.frozen? ⟨go5, (x5_1 : Int).toNat * 3 + 2, none⟩ = false := hfr5 2
     clear hcl5 hcc5 hfr5 hM5
     replace p5 := eq_true p5
     replace q5 := eq_true q5
     have HX9 := As.mk (show Kd.R k41 41 wr w0.heap.size (fun k_ => (P0_ k_ ∨ w.heap.size ≤ k_)) (.slice (some ⟨go5, 0, none⟩) x0_1.length co8) x0_1 from (rX HO_0.out))
     obtain ⟨ce9, hcl9, hM9, hcc9, hfr9⟩ := Kd.R_elem HX9.out z41 (x5_1 : Int) (oD) (by have h_ : (x5_1 : Int) < ((x0_1.length : Int) : Int) := oD; first | exact h_ | (have e_ := (Kd.R_reads' HO_0.out).1; omega) | simpa using h_)
     obtain rfl := k41_openM hM9
     have HP9 := Kd.R_seg HX9.out (x5_1 : Int) (oD) (by have h_ : (x5_1 : Int) < ((x0_1.length : Int) : Int) := oD; first | exact h_ | (have e_ := (Kd.R_reads' HO_0.out).1; omega) | simpa using h_) (seg := [.int .i64 x1_1]) (j := 0) hcl9 hcc9 (show 1 ≤ 3 from by decide) (x' := (⟨x1_1, (rd_T41 x0_1 x5_1).f1, (rd_T41 x0_1 x5_1).f2⟩ : S41)) (k41_mkM _ _ _ (⟨x1_1, (rd_T41 x0_1 x5_1).f1, (rd_T41 x0_1 x5_1).f2⟩ : S41) ) (fun _ hk => hk)
     have hx9_0 := hcc9 0 _ rfl
     (try simp only [show (k41).sz = 3 from rfl, Nat.mul_one, Nat.add_zero] at hx9_0)
     have hf9_0 := hfr9 0
     (try simp only [show (k41).sz = 3 from rfl, Nat.mul_one, Nat.add_zero] at hf9_0)
     clear hcl9 hcc9 hfr9 hM9
     go_wp2_with (first | ((with_reducible refine gate_store (t := 3) (p := 16) rfl ?_); refine store_event (t := 3) (p := 16) (v := ?vo_w10) (w1 := (wr.setCell ⟨go5, (x5_1 : Int).toNat * 3, none⟩ (.int .i64 x1_1))) ?hg ?ho ?hn ?hr ?_; (case ho => rfl); (case hg => rfl); (case hn => rfl); (case hr => first | (go_simp; done) | (go_simp; rfl)); intro w10 hw; have hg : wr.grownBy w10 (some go5) := (by rw [hw]; exact HP9.2); have hp_ : Kd.R k41 41 w10 w0.heap.size (fun k_ => (P0_ k_ ∨ w.heap.size ≤ k_)) (.slice (some ⟨go5, 0, none⟩) x0_1.length co8) y267 := (by rw [hw, Ny267.out]; exact HP9.1); clear HP9; have n0_ := As.mk (hp_); have n1_ := As.mk ((by rw [hw]; exact below_set (HB.out) GB5.out : Below w0.heap.size w0 w10)); have n2_ := As.mk (Kept.of_grown (S := (fun k_ => P0_ k_)) hg (by repeat (first | (with_reducible first | exact HK.out | apply Kept.alloc | apply Kept.drewN | apply Kept.drew) | exact HK.out)) (fun k_ e_ => (HO_0.out.1 k_ e_))); clear HO_0; clear HB; clear HK; have HO_0 := n0_; have HB := n1_; have HK := n2_; clear n0_ n1_ n2_; clear hg hw hp_; have p6 : 0 ≤ (x5_1 : Int) := oD; have q6 : (x5_1 : Int) < ((x0_1.length : Int) : Int) := oD; obtain ⟨ce6, hcl6, hM6, hcc6, hfr6⟩ := Kd.R_elem HO_0.out z41 (x5_1 : Int) p6 q6; obtain rfl := k41_openM hM6; have hx6_0 : w10.cell? ⟨go5, (x5_1 : Int).toNat * 3, none⟩ = some (.int .i64 ((rd_T41 y267 x5_1).f0)) := hcc6 0 _ rfl; have hx6_1 : w10.cell? ⟨go5, (x5_1 : Int).toNat * 3 + 1, none⟩ = some (.int .i64 ((rd_T41 y267 x5_1).f1)) := hcc6 1 _ rfl; have hx6_2 : w10.cell? ⟨go5, (x5_1 : Int).toNat * 3 + 2, none⟩ = some (.bool ((rd_T41 y267 x5_1).f2)) := hcc6 2 _ rfl; have hf6_0 : w10.frozen? ⟨go5, (x5_1 : Int).toNat * 3, none⟩ = false := hfr6 0; have hf6_1 : w10.frozen? ⟨go5, (x5_1 : Int).toNat * 3 + 1, none⟩ = false := hfr6 1; have hf6_2 : w10.frozen? ⟨go5, (x5_1 : Int).toNat * 3 + 2, none⟩ = false := hfr6 2; clear hcl6 hcc6 hfr6 hM6; replace p6 := eq_true p6; replace q6 := eq_true q6; have HX11 := As.mk (show Kd.R k41 41 w10 w0.heap.size (fun k_ => (P0_ k_ ∨ w.heap.size ≤ k_)) (.slice (some ⟨go5, 0, none⟩) x0_1.length co8) y267 from (rX HO_0.out)); obtain ⟨ce11, hcl11, hM11, hcc11, hfr11⟩ := Kd.R_elem HX11.out z41 (x5_1 : Int) (oD) (by have h_ : (x5_1 : Int) < ((x0_1.length : Int) : Int) := oD; first | exact h_ | (have e_ := (Kd.R_reads' HO_0.out).1; omega) | simpa using h_); obtain rfl := k41_openM hM11; have HP11 := Kd.R_seg HX11.out (x5_1 : Int) (oD) (by have h_ : (x5_1 : Int) < ((x0_1.length : Int) : Int) := oD; first | exact h_ | (have e_ := (Kd.R_reads' HO_0.out).1; omega) | simpa using h_) (seg := [.int .i64 (wrap64 (x1_1 + 1))]) (j := 1) hcl11 hcc11 (show 2 ≤ 3 from by decide) (x' := (⟨(rd_T41 y267 x5_1).f0, wrap64 (x1_1 + 1), (rd_T41 y267 x5_1).f2⟩ : S41)) (k41_mkM _ _ _ (⟨(rd_T41 y267 x5_1).f0, wrap64 (x1_1 + 1), (rd_T41 y267 x5_1).f2⟩ : S41) ) (fun _ hk => hk); have hx11_1 := hcc11 1 _ rfl; (try simp only [show (k41).sz = 3 from rfl, Nat.mul_one, Nat.add_zero] at hx11_1); have hf11_1 := hfr11 1; (try simp only [show (k41).sz = 3 from rfl, Nat.mul_one, Nat.add_zero] at hf11_1); clear hcl11 hcc11 hfr11 hM11) | ((with_reducible refine gate_store (t := 3) (p := 23) rfl ?_); refine store_event (t := 3) (p := 23) (v := ?vo_w12) (w1 := (w10.setCell ⟨go5, (x5_1 : Int).toNat * 3 + 1, none⟩ (.int .i64 (wrap64 (x1_1 + 1))))) ?hg ?ho ?hn ?hr ?_; (case ho => rfl); (case hg => rfl); (case hn => rfl); (case hr => first | (go_simp; done) | (go_simp; rfl)); intro w12 hw; have hg : w10.grownBy w12 (some go5) := (by rw [hw]; exact HP11.2); have hp_ : Kd.R k41 41 w12 w0.heap.size (fun k_ => (P0_ k_ ∨ w.heap.size ≤ k_)) (.slice (some ⟨go5, 0, none⟩) x0_1.length co8) y268 := (by rw [hw, Ny268.out]; exact HP11.1); clear HP11; have n0_ := As.mk (hp_); have n1_ := As.mk ((by rw [hw]; exact below_set (HB.out) GB5.out : Below w0.heap.size w0 w12)); have n2_ := As.mk (Kept.of_grown (S := (fun k_ => P0_ k_)) hg (by repeat (first | (with_reducible first | exact HK.out | apply Kept.alloc | apply Kept.drewN | apply Kept.drew) | exact HK.out)) (fun k_ e_ => (HO_0.out.1 k_ e_))); clear HO_0; clear HB; clear HK; have HO_0 := n0_; have HB := n1_; have HK := n2_; clear n0_ n1_ n2_; clear hg hw hp_; have p7 : 0 ≤ (x5_1 : Int) := oD; have q7 : (x5_1 : Int) < ((x0_1.length : Int) : Int) := oD; obtain ⟨ce7, hcl7, hM7, hcc7, hfr7⟩ := Kd.R_elem HO_0.out z41 (x5_1 : Int) p7 q7; obtain rfl := k41_openM hM7; have hx7_0 : w12.cell? ⟨go5, (x5_1 : Int).toNat * 3, none⟩ = some (.int .i64 ((rd_T41 y268 x5_1).f0)) := hcc7 0 _ rfl; have hx7_1 : w12.cell? ⟨go5, (x5_1 : Int).toNat * 3 + 1, none⟩ = some (.int .i64 ((rd_T41 y268 x5_1).f1)) := hcc7 1 _ rfl; have hx7_2 : w12.cell? ⟨go5, (x5_1 : Int).toNat * 3 + 2, none⟩ = some (.bool ((rd_T41 y268 x5_1).f2)) := hcc7 2 _ rfl; have hf7_0 : w12.frozen? ⟨go5, (x5_1 : Int).toNat * 3, none⟩ = false := hfr7 0; have hf7_1 : w12.frozen? ⟨go5, (x5_1 : Int).toNat * 3 + 1, none⟩ = false := hfr7 1; have hf7_2 : w12.frozen? ⟨go5, (x5_1 : Int).toNat * 3 + 2, none⟩ = false := hfr7 2; clear hcl7 hcc7 hfr7 hM7; replace p7 := eq_true p7; replace q7 := eq_true q7; have HX13 := As.mk (show Kd.R k41 41 w12 w0.heap.size (fun k_ => (P0_ k_ ∨ w.heap.size ≤ k_)) (.slice (some ⟨go5, 0, none⟩) x0_1.length co8) y268 from (rX HO_0.out)); obtain ⟨ce13, hcl13, hM13, hcc13, hfr13⟩ := Kd.R_elem HX13.out z41 (x5_1 : Int) (oD) (by have h_ : (x5_1 : Int) < ((x0_1.length : Int) : Int) := oD; first | exact h_ | (have e_ := (Kd.R_reads' HO_0.out).1; omega) | simpa using h_); obtain rfl := k41_openM hM13; have HP13 := Kd.R_seg HX13.out (x5_1 : Int) (oD) (by have h_ : (x5_1 : Int) < ((x0_1.length : Int) : Int) := oD; first | exact h_ | (have e_ := (Kd.R_reads' HO_0.out).1; omega) | simpa using h_) (seg := [.bool ((Int.tmod (wrap64 ((wrap64 (x1_1 + 1)) + 1)) 3) == 0)]) (j := 2) hcl13 hcc13 (show 3 ≤ 3 from by decide) (x' := (⟨(rd_T41 y268 x5_1).f0, (rd_T41 y268 x5_1).f1, ((Int.tmod (wrap64 ((wrap64 (x1_1 + 1)) + 1)) 3) == 0)⟩ : S41)) (k41_mkM _ _ _ (⟨(rd_T41 y268 x5_1).f0, (rd_T41 y268 x5_1).f1, ((Int.tmod (wrap64 ((wrap64 (x1_1 + 1)) + 1)) 3) == 0)⟩ : S41) ) (fun _ hk => hk); have hx13_2 := hcc13 2 _ rfl; (try simp only [show (k41).sz = 3 from rfl, Nat.mul_one, Nat.add_zero] at hx13_2); have hf13_2 := hfr13 2; (try simp only [show (k41).sz = 3 from rfl, Nat.mul_one, Nat.add_zero] at hf13_2); clear hcl13 hcc13 hfr13 hM13) | ((with_reducible refine gate_store (t := 4) (p := 32) rfl ?_); refine store_event (t := 4) (p := 32) (v := ?vo_w14) (w1 := (w12.setCell ⟨go5, (x5_1 : Int).toNat * 3 + 2, none⟩ (.bool ((Int.tmod (wrap64 ((wrap64 (x1_1 + 1)) + 1)) 3) == 0)))) ?hg ?ho ?hn ?hr ?_; (case ho => rfl); (case hg => rfl); (case hn => rfl); (case hr => first | (go_simp; done) | (go_simp; rfl)); intro w14 hw; have hg : w12.grownBy w14 (some go5) := (by rw [hw]; exact HP13.2); have hp_ : Kd.R k41 41 w14 w0.heap.size (fun k_ => (P0_ k_ ∨ w.heap.size ≤ k_)) (.slice (some ⟨go5, 0, none⟩) x0_1.length co8) y269 := (by rw [hw, Ny269.out]; exact HP13.1); clear HP13; have n0_ := As.mk (hp_); have n1_ := As.mk ((by rw [hw]; exact below_set (HB.out) GB5.out : Below w0.heap.size w0 w14)); have n2_ := As.mk (Kept.of_grown (S := (fun k_ => P0_ k_)) hg (by repeat (first | (with_reducible first | exact HK.out | apply Kept.alloc | apply Kept.drewN | apply Kept.drew) | exact HK.out)) (fun k_ e_ => (HO_0.out.1 k_ e_))); clear HO_0; clear HB; clear HK; have HO_0 := n0_; have HB := n1_; have HK := n2_; clear n0_ n1_ n2_; clear hg hw hp_))
     go_roundg k1
     case measure => have := HK1.out; omega
     case rel => exact ⟨(y269), (wrap64 ((wrap64 ((wrap64 (x1_1 + 1)) + 1)) + 1)), (wrap64 (x5_1 + 1)), (by first | rfl | (simp; done) | (simp [*]; done)), (by first | rfl | (simp; done) | (simp [*]; done)), H', ⟨by have := HK1.out; omega⟩, ⟨rX HO_0.out⟩, ⟨by repeat (first | (with_reducible first | exact HK.out | apply Kept.alloc | apply Kept.drewN | apply Kept.drew) | exact HK.out)⟩, ⟨bX HB.out⟩⟩
    ·rw [if_neg c4] at H
     exact absurd H (by simp)
   ·rw [if_neg c3] at H
    have c3b0 : decide (x5_1 < (x0_1.length : Int)) = false := decide_eq_false c3
    clear c3
    simp only [Option.some.injEq, Prod.mk.injEq] at H
    obtain ⟨rfl, rfl⟩ := H
    obtain ⟨Ao15, co15, eo15⟩ := Kd.R_slice HO_0.out
    subst eo15
    go_wp2
    go_ret
    exact ⟨by first | rfl | (simp [*, errW_none, errW_some] <;> rfl), rX HO_0.out, bX HB.out, by repeat (first | (with_reducible first | exact HK.out | apply Kept.alloc | apply Kept.drewN | apply Kept.drew) | exact HK.out)⟩
end Go.Proofs.Ytnfnlmilmpaofaa.PFnExactTreeOfTiling
namespace Go.Proofs.Ytnfnlmilmpaofaa.PFnExactTreeOfTiling
open Go.RowKit Go.Proofs.YtnfnlmilmpaofaaW.PrintWords Go.Proofs.YtnfnlmilmpaofaaW.PrintLast Go.Proofs.YtnfnlmilmpaofaaW.PrintMore
attribute [local go_sem] max2_int min2_int max_two min_two max_three min_three max_four min_four
set_option linter.unusedVariables false
attribute [local go_sem high] cell_bk frozen_bk
set_option linter.unusedSimpArgs false
def l_szDominoS.f (l0 : List (S132)) (a1 : Int) : Option (Int) := if (wrap64 (a1 - (l0.length : Int))) < 0 then (some (-1)) else (some (wrap64 (a1 - (l0.length : Int))))
set_option maxRecDepth 100000 in
theorem l_szDominoS.calls (A0 : Option Addr) (c0 : Nat) (l0 : List (S132)) (a1 : Int) (r : Int) (w : World) (hr0 : Kd.C k132 w A0 l0.length l0) (hc0 : l0.length ≤ c0) (h : l_szDominoS.f l0 a1 = some r) :
  Calls Try.prog 50 #[.slice A0 l0.length c0, .int .i64 a1] w fun e w' => e = .returned (.int .i64 r) ∧ Drawn0 w w' := by
 have HR0 := As.mk hr0
 have HC0 := As.mk hc0
 clear hr0 hc0
 have H : (if (wrap64 (a1 - (l0.length : Int))) < 0 then (some (-1)) else (some (wrap64 (a1 - (l0.length : Int))))) = some r := h
 clear h
 by_cases c3 : (wrap64 (a1 - (l0.length : Int))) < 0
 ·rw [if_pos c3] at H
  have c3b0 : decide ((wrap64 (a1 - (l0.length : Int))) < 0) = true := decide_eq_true c3
  clear c3
  obtain rfl := Option.some.inj H
  go_enter Try.func50, Try.ntmps50
  go_wp2
  go_ret
  exact ⟨by first | rfl | (simp; done) | (simp [*]; done), by repeat (first | exact Drawn0.refl _ | apply Drawn0.step)⟩
 ·rw [if_neg c3] at H
  have c3b0 : decide ((wrap64 (a1 - (l0.length : Int))) < 0) = false := decide_eq_false c3
  clear c3
  obtain rfl := Option.some.inj H
  go_enter Try.func50, Try.ntmps50
  go_wp2
  go_ret
  exact ⟨by first | rfl | (simp; done) | (simp [*]; done), by repeat (first | exact Drawn0.refl _ | apply Drawn0.step)⟩
def s_l01In.f (a0 : Int) (a1 : Int) (a2 : Int) : Option (Bool) := if a0 ≥ a1 then (some (decide (a0 ≤ a2))) else (some false)
set_option maxRecDepth 100000 in
theorem s_l01In.calls (a0 : Int) (a1 : Int) (a2 : Int) (r : Bool) (w : World) (h : s_l01In.f a0 a1 a2 = some r) :
  Calls Try.prog 103 #[.int .i64 a0, .int .i64 a1, .int .i64 a2] w fun e w' => e = .returned (.bool r) ∧ Drawn0 w w' := by
 have H : (if a0 ≥ a1 then (some (decide (a0 ≤ a2))) else (some false)) = some r := h
 clear h
 by_cases c4 : a0 ≥ a1
 ·rw [if_pos c4] at H
  have c4b0 : decide (a1 ≤ a0) = true := decide_eq_true c4
  clear c4
  obtain rfl := Option.some.inj H
  go_enter Try.func103, Try.ntmps103
  go_wp2
  go_ret
  exact ⟨by first | rfl | (simp; done) | (simp [*]; done), by repeat (first | exact Drawn0.refl _ | apply Drawn0.step)⟩
 ·rw [if_neg c4] at H
  have c4b0 : decide (a1 ≤ a0) = false := decide_eq_false c4
  clear c4
  obtain rfl := Option.some.inj H
  go_enter Try.func103, Try.ntmps103
  go_wp2
  go_ret
  exact ⟨by first | rfl | (simp; done) | (simp [*]; done), by repeat (first | exact Drawn0.refl _ | apply Drawn0.step)⟩
def s_CellOk.f (a0_0 : Int) (a0_1 : Int) : Option (Bool) := (s_l01In.f a0_0 0 7).bind fun t271 => (if t271 = true then ((s_l01In.f a0_1 0 7).bind fun t272 => (some t272)) else (some false))
set_option maxRecDepth 100000 in
theorem s_CellOk.calls (a0_0 : Int) (a0_1 : Int) (r : Bool) (w : World) (h : s_CellOk.f a0_0 a0_1 = some r) :
  Calls Try.prog 132 #[.agg #[.int .i64 a0_0, .int .i64 a0_1]] w fun e w' => e = .returned (.bool r) ∧ Below w.heap.size w w' := by
 have hu39 := Try.underlying39
 have HB : Up w w := ⟨Below.refl _ _⟩
 have H : ((s_l01In.f a0_0 0 7).bind fun t271 => (if t271 = true then ((s_l01In.f a0_1 0 7).bind fun t272 => (some t272)) else (some false))) = some r := h
 clear h
 obtain ⟨t271, A2, H⟩ := bI H
 replace H := bT H; rcases H with ⟨rfl, H⟩ | ⟨rfl, H⟩
 ·obtain ⟨t272, A4, H⟩ := bI H
  obtain rfl := Option.some.inj H
  go_enter Try.func132, Try.ntmps132
  go_wp2_with (first | ((with_reducible refine gD 1 rfl ?_); refine bxE rfl #[.int .i64 a0_0, .int .i64 a0_1] 39 ?_ ?_; (focus first | (go_simp; done) | (go_simp; rfl)); intro gb270 _ w5 _ _) | ((with_reducible refine gC 103 rfl ?_); refine goesL_ (some 5) rfl rfl Try.func103 (by kernel_rfl) rfl #[.int .i64 a0_0, .int .i64 0, .int .i64 7] rfl (by (try simp only [sD, sE, sF]); first | done | rfl) ?_; (with_reducible refine (s_l01In.calls a0_0 0 7 true _ A2.out).mono ?_); rintro e w' ⟨rfl, ⟨nd, rfl⟩⟩; refine ⟨_, rfl, ?_⟩) | (go_at_call 103; (with_reducible refine (s_l01In.calls a0_1 0 7 t272 _ A4.out).mono ?_); rintro e w' ⟨rfl, ⟨nd, rfl⟩⟩))
  go_ret
  exact ⟨by first | rfl | (simp [*, errW_none, errW_some] <;> rfl), uw w⟩
 ·obtain rfl := Option.some.inj H
  go_enter Try.func132, Try.ntmps132
  go_wp2_with (first | ((with_reducible refine gD 1 rfl ?_); refine bxE rfl #[.int .i64 a0_0, .int .i64 a0_1] 39 ?_ ?_; (focus first | (go_simp; done) | (go_simp; rfl)); intro gb270 _ w7 _ _) | ((with_reducible refine gC 103 rfl ?_); refine goesL_ (some 5) rfl rfl Try.func103 (by kernel_rfl) rfl #[.int .i64 a0_0, .int .i64 0, .int .i64 7] rfl (by (try simp only [sD, sE, sF]); first | done | rfl) ?_; (with_reducible refine (s_l01In.calls a0_0 0 7 false _ A2.out).mono ?_); rintro e w' ⟨rfl, ⟨nd, rfl⟩⟩; refine ⟨_, rfl, ?_⟩))
  go_ret
  exact ⟨by first | rfl | (simp [*, errW_none, errW_some] <;> rfl), uw w⟩
def s_l05Second.f (a0_0 : Int) (a0_1 : Int) (a0_2 : Bool) : Option (Int × Int) := if a0_2 = true then (some (a0_0, wrap64 (a0_1 + 1))) else (some (wrap64 (a0_0 + 1), a0_1))
set_option maxRecDepth 100000 in
theorem s_l05Second.calls (a0_0 : Int) (a0_1 : Int) (a0_2 : Bool) (r1 : Int) (r2 : Int) (w : World) (h : s_l05Second.f a0_0 a0_1 a0_2 = some (r1, r2)) :
  Calls Try.prog 133 #[.agg #[.int .i64 a0_0, .int .i64 a0_1, .bool a0_2]] w fun e w' => e = .returned (.agg #[.int .i64 r1, .int .i64 r2]) ∧ Below w.heap.size w w' := by
 have hu41 := Try.underlying41
 have hu39 := Try.underlying39
 have HB : Up w w := ⟨Below.refl _ _⟩
 have H : (if a0_2 = true then (some (a0_0, wrap64 (a0_1 + 1))) else (some (wrap64 (a0_0 + 1), a0_1))) = some (r1, r2) := h
 clear h
 replace H := bT H; rcases H with ⟨rfl, H⟩ | ⟨rfl, H⟩
 ·simp only [Option.some.injEq, Prod.mk.injEq] at H
  obtain ⟨rfl, rfl⟩ := H
  go_enter Try.func133, Try.ntmps133
  go_wp2_with (first | ((with_reducible refine gD 1 rfl ?_); refine bxE rfl #[.int .i64 a0_0, .int .i64 a0_1, .bool true] 41 ?_ ?_; (focus first | (go_simp; done) | (go_simp; rfl)); intro gb273 _ w3 _ _) | ((with_reducible refine gD 2 rfl ?_); refine bxE rfl #[.int .i64 0, .int .i64 0] 39 ?_ ?_; (focus first | (go_simp; done) | (go_simp; rfl)); intro gb274 _ w4 _ _))
  refine bodyPost_ret (results_cell_row rfl _ _ gb274 39 #[.int .i64 a0_0, .int .i64 (wrap64 (a0_1 + 1))] (0, 0) _ rfl (bkr gb274 (by rfl)) Try.underlying39 rfl (by kernel_rfl)) rfl ?_
  exact ⟨by first | rfl | (simp [*, errW_none, errW_some] <;> rfl), uw w⟩
 ·simp only [Option.some.injEq, Prod.mk.injEq] at H
  obtain ⟨rfl, rfl⟩ := H
  go_enter Try.func133, Try.ntmps133
  go_wp2_with (first | ((with_reducible refine gD 1 rfl ?_); refine bxE rfl #[.int .i64 a0_0, .int .i64 a0_1, .bool false] 41 ?_ ?_; (focus first | (go_simp; done) | (go_simp; rfl)); intro gb273 _ w8 _ _) | ((with_reducible refine gD 2 rfl ?_); refine bxE rfl #[.int .i64 0, .int .i64 0] 39 ?_ ?_; (focus first | (go_simp; done) | (go_simp; rfl)); intro gb274 _ w9 _ _))
  refine bodyPost_ret (results_cell_row rfl _ _ gb274 39 #[.int .i64 (wrap64 (a0_0 + 1)), .int .i64 a0_1] (0, 0) _ rfl (bkr gb274 (by rfl)) Try.underlying39 rfl (by kernel_rfl)) rfl ?_
  exact ⟨by first | rfl | (simp [*, errW_none, errW_some] <;> rfl), uw w⟩
def s_DominoOk.f (a0_0 : Int) (a0_1 : Int) (a0_2 : Bool) : Option (Bool) := (s_CellOk.f a0_0 a0_1).bind fun t276 => (if t276 = true then ((s_l05Second.f a0_0 a0_1 a0_2).bind fun bt277 => ((s_CellOk.f bt277.1 bt277.2).bind fun t279 => (some t279))) else (some false))
set_option maxRecDepth 100000 in
theorem s_DominoOk.calls (a0_0 : Int) (a0_1 : Int) (a0_2 : Bool) (r : Bool) (w : World) (h : s_DominoOk.f a0_0 a0_1 a0_2 = some r) :
  Calls Try.prog 68 #[.agg #[.int .i64 a0_0, .int .i64 a0_1, .bool a0_2]] w fun e w' => e = .returned (.bool r) ∧ Below w.heap.size w w' := by
 have hu41 := Try.underlying41
 have hu39 := Try.underlying39
 have HB : Up w w := ⟨Below.refl _ _⟩
 have H : ((s_CellOk.f a0_0 a0_1).bind fun t276 => (if t276 = true then ((s_l05Second.f a0_0 a0_1 a0_2).bind fun bt277 => ((s_CellOk.f bt277.1 bt277.2).bind fun t279 => (some t279))) else (some false))) = some r := h
 clear h
 obtain ⟨t276, A2, H⟩ := bI H
 replace H := bT H; rcases H with ⟨rfl, H⟩ | ⟨rfl, H⟩
 ·obtain ⟨⟨t277, t278⟩, A4, H⟩ := bI H
  dsimp only at H
  obtain ⟨t279, A5, H⟩ := bI H
  obtain rfl := Option.some.inj H
  go_enter Try.func68, Try.ntmps68
  go_wp2_with (first | ((with_reducible refine gD 1 rfl ?_); refine bxE rfl #[.int .i64 a0_0, .int .i64 a0_1, .bool a0_2] 41 ?_ ?_; (focus first | (go_simp; done) | (go_simp; rfl)); intro gb275 _ w6 _ _) | ((with_reducible refine gC 132 rfl ?_); refine gK (some 8) rfl rfl Try.func132 (by kernel_rfl) rfl #[.agg #[.int .i64 a0_0, .int .i64 a0_1]] rfl (by (try simp only [sD, sE, sF]); first | done | rfl) (s_CellOk.calls a0_0 a0_1 true _ A2.out) ?_; intro w8 _) | (go_at_call 133; (with_reducible refine (s_l05Second.calls a0_0 a0_1 a0_2 t277 t278 _ A4.out).mono ?_); rintro e w10 ⟨rfl, hb⟩; have := Stp.mk hb) | (go_at_call 132; (with_reducible refine (s_CellOk.calls t277 t278 t279 _ A5.out).mono ?_); rintro e w11 ⟨rfl, hb⟩; have := Stp.mk hb))
  go_ret
  exact ⟨by first | rfl | (simp [*, errW_none, errW_some] <;> rfl), uw w⟩
 ·obtain rfl := Option.some.inj H
  go_enter Try.func68, Try.ntmps68
  go_wp2_with (first | ((with_reducible refine gD 1 rfl ?_); refine bxE rfl #[.int .i64 a0_0, .int .i64 a0_1, .bool a0_2] 41 ?_ ?_; (focus first | (go_simp; done) | (go_simp; rfl)); intro gb275 _ w12 _ _) | ((with_reducible refine gC 132 rfl ?_); refine gK (some 8) rfl rfl Try.func132 (by kernel_rfl) rfl #[.agg #[.int .i64 a0_0, .int .i64 a0_1]] rfl (by (try simp only [sD, sE, sF]); first | done | rfl) (s_CellOk.calls a0_0 a0_1 false _ A2.out) ?_; intro w14 _))
  go_ret
  exact ⟨by first | rfl | (simp [*, errW_none, errW_some] <;> rfl), uw w⟩
end Go.Proofs.Ytnfnlmilmpaofaa.PFnExactTreeOfTiling
