/- Printed twins and contracts of functions, part 3; some are walked by hand. Nothing is assumed. -/
import Derived.Test.YtnfnlmilmpaofaaTA1
import Derived.Test.YtnfnlmilmpaofaaTB1
import Derived.Test.YtnfnlmilmpaofaaTB2
set_option maxHeartbeats 8000000
namespace Go.Proofs.Ytnfnlmilmpaofaa.PFnExactTreeOfTiling
open Go.RowKit Go.Proofs.YtnfnlmilmpaofaaW.PrintWords Go.Proofs.YtnfnlmilmpaofaaW.PrintLast Go.Proofs.YtnfnlmilmpaofaaW.PrintMore
attribute [local go_sem] max2_int min2_int max_two min_two max_three min_three max_four min_four
set_option linter.unusedVariables false
attribute [local go_sem high] cell_bk frozen_bk
set_option linter.unusedSimpArgs false
def s_IsDominoBefore.j0 : Nat → Bool → Int → Int → Bool → Int → Int → Bool → Option (Bool)
 | 0, _, _, _, _, _, _, _ => none
 | k + 1, x14, x281000, x281001, x281002, x282000, x282001, x282002 => if x14 = true then (some false) else (if (wrap64 ((wrap64 (x281001 * 8)) + x281000)) < (wrap64 ((wrap64 (x282001 * 8)) + x282000)) then (some true) else (if (wrap64 ((wrap64 (x281001 * 8)) + x281000)) = (wrap64 ((wrap64 (x282001 * 8)) + x282000)) then (if x281002 = true then (some false) else (some x282002)) else (some false)))
def s_IsDominoBefore.f (k : Nat) (a0_0 : Int) (a0_1 : Int) (a0_2 : Bool) (a1_0 : Int) (a1_1 : Int) (a1_2 : Bool) : Option (Bool) := (s_DominoOk.f a0_0 a0_1 a0_2).bind fun t282 => (if t282 = true then ((s_DominoOk.f a1_0 a1_1 a1_2).bind fun t283 => (s_IsDominoBefore.j0 k (!t283) a0_0 a0_1 a0_2 a1_0 a1_1 a1_2)) else (s_IsDominoBefore.j0 k true a0_0 a0_1 a0_2 a1_0 a1_1 a1_2))
theorem s_IsDominoBefore.mono_l : ∀ k, (∀ y0 y1 y2 y3 y4 y5 y6, LeO (s_IsDominoBefore.j0 k y0 y1 y2 y3 y4 y5 y6) (s_IsDominoBefore.j0 (k + 1) y0 y1 y2 y3 y4 y5 y6))
 | 0 => fun _ _ _ _ _ _ _ r h => by simp [s_IsDominoBefore.j0] at h
 | k + 1 => by
  have ih0 := s_IsDominoBefore.mono_l k
  ·intro y0 y1 y2 y3 y4 y5 y6
   unfold s_IsDominoBefore.j0
   repeat' with_reducible first
   | exact ih0 _ _ _ _ _ _ _
   | exact LeO.refl _
   | exact LeO.none _
   | refine LeO.ite ?_ ?_
   | refine LeO.bind ?_ (fun _ => ?_)
theorem s_IsDominoBefore.mono : ∀ a0 a1 a2 a3 a4 a5 k, LeO (s_IsDominoBefore.f k a0 a1 a2 a3 a4 a5) (s_IsDominoBefore.f (k + 1) a0 a1 a2 a3 a4 a5) := by
 intro a0 a1 a2 a3 a4 a5 k
 have ih0 := s_IsDominoBefore.mono_l k
 unfold s_IsDominoBefore.f
 repeat' with_reducible first
 | exact ih0 _ _ _ _ _ _ _
 | exact LeO.refl _
 | exact LeO.none _
 | refine LeO.ite ?_ ?_
 | refine LeO.bind ?_ (fun _ => ?_)
set_option maxRecDepth 100000 in
theorem s_IsDominoBefore.calls (k : Nat) (a0_0 : Int) (a0_1 : Int) (a0_2 : Bool) (a1_0 : Int) (a1_1 : Int) (a1_2 : Bool) (r : Bool) (w : World) (h : s_IsDominoBefore.f k a0_0 a0_1 a0_2 a1_0 a1_1 a1_2 = some r) :
  Calls Try.prog 69 #[.agg #[.int .i64 a0_0, .int .i64 a0_1, .bool a0_2], .agg #[.int .i64 a1_0, .int .i64 a1_1, .bool a1_2]] w fun e w' => e = .returned (.bool r) ∧ Below w.heap.size w w' := by
 have hu41 := Try.underlying41
 have HB : Up w w := ⟨Below.refl _ _⟩
 have H : ((s_DominoOk.f a0_0 a0_1 a0_2).bind fun t282 => (if t282 = true then ((s_DominoOk.f a1_0 a1_1 a1_2).bind fun t283 => (s_IsDominoBefore.j0 k (!t283) a0_0 a0_1 a0_2 a1_0 a1_1 a1_2)) else (s_IsDominoBefore.j0 k true a0_0 a0_1 a0_2 a1_0 a1_1 a1_2))) = some r := h
 clear h
 have HC3 := As.mk H
 clear H
 go_enter Try.func69, Try.ntmps69
 go_upto_region 1 with (first | ((with_reducible refine gD 2 rfl ?_); refine bxE rfl #[.int .i64 a0_0, .int .i64 a0_1, .bool a0_2] 41 ?_ ?_; (focus first | (go_simp; done) | (go_simp; rfl)); intro gb280 _ w4 _ _) | ((with_reducible refine gD 3 rfl ?_); refine bxE rfl #[.int .i64 a1_0, .int .i64 a1_1, .bool a1_2] 41 ?_ ?_; (focus first | (go_simp; done) | (go_simp; rfl)); intro gb281 _ w5 _ _))
 (try simp only [Act.put, List.setIfInBounds_toArray, List.set_cons_zero, List.set_cons_succ])
 go_cut [14] (fun v14 wc => ∃ (kq : Nat) (x14_2 : Bool), v14 = .bool x14_2 ∧ As (s_IsDominoBefore.j0 kq x14_2 a0_0 a0_1 a0_2 a1_0 a1_1 a1_2 = some r) ∧ As (kq ≤ k) ∧ Bk wc gb280 (.cells #[.int .i64 a0_0, .int .i64 a0_1, .bool a0_2] 41 (0, 0)) ∧ Bk wc gb281 (.cells #[.int .i64 a1_0, .int .i64 a1_1, .bool a1_2] 41 (0, 0)) ∧ Up w wc)
 case first =>
  have H := HC3.out
  clear HC3
  obtain ⟨t282, A6, H⟩ := bI H
  replace H := bT H; rcases H with ⟨rfl, H⟩ | ⟨rfl, H⟩
  ·obtain ⟨t283, A8, H⟩ := bI H
   have H' := As.mk H
   clear H
   go_wp2_with (first | ((with_reducible refine gC 68 rfl ?_); refine gK (some 8) rfl rfl Try.func68 (by kernel_rfl) rfl #[.agg #[.int .i64 a0_0, .int .i64 a0_1, .bool a0_2]] rfl (by (try simp only [sD, sE, sF]); first | done | rfl) (s_DominoOk.calls a0_0 a0_1 a0_2 true _ A6.out) ?_; intro w11 _) | (go_at_call 68; (with_reducible refine (s_DominoOk.calls a1_0 a1_1 a1_2 t283 _ A8.out).mono ?_); rintro e w13 ⟨rfl, hb⟩; have := Stp.mk hb))
   go_meet
   case rel => exact ⟨_, (!t283), (by first | rfl | (simp; done) | (simp [*]; done)), H', ⟨by first | omega | exact Nat.le_refl _⟩, bM (by rfl), bM (by rfl), ⟨uw w⟩⟩
  ·have H' := As.mk H
   clear H
   go_wp2_with (first | ((with_reducible refine gC 68 rfl ?_); refine gK (some 8) rfl rfl Try.func68 (by kernel_rfl) rfl #[.agg #[.int .i64 a0_0, .int .i64 a0_1, .bool a0_2]] rfl (by (try simp only [sD, sE, sF]); first | done | rfl) (s_DominoOk.calls a0_0 a0_1 a0_2 false _ A6.out) ?_; intro w16 _))
   go_meet
   case rel => exact ⟨_, (true), (by first | rfl | (simp; done) | (simp [*]; done)), H', ⟨by first | omega | exact Nat.le_refl _⟩, bM (by rfl), bM (by rfl), ⟨uw w⟩⟩
 case rest =>
  clear HC3
  obtain ⟨kq, x14_2, rfl, HA, HJ2, BK280, BK281, HB⟩ := hcut
  cases kq with
  | zero => exact absurd HA.out (by simp [s_IsDominoBefore.j0])
  | succ kj2 =>
   have H := HA.out
   clear HA
   simp only [s_IsDominoBefore.j0] at H
   replace H := bT H; rcases H with ⟨rfl, H⟩ | ⟨rfl, H⟩
   ·obtain rfl := Option.some.inj H
    go_wp2
    go_ret
    exact ⟨by first | rfl | (simp [*, errW_none, errW_some] <;> rfl), uw w⟩
   ·by_cases c18 : (wrap64 ((wrap64 (a0_1 * 8)) + a0_0)) < (wrap64 ((wrap64 (a1_1 * 8)) + a1_0))
    ·rw [if_pos c18] at H
     have c18b0 : decide ((wrap64 ((wrap64 (a0_1 * 8)) + a0_0)) < (wrap64 ((wrap64 (a1_1 * 8)) + a1_0))) = true := decide_eq_true c18
     clear c18
     obtain rfl := Option.some.inj H
     go_wp2
     go_ret
     exact ⟨by first | rfl | (simp [*, errW_none, errW_some] <;> rfl), uw w⟩
    ·rw [if_neg c18] at H
     have c18b0 : decide ((wrap64 ((wrap64 (a0_1 * 8)) + a0_0)) < (wrap64 ((wrap64 (a1_1 * 8)) + a1_0))) = false := decide_eq_false c18
     clear c18
     by_cases c22 : (wrap64 ((wrap64 (a0_1 * 8)) + a0_0)) = (wrap64 ((wrap64 (a1_1 * 8)) + a1_0))
     ·rw [if_pos c22] at H
      have c22b0 : ((wrap64 ((wrap64 (a0_1 * 8)) + a0_0)) == (wrap64 ((wrap64 (a1_1 * 8)) + a1_0))) = true := beq_iff_eq.mpr c22
      have c22b1 : ((wrap64 ((wrap64 (a0_1 * 8)) + a0_0)) != (wrap64 ((wrap64 (a1_1 * 8)) + a1_0))) = false := bne_eq_false_iff_eq.mpr c22
      clear c22
      replace H := bT H; rcases H with ⟨rfl, H⟩ | ⟨rfl, H⟩
      ·obtain rfl := Option.some.inj H
       go_wp2
       go_ret
       exact ⟨by first | rfl | (simp [*, errW_none, errW_some] <;> rfl), uw w⟩
      ·obtain rfl := Option.some.inj H
       go_wp2
       go_ret
       exact ⟨by first | rfl | (simp [*, errW_none, errW_some] <;> rfl), uw w⟩
     ·rw [if_neg c22] at H
      have c22b0 : ((wrap64 ((wrap64 (a0_1 * 8)) + a0_0)) == (wrap64 ((wrap64 (a1_1 * 8)) + a1_0))) = false := beq_eq_false_iff_ne.mpr c22
      have c22b1 : ((wrap64 ((wrap64 (a0_1 * 8)) + a0_0)) != (wrap64 ((wrap64 (a1_1 * 8)) + a1_0))) = true := bne_iff_ne.mpr c22
      obtain rfl := Option.some.inj H
      go_wp2
      go_ret
      exact ⟨by first | rfl | (simp [*, errW_none, errW_some] <;> rfl), uw w⟩
def s_CellsUnder.f (a0_0 : Int) (a0_1 : Int) (a0_2 : Bool) : Option (Int × Int × Int × Int) := (s_DominoOk.f a0_0 a0_1 a0_2).bind fun t287 => (if t287 = true then ((s_l05Second.f a0_0 a0_1 a0_2).bind fun bt288 => (some (a0_0, a0_1, bt288.1, bt288.2))) else (some (0, 0, 0, 0)))
def s_CellsUnder.T3 : Bool × List (List Nat × List Nat) := (true, [([], []), ([0], [0]), ([], []), ([2], [2]), ([1, 3], [1, 3]), ([], []), ([5], [5]), ([4, 6, 0, 1, 2, 3, 4], [4]), ([6, 7, 0, 1, 2, 3, 4, 5, 6, 7], [6])])
def s_CellsUnder.B3 : List Nat := [0, 1, 0, 4, 15, 0, 32, 127, 255]
theorem s_CellsUnder.tab3 : rtab .any (opsOf Try.f70 3) = s_CellsUnder.T3 := by kernel_rfl
theorem s_CellsUnder.bits3 : waitsOk s_CellsUnder.T3.2 s_CellsUnder.B3 = true := by kernel_rfl
set_option maxRecDepth 100000 in
theorem s_CellsUnder.calls (a0_0 : Int) (a0_1 : Int) (a0_2 : Bool) (r1 : Int) (r2 : Int) (r3 : Int) (r4 : Int) (w : World) (h : s_CellsUnder.f a0_0 a0_1 a0_2 = some (r1, r2, r3, r4)) :
  Calls Try.prog 70 #[.agg #[.int .i64 a0_0, .int .i64 a0_1, .bool a0_2]] w fun e w' => e = .returned (.tuple #[.agg #[.int .i64 r1, .int .i64 r2], .agg #[.int .i64 r3, .int .i64 r4]]) ∧ Below w.heap.size w w' := by
 have hu41 := Try.underlying41
 have hu39 := Try.underlying39
 have HB : Up w w := ⟨Below.refl _ _⟩
 have H : ((s_DominoOk.f a0_0 a0_1 a0_2).bind fun t287 => (if t287 = true then ((s_l05Second.f a0_0 a0_1 a0_2).bind fun bt288 => (some (a0_0, a0_1, bt288.1, bt288.2))) else (some (0, 0, 0, 0)))) = some (r1, r2, r3, r4) := h
 clear h
 obtain ⟨t287, A2, H⟩ := bI H
 replace H := bT H; rcases H with ⟨rfl, H⟩ | ⟨rfl, H⟩
 ·obtain ⟨⟨t288, t289⟩, A4, H⟩ := bI H
  dsimp only at H
  simp only [Option.some.injEq, Prod.mk.injEq] at H
  obtain ⟨rfl, rfl, rfl, rfl⟩ := H
  go_enter Try.func70, Try.ntmps70
  try go_wp2_with (first | ((with_reducible refine gD 1 rfl ?_); refine bxE rfl #[.int .i64 a0_0, .int .i64 a0_1, .bool a0_2] 41 ?_ ?_; (focus first | (go_simp; done) | (go_simp; rfl)); intro gb284 _ w5 _ _) | ((with_reducible refine gD 2 rfl ?_); refine bxE rfl #[.int .i64 0, .int .i64 0] 39 ?_ ?_; (focus first | (go_simp; done) | (go_simp; rfl)); intro gb285 _ w6 _ _) | ((with_reducible refine gD 3 rfl ?_); refine bxE rfl #[.int .i64 0, .int .i64 0] 39 ?_ ?_; (focus first | (go_simp; done) | (go_simp; rfl)); intro gb286 _ w7 _ _) | ((with_reducible refine gC 68 rfl ?_); refine gK (some 5) rfl rfl Try.func68 (by kernel_rfl) rfl #[.agg #[.int .i64 a0_0, .int .i64 a0_1, .bool a0_2]] rfl (by (try simp only [sD, sE, sF]); first | done | rfl) (s_DominoOk.calls a0_0 a0_1 a0_2 true _ A2.out) ?_; intro w11 _))
  refine sV [(0,9),(2,11),(1,10),(3,12),(4,13),(5,14),(6,15),(7,0),(8,0)] (fun w' => w'.cell? ⟨gb284, 0, none⟩ = some (.int .i64 a0_0) ∧ w'.cell? ⟨gb284, 1, none⟩ = some (.int .i64 a0_1) ∧ w'.cell? ⟨gb284, 2, none⟩ = some (.bool a0_2)) [] (by kernel_rfl) rfl ⟨cl gb284 0 (by rfl), cl gb284 1 (by rfl), cl gb284 2 (by rfl)⟩ (fun hHeld => ?_); refine wTW s_CellsUnder.tab3 s_CellsUnder.bits3 (fun HT_ HW_ => ?_)
  have hd_ := stD w11
  generalize w11.drew = w12 at hd_ hHeld ⊢
  iterate 2 refine pV rfl rfl (any_of HT_.out (by kernel_rfl)) (by rfl) (fun _ _ _ _ h => h) ⟨_, fun w' => by go_simp; with_reducible rfl, _, by simp only [Act.put, sA, sB, sC, i64_w, i32_w]; rfl, ?_⟩
  iterate 2 refine tV rfl rfl (take_ofW HT_.out HW_.out (by kernel_rfl)) (by rfl) (fun _ _ _ _ h => h) hHeld ⟨_, fun w' s => by go_simp; with_reducible rfl, _, by simp only [Act.put, sA, sB, sC, i64_w, i32_w]; rfl, ?_⟩
  refine pV rfl rfl (any_of HT_.out (by kernel_rfl)) (by rfl) (fun _ _ _ _ h => h) ⟨_, fun w' => by go_simp; with_reducible rfl, _, by simp only [Act.put, sA, sB, sC, i64_w, i32_w]; rfl, ?_⟩
  refine tV rfl rfl (take_ofW HT_.out HW_.out (by kernel_rfl)) (by rfl) (fun _ _ _ _ h => h) hHeld ⟨_, fun w' s => by go_simp; with_reducible rfl, _, by simp only [Act.put, sA, sB, sC, i64_w, i32_w]; rfl, ?_⟩
  refine oV (N := some 15) rfl rfl (one_of HT_.out (by kernel_rfl)) (by decide) (fun K hK => ?_)
  refine goes_ Try.func133 (by kernel_rfl) rfl #[.agg #[.int .i64 a0_0, .int .i64 a0_1, .bool a0_2]] (by rfl) rfl rfl (by (try simp only [sD, sE, sF]); first | done | rfl) ?_
  with_reducible refine (s_l05Second.calls a0_0 a0_1 a0_2 t288 t289 _ A4.out).mono ?_
  rintro e w13 ⟨rfl, hb⟩
  refine ⟨_, rfl, ?_⟩
  have := Stp.mk hb
  refine hK.out _ _ ⟨cl gb284 0 (by rfl), cl gb284 1 (by rfl), cl gb284 2 (by rfl)⟩ (fun hHeld => ?_)
  clear hK K
  refine nV ⟨_, by show Act.put _ (some 15) _ = _; simp only [Act.put, sA, sB, sC, i64_w, i32_w]; rfl, ?_⟩
  refine oV (N := none) rfl rfl (one_of HT_.out (by kernel_rfl)) (by decide) (fun K hK => ?_)
  have hs14 : w13.cell? ⟨gb285, 0, none⟩ = some (.int .i64 0) := cl gb285 0 (by rfl)
  have hns14_0 := (ne gb284 gb285)
  have hns14_2 := (ne gb286 gb285)
  have hms14_0 := (ne gb285 gb284)
  have hms14_2 := (ne gb285 gb286)
  have hs15 : w13.cell? ⟨gb285, 1, none⟩ = some (.int .i64 0) := cl gb285 1 (by rfl)
  have hns15_0 := (ne gb284 gb285)
  have hns15_2 := (ne gb286 gb285)
  have hms15_0 := (ne gb285 gb284)
  have hms15_2 := (ne gb285 gb286)
  refine skip_ (w1 := ?_) (by rfl) rfl ?_ ?_
  rotate_left
  ·go_simp
   rfl
  refine hK.out _ _ ⟨((cell_far (p := ⟨gb285, _, none⟩) (ne gb284 gb285) _).trans (((cell_far (p := ⟨gb285, _, none⟩) (ne gb284 gb285) _).trans (hHeld.1)))), ((cell_far (p := ⟨gb285, _, none⟩) (ne gb284 gb285) _).trans (((cell_far (p := ⟨gb285, _, none⟩) (ne gb284 gb285) _).trans (hHeld.2.1)))), ((cell_far (p := ⟨gb285, _, none⟩) (ne gb284 gb285) _).trans (((cell_far (p := ⟨gb285, _, none⟩) (ne gb284 gb285) _).trans (hHeld.2.2))))⟩ (fun hHeld => ?_)
  clear hK K
  refine oV (N := none) rfl rfl (one_of HT_.out (by kernel_rfl)) (by decide) (fun K hK => ?_)
  have hs16 : w13.cell? ⟨gb286, 0, none⟩ = some (.int .i64 0) := cl gb286 0 (by rfl)
  have hns16_0 := (ne gb284 gb286)
  have hns16_1 := (ne gb285 gb286)
  have hms16_0 := (ne gb286 gb284)
  have hms16_1 := (ne gb286 gb285)
  have hs17 : w13.cell? ⟨gb286, 1, none⟩ = some (.int .i64 0) := cl gb286 1 (by rfl)
  have hns17_0 := (ne gb284 gb286)
  have hns17_1 := (ne gb285 gb286)
  have hms17_0 := (ne gb286 gb284)
  have hms17_1 := (ne gb286 gb285)
  refine skip_ (w1 := ?_) (by rfl) rfl ?_ ?_
  rotate_left
  ·go_simp
   rfl
  refine hK.out _ _ ⟨((cell_far (p := ⟨gb286, _, none⟩) (ne gb284 gb286) _).trans (((cell_far (p := ⟨gb286, _, none⟩) (ne gb284 gb286) _).trans (hHeld.1)))), ((cell_far (p := ⟨gb286, _, none⟩) (ne gb284 gb286) _).trans (((cell_far (p := ⟨gb286, _, none⟩) (ne gb284 gb286) _).trans (hHeld.2.1)))), ((cell_far (p := ⟨gb286, _, none⟩) (ne gb284 gb286) _).trans (((cell_far (p := ⟨gb286, _, none⟩) (ne gb284 gb286) _).trans (hHeld.2.2))))⟩ (fun hHeld => ?_)
  clear hK K
  refine dV (done_of HT_.out (by kernel_rfl)) ?_
  try go_wp2
  refine bodyPost_ret (results_cc rfl _ _ gb285 gb286 39 39 #[.int .i64 a0_0, .int .i64 a0_1] #[.int .i64 t288, .int .i64 t289] (0, 0) (0, 0) _ _ rfl (bkr gb285 (by rfl)) Try.underlying39 rfl (by kernel_rfl) rfl (bkr gb286 (by rfl)) Try.underlying39 rfl (by kernel_rfl)) rfl ?_
  exact ⟨by first | rfl | (simp [*, errW_none, errW_some] <;> rfl), uw w⟩
 ·simp only [Option.some.injEq, Prod.mk.injEq] at H
  obtain ⟨rfl, rfl, rfl, rfl⟩ := H
  go_enter Try.func70, Try.ntmps70
  go_wp2_with (first | ((with_reducible refine gD 1 rfl ?_); refine bxE rfl #[.int .i64 a0_0, .int .i64 a0_1, .bool a0_2] 41 ?_ ?_; (focus first | (go_simp; done) | (go_simp; rfl)); intro gb284 _ w18 _ _) | ((with_reducible refine gD 2 rfl ?_); refine bxE rfl #[.int .i64 0, .int .i64 0] 39 ?_ ?_; (focus first | (go_simp; done) | (go_simp; rfl)); intro gb285 _ w19 _ _) | ((with_reducible refine gD 3 rfl ?_); refine bxE rfl #[.int .i64 0, .int .i64 0] 39 ?_ ?_; (focus first | (go_simp; done) | (go_simp; rfl)); intro gb286 _ w20 _ _) | ((with_reducible refine gC 68 rfl ?_); refine gK (some 5) rfl rfl Try.func68 (by kernel_rfl) rfl #[.agg #[.int .i64 a0_0, .int .i64 a0_1, .bool a0_2]] rfl (by (try simp only [sD, sE, sF]); first | done | rfl) (s_DominoOk.calls a0_0 a0_1 a0_2 false _ A2.out) ?_; intro w24 _))
  refine bodyPost_ret (results_cc rfl _ _ gb285 gb286 39 39 #[.int .i64 0, .int .i64 0] #[.int .i64 0, .int .i64 0] (0, 0) (0, 0) _ _ rfl (bkr gb285 (by rfl)) Try.underlying39 rfl (by kernel_rfl) rfl (bkr gb286 (by rfl)) Try.underlying39 rfl (by kernel_rfl)) rfl ?_
  exact ⟨by first | rfl | (simp [*, errW_none, errW_some] <;> rfl), uw w⟩
def s_RegionOk.l0 : Nat → Int → List Int → Option (Bool)
 | 0, _, _ => none
 | k + 1, x3, x291000 => if x3 < (x291000.length : Int) then (if 0 ≤ x3 then ((s_l01In.f (rd x291000 x3) 0 255).bind fun t292 => (if t292 = true then (s_RegionOk.l0 k (wrap64 (x3 + 1)) x291000) else (some false))) else (none)) else (some (decide ((x291000.length : Int) ≤ 8)))
def s_RegionOk.f (k : Nat) (l0_0 : List Int) : Option (Bool) := s_RegionOk.l0 k 0 l0_0
theorem s_RegionOk.mono_l : ∀ k, (∀ y0 y1, LeO (s_RegionOk.l0 k y0 y1) (s_RegionOk.l0 (k + 1) y0 y1))
 | 0 => fun _ _ r h => by simp [s_RegionOk.l0] at h
 | k + 1 => by
  have ih0 := s_RegionOk.mono_l k
  ·intro y0 y1
   unfold s_RegionOk.l0
   repeat' with_reducible first
   | exact ih0 _ _
   | exact LeO.refl _
   | exact LeO.none _
   | refine LeO.ite ?_ ?_
   | refine LeO.bind ?_ (fun _ => ?_)
theorem s_RegionOk.mono : ∀ a0 k, LeO (s_RegionOk.f k a0) (s_RegionOk.f (k + 1) a0) := by
 intro a0 k
 have ih0 := s_RegionOk.mono_l k
 unfold s_RegionOk.f
 repeat' with_reducible first
 | exact ih0 _ _
 | exact LeO.refl _
 | exact LeO.none _
 | refine LeO.ite ?_ ?_
 | refine LeO.bind ?_ (fun _ => ?_)
set_option maxRecDepth 100000 in
theorem s_RegionOk.calls (k : Nat) (A0_0 : Option Addr) (c0_0 : Nat) (l0_0 : List Int) (r : Bool) (w : World) (hr0_0 : Kd.C (Kd.int .i64) w A0_0 l0_0.length l0_0) (hc0_0 : l0_0.length ≤ c0_0) (h : s_RegionOk.f k l0_0 = some r) :
  Calls Try.prog 73 #[.agg #[.slice A0_0 l0_0.length c0_0]] w fun e w' => e = .returned (.bool r) ∧ Below w.heap.size w w' := by
 have hu33 := Try.underlying33
 have HR0_0 := As.mk hr0_0
 have HC0_0 := As.mk hc0_0
 clear hr0_0 hc0_0
 have HB : Up w w := ⟨Below.refl _ _⟩
 have H : (s_RegionOk.l0 k 0 l0_0) = some r := h
 clear h
 have H' := As.mk H
 clear H
 go_enter Try.func73, Try.ntmps73
 go_wp2_with (first | ((with_reducible refine gD 1 rfl ?_); refine bxE rfl #[.slice A0_0 l0_0.length c0_0] 33 ?_ ?_; (focus first | (go_simp; done) | (go_simp; rfl)); intro gb290 _ w2 _ _))
 go_loopg [3] k (fun kq v3 w' => ∃ (x3_1 : Int), v3 = .int .i64 x3_1 ∧ As (s_RegionOk.l0 kq x3_1 l0_0 = some r) ∧ As (kq ≤ k) ∧ Bk w' gb290 (.cells #[(.slice A0_0 l0_0.length c0_0)] 33 (0, 0)) ∧ Up w w')
 case atStart => exact ⟨(0), (by first | rfl | (simp; done) | (simp [*]; done)), H', ⟨Nat.le_refl _⟩, bM (by rfl), ⟨uw w⟩⟩
 case round =>
  clear H'
  obtain ⟨x3_1, rfl, HA, HK1, BK290, HB⟩ := hrel
  cases gk with
  | zero => exact absurd HA.out (by simp [s_RegionOk.l0])
  | succ k1 =>
   have H := HA.out
   clear HA
   simp only [s_RegionOk.l0] at H
   by_cases c3 : x3_1 < (l0_0.length : Int)
   ·rw [if_pos c3] at H
    have c3b0 : decide (x3_1 < (l0_0.length : Int)) = true := decide_eq_true c3
    clear c3
    by_cases c4 : 0 ≤ x3_1
    ·rw [if_pos c4] at H
     have c4b0 : decide (0 ≤ x3_1) = true := decide_eq_true c4
     clear c4
     obtain ⟨t292, A5, H⟩ := bI H
     replace H := bT H; rcases H with ⟨rfl, H⟩ | ⟨rfl, H⟩
     ·have H' := As.mk H
      clear H
      have p291 : 0 ≤ (x3_1 : Int) := oD
      have q291 : x3_1 < (l0_0.length : Int) := oD
      obtain ⟨ad291, e291, hx291_0⟩ := Kd.at_int HR0_0.out x3_1 p291 q291
      cases e291
      replace hx291_0 := cx wr hx291_0
      replace p291 := eq_true p291
      replace q291 := eq_true q291
      go_wp2_with (first | ((with_reducible refine gC 103 rfl ?_); refine goesL_ (some 16) rfl rfl Try.func103 (by kernel_rfl) rfl #[.int .i64 (rd l0_0 x3_1), .int .i64 0, .int .i64 255] rfl (by (try simp only [sD, sE, sF]); first | done | rfl) ?_; (with_reducible refine (s_l01In.calls (rd l0_0 x3_1) 0 255 true _ A5.out).mono ?_); rintro e w' ⟨rfl, ⟨nd, rfl⟩⟩; refine ⟨_, rfl, ?_⟩))
      go_roundg k1
      case measure => have := HK1.out; omega
      case rel => exact ⟨(wrap64 (x3_1 + 1)), (by first | rfl | (simp; done) | (simp [*]; done)), H', ⟨by have := HK1.out; omega⟩, bM (by rfl), ⟨uw w⟩⟩
     ·obtain rfl := Option.some.inj H
      have p291 : 0 ≤ (x3_1 : Int) := oD
      have q291 : x3_1 < (l0_0.length : Int) := oD
      obtain ⟨ad291, e291, hx291_0⟩ := Kd.at_int HR0_0.out x3_1 p291 q291
      cases e291
      replace hx291_0 := cx wr hx291_0
      replace p291 := eq_true p291
      replace q291 := eq_true q291
      go_wp2_with (first | ((with_reducible refine gC 103 rfl ?_); refine goesL_ (some 16) rfl rfl Try.func103 (by kernel_rfl) rfl #[.int .i64 (rd l0_0 x3_1), .int .i64 0, .int .i64 255] rfl (by (try simp only [sD, sE, sF]); first | done | rfl) ?_; (with_reducible refine (s_l01In.calls (rd l0_0 x3_1) 0 255 false _ A5.out).mono ?_); rintro e w' ⟨rfl, ⟨nd, rfl⟩⟩; refine ⟨_, rfl, ?_⟩))
      go_ret
      exact ⟨by first | rfl | (simp [*, errW_none, errW_some] <;> rfl), uw w⟩
    ·rw [if_neg c4] at H
     exact absurd H (by simp)
   ·rw [if_neg c3] at H
    have c3b0 : decide (x3_1 < (l0_0.length : Int)) = false := decide_eq_false c3
    clear c3
    obtain rfl := Option.some.inj H
    go_wp2
    go_ret
    exact ⟨by first | rfl | (simp [*, errW_none, errW_some] <;> rfl), uw w⟩
def s_l03Has.f (l0_0 : List Int) (a1_0 : Int) (a1_1 : Int) : Option (Bool) := if a1_1 < (l0_0.length : Int) then (if 0 ≤ a1_1 then (if 0 ≤ a1_0 then (some ((Go.bits .and .i64 (shr .i64 (rd l0_0 a1_1) a1_0) 1) == 1)) else (none)) else (none)) else (some false)
set_option maxRecDepth 100000 in
theorem s_l03Has.calls (A0_0 : Option Addr) (c0_0 : Nat) (l0_0 : List Int) (a1_0 : Int) (a1_1 : Int) (r : Bool) (w : World) (hr0_0 : Kd.C (Kd.int .i64) w A0_0 l0_0.length l0_0) (hc0_0 : l0_0.length ≤ c0_0) (h : s_l03Has.f l0_0 a1_0 a1_1 = some r) :
  Calls Try.prog 134 #[.agg #[.slice A0_0 l0_0.length c0_0], .agg #[.int .i64 a1_0, .int .i64 a1_1]] w fun e w' => e = .returned (.bool r) ∧ Below w.heap.size w w' := by
 have hu33 := Try.underlying33
 have hu39 := Try.underlying39
 have HR0_0 := As.mk hr0_0
 have HC0_0 := As.mk hc0_0
 clear hr0_0 hc0_0
 have HB : Up w w := ⟨Below.refl _ _⟩
 have H : (if a1_1 < (l0_0.length : Int) then (if 0 ≤ a1_1 then (if 0 ≤ a1_0 then (some ((Go.bits .and .i64 (shr .i64 (rd l0_0 a1_1) a1_0) 1) == 1)) else (none)) else (none)) else (some false)) = some r := h
 clear h
 by_cases c3 : a1_1 < (l0_0.length : Int)
 ·rw [if_pos c3] at H
  have c3b0 : decide (a1_1 < (l0_0.length : Int)) = true := decide_eq_true c3
  clear c3
  by_cases c4 : 0 ≤ a1_1
  ·rw [if_pos c4] at H
   have c4b0 : decide (0 ≤ a1_1) = true := decide_eq_true c4
   clear c4
   by_cases c5 : 0 ≤ a1_0
   ·rw [if_pos c5] at H
    have c5b0 := eq_true c5
    have c5b1 : decide (0 ≤ a1_0) = true := decide_eq_true c5
    clear c5
    obtain ⟨ji6, hji6⟩ : ∃ j_ : Int, (shr .i64 (rd l0_0 a1_1) a1_0) = j_ := ⟨_, rfl⟩
    replace H : (some ((Go.bits .and .i64 (ji6) 1) == 1)) = some r := by first | (rw [hji6] at H; exact H) | (simp only [hji6] at H ⊢; exact H)
    have hji6_ : ((rd l0_0 a1_1) / 2 ^ min a1_0.toNat 64) = ji6 := hji6
    have hji6z : a1_0 ≤ 64 → ((rd l0_0 a1_1) / 2 ^ a1_0.toNat) = ji6 := shr_small hji6
    obtain rfl := Option.some.inj H
    go_enter Try.func134, Try.ntmps134
    go_wp2_with (first | ((with_reducible refine gD 2 rfl ?_); refine bxE rfl #[.slice A0_0 l0_0.length c0_0] 33 ?_ ?_; (focus first | (go_simp; done) | (go_simp; rfl)); intro gb293 _ w7 _ _) | ((with_reducible refine gD 3 rfl ?_); refine bxE rfl #[.int .i64 a1_0, .int .i64 a1_1] 39 ?_ ?_; (focus first | (go_simp; done) | (go_simp; rfl)); intro gb294 _ w8 _ _; have p295 : 0 ≤ (a1_1 : Int) := oD; have q295 : a1_1 < (l0_0.length : Int) := oD; obtain ⟨ad295, e295, hx295_0⟩ := Kd.at_int HR0_0.out a1_1 p295 q295; cases e295; replace hx295_0 := cx w8 hx295_0; replace p295 := eq_true p295; replace q295 := eq_true q295))
    repeat (go_quiet (first | ((with_reducible refine gD 2 rfl ?_); refine bxE rfl #[.slice A0_0 l0_0.length c0_0] 33 ?_ ?_; (focus first | (go_simp; done) | (go_simp; rfl)); intro gb293 _ w7 _ _) | ((with_reducible refine gD 3 rfl ?_); refine bxE rfl #[.int .i64 a1_0, .int .i64 a1_1] 39 ?_ ?_; (focus first | (go_simp; done) | (go_simp; rfl)); intro gb294 _ w8 _ _; have p295 : 0 ≤ (a1_1 : Int) := oD; have q295 : a1_1 < (l0_0.length : Int) := oD; obtain ⟨ad295, e295, hx295_0⟩ := Kd.at_int HR0_0.out a1_1 p295 q295; cases e295; replace hx295_0 := cx w8 hx295_0; replace p295 := eq_true p295; replace q295 := eq_true q295)); try go_wp2_with (first | ((with_reducible refine gD 2 rfl ?_); refine bxE rfl #[.slice A0_0 l0_0.length c0_0] 33 ?_ ?_; (focus first | (go_simp; done) | (go_simp; rfl)); intro gb293 _ w7 _ _) | ((with_reducible refine gD 3 rfl ?_); refine bxE rfl #[.int .i64 a1_0, .int .i64 a1_1] 39 ?_ ?_; (focus first | (go_simp; done) | (go_simp; rfl)); intro gb294 _ w8 _ _; have p295 : 0 ≤ (a1_1 : Int) := oD; have q295 : a1_1 < (l0_0.length : Int) := oD; obtain ⟨ad295, e295, hx295_0⟩ := Kd.at_int HR0_0.out a1_1 p295 q295; cases e295; replace hx295_0 := cx w8 hx295_0; replace p295 := eq_true p295; replace q295 := eq_true q295)))
    go_ret
    exact ⟨by first | rfl | (simp [errW_none, errW_some] <;> rfl) | (simp only [← hji6]; first | rfl | (simp [errW_none, errW_some] <;> rfl)) | (simp [*, errW_none, errW_some] <;> rfl), uw w⟩
   ·rw [if_neg c5] at H
    exact absurd H (by simp)
  ·rw [if_neg c4] at H
   exact absurd H (by simp)
 ·rw [if_neg c3] at H
  have c3b0 : decide (a1_1 < (l0_0.length : Int)) = false := decide_eq_false c3
  clear c3
  obtain rfl := Option.some.inj H
  go_enter Try.func134, Try.ntmps134
  go_wp2_with (first | ((with_reducible refine gD 2 rfl ?_); refine bxE rfl #[.slice A0_0 l0_0.length c0_0] 33 ?_ ?_; (focus first | (go_simp; done) | (go_simp; rfl)); intro gb293 _ w12 _ _) | ((with_reducible refine gD 3 rfl ?_); refine bxE rfl #[.int .i64 a1_0, .int .i64 a1_1] 39 ?_ ?_; (focus first | (go_simp; done) | (go_simp; rfl)); intro gb294 _ w13 _ _))
  repeat (go_quiet (first | ((with_reducible refine gD 2 rfl ?_); refine bxE rfl #[.slice A0_0 l0_0.length c0_0] 33 ?_ ?_; (focus first | (go_simp; done) | (go_simp; rfl)); intro gb293 _ w12 _ _) | ((with_reducible refine gD 3 rfl ?_); refine bxE rfl #[.int .i64 a1_0, .int .i64 a1_1] 39 ?_ ?_; (focus first | (go_simp; done) | (go_simp; rfl)); intro gb294 _ w13 _ _)); try go_wp2_with (first | ((with_reducible refine gD 2 rfl ?_); refine bxE rfl #[.slice A0_0 l0_0.length c0_0] 33 ?_ ?_; (focus first | (go_simp; done) | (go_simp; rfl)); intro gb293 _ w12 _ _) | ((with_reducible refine gD 3 rfl ?_); refine bxE rfl #[.int .i64 a1_0, .int .i64 a1_1] 39 ?_ ?_; (focus first | (go_simp; done) | (go_simp; rfl)); intro gb294 _ w13 _ _)))
  go_ret
  exact ⟨by first | rfl | (simp [*, errW_none, errW_some] <;> rfl), uw w⟩
def s_HasCell.f (k : Nat) (l0_0 : List Int) (a1_0 : Int) (a1_1 : Int) : Option (Bool) := (s_RegionOk.f k l0_0).bind fun t298 => (if t298 = true then ((s_CellOk.f a1_0 a1_1).bind fun t299 => (if t299 = true then ((s_l03Has.f l0_0 a1_0 a1_1).bind fun t300 => (some t300)) else (some false))) else (some false))
theorem s_HasCell.mono : ∀ a0 a1 a2 k, LeO (s_HasCell.f k a0 a1 a2) (s_HasCell.f (k + 1) a0 a1 a2) := by
 intro a0 a1 a2 k
 unfold s_HasCell.f
 repeat' with_reducible first
 | exact s_RegionOk.mono _ _
 | exact LeO.refl _
 | exact LeO.none _
 | refine LeO.ite ?_ ?_
 | refine LeO.bind ?_ (fun _ => ?_)
set_option maxRecDepth 100000 in
theorem s_HasCell.calls (k : Nat) (A0_0 : Option Addr) (c0_0 : Nat) (l0_0 : List Int) (a1_0 : Int) (a1_1 : Int) (r : Bool) (w : World) (hr0_0 : Kd.C (Kd.int .i64) w A0_0 l0_0.length l0_0) (hc0_0 : l0_0.length ≤ c0_0) (h : s_HasCell.f k l0_0 a1_0 a1_1 = some r) :
  Calls Try.prog 71 #[.agg #[.slice A0_0 l0_0.length c0_0], .agg #[.int .i64 a1_0, .int .i64 a1_1]] w fun e w' => e = .returned (.bool r) ∧ Below w.heap.size w w' := by
 have hu33 := Try.underlying33
 have hu39 := Try.underlying39
 have HR0_0 := As.mk hr0_0
 have HC0_0 := As.mk hc0_0
 clear hr0_0 hc0_0
 have HB : Up w w := ⟨Below.refl _ _⟩
 have H : ((s_RegionOk.f k l0_0).bind fun t298 => (if t298 = true then ((s_CellOk.f a1_0 a1_1).bind fun t299 => (if t299 = true then ((s_l03Has.f l0_0 a1_0 a1_1).bind fun t300 => (some t300)) else (some false))) else (some false))) = some r := h
 clear h
 obtain ⟨t298, A3, H⟩ := bI H
 replace H := bT H; rcases H with ⟨rfl, H⟩ | ⟨rfl, H⟩
 ·obtain ⟨t299, A5, H⟩ := bI H
  replace H := bT H; rcases H with ⟨rfl, H⟩ | ⟨rfl, H⟩
  ·obtain ⟨t300, A7, H⟩ := bI H
   obtain rfl := Option.some.inj H
   go_enter Try.func71, Try.ntmps71
   go_wp2_with (first | ((with_reducible refine gD 2 rfl ?_); refine bxE rfl #[.slice A0_0 l0_0.length c0_0] 33 ?_ ?_; (focus first | (go_simp; done) | (go_simp; rfl)); intro gb296 _ w8 _ _) | ((with_reducible refine gD 3 rfl ?_); refine bxE rfl #[.int .i64 a1_0, .int .i64 a1_1] 39 ?_ ?_; (focus first | (go_simp; done) | (go_simp; rfl)); intro gb297 _ w9 _ _) | ((with_reducible refine gC 73 rfl ?_); refine gK (some 6) rfl rfl Try.func73 (by kernel_rfl) rfl #[.agg #[.slice A0_0 l0_0.length c0_0]] rfl (by (try simp only [sD, sE, sF]); first | done | rfl) (s_RegionOk.calls k _ _ l0_0 true _ ?side1 ?side2 A3.out) ?_; (case side1 => exact (Kd.C_below HR0_0.out (uw w))); (case side2 => exact HC0_0.out); intro w12 _) | (go_at_call 132; (with_reducible refine (s_CellOk.calls a1_0 a1_1 true _ A5.out).mono ?_); rintro e w14 ⟨rfl, hb⟩; have := Stp.mk hb) | (go_at_call 134; (with_reducible refine (s_l03Has.calls _ _ l0_0 a1_0 a1_1 t300 _ ?side1 ?side2 A7.out).mono ?_); (case side1 => exact (Kd.C_below HR0_0.out (uw w))); (case side2 => exact HC0_0.out); rintro e w17 ⟨rfl, hb⟩; have := Stp.mk hb))
   go_ret
   exact ⟨by first | rfl | (simp [*, errW_none, errW_some] <;> rfl), uw w⟩
  ·obtain rfl := Option.some.inj H
   go_enter Try.func71, Try.ntmps71
   go_wp2_with (first | ((with_reducible refine gD 2 rfl ?_); refine bxE rfl #[.slice A0_0 l0_0.length c0_0] 33 ?_ ?_; (focus first | (go_simp; done) | (go_simp; rfl)); intro gb296 _ w18 _ _) | ((with_reducible refine gD 3 rfl ?_); refine bxE rfl #[.int .i64 a1_0, .int .i64 a1_1] 39 ?_ ?_; (focus first | (go_simp; done) | (go_simp; rfl)); intro gb297 _ w19 _ _) | ((with_reducible refine gC 73 rfl ?_); refine gK (some 6) rfl rfl Try.func73 (by kernel_rfl) rfl #[.agg #[.slice A0_0 l0_0.length c0_0]] rfl (by (try simp only [sD, sE, sF]); first | done | rfl) (s_RegionOk.calls k _ _ l0_0 true _ ?side1 ?side2 A3.out) ?_; (case side1 => exact (Kd.C_below HR0_0.out (uw w))); (case side2 => exact HC0_0.out); intro w22 _) | (go_at_call 132; (with_reducible refine (s_CellOk.calls a1_0 a1_1 false _ A5.out).mono ?_); rintro e w24 ⟨rfl, hb⟩; have := Stp.mk hb))
   go_ret
   exact ⟨by first | rfl | (simp [*, errW_none, errW_some] <;> rfl), uw w⟩
 ·obtain rfl := Option.some.inj H
  go_enter Try.func71, Try.ntmps71
  go_wp2_with (first | ((with_reducible refine gD 2 rfl ?_); refine bxE rfl #[.slice A0_0 l0_0.length c0_0] 33 ?_ ?_; (focus first | (go_simp; done) | (go_simp; rfl)); intro gb296 _ w25 _ _) | ((with_reducible refine gD 3 rfl ?_); refine bxE rfl #[.int .i64 a1_0, .int .i64 a1_1] 39 ?_ ?_; (focus first | (go_simp; done) | (go_simp; rfl)); intro gb297 _ w26 _ _) | ((with_reducible refine gC 73 rfl ?_); refine gK (some 6) rfl rfl Try.func73 (by kernel_rfl) rfl #[.agg #[.slice A0_0 l0_0.length c0_0]] rfl (by (try simp only [sD, sE, sF]); first | done | rfl) (s_RegionOk.calls k _ _ l0_0 false _ ?side1 ?side2 A3.out) ?_; (case side1 => exact (Kd.C_below HR0_0.out (uw w))); (case side2 => exact HC0_0.out); intro w29 _))
  go_ret
  exact ⟨by first | rfl | (simp [*, errW_none, errW_some] <;> rfl), uw w⟩
def s_CellIndex.f (a0_0 : Int) (a0_1 : Int) : Option (Int) := (s_CellOk.f a0_0 a0_1).bind fun t302 => (if t302 = true then (some (wrap64 ((wrap64 (a0_1 * 8)) + a0_0))) else (some (-1)))
set_option maxRecDepth 100000 in
theorem s_CellIndex.calls (a0_0 : Int) (a0_1 : Int) (r : Int) (w : World) (h : s_CellIndex.f a0_0 a0_1 = some r) :
  Calls Try.prog 72 #[.agg #[.int .i64 a0_0, .int .i64 a0_1]] w fun e w' => e = .returned (.int .i64 r) ∧ Below w.heap.size w w' := by
 have hu39 := Try.underlying39
 have HB : Up w w := ⟨Below.refl _ _⟩
 have H : ((s_CellOk.f a0_0 a0_1).bind fun t302 => (if t302 = true then (some (wrap64 ((wrap64 (a0_1 * 8)) + a0_0))) else (some (-1)))) = some r := h
 clear h
 obtain ⟨t302, A2, H⟩ := bI H
 replace H := bT H; rcases H with ⟨rfl, H⟩ | ⟨rfl, H⟩
 ·obtain rfl := Option.some.inj H
  go_enter Try.func72, Try.ntmps72
  go_wp2_with (first | ((with_reducible refine gD 1 rfl ?_); refine bxE rfl #[.int .i64 a0_0, .int .i64 a0_1] 39 ?_ ?_; (focus first | (go_simp; done) | (go_simp; rfl)); intro gb301 _ w4 _ _) | ((with_reducible refine gC 132 rfl ?_); refine gK (some 4) rfl rfl Try.func132 (by kernel_rfl) rfl #[.agg #[.int .i64 a0_0, .int .i64 a0_1]] rfl (by (try simp only [sD, sE, sF]); first | done | rfl) (s_CellOk.calls a0_0 a0_1 true _ A2.out) ?_; intro w6 _))
  go_ret
  exact ⟨by first | rfl | (simp [*, errW_none, errW_some] <;> rfl), uw w⟩
 ·obtain rfl := Option.some.inj H
  go_enter Try.func72, Try.ntmps72
  go_wp2_with (first | ((with_reducible refine gD 1 rfl ?_); refine bxE rfl #[.int .i64 a0_0, .int .i64 a0_1] 39 ?_ ?_; (focus first | (go_simp; done) | (go_simp; rfl)); intro gb301 _ w8 _ _) | ((with_reducible refine gC 132 rfl ?_); refine gK (some 4) rfl rfl Try.func132 (by kernel_rfl) rfl #[.agg #[.int .i64 a0_0, .int .i64 a0_1]] rfl (by (try simp only [sD, sE, sF]); first | done | rfl) (s_CellOk.calls a0_0 a0_1 false _ A2.out) ?_; intro w10 _))
  go_ret
  exact ⟨by first | rfl | (simp [*, errW_none, errW_some] <;> rfl), uw w⟩
mutual
def s_IsPartial.l0 : Nat → List (S41) → List Bool → Int → List Int → Option (Bool)
 | 0, _, _, _, _ => none
 | k + 1, x1, x5, x6, x304000 => if x6 < (x1.length : Int) then (if 0 ≤ x6 then ((s_DominoOk.f ((rd_T41 x1 x6).f0) ((rd_T41 x1 x6).f1) ((rd_T41 x1 x6).f2)).bind fun t308 => (if t308 = true then (if x6 > 0 then (if 0 ≤ (wrap64 (x6 - 1)) then (if (wrap64 (x6 - 1)) < (x1.length : Int) then ((s_IsDominoBefore.f k ((rd_T41 x1 (wrap64 (x6 - 1))).f0) ((rd_T41 x1 (wrap64 (x6 - 1))).f1) ((rd_T41 x1 (wrap64 (x6 - 1))).f2) ((rd_T41 x1 x6).f0) ((rd_T41 x1 x6).f1) ((rd_T41 x1 x6).f2)).bind fun t311 => (s_IsPartial.j1 k x1 x5 x6 (!t311) x304000)) else (none)) else (none)) else (s_IsPartial.j1 k x1 x5 x6 false x304000)) else (s_IsPartial.j1 k x1 x5 x6 true x304000))) else (none)) else ((s_RegionOk.f k x304000).bind fun t329 => (some t329))
def s_IsPartial.j1 : Nat → List (S41) → List Bool → Int → Bool → List Int → Option (Bool)
 | 0, _, _, _, _, _ => none
 | k + 1, x1, x5, x6, x38, x304000 => if x38 = true then (some false) else (if 0 ≤ x6 then (if x6 < (x1.length : Int) then ((s_CellsUnder.f ((rd_T41 x1 x6).f0) ((rd_T41 x1 x6).f1) ((rd_T41 x1 x6).f2)).bind fun bt313 => ((s_HasCell.f k x304000 bt313.1 bt313.2.1).bind fun t319 => (if t319 = true then ((s_HasCell.f k x304000 bt313.2.2.1 bt313.2.2.2).bind fun t320 => (if t320 = true then ((s_CellIndex.f bt313.1 bt313.2.1).bind fun t321 => (if 0 ≤ t321 then (if t321 < (x5.length : Int) then (if rdOf false x5 t321 = true then (s_IsPartial.j2 k x1 x5 x6 true x304000 bt313.1 bt313.2.1 bt313.2.2.1 bt313.2.2.2) else ((s_CellIndex.f bt313.2.2.1 bt313.2.2.2).bind fun t323 => (if 0 ≤ t323 then (if t323 < (x5.length : Int) then (s_IsPartial.j2 k x1 x5 x6 (rdOf false x5 t323) x304000 bt313.1 bt313.2.1 bt313.2.2.1 bt313.2.2.2) else (none)) else (none)))) else (none)) else (none))) else (s_IsPartial.j2 k x1 x5 x6 true x304000 bt313.1 bt313.2.1 bt313.2.2.1 bt313.2.2.2))) else (s_IsPartial.j2 k x1 x5 x6 true x304000 bt313.1 bt313.2.1 bt313.2.2.1 bt313.2.2.2)))) else (none)) else (none))
def s_IsPartial.j2 : Nat → List (S41) → List Bool → Int → Bool → List Int → Int → Int → Int → Int → Option (Bool)
 | 0, _, _, _, _, _, _, _, _, _ => none
 | k + 1, x1, x5, x6, x70, x304000, x318000, x318001, x319000, x319001 => if x70 = true then (some false) else ((s_CellIndex.f x318000 x318001).bind fun t325 => (if 0 ≤ t325 then (if t325 < (x5.length : Int) then ((s_CellIndex.f x319000 x319001).bind fun t327 => (if 0 ≤ t327 then (if t327 < (x5.length : Int) then (s_IsPartial.l0 k x1 ((x5.set (t325 : Int).toNat true).set (t327 : Int).toNat true) (wrap64 (x6 + 1)) x304000) else (none)) else (none))) else (none)) else (none)))
end
def s_IsPartial.f (k : Nat) (l0_0 : List Int) (l1 : List (S41)) : Option (Bool) := if 64 ≤ 281474976710656 then (s_IsPartial.l0 k l1 (List.replicate 64 false) 0 l0_0) else (none)
theorem s_IsPartial.mono_l : ∀ k, (∀ y0 y1 y2 y3, LeO (s_IsPartial.l0 k y0 y1 y2 y3) (s_IsPartial.l0 (k + 1) y0 y1 y2 y3)) ∧ (∀ y0 y1 y2 y3 y4, LeO (s_IsPartial.j1 k y0 y1 y2 y3 y4) (s_IsPartial.j1 (k + 1) y0 y1 y2 y3 y4)) ∧ (∀ y0 y1 y2 y3 y4 y5 y6 y7 y8, LeO (s_IsPartial.j2 k y0 y1 y2 y3 y4 y5 y6 y7 y8) (s_IsPartial.j2 (k + 1) y0 y1 y2 y3 y4 y5 y6 y7 y8))
 | 0 => ⟨fun _ _ _ _ r h => by simp [s_IsPartial.l0] at h, fun _ _ _ _ _ r h => by simp [s_IsPartial.j1] at h, fun _ _ _ _ _ _ _ _ _ r h => by simp [s_IsPartial.j2] at h⟩
 | k + 1 => by
  obtain ⟨ih0, ih1, ih2⟩ := s_IsPartial.mono_l k
  refine ⟨?_, ?_, ?_⟩ <;> intros
  all_goals first | unfold s_IsPartial.l0 | unfold s_IsPartial.j1 | unfold s_IsPartial.j2
  all_goals repeat' with_reducible first
  | exact ih0 _ _ _ _
  | exact ih1 _ _ _ _ _
  | exact ih2 _ _ _ _ _ _ _ _ _
  | exact s_HasCell.mono _ _ _ _
  | exact s_IsDominoBefore.mono _ _ _ _ _ _ _
  | exact s_RegionOk.mono _ _
  | exact LeO.refl _
  | exact LeO.none _
  | refine LeO.ite ?_ ?_
  | refine LeO.bind ?_ (fun _ => ?_)
theorem s_IsPartial.mono : ∀ a0 a1 k, LeO (s_IsPartial.f k a0 a1) (s_IsPartial.f (k + 1) a0 a1) := by
 intro a0 a1 k
 obtain ⟨ih0, ih1, ih2⟩ := s_IsPartial.mono_l k
 unfold s_IsPartial.f
 repeat' with_reducible first
 | exact ih0 _ _ _ _
 | exact ih1 _ _ _ _ _
 | exact ih2 _ _ _ _ _ _ _ _ _
 | exact s_HasCell.mono _ _ _ _
 | exact s_IsDominoBefore.mono _ _ _ _ _ _ _
 | exact s_RegionOk.mono _ _
 | exact LeO.refl _
 | exact LeO.none _
 | refine LeO.ite ?_ ?_
 | refine LeO.bind ?_ (fun _ => ?_)
def s_IsPartial.T5 : Bool × List (List Nat × List Nat) := (true, [([], []), ([], []), ([0, 1], [0, 1]), ([2], [2]), ([3], [3]), ([4], [4]), ([5, 4], [5]), ([6], [6]), ([7, 6], [6, 7]), ([8, 6, 6], [6, 8]), ([9], [9]), ([9], [9]), ([11, 9], [9, 11]), ([10, 12, 9], [9, 10, 12]), ([13, 9], [9, 13]), ([9], [9]), ([9], [9]), ([15, 16, 9], [9, 15, 16]), ([17, 9], [9, 17]), ([14, 18, 9, 9], [9, 14, 18]), ([19, 9], [9, 19]), ([9, 20, 6], [6, 9, 20]), ([6, 21], [6, 21])])
def s_IsPartial.B5 : List Nat := [0, 0, 3, 7, 15, 31, 63, 127, 255, 511, 1023, 1023, 3071, 8191, 16383, 1023, 1023, 99327, 230399, 524287, 1048575, 2097151, 4194303]
theorem s_IsPartial.tab5 : rtab .any (opsOf Try.f15 5) = s_IsPartial.T5 := by kernel_rfl
theorem s_IsPartial.bits5 : waitsOk s_IsPartial.T5.2 s_IsPartial.B5 = true := by kernel_rfl
set_option maxRecDepth 100000 in
theorem s_IsPartial.calls (k : Nat) (A0_0 : Option Addr) (c0_0 : Nat) (l0_0 : List Int) (A1 : Option Addr) (c1 : Nat) (l1 : List (S41)) (r : Bool) (w : World) (hr0_0 : Kd.C (Kd.int .i64) w A0_0 l0_0.length l0_0) (hc0_0 : l0_0.length ≤ c0_0) (hr1 : Kd.C k41 w A1 l1.length l1) (hc1 : l1.length ≤ c1) (h : s_IsPartial.f k l0_0 l1 = some r) :
  Calls Try.prog 15 #[.agg #[.slice A0_0 l0_0.length c0_0], .slice A1 l1.length c1] w fun e w' => e = .returned (.bool r) ∧ Below w.heap.size w w' := by
 have hu33 := Try.underlying33
 have hu41 := Try.underlying41
 have hu39 := Try.underlying39
 have HR0_0 := As.mk hr0_0
 have HC0_0 := As.mk hc0_0
 clear hr0_0 hc0_0
 have HR1 := As.mk hr1
 have HC1 := As.mk hc1
 clear hr1 hc1
 have HB : Up w w := ⟨Below.refl _ _⟩
 have H : (if 64 ≤ 281474976710656 then (s_IsPartial.l0 k l1 (List.replicate 64 false) 0 l0_0) else (none)) = some r := h
 clear h
 by_cases c3 : 64 ≤ 281474976710656
 ·rw [if_pos c3] at H
  have c3b0 := eq_true c3
  have c3b1 : decide (64 ≤ 281474976710656) = true := decide_eq_true c3
  clear c3
  obtain ⟨y304, hy304⟩ : ∃ y_ : List Bool, y_ = (List.replicate 64 false) := ⟨_, rfl⟩
  replace H : (s_IsPartial.l0 k l1 y304 0 l0_0) = some r := by first | (rw [hy304]; with_reducible exact H) | (have H2_ := (Option.bind_some _ _).symm.trans H; rw [hy304]; with_reducible exact H2_) | (have H2_ := (Option.bind_some _ _).symm.trans H; with_reducible exact H2_) | with_reducible exact H | (rw [hy304]; exact H) | exact H
  have Ny304 := As.mk hy304
  clear hy304
  have H' := As.mk H
  clear H
  go_enter Try.func15, Try.ntmps15
  go_wp2_with (first | ((with_reducible refine gD 2 rfl ?_); refine bxE rfl #[.slice A0_0 l0_0.length c0_0] 33 ?_ ?_; (focus first | (go_simp; done) | (go_simp; rfl)); intro gb303 _ w4 _ _) | ((with_reducible refine gate_dst (N := 9) rfl ?_); refine Kd.R_make Kd.bool _ 4 rfl (N := 9) rfl 89 _ _ rfl 64 rfl rfl Try.underlying89 (.bool false) 1 info4 rfl (by decide) (by omega) false (ok := fun _ => True) (okp := fun _ => True) rfl (fun _ hk => hk) trivial (by omega) (by omega) (Below.refl _ _) (Nat.le_refl _) ?_; intro v305 w5 ho6 hb hg_ hnew_; clear hg_ hnew_; (first | rw [← Ny304.out] at ho6 | (simp only [Int.reduceToNat] at ho6; rw [← Ny304.out] at ho6)); have := Stp.mk hb; have HO306 := As.mk (Kd.R_lower ho6 (below_size (uw w))); clear hb ho6))
  go_loopg [6] k (fun kq v6 w' => ∃ (x5_1 : List Bool) (x6_1 : Int), v6 = .int .i64 x6_1 ∧ As (s_IsPartial.l0 kq l1 x5_1 x6_1 l0_0 = some r) ∧ As (kq ≤ k) ∧ As (Kd.R Kd.bool 4 w' w.heap.size (fun _ => True) v305 x5_1) ∧ Bk w' gb303 (.cells #[(.slice A0_0 l0_0.length c0_0)] 33 (0, 0)) ∧ Up w w')
  case atStart => exact ⟨(y304), (0), (by first | rfl | (simp; done) | (simp [*]; done)), H', ⟨Nat.le_refl _⟩, ⟨rX HO306.out⟩, bM (by rfl), ⟨uw w⟩⟩
  case round =>
   clear H'
   try clear c3
   try clear c3b0
   try clear c3b1
   obtain ⟨x5_1, x6_1, rfl, HA, HK1, HO_5, BK303, HB⟩ := hrel
   cases gk with
   | zero => exact absurd HA.out (by simp [s_IsPartial.l0])
   | succ k1 =>
    have H := HA.out
    clear HA
    simp only [s_IsPartial.l0] at H
    by_cases c7 : x6_1 < (l1.length : Int)
    ·rw [if_pos c7] at H
     have c7b0 : decide (x6_1 < (l1.length : Int)) = true := decide_eq_true c7
     clear c7
     have HC8 := As.mk H
     clear H
     go_upto_region 5 with (fail)
     go_cut [38] (fun v38 wc => ∃ (kq : Nat) (x38_7 : Bool), v38 = .bool x38_7 ∧ As (s_IsPartial.j1 kq l1 x5_1 x6_1 x38_7 l0_0 = some r) ∧ As (kq ≤ k1) ∧ As (Kd.R Kd.bool 4 wc w.heap.size (fun _ => True) v305 x5_1) ∧ Bk wc gb303 (.cells #[(.slice A0_0 l0_0.length c0_0)] 33 (0, 0)) ∧ Up w wc)
     case first =>
      have H := HC8.out
      clear HC8
      by_cases c9 : 0 ≤ x6_1
      ·rw [if_pos c9] at H
       have c9b0 : decide (0 ≤ x6_1) = true := decide_eq_true c9
       clear c9
       (first | rw [c9b0] | (simp only [i64_w, i32_w]; rw [c9b0]) | skip)
       obtain ⟨t308, A10, H⟩ := bI H
       replace H := bT H; rcases H with ⟨rfl, H⟩ | ⟨rfl, H⟩
       ·by_cases c12 : x6_1 > 0
        ·rw [if_pos c12] at H
         have c12b0 : decide (0 < x6_1) = true := decide_eq_true c12
         clear c12
         obtain ⟨ji13, hji13⟩ : ∃ j_ : Int, (wrap64 (x6_1 - 1)) = j_ := ⟨_, rfl⟩
         replace H : (if 0 ≤ (ji13) then (if (ji13) < (l1.length : Int) then ((s_IsDominoBefore.f k1 ((rd_T41 l1 (ji13)).f0) ((rd_T41 l1 (ji13)).f1) ((rd_T41 l1 (ji13)).f2) ((rd_T41 l1 x6_1).f0) ((rd_T41 l1 x6_1).f1) ((rd_T41 l1 x6_1).f2)).bind fun t311 => (s_IsPartial.j1 k1 l1 x5_1 x6_1 (!t311) l0_0)) else (none)) else (none)) = some r := by first | (rw [hji13] at H; exact H) | (simp only [hji13] at H ⊢; exact H)
         (try rw [hji13] at A10)
         have hji13w : (IntKind.i64.wrap (x6_1 - 1)) = ji13 := (i64_w _).trans hji13
         by_cases c14 : 0 ≤ (ji13)
         ·rw [if_pos c14] at H
          have c14b0 : decide (0 ≤ (ji13)) = true := decide_eq_true c14
          clear c14
          by_cases c15 : (ji13) < (l1.length : Int)
          ·rw [if_pos c15] at H
           have c15b0 : decide ((ji13) < (l1.length : Int)) = true := decide_eq_true c15
           clear c15
           obtain ⟨t311, A16, H⟩ := bI H
           have H' := As.mk H
           clear H
           try go_wp2
           replace HO_5 := As.mk (Kd.R_drew HO_5.out)
           have p307 : 0 ≤ (x6_1 : Int) := oD
           have q307 : x6_1 < (l1.length : Int) := oD
           obtain ⟨ad307, e307, hx307_0, hx307_1, hx307_2⟩ := at_T41 HR1.out x6_1 p307 q307
           have hw307_2 := hx307_2
           have hw307_1 := hx307_1
           have hw307_0 := hx307_0
           cases e307
           replace hx307_0 := cx wr hx307_0
           replace hx307_1 := cx wr hx307_1
           replace hx307_2 := cx wr hx307_2
           replace p307 := eq_true p307
           replace q307 := eq_true q307
           have p309 : 0 ≤ ((ji13) : Int) := oD
           have q309 : (ji13) < (l1.length : Int) := oD
           obtain ⟨ad309, e309, hx309_0, hx309_1, hx309_2⟩ := at_T41 HR1.out (ji13) p309 q309
           have hw309_2 := hx309_2
           have hw309_1 := hx309_1
           have hw309_0 := hx309_0
           obtain rfl : ad307 = ad309 := (by injection e309)
           replace hx309_0 := cx wr hx309_0
           replace hx309_1 := cx wr hx309_1
           replace hx309_2 := cx wr hx309_2
           replace p309 := eq_true p309
           replace q309 := eq_true q309
           have p310 : 0 ≤ (x6_1 : Int) := oD
           have q310 : x6_1 < (l1.length : Int) := oD
           obtain ⟨ad310, e310, hx310_0, hx310_1, hx310_2⟩ := at_T41 HR1.out x6_1 p310 q310
           have hw310_2 := hx310_2
           have hw310_1 := hx310_1
           have hw310_0 := hx310_0
           obtain rfl : ad307 = ad310 := (by injection e310)
           replace hx310_0 := cx wr hx310_0
           replace hx310_1 := cx wr hx310_1
           replace hx310_2 := cx wr hx310_2
           replace p310 := eq_true p310
           replace q310 := eq_true q310
           refine sV [(0,16),(1,17),(2,18),(3,19),(4,20),(5,21),(6,22),(7,23),(8,24),(9,25),(10,26),(11,27),(12,28),(13,29),(15,31),(16,32),(17,33),(14,30),(18,34),(19,35),(20,36),(21,37),(22,38)] (fun w' => w'.cell? (ad307.add ((x6_1).toNat * 3)) = some (.int .i64 ((rd_T41 l1 x6_1).f0)) ∧ w'.cell? ⟨(ad307.add ((x6_1).toNat * 3)).block, (ad307.add ((x6_1).toNat * 3)).off + 1, none⟩ = some (.int .i64 ((rd_T41 l1 x6_1).f1)) ∧ w'.cell? ⟨(ad307.add ((x6_1).toNat * 3)).block, (ad307.add ((x6_1).toNat * 3)).off + 2, none⟩ = some (.bool ((rd_T41 l1 x6_1).f2)) ∧ w'.cell? (ad307.add (((ji13)).toNat * 3)) = some (.int .i64 ((rd_T41 l1 (ji13)).f0)) ∧ w'.cell? ⟨(ad307.add (((ji13)).toNat * 3)).block, (ad307.add (((ji13)).toNat * 3)).off + 1, none⟩ = some (.int .i64 ((rd_T41 l1 (ji13)).f1)) ∧ w'.cell? ⟨(ad307.add (((ji13)).toNat * 3)).block, (ad307.add (((ji13)).toNat * 3)).off + 2, none⟩ = some (.bool ((rd_T41 l1 (ji13)).f2)) ∧ w'.cell? (ad307.add ((x6_1).toNat * 3)) = some (.int .i64 ((rd_T41 l1 x6_1).f0)) ∧ w'.cell? ⟨(ad307.add ((x6_1).toNat * 3)).block, (ad307.add ((x6_1).toNat * 3)).off + 1, none⟩ = some (.int .i64 ((rd_T41 l1 x6_1).f1)) ∧ w'.cell? ⟨(ad307.add ((x6_1).toNat * 3)).block, (ad307.add ((x6_1).toNat * 3)).off + 2, none⟩ = some (.bool ((rd_T41 l1 x6_1).f2))) [] (by kernel_rfl) rfl ⟨(cx wr hw307_0), (cx wr hw307_1), (cx wr hw307_2), (cx wr hw309_0), (cx wr hw309_1), (cx wr hw309_2), (cx wr hw310_0), (cx wr hw310_1), (cx wr hw310_2)⟩ (fun hHeld => ?_); refine wTW s_IsPartial.tab5 s_IsPartial.bits5 (fun HT_ HW_ => ?_)
           have hd_ := stD wr
           generalize wr.drew = w17 at hd_ HO_5 hx307_0 hx307_1 hx307_2 hx309_0 hx309_1 hx309_2 hx310_0 hx310_1 hx310_2 hHeld ⊢
           iterate 3 refine pV rfl rfl (any_of HT_.out (by kernel_rfl)) (by rfl) (fun _ _ _ _ h => h) ⟨_, fun w' => by go_simp; with_reducible rfl, _, by simp only [Act.put, sA, sB, sC, i64_w, i32_w]; rfl, ?_⟩
           refine tV rfl rfl (take_ofW HT_.out HW_.out (by kernel_rfl)) (by rfl) (fun _ _ _ _ h => h) hHeld ⟨_, fun w' s => by go_simp; with_reducible rfl, _, by simp only [Act.put, sA, sB, sC, i64_w, i32_w]; rfl, ?_⟩
           refine oV (N := some 20) rfl rfl (one_of HT_.out (by kernel_rfl)) (by decide) (fun K hK => ?_)
           refine goes_ Try.func68 (by kernel_rfl) rfl #[.agg #[.int .i64 ((rd_T41 l1 x6_1).f0), .int .i64 ((rd_T41 l1 x6_1).f1), .bool ((rd_T41 l1 x6_1).f2)]] (by rfl) rfl rfl (by (try simp only [sD, sE, sF]); first | done | rfl) ?_
           with_reducible refine (s_DominoOk.calls ((rd_T41 l1 x6_1).f0) ((rd_T41 l1 x6_1).f1) ((rd_T41 l1 x6_1).f2) true _ A10.out).mono ?_
           rintro e w18 ⟨rfl, hb⟩
           refine ⟨_, rfl, ?_⟩
           have := Stp.mk hb
           replace HO_5 := hB HO_5 hb
           refine hK.out _ _ ⟨(cx w18 hw307_0), (cx w18 hw307_1), (cx w18 hw307_2), (cx w18 hw309_0), (cx w18 hw309_1), (cx w18 hw309_2), (cx w18 hw310_0), (cx w18 hw310_1), (cx w18 hw310_2)⟩ (fun hHeld => ?_)
           clear hK K
           refine nV ⟨_, by show Act.put _ (some 20) _ = _; simp only [Act.put, sA, sB, sC, i64_w, i32_w]; rfl, ?_⟩
           iterate 12 refine pV rfl rfl (any_of HT_.out (by kernel_rfl)) (by rfl) (fun _ _ _ _ h => h) ⟨_, fun w' => by go_simp; with_reducible rfl, _, by simp only [Act.put, sA, sB, sC, i64_w, i32_w]; rfl, ?_⟩
           iterate 2 refine tV rfl rfl (take_ofW HT_.out HW_.out (by kernel_rfl)) (by rfl) (fun _ _ _ _ h => h) hHeld ⟨_, fun w' s => by go_simp; with_reducible rfl, _, by simp only [Act.put, sA, sB, sC, i64_w, i32_w]; rfl, ?_⟩
           refine oV (N := some 35) rfl rfl (one_of HT_.out (by kernel_rfl)) (by decide) (fun K hK => ?_)
           refine goes_ Try.func69 (by kernel_rfl) rfl #[.agg #[.int .i64 ((rd_T41 l1 (ji13)).f0), .int .i64 ((rd_T41 l1 (ji13)).f1), .bool ((rd_T41 l1 (ji13)).f2)], .agg #[.int .i64 ((rd_T41 l1 x6_1).f0), .int .i64 ((rd_T41 l1 x6_1).f1), .bool ((rd_T41 l1 x6_1).f2)]] (by rfl) rfl rfl (by (try simp only [List.map_toArray, List.map_cons, List.map_nil]); first | done | (simp only [hji13]; rfl) | rfl | (simp only [List.length_drop, List.length_take]; rfl)) ?_
           with_reducible refine (s_IsDominoBefore.calls k1 ((rd_T41 l1 (ji13)).f0) ((rd_T41 l1 (ji13)).f1) ((rd_T41 l1 (ji13)).f2) ((rd_T41 l1 x6_1).f0) ((rd_T41 l1 x6_1).f1) ((rd_T41 l1 x6_1).f2) t311 _ A16.out).mono ?_
           rintro e w19 ⟨rfl, hb⟩
           refine ⟨_, rfl, ?_⟩
           have := Stp.mk hb
           replace HO_5 := hB HO_5 hb
           refine hK.out _ _ ⟨(cx w19 hw307_0), (cx w19 hw307_1), (cx w19 hw307_2), (cx w19 hw309_0), (cx w19 hw309_1), (cx w19 hw309_2), (cx w19 hw310_0), (cx w19 hw310_1), (cx w19 hw310_2)⟩ (fun hHeld => ?_)
           clear hK K
           refine nV ⟨_, by show Act.put _ (some 35) _ = _; simp only [Act.put, sA, sB, sC, i64_w, i32_w]; rfl, ?_⟩
           iterate 3 refine pV rfl rfl (any_of HT_.out (by kernel_rfl)) (by rfl) (fun _ _ _ _ h => h) ⟨_, fun w' => by go_simp; with_reducible rfl, _, by simp only [Act.put, sA, sB, sC, i64_w, i32_w]; rfl, ?_⟩
           refine dV (done_of HT_.out (by kernel_rfl)) ?_
           try go_wp2
           go_meet
           case rel => exact ⟨_, (!t311), (by first | rfl | (simp; done) | (simp [*]; done)), H', ⟨by have := HK1.out; first | omega | exact Nat.le_refl _⟩, ⟨rX HO_5.out⟩, bM (by rfl), ⟨uw w⟩⟩
          ·rw [if_neg c15] at H
           exact absurd H (by simp)
         ·rw [if_neg c14] at H
          exact absurd H (by simp)
        ·rw [if_neg c12] at H
         have c12b0 : decide (0 < x6_1) = false := decide_eq_false c12
         clear c12
         have H' := As.mk H
         clear H
         try go_wp2
         replace HO_5 := As.mk (Kd.R_drew HO_5.out)
         have p307 : 0 ≤ (x6_1 : Int) := oD
         have q307 : x6_1 < (l1.length : Int) := oD
         obtain ⟨ad307, e307, hx307_0, hx307_1, hx307_2⟩ := at_T41 HR1.out x6_1 p307 q307
         have hw307_2 := hx307_2
         have hw307_1 := hx307_1
         have hw307_0 := hx307_0
         cases e307
         replace hx307_0 := cx wr hx307_0
         replace hx307_1 := cx wr hx307_1
         replace hx307_2 := cx wr hx307_2
         replace p307 := eq_true p307
         replace q307 := eq_true q307
         refine sV [(0,16),(1,17),(2,18),(3,19),(4,20),(5,21),(6,22),(7,23),(8,24),(9,25),(10,26),(11,27),(12,28),(13,29),(14,30),(15,31),(16,32),(17,33),(18,34),(19,35),(20,36),(21,37),(22,38)] (fun w' => w'.cell? (ad307.add ((x6_1).toNat * 3)) = some (.int .i64 ((rd_T41 l1 x6_1).f0)) ∧ w'.cell? ⟨(ad307.add ((x6_1).toNat * 3)).block, (ad307.add ((x6_1).toNat * 3)).off + 1, none⟩ = some (.int .i64 ((rd_T41 l1 x6_1).f1)) ∧ w'.cell? ⟨(ad307.add ((x6_1).toNat * 3)).block, (ad307.add ((x6_1).toNat * 3)).off + 2, none⟩ = some (.bool ((rd_T41 l1 x6_1).f2))) [] (by kernel_rfl) rfl ⟨(cx wr hw307_0), (cx wr hw307_1), (cx wr hw307_2)⟩ (fun hHeld => ?_); refine wTW s_IsPartial.tab5 s_IsPartial.bits5 (fun HT_ HW_ => ?_)
         have hd_ := stD wr
         generalize wr.drew = w20 at hd_ HO_5 hx307_0 hx307_1 hx307_2 hHeld ⊢
         iterate 3 refine pV rfl rfl (any_of HT_.out (by kernel_rfl)) (by rfl) (fun _ _ _ _ h => h) ⟨_, fun w' => by go_simp; with_reducible rfl, _, by simp only [Act.put, sA, sB, sC, i64_w, i32_w]; rfl, ?_⟩
         refine tV rfl rfl (take_ofW HT_.out HW_.out (by kernel_rfl)) (by rfl) (fun _ _ _ _ h => h) hHeld ⟨_, fun w' s => by go_simp; with_reducible rfl, _, by simp only [Act.put, sA, sB, sC, i64_w, i32_w]; rfl, ?_⟩
         refine oV (N := some 20) rfl rfl (one_of HT_.out (by kernel_rfl)) (by decide) (fun K hK => ?_)
         refine goes_ Try.func68 (by kernel_rfl) rfl #[.agg #[.int .i64 ((rd_T41 l1 x6_1).f0), .int .i64 ((rd_T41 l1 x6_1).f1), .bool ((rd_T41 l1 x6_1).f2)]] (by rfl) rfl rfl (by (try simp only [sD, sE, sF]); first | done | rfl) ?_
         with_reducible refine (s_DominoOk.calls ((rd_T41 l1 x6_1).f0) ((rd_T41 l1 x6_1).f1) ((rd_T41 l1 x6_1).f2) true _ A10.out).mono ?_
         rintro e w21 ⟨rfl, hb⟩
         refine ⟨_, rfl, ?_⟩
         have := Stp.mk hb
         replace HO_5 := hB HO_5 hb
         refine hK.out _ _ ⟨(cx w21 hw307_0), (cx w21 hw307_1), (cx w21 hw307_2)⟩ (fun hHeld => ?_)
         clear hK K
         refine nV ⟨_, by show Act.put _ (some 20) _ = _; simp only [Act.put, sA, sB, sC, i64_w, i32_w]; rfl, ?_⟩
         iterate 5 refine pV rfl rfl (any_of HT_.out (by kernel_rfl)) (by rfl) (fun _ _ _ _ h => h) ⟨_, fun w' => by go_simp; with_reducible rfl, _, by simp only [Act.put, sA, sB, sC, i64_w, i32_w]; rfl, ?_⟩
         iterate 11 refine fV rfl rfl (any_of HT_.out (by kernel_rfl)) (by rfl) (fun _ _ _ _ h => h) ⟨_, by simp only [Act.put, sA, sB, sC, i64_w, i32_w]; rfl, ?_⟩
         iterate 2 refine pV rfl rfl (any_of HT_.out (by kernel_rfl)) (by rfl) (fun _ _ _ _ h => h) ⟨_, fun w' => by go_simp; with_reducible rfl, _, by simp only [Act.put, sA, sB, sC, i64_w, i32_w]; rfl, ?_⟩
         refine dV (done_of HT_.out (by kernel_rfl)) ?_
         try go_wp2
         go_meet
         case rel => exact ⟨_, (false), (by first | rfl | (simp; done) | (simp [*]; done)), H', ⟨by have := HK1.out; first | omega | exact Nat.le_refl _⟩, ⟨rX HO_5.out⟩, bM (by rfl), ⟨uw w⟩⟩
       ·have H' := As.mk H
        clear H
        try go_wp2
        replace HO_5 := As.mk (Kd.R_drew HO_5.out)
        have p307 : 0 ≤ (x6_1 : Int) := oD
        have q307 : x6_1 < (l1.length : Int) := oD
        obtain ⟨ad307, e307, hx307_0, hx307_1, hx307_2⟩ := at_T41 HR1.out x6_1 p307 q307
        have hw307_2 := hx307_2
        have hw307_1 := hx307_1
        have hw307_0 := hx307_0
        cases e307
        replace hx307_0 := cx wr hx307_0
        replace hx307_1 := cx wr hx307_1
        replace hx307_2 := cx wr hx307_2
        replace p307 := eq_true p307
        replace q307 := eq_true q307
        refine sV [(0,16),(1,17),(2,18),(3,19),(4,20),(5,21),(6,22),(7,23),(8,24),(9,25),(10,26),(11,27),(12,28),(13,29),(14,30),(15,31),(16,32),(17,33),(18,34),(19,35),(20,36),(21,37),(22,38)] (fun w' => w'.cell? (ad307.add ((x6_1).toNat * 3)) = some (.int .i64 ((rd_T41 l1 x6_1).f0)) ∧ w'.cell? ⟨(ad307.add ((x6_1).toNat * 3)).block, (ad307.add ((x6_1).toNat * 3)).off + 1, none⟩ = some (.int .i64 ((rd_T41 l1 x6_1).f1)) ∧ w'.cell? ⟨(ad307.add ((x6_1).toNat * 3)).block, (ad307.add ((x6_1).toNat * 3)).off + 2, none⟩ = some (.bool ((rd_T41 l1 x6_1).f2))) [] (by kernel_rfl) rfl ⟨(cx wr hw307_0), (cx wr hw307_1), (cx wr hw307_2)⟩ (fun hHeld => ?_); refine wTW s_IsPartial.tab5 s_IsPartial.bits5 (fun HT_ HW_ => ?_)
        have hd_ := stD wr
        generalize wr.drew = w22 at hd_ HO_5 hx307_0 hx307_1 hx307_2 hHeld ⊢
        iterate 3 refine pV rfl rfl (any_of HT_.out (by kernel_rfl)) (by rfl) (fun _ _ _ _ h => h) ⟨_, fun w' => by go_simp; with_reducible rfl, _, by simp only [Act.put, sA, sB, sC, i64_w, i32_w]; rfl, ?_⟩
        refine tV rfl rfl (take_ofW HT_.out HW_.out (by kernel_rfl)) (by rfl) (fun _ _ _ _ h => h) hHeld ⟨_, fun w' s => by go_simp; with_reducible rfl, _, by simp only [Act.put, sA, sB, sC, i64_w, i32_w]; rfl, ?_⟩
        refine oV (N := some 20) rfl rfl (one_of HT_.out (by kernel_rfl)) (by decide) (fun K hK => ?_)
        refine goes_ Try.func68 (by kernel_rfl) rfl #[.agg #[.int .i64 ((rd_T41 l1 x6_1).f0), .int .i64 ((rd_T41 l1 x6_1).f1), .bool ((rd_T41 l1 x6_1).f2)]] (by rfl) rfl rfl (by (try simp only [sD, sE, sF]); first | done | rfl) ?_
        with_reducible refine (s_DominoOk.calls ((rd_T41 l1 x6_1).f0) ((rd_T41 l1 x6_1).f1) ((rd_T41 l1 x6_1).f2) false _ A10.out).mono ?_
        rintro e w23 ⟨rfl, hb⟩
        refine ⟨_, rfl, ?_⟩
        have := Stp.mk hb
        replace HO_5 := hB HO_5 hb
        refine hK.out _ _ ⟨(cx w23 hw307_0), (cx w23 hw307_1), (cx w23 hw307_2)⟩ (fun hHeld => ?_)
        clear hK K
        refine nV ⟨_, by show Act.put _ (some 20) _ = _; simp only [Act.put, sA, sB, sC, i64_w, i32_w]; rfl, ?_⟩
        iterate 2 refine pV rfl rfl (any_of HT_.out (by kernel_rfl)) (by rfl) (fun _ _ _ _ h => h) ⟨_, fun w' => by go_simp; with_reducible rfl, _, by simp only [Act.put, sA, sB, sC, i64_w, i32_w]; rfl, ?_⟩
        iterate 15 refine fV rfl rfl (any_of HT_.out (by kernel_rfl)) (by rfl) (fun _ _ _ _ h => h) ⟨_, by simp only [Act.put, sA, sB, sC, i64_w, i32_w]; rfl, ?_⟩
        refine pV rfl rfl (any_of HT_.out (by kernel_rfl)) (by rfl) (fun _ _ _ _ h => h) ⟨_, fun w' => by go_simp; with_reducible rfl, _, by simp only [Act.put, sA, sB, sC, i64_w, i32_w]; rfl, ?_⟩
        refine dV (done_of HT_.out (by kernel_rfl)) ?_
        try go_wp2
        go_meet
        case rel => exact ⟨_, (true), (by first | rfl | (simp; done) | (simp [*]; done)), H', ⟨by have := HK1.out; first | omega | exact Nat.le_refl _⟩, ⟨rX HO_5.out⟩, bM (by rfl), ⟨uw w⟩⟩
      ·rw [if_neg c9] at H
       exact absurd H (by simp)
     case rest =>
      clear HC8
      obtain ⟨kq, x38_7, rfl, HA, HJ7, HO_5, BK303, HB⟩ := hcut
      cases kq with
      | zero => exact absurd HA.out (by simp [s_IsPartial.j1])
      | succ kj7 =>
       have H := HA.out
       clear HA
       simp only [s_IsPartial.j1] at H
       replace H := bT H; rcases H with ⟨rfl, H⟩ | ⟨rfl, H⟩
       ·obtain rfl := Option.some.inj H
        go_wp2
        go_ret
        exact ⟨by first | rfl | (simp [*, errW_none, errW_some] <;> rfl), uw w⟩
       ·by_cases c25 : 0 ≤ x6_1
        ·rw [if_pos c25] at H
         have c25b0 : decide (0 ≤ x6_1) = true := decide_eq_true c25
         clear c25
         by_cases c26 : x6_1 < (l1.length : Int)
         ·rw [if_pos c26] at H
          have c26b0 : decide (x6_1 < (l1.length : Int)) = true := decide_eq_true c26
          clear c26
          obtain ⟨⟨t313, t314, t315, t316⟩, A27, H⟩ := bI H
          dsimp only at H
          have HC28 := As.mk H
          clear H
          have p312 : 0 ≤ (x6_1 : Int) := oD
          have q312 : x6_1 < (l1.length : Int) := oD
          obtain ⟨ad312, e312, hx312_0, hx312_1, hx312_2⟩ := at_T41 HR1.out x6_1 p312 q312
          cases e312
          replace hx312_0 := cx wc hx312_0
          replace hx312_1 := cx wc hx312_1
          replace hx312_2 := cx wc hx312_2
          replace p312 := eq_true p312
          replace q312 := eq_true q312
          go_upto_region 8 with (first | ((with_reducible refine gC 70 rfl ?_); refine gK (some 44) rfl rfl Try.func70 (by kernel_rfl) rfl #[.agg #[.int .i64 ((rd_T41 l1 x6_1).f0), .int .i64 ((rd_T41 l1 x6_1).f1), .bool ((rd_T41 l1 x6_1).f2)]] rfl (by (try simp only [sD, sE, sF]); first | done | rfl) (s_CellsUnder.calls ((rd_T41 l1 x6_1).f0) ((rd_T41 l1 x6_1).f1) ((rd_T41 l1 x6_1).f2) t313 t314 t315 t316 _ A27.out) ?_; intro w29 sb; have hb := sb.out; replace HO_5 := hB HO_5 hb) | ((with_reducible refine gD 7 rfl ?_); refine bxE rfl #[.int .i64 0, .int .i64 0] 39 ?_ ?_; (focus first | (go_simp; done) | (go_simp; rfl)); intro gb317 _ w30 sb _; have hb := sb.out; have hg := nw gb317; have hbox := bk gb317 (w := w30); replace HO_5 := hB HO_5 hb; clear hb hg hbox) | ((with_reducible refine gD 8 rfl ?_); refine bxE rfl #[.int .i64 0, .int .i64 0] 39 ?_ ?_; (focus first | (go_simp; done) | (go_simp; rfl)); intro gb318 _ w31 sb _; have hb := sb.out; have hg := nw gb318; have hbox := bk gb318 (w := w31); replace HO_5 := hB HO_5 hb; clear hb hg hbox))
          (try simp only [Act.put, List.setIfInBounds_toArray, List.set_cons_zero, List.set_cons_succ])
          go_cut [70] (fun v70 wc => ∃ (kq : Nat) (x70_27 : Bool), v70 = .bool x70_27 ∧ As (s_IsPartial.j2 kq l1 x5_1 x6_1 x70_27 l0_0 t313 t314 t315 t316 = some r) ∧ As (kq ≤ kj7) ∧ As (Kd.R Kd.bool 4 wc w.heap.size (fun _ => True) v305 x5_1) ∧ Bk wc gb303 (.cells #[(.slice A0_0 l0_0.length c0_0)] 33 (0, 0)) ∧ Bk wc gb317 (.cells #[.int .i64 t313, .int .i64 t314] 39 (0, 0)) ∧ Bk wc gb318 (.cells #[.int .i64 t315, .int .i64 t316] 39 (0, 0)) ∧ Up w wc)
          case first =>
           have H := HC28.out
           clear HC28
           obtain ⟨t319, A37, H⟩ := bI H
           replace H := bT H; rcases H with ⟨rfl, H⟩ | ⟨rfl, H⟩
           ·obtain ⟨t320, A39, H⟩ := bI H
            replace H := bT H; rcases H with ⟨rfl, H⟩ | ⟨rfl, H⟩
            ·obtain ⟨t321, A41, H⟩ := bI H
             by_cases c42 : 0 ≤ t321
             ·rw [if_pos c42] at H
              have c42b0 : decide (0 ≤ t321) = true := decide_eq_true c42
              clear c42
              (first | rw [c42b0] | (simp only [i64_w, i32_w]; rw [c42b0]) | skip)
              by_cases c43 : t321 < (x5_1.length : Int)
              ·rw [if_pos c43] at H
               have c43b0 : decide (t321 < (x5_1.length : Int)) = true := decide_eq_true c43
               clear c43
               obtain ⟨bq44, hbq44⟩ : ∃ b_ : Bool, b_ = (rdOf false x5_1 t321) := ⟨_, rfl⟩
               replace H : (if bq44 = true then (s_IsPartial.j2 kj7 l1 x5_1 x6_1 true l0_0 t313 t314 t315 t316) else ((s_CellIndex.f t315 t316).bind fun t323 => (if 0 ≤ t323 then (if t323 < (x5_1.length : Int) then (s_IsPartial.j2 kj7 l1 x5_1 x6_1 (rdOf false x5_1 t323) l0_0 t313 t314 t315 t316) else (none)) else (none)))) = some r := by rw [← hbq44] at H; exact H
               have Nbq44 := As.mk hbq44
               clear hbq44
               replace H := bT H; rcases H with ⟨rfl, H⟩ | ⟨rfl, H⟩
               ·have H' := As.mk H
                clear H
                go_wp2_with (first | ((with_reducible refine gC 71 rfl ?_); refine gK (some 49) rfl rfl Try.func71 (by kernel_rfl) rfl #[.agg #[.slice A0_0 l0_0.length c0_0], .agg #[.int .i64 t313, .int .i64 t314]] rfl (by (try simp only [sD, sE, sF]); first | done | rfl) (s_HasCell.calls kj7 _ _ l0_0 t313 t314 true _ ?side1 ?side2 A37.out) ?_; (case side1 => exact Kd.C_below HR0_0.out (uw w)); (case side2 => exact HC0_0.out); intro w51 sb; have hb := sb.out; replace HO_5 := As.mk (Kd.R_below (by (with_reducible repeat (first | apply Kd.R_alloc | apply Kd.R_drewN | apply Kd.R_drew)); exact (Kd.R_mono (Kd.R_mono (Kd.R_far (p := ⟨gb318, 1, none⟩) (Kd.R_far (p := ⟨gb318, 0, none⟩) (Kd.R_far (p := ⟨gb317, 1, none⟩) (Kd.R_far (p := ⟨gb317, 0, none⟩) (Kd.R_types (Kd.R_types HO_5.out (bk gb317) (by decide)) (bk gb318) (by decide)) (fun _ hk => hk.1.2) (.int .i64 t313)) (fun _ hk => hk.1.2) (.int .i64 t314)) (fun _ hk => hk.2) (.int .i64 t315)) (fun _ hk => hk.2) (.int .i64 t316)) (fun _ h_ => h_.1)) (fun _ h_ => h_.1))) hb)) | (go_at_call 71; (with_reducible refine (s_HasCell.calls kj7 _ _ l0_0 t315 t316 true _ ?side1 ?side2 A39.out).mono ?_); (case side1 => exact (Kd.C_below HR0_0.out (uw w))); (case side2 => exact HC0_0.out); rintro e w54 ⟨rfl, hb⟩; have := Stp.mk hb; replace HO_5 := hB HO_5 hb) | (go_at_call 72; (with_reducible refine (s_CellIndex.calls t313 t314 t321 _ A41.out).mono ?_); rintro e w56 ⟨rfl, hb⟩; have := Stp.mk hb; replace HO_5 := hB HO_5 hb; obtain ⟨Ao57, co57, eo57⟩ := Kd.R_slice HO_5.out; subst eo57; have p322 : 0 ≤ (t321 : Int) := oD; have q322 : t321 < (x5_1.length : Int) := oD; obtain ⟨ad322, e322, hx322_0⟩ := Kd.at_bool (Kd.R_reads' HO_5.out).2.2 t321 p322 q322; (try rw [← Nbq44.out] at hx322_0); cases e322; replace p322 := eq_true p322; replace q322 := eq_true q322))
                go_meet
                case rel => exact ⟨_, (true), (by first | rfl | (simp; done) | (simp [*]; done)), H', ⟨by have := HK1.out; have := HJ7.out; first | omega | exact Nat.le_refl _⟩, ⟨rX HO_5.out⟩, bM (by rfl), bM (by rfl), bM (by rfl), ⟨uw w⟩⟩
               ·obtain ⟨t323, A58, H⟩ := bI H
                by_cases c59 : 0 ≤ t323
                ·rw [if_pos c59] at H
                 have c59b0 : decide (0 ≤ t323) = true := decide_eq_true c59
                 clear c59
                 by_cases c60 : t323 < (x5_1.length : Int)
                 ·rw [if_pos c60] at H
                  have c60b0 : decide (t323 < (x5_1.length : Int)) = true := decide_eq_true c60
                  clear c60
                  have H' := As.mk H
                  clear H
                  go_wp2_with (first | ((with_reducible refine gC 71 rfl ?_); refine gK (some 49) rfl rfl Try.func71 (by kernel_rfl) rfl #[.agg #[.slice A0_0 l0_0.length c0_0], .agg #[.int .i64 t313, .int .i64 t314]] rfl (by (try simp only [sD, sE, sF]); first | done | rfl) (s_HasCell.calls kj7 _ _ l0_0 t313 t314 true _ ?side1 ?side2 A37.out) ?_; (case side1 => exact Kd.C_below HR0_0.out (uw w)); (case side2 => exact HC0_0.out); intro w66 sb; have hb := sb.out; replace HO_5 := As.mk (Kd.R_below (by (with_reducible repeat (first | apply Kd.R_alloc | apply Kd.R_drewN | apply Kd.R_drew)); exact (Kd.R_mono (Kd.R_mono (Kd.R_far (p := ⟨gb318, 1, none⟩) (Kd.R_far (p := ⟨gb318, 0, none⟩) (Kd.R_far (p := ⟨gb317, 1, none⟩) (Kd.R_far (p := ⟨gb317, 0, none⟩) (Kd.R_types (Kd.R_types HO_5.out (bk gb317) (by decide)) (bk gb318) (by decide)) (fun _ hk => hk.1.2) (.int .i64 t313)) (fun _ hk => hk.1.2) (.int .i64 t314)) (fun _ hk => hk.2) (.int .i64 t315)) (fun _ hk => hk.2) (.int .i64 t316)) (fun _ h_ => h_.1)) (fun _ h_ => h_.1))) hb)) | (go_at_call 71; (with_reducible refine (s_HasCell.calls kj7 _ _ l0_0 t315 t316 true _ ?side1 ?side2 A39.out).mono ?_); (case side1 => exact (Kd.C_below HR0_0.out (uw w))); (case side2 => exact HC0_0.out); rintro e w69 ⟨rfl, hb⟩; have := Stp.mk hb; replace HO_5 := hB HO_5 hb) | (go_at_call 72; (with_reducible refine (s_CellIndex.calls t313 t314 t321 _ A41.out).mono ?_); rintro e w71 ⟨rfl, hb⟩; have := Stp.mk hb; replace HO_5 := hB HO_5 hb; obtain ⟨Ao72, co72, eo72⟩ := Kd.R_slice HO_5.out; subst eo72; have p322 : 0 ≤ (t321 : Int) := oD; have q322 : t321 < (x5_1.length : Int) := oD; obtain ⟨ad322, e322, hx322_0⟩ := Kd.at_bool (Kd.R_reads' HO_5.out).2.2 t321 p322 q322; (try rw [← Nbq44.out] at hx322_0); cases e322; replace p322 := eq_true p322; replace q322 := eq_true q322) | (go_at_call 72; (with_reducible refine (s_CellIndex.calls t315 t316 t323 _ A58.out).mono ?_); rintro e w74 ⟨rfl, hb⟩; have := Stp.mk hb; replace HO_5 := hB HO_5 hb; have p324 : 0 ≤ (t323 : Int) := oD; have q324 : t323 < (x5_1.length : Int) := oD; obtain ⟨ad324, e324, hx324_0⟩ := Kd.at_bool (Kd.R_reads' HO_5.out).2.2 t323 p324 q324; (try rw [← Nbq44.out] at hx324_0); obtain rfl : ad322 = ad324 := (by injection e324); replace p324 := eq_true p324; replace q324 := eq_true q324))
                  go_meet
                  case rel => exact ⟨_, (rdOf false x5_1 t323), (by first | rfl | (simp; done) | (simp [*]; done)), H', ⟨by have := HK1.out; have := HJ7.out; first | omega | exact Nat.le_refl _⟩, ⟨rX HO_5.out⟩, bM (by rfl), bM (by rfl), bM (by rfl), ⟨uw w⟩⟩
                 ·rw [if_neg c60] at H
                  exact absurd H (by simp)
                ·rw [if_neg c59] at H
                 exact absurd H (by simp)
              ·rw [if_neg c43] at H
               exact absurd H (by simp)
             ·rw [if_neg c42] at H
              exact absurd H (by simp)
            ·have H' := As.mk H
             clear H
             go_wp2_with (first | ((with_reducible refine gC 71 rfl ?_); refine gK (some 49) rfl rfl Try.func71 (by kernel_rfl) rfl #[.agg #[.slice A0_0 l0_0.length c0_0], .agg #[.int .i64 t313, .int .i64 t314]] rfl (by (try simp only [sD, sE, sF]); first | done | rfl) (s_HasCell.calls kj7 _ _ l0_0 t313 t314 true _ ?side1 ?side2 A37.out) ?_; (case side1 => exact Kd.C_below HR0_0.out (uw w)); (case side2 => exact HC0_0.out); intro w80 sb; have hb := sb.out; replace HO_5 := As.mk (Kd.R_below (by (with_reducible repeat (first | apply Kd.R_alloc | apply Kd.R_drewN | apply Kd.R_drew)); exact (Kd.R_mono (Kd.R_mono (Kd.R_far (p := ⟨gb318, 1, none⟩) (Kd.R_far (p := ⟨gb318, 0, none⟩) (Kd.R_far (p := ⟨gb317, 1, none⟩) (Kd.R_far (p := ⟨gb317, 0, none⟩) (Kd.R_types (Kd.R_types HO_5.out (bk gb317) (by decide)) (bk gb318) (by decide)) (fun _ hk => hk.1.2) (.int .i64 t313)) (fun _ hk => hk.1.2) (.int .i64 t314)) (fun _ hk => hk.2) (.int .i64 t315)) (fun _ hk => hk.2) (.int .i64 t316)) (fun _ h_ => h_.1)) (fun _ h_ => h_.1))) hb)) | (go_at_call 71; (with_reducible refine (s_HasCell.calls kj7 _ _ l0_0 t315 t316 false _ ?side1 ?side2 A39.out).mono ?_); (case side1 => exact (Kd.C_below HR0_0.out (uw w))); (case side2 => exact HC0_0.out); rintro e w83 ⟨rfl, hb⟩; have := Stp.mk hb; replace HO_5 := hB HO_5 hb))
             go_meet
             case rel => exact ⟨_, (true), (by first | rfl | (simp; done) | (simp [*]; done)), H', ⟨by have := HK1.out; have := HJ7.out; first | omega | exact Nat.le_refl _⟩, ⟨rX HO_5.out⟩, bM (by rfl), bM (by rfl), bM (by rfl), ⟨uw w⟩⟩
           ·have H' := As.mk H
            clear H
            go_wp2_with (first | ((with_reducible refine gC 71 rfl ?_); refine gK (some 49) rfl rfl Try.func71 (by kernel_rfl) rfl #[.agg #[.slice A0_0 l0_0.length c0_0], .agg #[.int .i64 t313, .int .i64 t314]] rfl (by (try simp only [sD, sE, sF]); first | done | rfl) (s_HasCell.calls kj7 _ _ l0_0 t313 t314 false _ ?side1 ?side2 A37.out) ?_; (case side1 => exact Kd.C_below HR0_0.out (uw w)); (case side2 => exact HC0_0.out); intro w89 sb; have hb := sb.out; replace HO_5 := As.mk (Kd.R_below (by (with_reducible repeat (first | apply Kd.R_alloc | apply Kd.R_drewN | apply Kd.R_drew)); exact (Kd.R_mono (Kd.R_mono (Kd.R_far (p := ⟨gb318, 1, none⟩) (Kd.R_far (p := ⟨gb318, 0, none⟩) (Kd.R_far (p := ⟨gb317, 1, none⟩) (Kd.R_far (p := ⟨gb317, 0, none⟩) (Kd.R_types (Kd.R_types HO_5.out (bk gb317) (by decide)) (bk gb318) (by decide)) (fun _ hk => hk.1.2) (.int .i64 t313)) (fun _ hk => hk.1.2) (.int .i64 t314)) (fun _ hk => hk.2) (.int .i64 t315)) (fun _ hk => hk.2) (.int .i64 t316)) (fun _ h_ => h_.1)) (fun _ h_ => h_.1))) hb)))
            go_meet
            case rel => exact ⟨_, (true), (by first | rfl | (simp; done) | (simp [*]; done)), H', ⟨by have := HK1.out; have := HJ7.out; first | omega | exact Nat.le_refl _⟩, ⟨rX HO_5.out⟩, bM (by rfl), bM (by rfl), bM (by rfl), ⟨uw w⟩⟩
          case rest =>
           clear HC28
           try clear c3
           try clear c7
           try clear c24
           try clear c25
           try clear c25b0
           try clear c26
           try clear c26b0
           try clear hx312_0
           try clear hx312_1
           try clear hx312_2
           try clear p312
           try clear q312
           obtain ⟨kq, x70_27, rfl, HA, HJ27, HO_5, BK303, BK317, BK318, HB⟩ := hcut
           cases kq with
           | zero => exact absurd HA.out (by simp [s_IsPartial.j2])
           | succ kj27 =>
            have H := HA.out
            clear HA
            simp only [s_IsPartial.j2] at H
            replace H := bT H; rcases H with ⟨rfl, H⟩ | ⟨rfl, H⟩
            ·obtain rfl := Option.some.inj H
             go_wp2
             go_ret
             exact ⟨by first | rfl | (simp [*, errW_none, errW_some] <;> rfl), uw w⟩
            ·obtain ⟨t325, A91, H⟩ := bI H
             by_cases c92 : 0 ≤ t325
             ·rw [if_pos c92] at H
              have c92b0 : decide (0 ≤ t325) = true := decide_eq_true c92
              clear c92
              by_cases c93 : t325 < (x5_1.length : Int)
              ·rw [if_pos c93] at H
               have c93b0 : decide (t325 < (x5_1.length : Int)) = true := decide_eq_true c93
               clear c93
               obtain ⟨y326, hy326⟩ : ∃ y_ : List Bool, y_ = (x5_1.set (t325 : Int).toNat true) := ⟨_, rfl⟩
               replace H : ((s_CellIndex.f t315 t316).bind fun t327 => (if 0 ≤ t327 then (if t327 < (x5_1.length : Int) then (s_IsPartial.l0 kj27 l1 (y326.set (t327 : Int).toNat true) (wrap64 (x6_1 + 1)) l0_0) else (none)) else (none))) = some r := by first | (rw [hy326]; with_reducible exact H) | (have H2_ := (Option.bind_some _ _).symm.trans H; rw [hy326]; with_reducible exact H2_) | (have H2_ := (Option.bind_some _ _).symm.trans H; with_reducible exact H2_) | with_reducible exact H | (rw [hy326]; exact H) | exact H
               have Ny326 := As.mk hy326
               clear hy326
               obtain ⟨t327, A95, H⟩ := bI H
               by_cases c96 : 0 ≤ t327
               ·rw [if_pos c96] at H
                have c96b0 : decide (0 ≤ t327) = true := decide_eq_true c96
                clear c96
                by_cases c97 : t327 < (x5_1.length : Int)
                ·rw [if_pos c97] at H
                 have c97b0 : decide (t327 < (x5_1.length : Int)) = true := decide_eq_true c97
                 clear c97
                 obtain ⟨y328, hy328⟩ : ∃ y_ : List Bool, y_ = (y326.set (t327 : Int).toNat true) := ⟨_, rfl⟩
                 replace H : (s_IsPartial.l0 kj27 l1 y328 (wrap64 (x6_1 + 1)) l0_0) = some r := by first | (rw [hy328]; with_reducible exact H) | (have H2_ := (Option.bind_some _ _).symm.trans H; rw [hy328]; with_reducible exact H2_) | (have H2_ := (Option.bind_some _ _).symm.trans H; with_reducible exact H2_) | with_reducible exact H | (rw [hy328]; exact H) | exact H
                 have Ny328 := As.mk hy328
                 clear hy328
                 have H' := As.mk H
                 clear H
                 go_wp2_with (first | ((with_reducible refine gC 72 rfl ?_); refine gK (some 73) rfl rfl Try.func72 (by kernel_rfl) rfl #[.agg #[.int .i64 t313, .int .i64 t314]] rfl (by (try simp only [sD, sE, sF]); first | done | rfl) (s_CellIndex.calls t313 t314 t325 _ A91.out) ?_; intro w102 sb; have hb := sb.out; replace HO_5 := hB HO_5 hb; have p94 : 0 ≤ (t325 : Int) := oD; have q94 : (t325 : Int) < ((x5_1.length : Int) : Int) := oD; obtain ⟨go94, co94, eo94, gb94, gl94, cl94, HG94⟩ := Kd.R_form HO_5.out (by omega); (first | cases eo94 | (injection eo94 with ea_ en_ ec_; (first | subst ea_ | (injection ea_ with ea_; subst ea_)); subst ec_; clear en_)); have GB94 := As.mk gb94; have GG94 := As.mk HG94; clear gb94 gl94 HG94; obtain ⟨hx94_0, hf94_0⟩ := Kd.R_celln false HO_5.out (t325 : Int) p94 q94; replace p94 := eq_true p94; replace q94 := eq_true q94; obtain ⟨hy103_, hz103_⟩ := Kd.R_celln false HO_5.out (t325 : Int) (oD) (oD); have HP103 := Kd.R_putg HO_5.out (t325 : Int) true) | ((with_reducible refine gate_store (t := 4) (p := 74) rfl ?_); refine store_event (t := 4) (p := 74) (v := ?vo_w104) (w1 := (w102.setCell ⟨go94, (t325 : Int).toNat, none⟩ (.bool true))) ?hg ?ho ?hn ?hr ?_; (case ho => rfl); (case hg => rfl); (case hn => rfl); (case hr => first | (go_simp; done) | (go_simp; rfl)); intro w104 hw; have hg : w102.grownBy w104 (some go94) := (by rw [hw]; exact HP103.2); have hp_ : Kd.R Kd.bool 4 w104 w.heap.size (fun _ => True) (.slice (some ⟨go94, 0, none⟩) x5_1.length co94) y326 := (by rw [hw, Ny326.out]; exact HP103.1); clear HP103; have n0_ := As.mk (hp_); have n1_ := Bk.mk (blk_grown (g := gb303) (o := .cells #[.slice A0_0 l0_0.length c0_0] 33 (0, 0)) (bkr gb303 (by rfl)) hg (Kd.R_ne HO_5.out (bk gb303) (by decide))); have n2_ := Bk.mk (blk_grown (g := gb317) (o := .cells #[.int .i64 t313, .int .i64 t314] 39 (0, 0)) (bkr gb317 (by rfl)) hg (Kd.R_ne HO_5.out (bk gb317) (by decide))); have n3_ := Bk.mk (blk_grown (g := gb318) (o := .cells #[.int .i64 t315, .int .i64 t316] 39 (0, 0)) (bkr gb318 (by rfl)) hg (Kd.R_ne HO_5.out (bk gb318) (by decide))); have n4_ := Up.mk ((by rw [hw]; exact below_set ((uw w (w := w102))) GB94.out : Below w.heap.size w w104)); clear HO_5; have HO_5 := n0_; have BK303 := n1_; have BK317 := n2_; have BK318 := n3_; have HB := n4_; clear n0_ n1_ n2_ n3_ n4_; clear hg hw hp_) | ((with_reducible refine gC 72 rfl ?_); refine gK (some 77) rfl rfl Try.func72 (by kernel_rfl) rfl #[.agg #[.int .i64 t315, .int .i64 t316]] rfl (by (try simp only [sD, sE, sF]); first | done | rfl) (s_CellIndex.calls t315 t316 t327 _ A95.out) ?_; intro w107 sb; have hb := sb.out; replace HO_5 := hB HO_5 hb; have p98 : 0 ≤ (t327 : Int) := oD; have q98 : (t327 : Int) < ((x5_1.length : Int) : Int) := oD; obtain ⟨hx98_0, hf98_0⟩ := Kd.R_celln false HO_5.out (t327 : Int) p98 q98; replace p98 := eq_true p98; replace q98 := eq_true q98; obtain ⟨hy108_, hz108_⟩ := Kd.R_celln false HO_5.out (t327 : Int) (oD) (oD); have HP108 := Kd.R_putg HO_5.out (t327 : Int) true) | ((with_reducible refine gate_store (t := 4) (p := 78) rfl ?_); refine store_event (t := 4) (p := 78) (v := ?vo_w109) (w1 := (w107.setCell ⟨go94, (t327 : Int).toNat, none⟩ (.bool true))) ?hg ?ho ?hn ?hr ?_; (case ho => rfl); (case hg => rfl); (case hn => rfl); (case hr => first | (go_simp; done) | (go_simp; rfl)); intro w109 hw; have hg : w107.grownBy w109 (some go94) := (by rw [hw]; exact HP108.2); have hp_ : Kd.R Kd.bool 4 w109 w.heap.size (fun _ => True) (.slice (some ⟨go94, 0, none⟩) x5_1.length co94) y328 := (by rw [hw, Ny328.out]; exact HP108.1); clear HP108; have n0_ := As.mk (hp_); have n1_ := Bk.mk (blk_grown (g := gb303) (o := .cells #[.slice A0_0 l0_0.length c0_0] 33 (0, 0)) (bkr gb303 (by rfl)) hg (Kd.R_ne HO_5.out (bk gb303) (by decide))); have n2_ := Bk.mk (blk_grown (g := gb317) (o := .cells #[.int .i64 t313, .int .i64 t314] 39 (0, 0)) (bkr gb317 (by rfl)) hg (Kd.R_ne HO_5.out (bk gb317) (by decide))); have n3_ := Bk.mk (blk_grown (g := gb318) (o := .cells #[.int .i64 t315, .int .i64 t316] 39 (0, 0)) (bkr gb318 (by rfl)) hg (Kd.R_ne HO_5.out (bk gb318) (by decide))); have n4_ := Up.mk ((by rw [hw]; exact below_set ((uw w (w := w107))) GB94.out : Below w.heap.size w w109)); clear HO_5; have HO_5 := n0_; have BK303 := n1_; have BK317 := n2_; have BK318 := n3_; have HB := n4_; clear n0_ n1_ n2_ n3_ n4_; clear hg hw hp_))
                 go_roundg kj27
                 case measure => have := HK1.out; have := HJ7.out; have := HJ27.out; omega
                 case rel => exact ⟨(y328), (wrap64 (x6_1 + 1)), (by first | rfl | (simp; done) | (simp [*]; done)), H', ⟨by have := HK1.out; have := HJ7.out; have := HJ27.out; omega⟩, ⟨rX HO_5.out⟩, bM (by rfl), ⟨uw w⟩⟩
                ·rw [if_neg c97] at H
                 exact absurd H (by simp)
               ·rw [if_neg c96] at H
                exact absurd H (by simp)
              ·rw [if_neg c93] at H
               exact absurd H (by simp)
             ·rw [if_neg c92] at H
              exact absurd H (by simp)
         ·rw [if_neg c26] at H
          exact absurd H (by simp)
        ·rw [if_neg c25] at H
         exact absurd H (by simp)
    ·rw [if_neg c7] at H
     have c7b0 : decide (x6_1 < (l1.length : Int)) = false := decide_eq_false c7
     clear c7
     obtain ⟨t329, A110, H⟩ := bI H
     obtain rfl := Option.some.inj H
     go_wp2_with (first | ((with_reducible refine gC 73 rfl ?_); refine gK (some 80) rfl rfl Try.func73 (by kernel_rfl) rfl #[.agg #[.slice A0_0 l0_0.length c0_0]] rfl (by (try simp only [sD, sE, sF]); first | done | rfl) (s_RegionOk.calls k1 _ _ l0_0 t329 _ ?side1 ?side2 A110.out) ?_; (case side1 => exact (Kd.C_below HR0_0.out (uw w))); (case side2 => exact HC0_0.out); intro w112 sb; have hb := sb.out; replace HO_5 := hB HO_5 hb))
     go_ret
     exact ⟨by first | rfl | (simp [*, errW_none, errW_some] <;> rfl), uw w⟩
 ·rw [if_neg c3] at H
  exact absurd H (by simp)
def s_CellAt.f (a0 : Int) : Option (Int × Int × Bool) := (s_l01In.f a0 0 63).bind fun t331 => (if t331 = true then (some (Int.tmod a0 8, wrap64 (Int.tdiv a0 8), true)) else (some (0, 0, false)))
set_option maxRecDepth 100000 in
theorem s_CellAt.calls (a0 : Int) (r1 : Int) (r2 : Int) (r3 : Bool) (w : World) (h : s_CellAt.f a0 = some (r1, r2, r3)) :
  Calls Try.prog 84 #[.int .i64 a0] w fun e w' => e = .returned (.tuple #[.agg #[.int .i64 r1, .int .i64 r2], .bool r3]) ∧ Below w.heap.size w w' := by
 have hu39 := Try.underlying39
 have HB : Up w w := ⟨Below.refl _ _⟩
 have H : ((s_l01In.f a0 0 63).bind fun t331 => (if t331 = true then (some (Int.tmod a0 8, wrap64 (Int.tdiv a0 8), true)) else (some (0, 0, false)))) = some (r1, r2, r3) := h
 clear h
 obtain ⟨t331, A2, H⟩ := bI H
 replace H := bT H; rcases H with ⟨rfl, H⟩ | ⟨rfl, H⟩
 ·simp only [Option.some.injEq, Prod.mk.injEq] at H
  obtain ⟨rfl, rfl, rfl⟩ := H
  go_enter Try.func84, Try.ntmps84
  go_wp2_with (first | ((with_reducible refine gD 2 rfl ?_); refine bxE rfl #[.int .i64 0, .int .i64 0] 39 ?_ ?_; (focus first | (go_simp; done) | (go_simp; rfl)); intro gb330 _ w4 _ _) | ((with_reducible refine gC 103 rfl ?_); refine goesL_ (some 5) rfl rfl Try.func103 (by kernel_rfl) rfl #[.int .i64 a0, .int .i64 0, .int .i64 63] rfl (by (try simp only [sD, sE, sF]); first | done | rfl) ?_; (with_reducible refine (s_l01In.calls a0 0 63 true _ A2.out).mono ?_); rintro e w' ⟨rfl, ⟨nd, rfl⟩⟩; refine ⟨_, rfl, ?_⟩; (try (rw [drewN_self w4]; generalize hq_ : World.drewN w4 _ = w4; have n0_ : Bk w4 gb330 (.cells #[.int .i64 0, .int .i64 0] 39 (0, 0)) := ⟨by rw [← hq_]; exact (bkr gb330 (by rfl))⟩; have n1_ : Up w w4 := ⟨by rw [← hq_]; exact (uw w)⟩; clear BK330 HB hq_; have BK330 := n0_; have HB := n1_; clear n0_ n1_))))
  refine bodyPost_ret (results_ct rfl _ _ gb330 39 #[.int .i64 (Int.tmod a0 8), .int .i64 (wrap64 (Int.tdiv a0 8))] (0, 0) _ rfl (bkr gb330 (by rfl)) Try.underlying39 rfl (by kernel_rfl)) rfl ?_
  exact ⟨by first | rfl | (simp [*, errW_none, errW_some] <;> rfl), uw w⟩
 ·simp only [Option.some.injEq, Prod.mk.injEq] at H
  obtain ⟨rfl, rfl, rfl⟩ := H
  go_enter Try.func84, Try.ntmps84
  go_wp2_with (first | ((with_reducible refine gD 2 rfl ?_); refine bxE rfl #[.int .i64 0, .int .i64 0] 39 ?_ ?_; (focus first | (go_simp; done) | (go_simp; rfl)); intro gb330 _ w6 _ _) | ((with_reducible refine gC 103 rfl ?_); refine goesL_ (some 5) rfl rfl Try.func103 (by kernel_rfl) rfl #[.int .i64 a0, .int .i64 0, .int .i64 63] rfl (by (try simp only [sD, sE, sF]); first | done | rfl) ?_; (with_reducible refine (s_l01In.calls a0 0 63 false _ A2.out).mono ?_); rintro e w' ⟨rfl, ⟨nd, rfl⟩⟩; refine ⟨_, rfl, ?_⟩; (try (rw [drewN_self w6]; generalize hq_ : World.drewN w6 _ = w6; have n0_ : Bk w6 gb330 (.cells #[.int .i64 0, .int .i64 0] 39 (0, 0)) := ⟨by rw [← hq_]; exact (bkr gb330 (by rfl))⟩; have n1_ : Up w w6 := ⟨by rw [← hq_]; exact (uw w)⟩; clear BK330 HB hq_; have BK330 := n0_; have HB := n1_; clear n0_ n1_))))
  refine bodyPost_ret (results_ct rfl _ _ gb330 39 #[.int .i64 0, .int .i64 0] (0, 0) _ rfl (bkr gb330 (by rfl)) Try.underlying39 rfl (by kernel_rfl)) rfl ?_
  exact ⟨by first | rfl | (simp [*, errW_none, errW_some] <;> rfl), uw w⟩
mutual
def s_CellsOf.l0 : Nat → List (S39) → Int → List Int → Option ((List (S39)))
 | 0, _, _, _ => none
 | k + 1, x3, x4, x333000 => if x4 < 64 then ((s_RegionOk.f k x333000).bind fun t336 => (s_CellsOf.j1 k x3 x4 t336 x333000)) else (s_CellsOf.j1 k x3 x4 false x333000)
def s_CellsOf.j1 : Nat → List (S39) → Int → Bool → List Int → Option ((List (S39)))
 | 0, _, _, _, _ => none
 | k + 1, x3, x4, x13, x333000 => if x13 = true then ((s_CellAt.f x4).bind fun bt337 => ((s_l03Has.f x333000 bt337.1 bt337.2.1).bind fun t341 => (if t341 = true then (if x3.length < 8796093022208 then (s_CellsOf.l0 k (x3 ++ [(⟨bt337.1, bt337.2.1⟩ : S39)]) (wrap64 (x4 + 1)) x333000) else (none)) else (s_CellsOf.l0 k x3 (wrap64 (x4 + 1)) x333000)))) else (some x3)
end
def s_CellsOf.f (k : Nat) (l0_0 : List Int) : Option ((List (S39))) := s_CellsOf.l0 k (([] : List (S39))) 0 l0_0
theorem s_CellsOf.mono_l : ∀ k, (∀ y0 y1 y2, LeO (s_CellsOf.l0 k y0 y1 y2) (s_CellsOf.l0 (k + 1) y0 y1 y2)) ∧ (∀ y0 y1 y2 y3, LeO (s_CellsOf.j1 k y0 y1 y2 y3) (s_CellsOf.j1 (k + 1) y0 y1 y2 y3))
 | 0 => ⟨fun _ _ _ r h => by simp [s_CellsOf.l0] at h, fun _ _ _ _ r h => by simp [s_CellsOf.j1] at h⟩
 | k + 1 => by
  obtain ⟨ih0, ih1⟩ := s_CellsOf.mono_l k
  refine ⟨?_, ?_⟩ <;> intros
  all_goals first | unfold s_CellsOf.l0 | unfold s_CellsOf.j1
  all_goals repeat' with_reducible first
  | exact ih0 _ _ _
  | exact ih1 _ _ _ _
  | exact s_RegionOk.mono _ _
  | exact LeO.refl _
  | exact LeO.none _
  | refine LeO.ite ?_ ?_
  | refine LeO.bind ?_ (fun _ => ?_)
theorem s_CellsOf.mono : ∀ a0 k, LeO (s_CellsOf.f k a0) (s_CellsOf.f (k + 1) a0) := by
 intro a0 k
 obtain ⟨ih0, ih1⟩ := s_CellsOf.mono_l k
 unfold s_CellsOf.f
 repeat' with_reducible first
 | exact ih0 _ _ _
 | exact ih1 _ _ _ _
 | exact s_RegionOk.mono _ _
 | exact LeO.refl _
 | exact LeO.none _
 | refine LeO.ite ?_ ?_
 | refine LeO.bind ?_ (fun _ => ?_)
set_option maxRecDepth 100000 in
theorem s_CellsOf.calls (k : Nat) (A0_0 : Option Addr) (c0_0 : Nat) (l0_0 : List Int) (r : List (S39)) (w : World) (hr0_0 : Kd.C (Kd.int .i64) w A0_0 l0_0.length l0_0) (hc0_0 : l0_0.length ≤ c0_0) (h : s_CellsOf.f k l0_0 = some r) :
  Calls Try.prog 74 #[.agg #[.slice A0_0 l0_0.length c0_0]] w fun e w' => ∃ v0_ : Value, e = .returned (v0_) ∧ Kd.R k39 39 w' w.heap.size (fun _ => True) v0_ r ∧ Below w.heap.size w w' := by
 have hu33 := Try.underlying33
 have hu39 := Try.underlying39
 have HR0_0 := As.mk hr0_0
 have HC0_0 := As.mk hc0_0
 clear hr0_0 hc0_0
 have HB : Up w w := ⟨Below.refl _ _⟩
 have H : (s_CellsOf.l0 k (([] : List (S39))) 0 l0_0) = some r := h
 clear h
 obtain ⟨y333, hy333⟩ : ∃ y_ : List (S39), y_ = (([] : List (S39))) := ⟨_, rfl⟩
 replace H : (s_CellsOf.l0 k y333 0 l0_0) = some r := by first | (rw [hy333]; with_reducible exact H) | (have H2_ := (Option.bind_some _ _).symm.trans H; rw [hy333]; with_reducible exact H2_) | (have H2_ := (Option.bind_some _ _).symm.trans H; with_reducible exact H2_) | with_reducible exact H | (rw [hy333]; exact H) | exact H
 have Ny333 := As.mk hy333
 clear hy333
 have H' := As.mk H
 clear H
 go_enter Try.func74, Try.ntmps74
 go_wp2_with (first | ((with_reducible refine gD 1 rfl ?_); refine bxE rfl #[.slice A0_0 l0_0.length c0_0] 33 ?_ ?_; (focus first | (go_simp; done) | (go_simp; rfl)); intro gb332 _ w2 _ _) | ((with_reducible refine gate_dst (N := 7) rfl ?_); refine Kd.R_lit k39 _ 39 ?hg (N := 7) ?hd (xs := ([] : List (S39))) (inner := []) (ok := fun _ => True) (okp := fun _ => True) ?hr ?hp (fun _ hk => hk) trivial (Below.refl _ _) (Nat.le_refl _) (by simp) ?_; (case hd => rfl); (case hg => rfl); (case hr => first | (go_simp; done) | (go_simp; rfl)); (case hp => exact (Reps.none _ _)); intro v334 w3 ho4 hb hg_ hnew_; clear hg_ hnew_; (first | rw [← Ny333.out] at ho4 | (simp only [Int.reduceToNat] at ho4; rw [← Ny333.out] at ho4)); have := Stp.mk hb; have HO335 := As.mk (Kd.R_lower ho4 (below_size (uw w))); clear hb ho4))
 go_loopg [3, 4] k (fun kq v3 v4 w' => ∃ (x3_1 : List (S39)) (x4_1 : Int), v4 = .int .i64 x4_1 ∧ As (s_CellsOf.l0 kq x3_1 x4_1 l0_0 = some r) ∧ As (kq ≤ k) ∧ As (Kd.R k39 39 w' w.heap.size (fun _ => True) v3 x3_1) ∧ Bk w' gb332 (.cells #[(.slice A0_0 l0_0.length c0_0)] 33 (0, 0)) ∧ Up w w')
 case atStart => exact ⟨(y333), (0), (by first | rfl | (simp; done) | (simp [*]; done)), H', ⟨Nat.le_refl _⟩, ⟨rX HO335.out⟩, bM (by rfl), ⟨uw w⟩⟩
 case round =>
  clear H'
  obtain ⟨x3_1, x4_1, rfl, HA, HK1, HO_3, BK332, HB⟩ := hrel
  cases gk with
  | zero => exact absurd HA.out (by simp [s_CellsOf.l0])
  | succ k1 =>
   have H := HA.out
   clear HA
   simp only [s_CellsOf.l0] at H
   have HC5 := As.mk H
   clear H
   go_upto_region 3 with (fail)
   go_cut [13] (fun v13 wc => ∃ (kq : Nat) (x13_4 : Bool), v13 = .bool x13_4 ∧ As (s_CellsOf.j1 kq x3_1 x4_1 x13_4 l0_0 = some r) ∧ As (kq ≤ k1) ∧ As (Kd.R k39 39 wc w.heap.size (fun _ => True) u3 x3_1) ∧ Bk wc gb332 (.cells #[(.slice A0_0 l0_0.length c0_0)] 33 (0, 0)) ∧ Up w wc)
   case first =>
    have H := HC5.out
    clear HC5
    by_cases c6 : x4_1 < 64
    ·rw [if_pos c6] at H
     have c6b0 : decide (x4_1 < 64) = true := decide_eq_true c6
     clear c6
     (first | rw [c6b0] | (simp only [i64_w, i32_w]; rw [c6b0]) | skip)
     obtain ⟨t336, A7, H⟩ := bI H
     have H' := As.mk H
     clear H
     go_wp2_with (first | (go_at_call 73; (with_reducible refine (s_RegionOk.calls k1 _ _ l0_0 t336 _ ?side1 ?side2 A7.out).mono ?_); (case side1 => exact (Kd.C_below HR0_0.out (uw w))); (case side2 => exact HC0_0.out); rintro e w9 ⟨rfl, hb⟩; have := Stp.mk hb; replace HO_3 := hB HO_3 hb))
     go_meet
     case rel => exact ⟨_, (t336), (by first | rfl | (simp; done) | (simp [*]; done)), H', ⟨by have := HK1.out; first | omega | exact Nat.le_refl _⟩, ⟨rX HO_3.out⟩, bM (by rfl), ⟨uw w⟩⟩
    ·rw [if_neg c6] at H
     have c6b0 : decide (x4_1 < 64) = false := decide_eq_false c6
     clear c6
     (first | rw [c6b0] | (simp only [i64_w, i32_w]; rw [c6b0]) | skip)
     have H' := As.mk H
     clear H
     go_wp2
     go_meet
     case rel => exact ⟨_, (false), (by first | rfl | (simp; done) | (simp [*]; done)), H', ⟨by have := HK1.out; first | omega | exact Nat.le_refl _⟩, ⟨rX HO_3.out⟩, bM (by rfl), ⟨uw w⟩⟩
   case rest =>
    clear HC5
    obtain ⟨kq, x13_4, rfl, HA, HJ4, HO_3, BK332, HB⟩ := hcut
    cases kq with
    | zero => exact absurd HA.out (by simp [s_CellsOf.j1])
    | succ kj4 =>
     have H := HA.out
     clear HA
     simp only [s_CellsOf.j1] at H
     replace H := bT H; rcases H with ⟨rfl, H⟩ | ⟨rfl, H⟩
     ·obtain ⟨⟨t337, t338, t339⟩, A11, H⟩ := bI H
      dsimp only at H
      obtain ⟨t341, A12, H⟩ := bI H
      replace H := bT H; rcases H with ⟨rfl, H⟩ | ⟨rfl, H⟩
      ·by_cases c14 : x3_1.length < 8796093022208
       ·rw [if_pos c14] at H
        have LMc14 := As.mk c14
        clear c14
        obtain ⟨y342, hy342⟩ : ∃ y_ : List (S39), y_ = (x3_1 ++ [(⟨t337, t338⟩ : S39)]) := ⟨_, rfl⟩
        replace H : (s_CellsOf.l0 kj4 y342 (wrap64 (x4_1 + 1)) l0_0) = some r := by first | (rw [hy342]; with_reducible exact H) | (have H2_ := (Option.bind_some _ _).symm.trans H; rw [hy342]; with_reducible exact H2_) | (have H2_ := (Option.bind_some _ _).symm.trans H; with_reducible exact H2_) | with_reducible exact H | (rw [hy342]; exact H) | exact H
        have Ny342 := As.mk hy342
        clear hy342
        have H' := As.mk H
        clear H
        go_wp2_with (first | ((with_reducible refine gC 84 rfl ?_); refine gK (some 18) rfl rfl Try.func84 (by kernel_rfl) rfl #[.int .i64 x4_1] rfl (by (try simp only [sD, sE, sF]); first | done | rfl) (s_CellAt.calls x4_1 t337 t338 t339 _ A11.out) ?_; intro w15 sb; have hb := sb.out; replace HO_3 := hB HO_3 hb) | ((with_reducible refine gD 5 rfl ?_); refine bxE rfl #[.int .i64 0, .int .i64 0] 39 ?_ ?_; (focus first | (go_simp; done) | (go_simp; rfl)); intro gb340 _ w16 sb _; have hb := sb.out; have hg := nw gb340; have hbox := bk gb340 (w := w16); replace HO_3 := As.mk (Kd.R_below (Kd.R_elderB (rX HO_3.out) gb340 (Nat.le_of_eq hg.symm)) hb); clear hb hg hbox) | ((with_reducible refine gC 134 rfl ?_); refine gK (some 23) rfl rfl Try.func134 (by kernel_rfl) rfl #[.agg #[.slice A0_0 l0_0.length c0_0], .agg #[.int .i64 t337, .int .i64 t338]] rfl (by (try simp only [sD, sE, sF]); first | done | rfl) (s_l03Has.calls _ _ l0_0 t337 t338 true _ ?side1 ?side2 A12.out) ?_; (case side1 => exact Kd.C_below HR0_0.out (uw w)); (case side2 => exact HC0_0.out); intro w20 sb; have hb := sb.out; replace HO_3 := As.mk (Kd.R_below (by (with_reducible repeat (first | apply Kd.R_alloc | apply Kd.R_drewN | apply Kd.R_drew)); exact (Kd.R_mono (Kd.R_far (p := ⟨gb340, 1, none⟩) (Kd.R_far (p := ⟨gb340, 0, none⟩) (Kd.R_mono HO_3.out (fun k_ hk => (⟨hk, hk.2⟩ : _ ∧ k_ ≠ gb340))) (fun _ hk => hk.2) (.int .i64 t337)) (fun _ hk => hk.2) (.int .i64 t338)) (fun _ h_ => h_.1))) hb)) | ((with_reducible refine gate_builtin (b := .append) (xs := #[.tmp 24, .tmp 26]) rfl ?_); at_builtin; refine Kd.R_append k39 (w0 := w) w.heap.size rfl (.tmp 24) (.tmp 26) 29 39 (.agg #[(.int .i64 0), (.int .i64 0)]) 16 rfl Try.underlying29 info39 rfl (by decide) (by omega) u3 x3_1 (⟨t337, t338⟩ : S39) [.int .i64 t337, .int .i64 t338] (fun k_ => k_ ≠ gb340) (fun _ => False) rfl rfl ?aP (fun _ hk => hk.elim) ?aF ?aO ?aB ?aS ?aL ?_; (case aP => exact k39_mkM _ _ _ (⟨t337, t338⟩ : S39)); (case aB => exact (uw w)); (case aF => exact (fun k_ hk => Kd.freshB (g := gb340) (o := .cells #[.int .i64 t337, .int .i64 t338] 39 (0, 0)) (bkr gb340 (by rfl)) k_ hk)); (case aO => exact (by (with_reducible repeat (first | apply Kd.R_alloc | apply Kd.R_drewN | apply Kd.R_drew)); exact Kd.R_mono HO_3.out (fun _ hk => hk.2))); (case aS => exact (below_size (uw w))); (case aL => have := LMc14.out; omega); intro v343 w22 ho hb hg hat; rw [← Ny342.out] at ho; have n0_ := Bk.mk (blk_grown (g := gb332) (o := .cells #[.slice A0_0 l0_0.length c0_0] 33 (0, 0)) (bkr gb332 (by rfl)) hg (Kd.R_ne HO_3.out (bk gb332) (by decide))); have n1_ := Bk.mk (blk_grown (g := gb340) (o := .cells #[.int .i64 t337, .int .i64 t338] 39 (0, 0)) (bkr gb340 (by rfl)) hg (Kd.R_away HO_3.out (fun _ hk => hk.2))); have n2_ := Up.mk (hb); have n3_ := As.mk (ho); clear HO_3; have BK332 := n0_; have BK340 := n1_; have HB := n2_; have HO344 := n3_; clear n0_ n1_ n2_ n3_; clear ho hb hg hat))
        go_roundg kj4
        case measure => have := HK1.out; have := HJ4.out; omega
        case rel => exact ⟨(y342), (wrap64 (x4_1 + 1)), (by first | rfl | (simp; done) | (simp [*]; done)), H', ⟨by have := HK1.out; have := HJ4.out; omega⟩, ⟨by (with_reducible repeat (first | apply Kd.R_alloc | apply Kd.R_drewN | apply Kd.R_drew)); exact Kd.R_mono HO344.out (fun _ hk => trivial)⟩, bM (by rfl), ⟨uw w⟩⟩
       ·rw [if_neg c14] at H
        exact absurd H (by simp)
      ·have H' := As.mk H
       clear H
       go_wp2_with (first | ((with_reducible refine gC 84 rfl ?_); refine gK (some 18) rfl rfl Try.func84 (by kernel_rfl) rfl #[.int .i64 x4_1] rfl (by (try simp only [sD, sE, sF]); first | done | rfl) (s_CellAt.calls x4_1 t337 t338 t339 _ A11.out) ?_; intro w23 sb; have hb := sb.out; replace HO_3 := hB HO_3 hb) | ((with_reducible refine gD 5 rfl ?_); refine bxE rfl #[.int .i64 0, .int .i64 0] 39 ?_ ?_; (focus first | (go_simp; done) | (go_simp; rfl)); intro gb340 _ w24 sb _; have hb := sb.out; have hg := nw gb340; have hbox := bk gb340 (w := w24); replace HO_3 := As.mk (Kd.R_below (Kd.R_elderB (rX HO_3.out) gb340 (Nat.le_of_eq hg.symm)) hb); clear hb hg hbox) | ((with_reducible refine gC 134 rfl ?_); refine gK (some 23) rfl rfl Try.func134 (by kernel_rfl) rfl #[.agg #[.slice A0_0 l0_0.length c0_0], .agg #[.int .i64 t337, .int .i64 t338]] rfl (by (try simp only [sD, sE, sF]); first | done | rfl) (s_l03Has.calls _ _ l0_0 t337 t338 false _ ?side1 ?side2 A12.out) ?_; (case side1 => exact Kd.C_below HR0_0.out (uw w)); (case side2 => exact HC0_0.out); intro w28 sb; have hb := sb.out; replace HO_3 := As.mk (Kd.R_below (by (with_reducible repeat (first | apply Kd.R_alloc | apply Kd.R_drewN | apply Kd.R_drew)); exact (Kd.R_mono (Kd.R_far (p := ⟨gb340, 1, none⟩) (Kd.R_far (p := ⟨gb340, 0, none⟩) (Kd.R_mono HO_3.out (fun k_ hk => (⟨hk, hk.2⟩ : _ ∧ k_ ≠ gb340))) (fun _ hk => hk.2) (.int .i64 t337)) (fun _ hk => hk.2) (.int .i64 t338)) (fun _ h_ => h_.1))) hb)))
       go_roundg kj4
       case measure => have := HK1.out; have := HJ4.out; omega
       case rel => exact ⟨(x3_1), (wrap64 (x4_1 + 1)), (by first | rfl | (simp; done) | (simp [*]; done)), H', ⟨by have := HK1.out; have := HJ4.out; omega⟩, ⟨by (with_reducible repeat (first | apply Kd.R_alloc | apply Kd.R_drewN | apply Kd.R_drew)); exact Kd.R_mono HO_3.out (fun _ hk => trivial)⟩, bM (by rfl), ⟨uw w⟩⟩
     ·obtain rfl := Option.some.inj H
      go_wp2
      go_ret
      exact ⟨_, by first | rfl | (simp [*, errW_none, errW_some] <;> rfl), rX HO_3.out, uw w⟩
def s_CountCells.f (k : Nat) (l0_0 : List Int) : Option (Int) := (s_CellsOf.f k l0_0).bind fun t346 => (some (t346.length : Int))
theorem s_CountCells.mono : ∀ a0 k, LeO (s_CountCells.f k a0) (s_CountCells.f (k + 1) a0) := by
 intro a0 k
 unfold s_CountCells.f
 repeat' with_reducible first
 | exact s_CellsOf.mono _ _
 | exact LeO.refl _
 | exact LeO.none _
 | refine LeO.ite ?_ ?_
 | refine LeO.bind ?_ (fun _ => ?_)
set_option maxRecDepth 100000 in
theorem s_CountCells.calls (k : Nat) (A0_0 : Option Addr) (c0_0 : Nat) (l0_0 : List Int) (r : Int) (w : World) (hr0_0 : Kd.C (Kd.int .i64) w A0_0 l0_0.length l0_0) (hc0_0 : l0_0.length ≤ c0_0) (h : s_CountCells.f k l0_0 = some r) :
  Calls Try.prog 16 #[.agg #[.slice A0_0 l0_0.length c0_0]] w fun e w' => e = .returned (.int .i64 r) ∧ Below w.heap.size w w' := by
 have hu33 := Try.underlying33
 have HR0_0 := As.mk hr0_0
 have HC0_0 := As.mk hc0_0
 clear hr0_0 hc0_0
 have HB : Up w w := ⟨Below.refl _ _⟩
 have H : ((s_CellsOf.f k l0_0).bind fun t346 => (some (t346.length : Int))) = some r := h
 clear h
 obtain ⟨t346, A2, H⟩ := bI H
 obtain rfl := Option.some.inj H
 go_enter Try.func16, Try.ntmps16
 go_wp2_with (first | ((with_reducible refine gD 1 rfl ?_); refine bxE rfl #[.slice A0_0 l0_0.length c0_0] 33 ?_ ?_; (focus first | (go_simp; done) | (go_simp; rfl)); intro gb345 _ w3 _ _) | ((with_reducible refine gC 74 rfl ?_); refine goesL_ (some 4) rfl rfl Try.func74 (by kernel_rfl) rfl #[.agg #[.slice A0_0 l0_0.length c0_0]] rfl (by (try simp only [sD, sE, sF]); first | done | rfl) ?_; (with_reducible refine (s_CellsOf.calls k _ _ l0_0 t346 _ ?side1 ?side2 A2.out).mono ?_); (case side1 => exact (Kd.C_below HR0_0.out (uw w))); (case side2 => exact HC0_0.out); rintro e w5 ⟨v347, rfl, ho0, hb⟩; refine ⟨_, rfl, ?_⟩; have := Stp.mk hb; have HO348 := As.mk (Kd.R_lower ho0 (below_size (uw w))); (try clear ho0); obtain ⟨Ao6, co6, eo6⟩ := Kd.R_slice HO348.out; subst eo6))
 go_ret
 exact ⟨by first | rfl | (simp [*, errW_none, errW_some] <;> rfl), uw w⟩
def s_IsTiling.f (k : Nat) (l0_0 : List Int) (l1 : List (S41)) : Option (Bool) := (s_IsPartial.f k l0_0 l1).bind fun t350 => (if t350 = true then ((s_CountCells.f k l0_0).bind fun t351 => (some ((wrap64 (2 * (l1.length : Int))) == t351))) else (some false))
theorem s_IsTiling.mono : ∀ a0 a1 k, LeO (s_IsTiling.f k a0 a1) (s_IsTiling.f (k + 1) a0 a1) := by
 intro a0 a1 k
 unfold s_IsTiling.f
 repeat' with_reducible first
 | exact s_CountCells.mono _ _
 | exact s_IsPartial.mono _ _ _
 | exact LeO.refl _
 | exact LeO.none _
 | refine LeO.ite ?_ ?_
 | refine LeO.bind ?_ (fun _ => ?_)
set_option maxRecDepth 100000 in
theorem s_IsTiling.calls (k : Nat) (A0_0 : Option Addr) (c0_0 : Nat) (l0_0 : List Int) (A1 : Option Addr) (c1 : Nat) (l1 : List (S41)) (r : Bool) (w : World) (hr0_0 : Kd.C (Kd.int .i64) w A0_0 l0_0.length l0_0) (hc0_0 : l0_0.length ≤ c0_0) (hr1 : Kd.C k41 w A1 l1.length l1) (hc1 : l1.length ≤ c1) (h : s_IsTiling.f k l0_0 l1 = some r) :
  Calls Try.prog 18 #[.agg #[.slice A0_0 l0_0.length c0_0], .slice A1 l1.length c1] w fun e w' => e = .returned (.bool r) ∧ Below w.heap.size w w' := by
 have hu33 := Try.underlying33
 have HR0_0 := As.mk hr0_0
 have HC0_0 := As.mk hc0_0
 clear hr0_0 hc0_0
 have HR1 := As.mk hr1
 have HC1 := As.mk hc1
 clear hr1 hc1
 have HB : Up w w := ⟨Below.refl _ _⟩
 have H : ((s_IsPartial.f k l0_0 l1).bind fun t350 => (if t350 = true then ((s_CountCells.f k l0_0).bind fun t351 => (some ((wrap64 (2 * (l1.length : Int))) == t351))) else (some false))) = some r := h
 clear h
 obtain ⟨t350, A3, H⟩ := bI H
 replace H := bT H; rcases H with ⟨rfl, H⟩ | ⟨rfl, H⟩
 ·obtain ⟨t351, A5, H⟩ := bI H
  obtain rfl := Option.some.inj H
  go_enter Try.func18, Try.ntmps18
  go_wp2_with (first | ((with_reducible refine gD 2 rfl ?_); (try (refine gate_guard (by rfl) ?_; dsimp only)); refine bxE rfl #[.slice A0_0 l0_0.length c0_0] 33 ?_ ?_; (focus first | (go_simp; done) | (go_simp; rfl)); intro gb349 _ w6 _ _) | ((with_reducible refine gC 15 rfl ?_); refine gK (some 7) rfl rfl Try.func15 (by kernel_rfl) rfl #[.agg #[.slice A0_0 l0_0.length c0_0], .slice A1 l1.length c1] rfl (by (try simp only [sD, sE, sF]); first | done | rfl) (s_IsPartial.calls k _ _ l0_0 _ _ l1 true _ ?side1 ?side2 ?side3 ?side4 A3.out) ?_; (case side1 => exact (Kd.C_below HR0_0.out (uw w))); (case side2 => exact HC0_0.out); (case side3 => exact (Kd.C_below HR1.out (uw w))); (case side4 => exact HC1.out); intro w8 _) | (go_at_call 16; (with_reducible refine (s_CountCells.calls k _ _ l0_0 t351 _ ?side1 ?side2 A5.out).mono ?_); (case side1 => exact (Kd.C_below HR0_0.out (uw w))); (case side2 => exact HC0_0.out); rintro e w10 ⟨rfl, hb⟩; have := Stp.mk hb))
  go_ret
  exact ⟨by first | rfl | (simp [*, errW_none, errW_some] <;> rfl), uw w⟩
 ·obtain rfl := Option.some.inj H
  go_enter Try.func18, Try.ntmps18
  go_wp2_with (first | ((with_reducible refine gD 2 rfl ?_); (try (refine gate_guard (by rfl) ?_; dsimp only)); refine bxE rfl #[.slice A0_0 l0_0.length c0_0] 33 ?_ ?_; (focus first | (go_simp; done) | (go_simp; rfl)); intro gb349 _ w11 _ _) | ((with_reducible refine gC 15 rfl ?_); refine gK (some 7) rfl rfl Try.func15 (by kernel_rfl) rfl #[.agg #[.slice A0_0 l0_0.length c0_0], .slice A1 l1.length c1] rfl (by (try simp only [sD, sE, sF]); first | done | rfl) (s_IsPartial.calls k _ _ l0_0 _ _ l1 false _ ?side1 ?side2 ?side3 ?side4 A3.out) ?_; (case side1 => exact (Kd.C_below HR0_0.out (uw w))); (case side2 => exact HC0_0.out); (case side3 => exact (Kd.C_below HR1.out (uw w))); (case side4 => exact HC1.out); intro w13 _))
  go_ret
  exact ⟨by first | rfl | (simp [*, errW_none, errW_some] <;> rfl), uw w⟩
end Go.Proofs.Ytnfnlmilmpaofaa.PFnExactTreeOfTiling
namespace Go.Proofs.Ytnfnlmilmpaofaa.PFnExactTreeOfTiling
open Go.RowKit Go.Proofs.YtnfnlmilmpaofaaW.PrintWords Go.Proofs.YtnfnlmilmpaofaaW.PrintLast Go.Proofs.YtnfnlmilmpaofaaW.PrintMore
attribute [local go_sem] max2_int min2_int max_two min_two max_three min_three max_four min_four
set_option linter.unusedVariables false
attribute [local go_sem high] cell_bk frozen_bk
set_option linter.unusedSimpArgs false
attribute [local go_sem high] eqA41
mutual
def s_SortDominoes.l0 : Nat → List (S41) → List (S41) → Int → Option ((List (S41)))
 | 0, _, _, _ => none
 | k + 1, x0, x3, x4 => if x4 < (x0.length : Int) then (if 0 ≤ x4 then ((s_DominoOk.f ((rd_T41 x0 x4).f0) ((rd_T41 x0 x4).f1) ((rd_T41 x0 x4).f2)).bind fun t356 => (if t356 = true then (s_SortDominoes.l1 k x0 x3 x4 0) else (s_SortDominoes.l0 k x0 x3 (wrap64 (x4 + 1))))) else (none)) else (some x3)
def s_SortDominoes.l1 : Nat → List (S41) → List (S41) → Int → Int → Option ((List (S41)))
 | 0, _, _, _, _ => none
 | k + 1, x0, x3, x4, x5 => if x5 < (x3.length : Int) then (if 0 ≤ x5 then (if 0 ≤ x4 then (if x4 < (x0.length : Int) then ((s_IsDominoBefore.f k ((rd_T41 x3 x5).f0) ((rd_T41 x3 x5).f1) ((rd_T41 x3 x5).f2) ((rd_T41 x0 x4).f0) ((rd_T41 x0 x4).f1) ((rd_T41 x0 x4).f2)).bind fun t359 => (s_SortDominoes.j2 k x0 x3 x4 x5 t359)) else (none)) else (none)) else (none)) else (s_SortDominoes.j2 k x0 x3 x4 x5 false)
def s_SortDominoes.j2 : Nat → List (S41) → List (S41) → Int → Int → Bool → Option ((List (S41)))
 | 0, _, _, _, _, _ => none
 | k + 1, x0, x3, x4, x5, x34 => if x34 = true then (s_SortDominoes.l1 k x0 x3 x4 (wrap64 (x5 + 1))) else (if x5 < (x3.length : Int) then (if 0 ≤ x5 then (if 0 ≤ x4 then (if x4 < (x0.length : Int) then (s_SortDominoes.j3 k x0 x3 x4 x5 (((rd_T41 x3 x5).f0) == ((rd_T41 x0 x4).f0) && (((rd_T41 x3 x5).f1) == ((rd_T41 x0 x4).f1) && (((rd_T41 x3 x5).f2) == ((rd_T41 x0 x4).f2))))) else (none)) else (none)) else (none)) else (s_SortDominoes.j3 k x0 x3 x4 x5 false))
def s_SortDominoes.j3 : Nat → List (S41) → List (S41) → Int → Int → Bool → Option ((List (S41)))
 | 0, _, _, _, _, _ => none
 | k + 1, x0, x3, x4, x5, x51 => if x51 = true then (s_SortDominoes.l0 k x0 x3 (wrap64 (x4 + 1))) else ((some (([] : List (S41)) : List (S41))).bind fun y362 => (if 0 ≤ x5 then (if x5 ≤ (x3.length : Int) then ((some (x3.take (x5 : Int).toNat : List (S41))).bind fun y365 => (if y362.length + y365.length < 5864062014805 then ((some (y362 ++ y365 : List (S41))).bind fun y369 => (if 0 ≤ x4 then (if x4 < (x0.length : Int) then (if y369.length < 5864062014805 then ((some (y369 ++ [(⟨(rd_T41 x0 x4).f0, (rd_T41 x0 x4).f1, (rd_T41 x0 x4).f2⟩ : S41)] : List (S41))).bind fun y373 => ((some (x3.drop (x5 : Int).toNat : List (S41))).bind fun y376 => (if y373.length + y376.length < 5864062014805 then (s_SortDominoes.l0 k x0 (y373 ++ y376) (wrap64 (x4 + 1))) else (none)))) else (none)) else (none)) else (none))) else (none))) else (none)) else (none)))
end
def s_SortDominoes.f (k : Nat) (l0 : List (S41)) : Option ((List (S41))) := s_SortDominoes.l0 k l0 (([] : List (S41))) 0
theorem s_SortDominoes.mono_l : ∀ k, (∀ y0 y1 y2, LeO (s_SortDominoes.l0 k y0 y1 y2) (s_SortDominoes.l0 (k + 1) y0 y1 y2)) ∧ (∀ y0 y1 y2 y3, LeO (s_SortDominoes.l1 k y0 y1 y2 y3) (s_SortDominoes.l1 (k + 1) y0 y1 y2 y3)) ∧ (∀ y0 y1 y2 y3 y4, LeO (s_SortDominoes.j2 k y0 y1 y2 y3 y4) (s_SortDominoes.j2 (k + 1) y0 y1 y2 y3 y4)) ∧ (∀ y0 y1 y2 y3 y4, LeO (s_SortDominoes.j3 k y0 y1 y2 y3 y4) (s_SortDominoes.j3 (k + 1) y0 y1 y2 y3 y4))
 | 0 => ⟨fun _ _ _ r h => by simp [s_SortDominoes.l0] at h, fun _ _ _ _ r h => by simp [s_SortDominoes.l1] at h, fun _ _ _ _ _ r h => by simp [s_SortDominoes.j2] at h, fun _ _ _ _ _ r h => by simp [s_SortDominoes.j3] at h⟩
 | k + 1 => by
  obtain ⟨ih0, ih1, ih2, ih3⟩ := s_SortDominoes.mono_l k
  refine ⟨?_, ?_, ?_, ?_⟩ <;> intros
  all_goals first | unfold s_SortDominoes.l0 | unfold s_SortDominoes.l1 | unfold s_SortDominoes.j2 | unfold s_SortDominoes.j3
  all_goals repeat' with_reducible first
  | exact ih0 _ _ _
  | exact ih1 _ _ _ _
  | exact ih2 _ _ _ _ _
  | exact ih3 _ _ _ _ _
  | exact s_IsDominoBefore.mono _ _ _ _ _ _ _
  | exact LeO.refl _
  | exact LeO.none _
  | refine LeO.ite ?_ ?_
  | refine LeO.bind ?_ (fun _ => ?_)
theorem s_SortDominoes.mono : ∀ a0 k, LeO (s_SortDominoes.f k a0) (s_SortDominoes.f (k + 1) a0) := by
 intro a0 k
 obtain ⟨ih0, ih1, ih2, ih3⟩ := s_SortDominoes.mono_l k
 unfold s_SortDominoes.f
 repeat' with_reducible first
 | exact ih0 _ _ _
 | exact ih1 _ _ _ _
 | exact ih2 _ _ _ _ _
 | exact ih3 _ _ _ _ _
 | exact s_IsDominoBefore.mono _ _ _ _ _ _ _
 | exact LeO.refl _
 | exact LeO.none _
 | refine LeO.ite ?_ ?_
 | refine LeO.bind ?_ (fun _ => ?_)
def s_SortDominoes.T7 : Bool × List (List Nat × List Nat) := (true, [([], []), ([], []), ([1], [1]), ([0, 2], [0, 2]), ([3], [3]), ([4], [4]), ([4], [4]), ([5, 6, 4], [4, 5, 6]), ([7, 4], [4, 7]), ([4], [4]), ([4], [4]), ([9, 10, 4], [4, 9, 10]), ([11, 4], [4, 11]), ([8, 12, 4, 4], [4, 8, 12]), ([4, 13], [4, 13])])
def s_SortDominoes.B7 : List Nat := [0, 0, 2, 7, 15, 31, 31, 127, 255, 31, 31, 1567, 3615, 8191, 16383]
theorem s_SortDominoes.tab7 : rtab .any (opsOf Try.f19 7) = s_SortDominoes.T7 := by kernel_rfl
theorem s_SortDominoes.bits7 : waitsOk s_SortDominoes.T7.2 s_SortDominoes.B7 = true := by kernel_rfl
def s_SortDominoes.T9 : Bool × List (List Nat × List Nat) := (true, [([], []), ([], []), ([1], [1]), ([0, 2], [0, 2]), ([3], [3]), ([4], [4]), ([4], [4]), ([5, 6, 4], [4, 5, 6]), ([7, 4], [4, 7]), ([4], [4]), ([4], [4]), ([9, 10, 4], [4, 9, 10]), ([11, 4], [4, 11]), ([8, 12, 4], [4, 8, 12]), ([4, 13], [4, 13])])
def s_SortDominoes.B9 : List Nat := [0, 0, 2, 7, 15, 31, 31, 127, 255, 31, 31, 1567, 3615, 8191, 16383]
theorem s_SortDominoes.tab9 : rtab .any (opsOf Try.f19 9) = s_SortDominoes.T9 := by kernel_rfl
theorem s_SortDominoes.bits9 : waitsOk s_SortDominoes.T9.2 s_SortDominoes.B9 = true := by kernel_rfl
set_option maxRecDepth 100000 in
theorem s_SortDominoes.calls (k : Nat) (A0 : Option Addr) (c0 : Nat) (l0 : List (S41)) (r : List (S41)) (w : World) (hr0 : Kd.C k41 w A0 l0.length l0) (hc0 : l0.length ≤ c0) (h : s_SortDominoes.f k l0 = some r) :
  Calls Try.prog 19 #[.slice A0 l0.length c0] w fun e w' => ∃ v0_ : Value, e = .returned (v0_) ∧ Kd.R k41 41 w' w.heap.size (fun _ => True) v0_ r ∧ Below w.heap.size w w' := by
 have hu41 := Try.underlying41
 have HR0 := As.mk hr0
 have HC0 := As.mk hc0
 clear hr0 hc0
 have HB : Up w w := ⟨Below.refl _ _⟩
 have H : (s_SortDominoes.l0 k l0 (([] : List (S41))) 0) = some r := h
 clear h
 obtain ⟨y352, hy352⟩ : ∃ y_ : List (S41), y_ = (([] : List (S41))) := ⟨_, rfl⟩
 replace H : (s_SortDominoes.l0 k l0 y352 0) = some r := by first | (rw [hy352]; with_reducible exact H) | (have H2_ := (Option.bind_some _ _).symm.trans H; rw [hy352]; with_reducible exact H2_) | (have H2_ := (Option.bind_some _ _).symm.trans H; with_reducible exact H2_) | with_reducible exact H | (rw [hy352]; exact H) | exact H
 have Ny352 := As.mk hy352
 clear hy352
 have H' := As.mk H
 clear H
 go_enter Try.func19, Try.ntmps19
 go_wp2_with (first | ((with_reducible refine gate_dst (N := 7) rfl ?_); refine Kd.R_lit k41 _ 41 ?hg (N := 7) ?hd (xs := ([] : List (S41))) (inner := []) (ok := fun _ => True) (okp := fun _ => True) ?hr ?hp (fun _ hk => hk) trivial (Below.refl _ _) (Nat.le_refl _) (by simp) ?_; (case hd => rfl); (case hg => rfl); (case hr => first | (go_simp; done) | (go_simp; rfl)); (case hp => exact (Reps.none _ _)); intro v353 w2 ho3 hb hg_ hnew_; clear hg_ hnew_; (first | rw [← Ny352.out] at ho3 | (simp only [Int.reduceToNat] at ho3; rw [← Ny352.out] at ho3)); have := Stp.mk hb; have HO354 := As.mk (Kd.R_lower ho3 (below_size (uw w))); clear hb ho3))
 go_loopg [3, 4] k (fun kq v3 v4 w' => ∃ (x3_1 : List (S41)) (x4_1 : Int), v4 = .int .i64 x4_1 ∧ As (s_SortDominoes.l0 kq l0 x3_1 x4_1 = some r) ∧ As (kq ≤ k) ∧ As (Kd.R k41 41 w' w.heap.size (fun _ => True) v3 x3_1) ∧ Up w w')
 case atStart => exact ⟨(y352), (0), (by first | rfl | (simp; done) | (simp [*]; done)), H', ⟨Nat.le_refl _⟩, ⟨rX HO354.out⟩, ⟨uw w⟩⟩
 case round =>
  clear H'
  obtain ⟨x3_1, x4_1, rfl, HA, HK1, HO_3, HB⟩ := hrel
  cases gk with
  | zero => exact absurd HA.out (by simp [s_SortDominoes.l0])
  | succ k1 =>
   have H := HA.out
   clear HA
   simp only [s_SortDominoes.l0] at H
   by_cases c4 : x4_1 < (l0.length : Int)
   ·rw [if_pos c4] at H
    have c4b0 : decide (x4_1 < (l0.length : Int)) = true := decide_eq_true c4
    clear c4
    by_cases c5 : 0 ≤ x4_1
    ·rw [if_pos c5] at H
     have c5b0 : decide (0 ≤ x4_1) = true := decide_eq_true c5
     clear c5
     obtain ⟨t356, A6, H⟩ := bI H
     replace H := bT H; rcases H with ⟨rfl, H⟩ | ⟨rfl, H⟩
     ·have H' := As.mk H
      clear H
      have p355 : 0 ≤ (x4_1 : Int) := oD
      have q355 : x4_1 < (l0.length : Int) := oD
      obtain ⟨ad355, e355, hx355_0, hx355_1, hx355_2⟩ := at_T41 HR0.out x4_1 p355 q355
      cases e355
      replace hx355_0 := cx wr hx355_0
      replace hx355_1 := cx wr hx355_1
      replace hx355_2 := cx wr hx355_2
      replace p355 := eq_true p355
      replace q355 := eq_true q355
      go_wp2_with (first | ((with_reducible refine gC 68 rfl ?_); refine gK (some 18) rfl rfl Try.func68 (by kernel_rfl) rfl #[.agg #[.int .i64 ((rd_T41 l0 x4_1).f0), .int .i64 ((rd_T41 l0 x4_1).f1), .bool ((rd_T41 l0 x4_1).f2)]] rfl (by (try simp only [sD, sE, sF]); first | done | rfl) (s_DominoOk.calls ((rd_T41 l0 x4_1).f0) ((rd_T41 l0 x4_1).f1) ((rd_T41 l0 x4_1).f2) true _ A6.out) ?_; intro w8 sb; have hb := sb.out; replace HO_3 := hB HO_3 hb))
      go_loopg [5] k1 (fun kq v5 w' => ∃ (x5_2 : Int), v5 = .int .i64 x5_2 ∧ As (s_SortDominoes.l1 kq l0 x3_1 x4_1 x5_2 = some r) ∧ As (kq ≤ k1) ∧ As (Kd.R k41 41 w' w.heap.size (fun _ => True) u3 x3_1) ∧ Up w w')
      case atStart => exact ⟨(0), (by first | rfl | (simp; done) | (simp [*]; done)), H', ⟨Nat.le_refl _⟩, ⟨rX HO_3.out⟩, ⟨uw w⟩⟩
      case round =>
       clear H'
       try clear c4
       try clear c4b0
       try clear c5
       try clear c5b0
       try clear c7
       try clear hx355_0
       try clear hx355_1
       try clear hx355_2
       try clear p355
       try clear q355
       obtain ⟨x5_2, rfl, HA, HK2, HO_3, HB⟩ := hrel
       cases gk with
       | zero => exact absurd HA.out (by simp [s_SortDominoes.l1])
       | succ k2 =>
        have H := HA.out
        clear HA
        simp only [s_SortDominoes.l1] at H
        have HC9 := As.mk H
        clear H
        go_upto_region 7 with (fail)
        go_cut [34] (fun v34 wc => ∃ (kq : Nat) (x34_8 : Bool), v34 = .bool x34_8 ∧ As (s_SortDominoes.j2 kq l0 x3_1 x4_1 x5_2 x34_8 = some r) ∧ As (kq ≤ k2) ∧ As (Kd.R k41 41 wc w.heap.size (fun _ => True) u3 x3_1) ∧ Up w wc)
        case first =>
         have H := HC9.out
         clear HC9
         by_cases c10 : x5_2 < (x3_1.length : Int)
         ·rw [if_pos c10] at H
          have c10b0 : decide (x5_2 < (x3_1.length : Int)) = true := decide_eq_true c10
          clear c10
          (first | rw [c10b0] | (simp only [i64_w, i32_w]; rw [c10b0]) | skip)
          by_cases c11 : 0 ≤ x5_2
          ·rw [if_pos c11] at H
           have c11b0 : decide (0 ≤ x5_2) = true := decide_eq_true c11
           clear c11
           by_cases c12 : 0 ≤ x4_1
           ·rw [if_pos c12] at H
            have c12b0 : decide (0 ≤ x4_1) = true := decide_eq_true c12
            clear c12
            by_cases c13 : x4_1 < (l0.length : Int)
            ·rw [if_pos c13] at H
             have c13b0 : decide (x4_1 < (l0.length : Int)) = true := decide_eq_true c13
             clear c13
             obtain ⟨t359, A14, H⟩ := bI H
             have H' := As.mk H
             clear H
             try go_wp2
             replace HO_3 := As.mk (Kd.R_drew HO_3.out)
             obtain ⟨Ao16, co16, eo16⟩ := Kd.R_slice HO_3.out
             (first | subst eo16 | (injection eo16 with f1_ f2_ f3_; have f4_ := f1_.symm; have f5_ := f3_.symm; clear f1_ f2_ f3_; subst f4_; subst f5_))
             have p357 : 0 ≤ (x5_2 : Int) := oD
             have q357 : x5_2 < (x3_1.length : Int) := oD
             obtain ⟨ad357, e357, hx357_0, hx357_1, hx357_2⟩ := at_T41 (Kd.R_reads' HO_3.out).2.2 x5_2 p357 q357
             cases e357
             replace p357 := eq_true p357
             replace q357 := eq_true q357
             have p358 : 0 ≤ (x4_1 : Int) := oD
             have q358 : x4_1 < (l0.length : Int) := oD
             obtain ⟨ad358, e358, hx358_0, hx358_1, hx358_2⟩ := at_T41 HR0.out x4_1 p358 q358
             have hw358_2 := hx358_2
             have hw358_1 := hx358_1
             have hw358_0 := hx358_0
             obtain rfl : ad355 = ad358 := (by injection e358)
             replace hx358_0 := cx wr hx358_0
             replace hx358_1 := cx wr hx358_1
             replace hx358_2 := cx wr hx358_2
             replace p358 := eq_true p358
             replace q358 := eq_true q358
             refine sV [(0,20),(1,21),(2,22),(3,23),(4,24),(5,25),(6,26),(7,27),(9,29),(10,30),(11,31),(8,28),(12,32),(13,33),(14,34)] (fun w' => w'.cell? (ad357.add ((x5_2).toNat * 3)) = some (.int .i64 ((rd_T41 x3_1 x5_2).f0)) ∧ w'.cell? ⟨(ad357.add ((x5_2).toNat * 3)).block, (ad357.add ((x5_2).toNat * 3)).off + 1, none⟩ = some (.int .i64 ((rd_T41 x3_1 x5_2).f1)) ∧ w'.cell? ⟨(ad357.add ((x5_2).toNat * 3)).block, (ad357.add ((x5_2).toNat * 3)).off + 2, none⟩ = some (.bool ((rd_T41 x3_1 x5_2).f2)) ∧ w'.cell? (ad355.add ((x4_1).toNat * 3)) = some (.int .i64 ((rd_T41 l0 x4_1).f0)) ∧ w'.cell? ⟨(ad355.add ((x4_1).toNat * 3)).block, (ad355.add ((x4_1).toNat * 3)).off + 1, none⟩ = some (.int .i64 ((rd_T41 l0 x4_1).f1)) ∧ w'.cell? ⟨(ad355.add ((x4_1).toNat * 3)).block, (ad355.add ((x4_1).toNat * 3)).off + 2, none⟩ = some (.bool ((rd_T41 l0 x4_1).f2))) [] (by kernel_rfl) rfl ⟨hx357_0, hx357_1, hx357_2, (cx wr hw358_0), (cx wr hw358_1), (cx wr hw358_2)⟩ (fun hHeld => ?_); refine wTW s_SortDominoes.tab7 s_SortDominoes.bits7 (fun HT_ HW_ => ?_)
             have hd_ := stD wr
             generalize wr.drew = w15 at hd_ HO_3 hx357_0 hx357_1 hx357_2 hx358_0 hx358_1 hx358_2 hHeld ⊢
             iterate 11 refine pV rfl rfl (any_of HT_.out (by kernel_rfl)) (by rfl) (fun _ _ _ _ h => h) ⟨_, fun w' => by go_simp; with_reducible rfl, _, by simp only [Act.put, sA, sB, sC, i64_w, i32_w]; rfl, ?_⟩
             iterate 2 refine tV rfl rfl (take_ofW HT_.out HW_.out (by kernel_rfl)) (by rfl) (fun _ _ _ _ h => h) hHeld ⟨_, fun w' s => by go_simp; with_reducible rfl, _, by simp only [Act.put, sA, sB, sC, i64_w, i32_w]; rfl, ?_⟩
             refine oV (N := some 33) rfl rfl (one_of HT_.out (by kernel_rfl)) (by decide) (fun K hK => ?_)
             refine goes_ Try.func69 (by kernel_rfl) rfl #[.agg #[.int .i64 ((rd_T41 x3_1 x5_2).f0), .int .i64 ((rd_T41 x3_1 x5_2).f1), .bool ((rd_T41 x3_1 x5_2).f2)], .agg #[.int .i64 ((rd_T41 l0 x4_1).f0), .int .i64 ((rd_T41 l0 x4_1).f1), .bool ((rd_T41 l0 x4_1).f2)]] (by rfl) rfl rfl (by (try simp only [sD, sE, sF]); first | done | rfl) ?_
             with_reducible refine (s_IsDominoBefore.calls k2 ((rd_T41 x3_1 x5_2).f0) ((rd_T41 x3_1 x5_2).f1) ((rd_T41 x3_1 x5_2).f2) ((rd_T41 l0 x4_1).f0) ((rd_T41 l0 x4_1).f1) ((rd_T41 l0 x4_1).f2) t359 _ A14.out).mono ?_
             rintro e w17 ⟨rfl, hb⟩
             have HS0_ := (hb.cell (World.block_lt_of_cell? _ _ (hHeld.1))).trans (hHeld.1)
             have HS1_ := (hb.cell (World.block_lt_of_cell? _ _ (hHeld.2.1))).trans (hHeld.2.1)
             have HS2_ := (hb.cell (World.block_lt_of_cell? _ _ (hHeld.2.2.1))).trans (hHeld.2.2.1)
             refine ⟨_, rfl, ?_⟩
             have := Stp.mk hb
             replace HO_3 := hB HO_3 hb
             (try clear hb)
             (try clear hk)
             refine hK.out _ _ ⟨HS0_, HS1_, HS2_, (cx w17 hw358_0), (cx w17 hw358_1), (cx w17 hw358_2)⟩ (fun hHeld => ?_)
             clear hK K
             refine nV ⟨_, by show Act.put _ (some 33) _ = _; simp only [Act.put, sA, sB, sC, i64_w, i32_w]; rfl, ?_⟩
             refine pV rfl rfl (any_of HT_.out (by kernel_rfl)) (by rfl) (fun _ _ _ _ h => h) ⟨_, fun w' => by go_simp; with_reducible rfl, _, by simp only [Act.put, sA, sB, sC, i64_w, i32_w]; rfl, ?_⟩
             refine dV (done_of HT_.out (by kernel_rfl)) ?_
             try go_wp2
             go_meet
             case rel => exact ⟨_, (t359), (by first | rfl | (simp; done) | (simp [*]; done)), H', ⟨by have := HK1.out; have := HK2.out; first | omega | exact Nat.le_refl _⟩, ⟨rX HO_3.out⟩, ⟨uw w⟩⟩
            ·rw [if_neg c13] at H
             exact absurd H (by simp)
           ·rw [if_neg c12] at H
            exact absurd H (by simp)
          ·rw [if_neg c11] at H
           exact absurd H (by simp)
         ·rw [if_neg c10] at H
          have c10b0 : decide (x5_2 < (x3_1.length : Int)) = false := decide_eq_false c10
          clear c10
          (first | rw [c10b0] | (simp only [i64_w, i32_w]; rw [c10b0]) | skip)
          have H' := As.mk H
          clear H
          try go_wp2
          replace HO_3 := As.mk (Kd.R_drew HO_3.out)
          obtain ⟨Ao19, co19, eo19⟩ := Kd.R_slice HO_3.out
          (first | subst eo19 | (injection eo19 with f1_ f2_ f3_; have f4_ := f1_.symm; have f5_ := f3_.symm; clear f1_ f2_ f3_; subst f4_; subst f5_))
          refine sV [(0,20),(1,21),(2,22),(3,23),(4,24),(5,25),(6,26),(7,27),(8,28),(9,29),(10,30),(11,31),(12,32),(13,33),(14,34)] (fun w' => True) [] (by kernel_rfl) rfl trivial (fun hHeld => ?_); refine wTW s_SortDominoes.tab7 s_SortDominoes.bits7 (fun HT_ HW_ => ?_)
          have hd_ := stD wr
          generalize wr.drew = w18 at hd_ HO_3 hHeld ⊢
          iterate 5 refine pV rfl rfl (any_of HT_.out (by kernel_rfl)) (by rfl) (fun _ _ _ _ h => h) ⟨_, fun w' => by go_simp; with_reducible rfl, _, by simp only [Act.put, sA, sB, sC, i64_w, i32_w]; rfl, ?_⟩
          iterate 9 refine fV rfl rfl (any_of HT_.out (by kernel_rfl)) (by rfl) (fun _ _ _ _ h => h) ⟨_, by simp only [Act.put, sA, sB, sC, i64_w, i32_w]; rfl, ?_⟩
          refine pV rfl rfl (any_of HT_.out (by kernel_rfl)) (by rfl) (fun _ _ _ _ h => h) ⟨_, fun w' => by go_simp; with_reducible rfl, _, by simp only [Act.put, sA, sB, sC, i64_w, i32_w]; rfl, ?_⟩
          refine dV (done_of HT_.out (by kernel_rfl)) ?_
          try go_wp2
          go_meet
          case rel => exact ⟨_, (false), (by first | rfl | (simp; done) | (simp [*]; done)), H', ⟨by have := HK1.out; have := HK2.out; first | omega | exact Nat.le_refl _⟩, ⟨rX HO_3.out⟩, ⟨uw w⟩⟩
        case rest =>
         clear HC9
         try clear c4
         try clear c4b0
         try clear c5
         try clear c5b0
         try clear c7
         try clear hx355_0
         try clear hx355_1
         try clear hx355_2
         try clear p355
         try clear q355
         obtain ⟨kq, x34_8, rfl, HA, HJ8, HO_3, HB⟩ := hcut
         cases kq with
         | zero => exact absurd HA.out (by simp [s_SortDominoes.j2])
         | succ kj8 =>
          have H := HA.out
          clear HA
          simp only [s_SortDominoes.j2] at H
          replace H := bT H; rcases H with ⟨rfl, H⟩ | ⟨rfl, H⟩
          ·have H' := As.mk H
           clear H
           go_wp2
           go_roundg kj8
           case measure => have := HK1.out; have := HK2.out; have := HJ8.out; omega
           case rel => exact ⟨(wrap64 (x5_2 + 1)), (by first | rfl | (simp; done) | (simp [*]; done)), H', ⟨by have := HK1.out; have := HK2.out; have := HJ8.out; omega⟩, ⟨rX HO_3.out⟩, ⟨uw w⟩⟩
          ·have HC21 := As.mk H
           clear H
           go_upto_region 9 with (fail)
           go_cut [51] (fun v51 wc => ∃ (kq : Nat) (x51_20 : Bool), v51 = .bool x51_20 ∧ As (s_SortDominoes.j3 kq l0 x3_1 x4_1 x5_2 x51_20 = some r) ∧ As (kq ≤ kj8) ∧ As (Kd.R k41 41 wc w.heap.size (fun _ => True) u3 x3_1) ∧ Up w wc)
           case first =>
            have H := HC21.out
            clear HC21
            by_cases c22 : x5_2 < (x3_1.length : Int)
            ·rw [if_pos c22] at H
             have c22b0 : decide (x5_2 < (x3_1.length : Int)) = true := decide_eq_true c22
             clear c22
             (first | rw [c22b0] | (simp only [i64_w, i32_w]; rw [c22b0]) | skip)
             by_cases c23 : 0 ≤ x5_2
             ·rw [if_pos c23] at H
              have c23b0 : decide (0 ≤ x5_2) = true := decide_eq_true c23
              clear c23
              by_cases c24 : 0 ≤ x4_1
              ·rw [if_pos c24] at H
               have c24b0 : decide (0 ≤ x4_1) = true := decide_eq_true c24
               clear c24
               by_cases c25 : x4_1 < (l0.length : Int)
               ·rw [if_pos c25] at H
                have c25b0 : decide (x4_1 < (l0.length : Int)) = true := decide_eq_true c25
                clear c25
                have H' := As.mk H
                clear H
                try go_wp2
                replace HO_3 := As.mk (Kd.R_drew HO_3.out)
                obtain ⟨Ao27, co27, eo27⟩ := Kd.R_slice HO_3.out
                (first | subst eo27 | (injection eo27 with f1_ f2_ f3_; have f4_ := f1_.symm; have f5_ := f3_.symm; clear f1_ f2_ f3_; subst f4_; subst f5_))
                have p360 : 0 ≤ (x5_2 : Int) := oD
                have q360 : x5_2 < (x3_1.length : Int) := oD
                obtain ⟨ad360, e360, hx360_0, hx360_1, hx360_2⟩ := at_T41 (Kd.R_reads' HO_3.out).2.2 x5_2 p360 q360
                cases e360
                replace p360 := eq_true p360
                replace q360 := eq_true q360
                have p361 : 0 ≤ (x4_1 : Int) := oD
                have q361 : x4_1 < (l0.length : Int) := oD
                obtain ⟨ad361, e361, hx361_0, hx361_1, hx361_2⟩ := at_T41 HR0.out x4_1 p361 q361
                have hw361_2 := hx361_2
                have hw361_1 := hx361_1
                have hw361_0 := hx361_0
                obtain rfl : ad355 = ad361 := (by injection e361)
                replace hx361_0 := cx wc hx361_0
                replace hx361_1 := cx wc hx361_1
                replace hx361_2 := cx wc hx361_2
                replace p361 := eq_true p361
                replace q361 := eq_true q361
                refine sV [(0,37),(1,38),(2,39),(3,40),(4,41),(5,42),(6,43),(7,44),(9,46),(10,47),(11,48),(8,45),(12,49),(13,50),(14,51)] (fun w' => w'.cell? (ad360.add ((x5_2).toNat * 3)) = some (.int .i64 ((rd_T41 x3_1 x5_2).f0)) ∧ w'.cell? ⟨(ad360.add ((x5_2).toNat * 3)).block, (ad360.add ((x5_2).toNat * 3)).off + 1, none⟩ = some (.int .i64 ((rd_T41 x3_1 x5_2).f1)) ∧ w'.cell? ⟨(ad360.add ((x5_2).toNat * 3)).block, (ad360.add ((x5_2).toNat * 3)).off + 2, none⟩ = some (.bool ((rd_T41 x3_1 x5_2).f2)) ∧ w'.cell? (ad355.add ((x4_1).toNat * 3)) = some (.int .i64 ((rd_T41 l0 x4_1).f0)) ∧ w'.cell? ⟨(ad355.add ((x4_1).toNat * 3)).block, (ad355.add ((x4_1).toNat * 3)).off + 1, none⟩ = some (.int .i64 ((rd_T41 l0 x4_1).f1)) ∧ w'.cell? ⟨(ad355.add ((x4_1).toNat * 3)).block, (ad355.add ((x4_1).toNat * 3)).off + 2, none⟩ = some (.bool ((rd_T41 l0 x4_1).f2))) [] (by kernel_rfl) rfl ⟨hx360_0, hx360_1, hx360_2, (cx wc hw361_0), (cx wc hw361_1), (cx wc hw361_2)⟩ (fun hHeld => ?_); refine wTW s_SortDominoes.tab9 s_SortDominoes.bits9 (fun HT_ HW_ => ?_)
                have hd_ := stD wc
                generalize wc.drew = w26 at hd_ HO_3 hx360_0 hx360_1 hx360_2 hx361_0 hx361_1 hx361_2 hHeld ⊢
                iterate 11 refine pV rfl rfl (any_of HT_.out (by kernel_rfl)) (by rfl) (fun _ _ _ _ h => h) ⟨_, fun w' => by go_simp; with_reducible rfl, _, by simp only [Act.put, sA, sB, sC, i64_w, i32_w]; rfl, ?_⟩
                iterate 2 refine tV rfl rfl (take_ofW HT_.out HW_.out (by kernel_rfl)) (by rfl) (fun _ _ _ _ h => h) hHeld ⟨_, fun w' s => by go_simp; with_reducible rfl, _, by simp only [Act.put, sA, sB, sC, i64_w, i32_w]; rfl, ?_⟩
                iterate 2 refine pV rfl rfl (any_of HT_.out (by kernel_rfl)) (by rfl) (fun _ _ _ _ h => h) ⟨_, fun w' => by go_simp; with_reducible rfl, _, by simp only [Act.put, sA, sB, sC, i64_w, i32_w]; rfl, ?_⟩
                refine dV (done_of HT_.out (by kernel_rfl)) ?_
                try go_wp2
                go_meet
                case rel => exact ⟨_, ((((rd_T41 x3_1 x5_2).f0) == ((rd_T41 l0 x4_1).f0) && (((rd_T41 x3_1 x5_2).f1) == ((rd_T41 l0 x4_1).f1) && (((rd_T41 x3_1 x5_2).f2) == ((rd_T41 l0 x4_1).f2))))), (by first | rfl | (simp; done) | (simp [*]; done)), H', ⟨by have := HK1.out; have := HK2.out; have := HJ8.out; first | omega | exact Nat.le_refl _⟩, ⟨rX HO_3.out⟩, ⟨uw w⟩⟩
               ·rw [if_neg c25] at H
                exact absurd H (by simp)
              ·rw [if_neg c24] at H
               exact absurd H (by simp)
             ·rw [if_neg c23] at H
              exact absurd H (by simp)
            ·rw [if_neg c22] at H
             have c22b0 : decide (x5_2 < (x3_1.length : Int)) = false := decide_eq_false c22
             clear c22
             (first | rw [c22b0] | (simp only [i64_w, i32_w]; rw [c22b0]) | skip)
             have H' := As.mk H
             clear H
             try go_wp2
             replace HO_3 := As.mk (Kd.R_drew HO_3.out)
             obtain ⟨Ao29, co29, eo29⟩ := Kd.R_slice HO_3.out
             (first | subst eo29 | (injection eo29 with f1_ f2_ f3_; have f4_ := f1_.symm; have f5_ := f3_.symm; clear f1_ f2_ f3_; subst f4_; subst f5_))
             refine sV [(0,37),(1,38),(2,39),(3,40),(4,41),(5,42),(6,43),(7,44),(8,45),(9,46),(10,47),(11,48),(12,49),(13,50),(14,51)] (fun w' => True) [] (by kernel_rfl) rfl trivial (fun hHeld => ?_); refine wTW s_SortDominoes.tab9 s_SortDominoes.bits9 (fun HT_ HW_ => ?_)
             have hd_ := stD wc
             generalize wc.drew = w28 at hd_ HO_3 hHeld ⊢
             iterate 5 refine pV rfl rfl (any_of HT_.out (by kernel_rfl)) (by rfl) (fun _ _ _ _ h => h) ⟨_, fun w' => by go_simp; with_reducible rfl, _, by simp only [Act.put, sA, sB, sC, i64_w, i32_w]; rfl, ?_⟩
             iterate 9 refine fV rfl rfl (any_of HT_.out (by kernel_rfl)) (by rfl) (fun _ _ _ _ h => h) ⟨_, by simp only [Act.put, sA, sB, sC, i64_w, i32_w]; rfl, ?_⟩
             refine pV rfl rfl (any_of HT_.out (by kernel_rfl)) (by rfl) (fun _ _ _ _ h => h) ⟨_, fun w' => by go_simp; with_reducible rfl, _, by simp only [Act.put, sA, sB, sC, i64_w, i32_w]; rfl, ?_⟩
             refine dV (done_of HT_.out (by kernel_rfl)) ?_
             try go_wp2
             go_meet
             case rel => exact ⟨_, (false), (by first | rfl | (simp; done) | (simp [*]; done)), H', ⟨by have := HK1.out; have := HK2.out; have := HJ8.out; first | omega | exact Nat.le_refl _⟩, ⟨rX HO_3.out⟩, ⟨uw w⟩⟩
           case rest =>
            clear HC21
            try clear c4
            try clear c4b0
            try clear c5
            try clear c5b0
            try clear c7
            try clear c20
            try clear hx355_0
            try clear hx355_1
            try clear hx355_2
            try clear p355
            try clear q355
            obtain ⟨kq, x51_20, rfl, HA, HJ20, HO_3, HB⟩ := hcut
            cases kq with
            | zero => exact absurd HA.out (by simp [s_SortDominoes.j3])
            | succ kj20 =>
             have H := HA.out
             clear HA
             simp only [s_SortDominoes.j3] at H
             replace H := bT H; rcases H with ⟨rfl, H⟩ | ⟨rfl, H⟩
             ·have H' := As.mk H
              clear H
              go_wp2
              go_roundg kj20
              case measure => have := HK1.out; have := HK2.out; have := HJ8.out; have := HJ20.out; omega
              case rel => exact ⟨(x3_1), (wrap64 (x4_1 + 1)), (by first | rfl | (simp; done) | (simp [*]; done)), H', ⟨by have := HK1.out; have := HK2.out; have := HJ8.out; have := HJ20.out; omega⟩, ⟨rX HO_3.out⟩, ⟨uw w⟩⟩
             ·obtain ⟨y362, hy362⟩ : ∃ y_ : List (S41), y_ = (([] : List (S41))) := ⟨_, rfl⟩
              replace H : (if 0 ≤ x5_2 then (if x5_2 ≤ (x3_1.length : Int) then ((some (x3_1.take (x5_2 : Int).toNat : List (S41))).bind fun y365 => (if y362.length + y365.length < 5864062014805 then ((some (y362 ++ y365 : List (S41))).bind fun y369 => (if 0 ≤ x4_1 then (if x4_1 < (l0.length : Int) then (if y369.length < 5864062014805 then ((some (y369 ++ [(⟨(rd_T41 l0 x4_1).f0, (rd_T41 l0 x4_1).f1, (rd_T41 l0 x4_1).f2⟩ : S41)] : List (S41))).bind fun y373 => ((some (x3_1.drop (x5_2 : Int).toNat : List (S41))).bind fun y376 => (if y373.length + y376.length < 5864062014805 then (s_SortDominoes.l0 kj20 l0 (y373 ++ y376) (wrap64 (x4_1 + 1))) else (none)))) else (none)) else (none)) else (none))) else (none))) else (none)) else (none)) = some r := by first | (rw [hy362]; with_reducible exact H) | (have H2_ := (Option.bind_some _ _).symm.trans H; rw [hy362]; with_reducible exact H2_) | (have H2_ := (Option.bind_some _ _).symm.trans H; with_reducible exact H2_) | with_reducible exact H | (rw [hy362]; exact H) | exact H
              have Ny362 := As.mk hy362
              clear hy362
              by_cases c31 : 0 ≤ x5_2
              ·rw [if_pos c31] at H
               have c31b0 := eq_true c31
               have c31b1 : decide (0 ≤ x5_2) = true := decide_eq_true c31
               clear c31
               by_cases c32 : x5_2 ≤ (x3_1.length : Int)
               ·rw [if_pos c32] at H
                have c32b0 := eq_true c32
                have c32b1 : decide (x5_2 ≤ (x3_1.length : Int)) = true := decide_eq_true c32
                clear c32
                obtain ⟨y365, hy365⟩ : ∃ y_ : List (S41), y_ = (x3_1.take (x5_2 : Int).toNat) := ⟨_, rfl⟩
                replace H : (if y362.length + y365.length < 5864062014805 then ((some (y362 ++ y365 : List (S41))).bind fun y369 => (if 0 ≤ x4_1 then (if x4_1 < (l0.length : Int) then (if y369.length < 5864062014805 then ((some (y369 ++ [(⟨(rd_T41 l0 x4_1).f0, (rd_T41 l0 x4_1).f1, (rd_T41 l0 x4_1).f2⟩ : S41)] : List (S41))).bind fun y373 => ((some (x3_1.drop (x5_2 : Int).toNat : List (S41))).bind fun y376 => (if y373.length + y376.length < 5864062014805 then (s_SortDominoes.l0 kj20 l0 (y373 ++ y376) (wrap64 (x4_1 + 1))) else (none)))) else (none)) else (none)) else (none))) else (none)) = some r := by first | (rw [hy365]; with_reducible exact H) | (have H2_ := (Option.bind_some _ _).symm.trans H; rw [hy365]; with_reducible exact H2_) | (have H2_ := (Option.bind_some _ _).symm.trans H; with_reducible exact H2_) | with_reducible exact H | (rw [hy365]; exact H) | exact H
                have Ny365 := As.mk hy365
                clear hy365
                by_cases c33 : y362.length + y365.length < 5864062014805
                ·rw [if_pos c33] at H
                 have LMc33 := As.mk c33
                 clear c33
                 obtain ⟨y369, hy369⟩ : ∃ y_ : List (S41), y_ = (y362 ++ y365) := ⟨_, rfl⟩
                 replace H : (if 0 ≤ x4_1 then (if x4_1 < (l0.length : Int) then (if y369.length < 5864062014805 then ((some (y369 ++ [(⟨(rd_T41 l0 x4_1).f0, (rd_T41 l0 x4_1).f1, (rd_T41 l0 x4_1).f2⟩ : S41)] : List (S41))).bind fun y373 => ((some (x3_1.drop (x5_2 : Int).toNat : List (S41))).bind fun y376 => (if y373.length + y376.length < 5864062014805 then (s_SortDominoes.l0 kj20 l0 (y373 ++ y376) (wrap64 (x4_1 + 1))) else (none)))) else (none)) else (none)) else (none)) = some r := by first | (rw [hy369]; with_reducible exact H) | (have H2_ := (Option.bind_some _ _).symm.trans H; rw [hy369]; with_reducible exact H2_) | (have H2_ := (Option.bind_some _ _).symm.trans H; with_reducible exact H2_) | with_reducible exact H | (rw [hy369]; exact H) | exact H
                 have Ny369 := As.mk hy369
                 clear hy369
                 by_cases c34 : 0 ≤ x4_1
                 ·rw [if_pos c34] at H
                  have c34b0 : decide (0 ≤ x4_1) = true := decide_eq_true c34
                  clear c34
                  by_cases c35 : x4_1 < (l0.length : Int)
                  ·rw [if_pos c35] at H
                   have c35b0 : decide (x4_1 < (l0.length : Int)) = true := decide_eq_true c35
                   clear c35
                   by_cases c36 : y369.length < 5864062014805
                   ·rw [if_pos c36] at H
                    have LMc36 := As.mk c36
                    clear c36
                    obtain ⟨y373, hy373⟩ : ∃ y_ : List (S41), y_ = (y369 ++ [(⟨(rd_T41 l0 x4_1).f0, (rd_T41 l0 x4_1).f1, (rd_T41 l0 x4_1).f2⟩ : S41)]) := ⟨_, rfl⟩
                    replace H : ((some (x3_1.drop (x5_2 : Int).toNat : List (S41))).bind fun y376 => (if y373.length + y376.length < 5864062014805 then (s_SortDominoes.l0 kj20 l0 (y373 ++ y376) (wrap64 (x4_1 + 1))) else (none))) = some r := by first | (rw [hy373]; with_reducible exact H) | (have H2_ := (Option.bind_some _ _).symm.trans H; rw [hy373]; with_reducible exact H2_) | (have H2_ := (Option.bind_some _ _).symm.trans H; with_reducible exact H2_) | with_reducible exact H | (rw [hy373]; exact H) | exact H
                    have Ny373 := As.mk hy373
                    clear hy373
                    have c37b0 := eq_true (oD : 0 ≤ x5_2)
                    have c38b0 := eq_true (oD : x5_2 ≤ (x3_1.length : Int))
                    obtain ⟨y376, hy376⟩ : ∃ y_ : List (S41), y_ = (x3_1.drop (x5_2 : Int).toNat) := ⟨_, rfl⟩
                    replace H : (if y373.length + y376.length < 5864062014805 then (s_SortDominoes.l0 kj20 l0 (y373 ++ y376) (wrap64 (x4_1 + 1))) else (none)) = some r := by first | (rw [hy376]; with_reducible exact H) | (have H2_ := (Option.bind_some _ _).symm.trans H; rw [hy376]; with_reducible exact H2_) | (have H2_ := (Option.bind_some _ _).symm.trans H; with_reducible exact H2_) | with_reducible exact H | (rw [hy376]; exact H) | exact H
                    have Ny376 := As.mk hy376
                    clear hy376
                    by_cases c39 : y373.length + y376.length < 5864062014805
                    ·rw [if_pos c39] at H
                     have LMc39 := As.mk c39
                     clear c39
                     obtain ⟨y380, hy380⟩ : ∃ y_ : List (S41), y_ = (y373 ++ y376) := ⟨_, rfl⟩
                     replace H : (s_SortDominoes.l0 kj20 l0 y380 (wrap64 (x4_1 + 1))) = some r := by first | (rw [hy380]; with_reducible exact H) | (have H2_ := (Option.bind_some _ _).symm.trans H; rw [hy380]; with_reducible exact H2_) | (have H2_ := (Option.bind_some _ _).symm.trans H; with_reducible exact H2_) | with_reducible exact H | (rw [hy380]; exact H) | exact H
                     have Ny380 := As.mk hy380
                     clear hy380
                     have H' := As.mk H
                     clear H
                     go_wp2_with (first | ((with_reducible refine gate_dst (N := 52) rfl ?_); refine Kd.R_lit k41 _ 41 ?hg (N := 52) ?hd (xs := ([] : List (S41))) (inner := []) (ok := fun _ => True) (okp := fun _ => True) ?hr ?hp (fun _ hk => hk) trivial (Below.refl _ _) (Nat.le_refl _) (by simp) ?_; (case hd => rfl); (case hg => rfl); (case hr => first | (go_simp; done) | (go_simp; rfl)); (case hp => exact (Reps.none _ _)); intro v363 w40 ho41 hb hg_ hnew_; clear hg_ hnew_; (first | rw [← Ny362.out] at ho41 | (simp only [Int.reduceToNat] at ho41; rw [← Ny362.out] at ho41)); have := Stp.mk hb; have n0_ := As.mk (Kd.R_elder' (rX HO_3.out) (Kd.R_base ho41) hb); have n1_ := As.mk (Kd.R_lower (Kd.R_new' ho41 (Kd.R_lt (rX HO_3.out))) (below_size (uw w))); clear HO_3; have HO_3 := n0_; have HO364 := n1_; clear n0_ n1_; clear hb ho41; obtain ⟨Ao43, co43, eo43⟩ := Kd.R_slice HO_3.out; subst eo43; have q42 : (x5_2 : Int) ≤ ((x3_1.length : Int) : Int) := oD; obtain ⟨i042, hi042, _, hsz42, _⟩ := info_parts info41; have hroom42 : x3_1.length ≤ co43 := (Kd.R_reads' HO_3.out).2.1; have hC42 : Kd.C k41 _ Ao43 x3_1.length x3_1 := (Kd.R_reads' HO_3.out).2.2; have hcut42 := cut_to (P := Try.prog) 24 41 .i64 Try.underlying24 hi042 Ao43 x3_1.length co43 x5_2 (oD) q42 hroom42; have hr42 := Kd.C_take (m := (x5_2 : Int).toNat) hC42 (by omega); have hy42 : y365.length = (x5_2 : Int).toNat := (by rw [Ny365.out, List.length_take]; omega); rw [← Ny365.out] at hr42; rw [← hy42] at hcut42; have HR368 := As.mk hr42; have HC368 := As.mk (show y365.length ≤ co43 from by omega); clear hr42 hC42 hroom42 hi042 hsz42; have KY42 := As.mk hy42; clear hy42; have KL42 := As.mk (show (x5_2 : Int).toNat ≤ x3_1.length from by omega); replace q42 := eq_true q42) | ((with_reducible refine gate_builtin (b := .append) (xs := #[.tmp 52, .tmp 55]) rfl ?_); at_builtin; refine Kd.R_append_rows k41 (w0 := w) w.heap.size rfl (.tmp 52) (.tmp 55) 24 41 (.agg #[(.int .i64 0), (.int .i64 0), (.bool false)]) 24 rfl Try.underlying24 info41 rfl (by decide) (by omega) v363 y362 y365 _ _ _ (fun k_ => some k_ ≠ (.slice Ao43 x3_1.length co43 : Value).ownBlock) (fun _ => False) rfl rfl ?aO ?aR (fun _ _ h => h) (fun _ h => h.elim) ?aF ?aB ?aS ?aL ?_; (case aR => repeat (first | exact (by repeat (first | (with_reducible exact HR368.out) | (with_reducible refine Kd.C_alloc ?_ _) | (with_reducible refine Kd.C_drewN ?_ _) | (with_reducible refine Kd.C_drew ?_) | exact HR368.out)) | (with_reducible refine Kd.C_alloc ?_ _) | (with_reducible refine Kd.C_drewN ?_ _) | (with_reducible refine Kd.C_drew ?_))); (case aB => exact (uw w)); (case aF => exact (fun k_ hk => Kd.fresh' (Kd.R_lt (rX HO_3.out)) k_ hk)); (case aO => exact (by (with_reducible repeat (first | apply Kd.R_alloc | apply Kd.R_drewN | apply Kd.R_drew)); exact Kd.R_mono HO364.out (fun _ hk => hk.2))); (case aS => exact (below_size (uw w))); (case aL => have := LMc33.out; omega); intro v370 w44 ho hb hg hat; rw [← Ny369.out] at ho; have n0_ := As.mk (Kd.R_after (ok := (fun _ => True)) (rX HO_3.out) hg hat); have n1_ := Up.mk (hb); have n2_ := As.mk ((show Kd.C k41 w44 Ao43 y365.length y365 from by rw [Ny365.out]; exact Kd.C_take (m := (x5_2 : Int).toNat) ((Kd.R_reads' (Kd.R_after (ok := (fun _ => True)) (rX HO_3.out) hg hat)).2.2) KL42.out)); have n3_ := As.mk (ho); clear HO_3; clear HR368; clear HO364; have HO_3 := n0_; have HB := n1_; have HR368 := n2_; have HO371 := n3_; clear n0_ n1_ n2_ n3_; clear ho hb hg hat; have p372 : 0 ≤ (x4_1 : Int) := oD; have q372 : x4_1 < (l0.length : Int) := oD; obtain ⟨ad372, e372, hx372_0, hx372_1, hx372_2⟩ := at_T41 HR0.out x4_1 p372 q372; obtain rfl : ad355 = ad372 := (by injection e372); replace hx372_0 := cx w44 hx372_0; replace hx372_1 := cx w44 hx372_1; replace hx372_2 := cx w44 hx372_2; replace p372 := eq_true p372; replace q372 := eq_true q372) | ((with_reducible refine gate_builtin (b := .append) (xs := #[.tmp 57, .tmp 62]) rfl ?_); at_builtin; refine Kd.R_append k41 (w0 := w) w.heap.size rfl (.tmp 57) (.tmp 62) 24 41 (.agg #[(.int .i64 0), (.int .i64 0), (.bool false)]) 24 rfl Try.underlying24 info41 rfl (by decide) (by omega) v370 y369 (⟨(rd_T41 l0 x4_1).f0, (rd_T41 l0 x4_1).f1, (rd_T41 l0 x4_1).f2⟩ : S41) [.int .i64 ((rd_T41 l0 x4_1).f0), .int .i64 ((rd_T41 l0 x4_1).f1), .bool ((rd_T41 l0 x4_1).f2)] (fun k_ => some k_ ≠ (.slice Ao43 x3_1.length co43 : Value).ownBlock) (fun _ => False) rfl rfl ?aP (fun _ hk => hk.elim) ?aF ?aO ?aB ?aS ?aL ?_; (case aP => exact k41_mkM _ _ _ (⟨(rd_T41 l0 x4_1).f0, (rd_T41 l0 x4_1).f1, (rd_T41 l0 x4_1).f2⟩ : S41)); (case aB => exact (uw w)); (case aF => exact (fun k_ hk => Kd.fresh' (Kd.R_lt (rX HO_3.out)) k_ hk)); (case aO => exact (rX HO371.out)); (case aS => exact (below_size (uw w))); (case aL => have := LMc36.out; omega); intro v374 w45 ho hb hg hat; rw [← Ny373.out] at ho; have n0_ := As.mk (Kd.R_after (ok := (fun _ => True)) (rX HO_3.out) hg hat); have n1_ := Up.mk (hb); have n2_ := As.mk ((show Kd.C k41 w45 Ao43 y365.length y365 from by rw [Ny365.out]; exact Kd.C_take (m := (x5_2 : Int).toNat) ((Kd.R_reads' (Kd.R_after (ok := (fun _ => True)) (rX HO_3.out) hg hat)).2.2) KL42.out)); have n3_ := As.mk (ho); clear HO_3; clear HR368; clear HO371; have HO_3 := n0_; have HB := n1_; have HR368 := n2_; have HO375 := n3_; clear n0_ n1_ n2_ n3_; clear ho hb hg hat; have q46 : (x5_2 : Int) ≤ ((x3_1.length : Int) : Int) := oD; obtain ⟨i046, hi046, _, hsz46, _⟩ := info_parts info41; have hroom46 : x3_1.length ≤ co43 := (Kd.R_reads' HO_3.out).2.1; have hC46 : Kd.C k41 _ Ao43 x3_1.length x3_1 := (Kd.R_reads' HO_3.out).2.2; have q046 : (0 : Int) ≤ (x5_2 : Int) := oD; have hcut46 := cut_from (P := Try.prog) 24 41 .i64 Try.underlying24 hi046 3 hsz46 Ao43 x3_1.length co43 x5_2 q046 q46; have hr46 := Kd.C_drop (m := (x5_2 : Int).toNat) (c := co43) hC46 (by omega) hroom46; obtain ⟨A46, hA46⟩ : ∃ A1, A1 = (if co43 = (x5_2 : Int).toNat then Ao43 else (Ao43 : Option Addr).map (·.add ((x5_2 : Int).toNat * 3))) := ⟨_, rfl⟩; obtain ⟨c46, hc46⟩ : ∃ c1, c1 = co43 - (x5_2 : Int).toNat := ⟨_, rfl⟩; have hy46 : y376.length = x3_1.length - (x5_2 : Int).toNat := (by rw [Ny376.out, List.length_drop] <;> omega); rw [show (x3_1).drop (x5_2 : Int).toNat = y376 from Ny376.out.symm] at hr46; replace hr46 : Kd.C k41 _ A46 y376.length y376 := (by rw [hA46]; exact hr46); rw [← hy46, ← hA46, ← hc46] at hcut46; have HR379 := As.mk hr46; have HC379 := As.mk (show y376.length ≤ c46 from by rw [hy46, hc46]; exact Nat.sub_le_sub_right hroom46 _); clear hr46 hC46 hroom46 hi046 hsz46 hc46; have KY46 := As.mk hy46; have KA46 := As.mk hA46; clear hy46 hA46; have KL46 := As.mk (show (x5_2 : Int).toNat ≤ x3_1.length from by omega); replace q46 := eq_true q46) | ((with_reducible refine gate_builtin (b := .append) (xs := #[.tmp 64, .tmp 67]) rfl ?_); at_builtin; refine Kd.R_append_rows k41 (w0 := w) w.heap.size rfl (.tmp 64) (.tmp 67) 24 41 (.agg #[(.int .i64 0), (.int .i64 0), (.bool false)]) 24 rfl Try.underlying24 info41 rfl (by decide) (by omega) v374 y373 y376 _ _ _ (fun k_ => some k_ ≠ (.slice Ao43 x3_1.length co43 : Value).ownBlock) (fun _ => False) rfl rfl ?aO ?aR (fun _ _ h => h) (fun _ h => h.elim) ?aF ?aB ?aS ?aL ?_; (case aR => repeat (first | exact (by repeat (first | (with_reducible exact HR379.out) | (with_reducible refine Kd.C_alloc ?_ _) | (with_reducible refine Kd.C_drewN ?_ _) | (with_reducible refine Kd.C_drew ?_) | exact HR379.out)) | (with_reducible refine Kd.C_alloc ?_ _) | (with_reducible refine Kd.C_drewN ?_ _) | (with_reducible refine Kd.C_drew ?_))); (case aB => exact (uw w)); (case aF => exact (fun k_ hk => Kd.fresh' (Kd.R_lt (rX HO_3.out)) k_ hk)); (case aO => exact (rX HO375.out)); (case aS => exact (below_size (uw w))); (case aL => have := LMc39.out; omega); intro v381 w47 ho hb hg hat; rw [← Ny380.out] at ho; have n0_ := As.mk (Kd.R_after (ok := (fun _ => True)) (rX HO_3.out) hg hat); have n1_ := Up.mk (hb); have n2_ := As.mk ((show Kd.C k41 w47 Ao43 y365.length y365 from by rw [Ny365.out]; exact Kd.C_take (m := (x5_2 : Int).toNat) ((Kd.R_reads' (Kd.R_after (ok := (fun _ => True)) (rX HO_3.out) hg hat)).2.2) KL42.out)); have n3_ := As.mk ((show Kd.C k41 w47 A46 y376.length y376 from by rw [Ny376.out, KA46.out]; exact Kd.C_drop (m := (x5_2 : Int).toNat) (c := co43) ((Kd.R_reads' (Kd.R_after (ok := (fun _ => True)) (rX HO_3.out) hg hat)).2.2) KL46.out ((Kd.R_reads' (Kd.R_after (ok := (fun _ => True)) (rX HO_3.out) hg hat)).2.1))); have n4_ := As.mk (ho); clear HO_3; clear HR368; clear HR379; clear HO375; have HO_3 := n0_; have HB := n1_; have HR368 := n2_; have HR379 := n3_; have HO382 := n4_; clear n0_ n1_ n2_ n3_ n4_; clear ho hb hg hat))
                     go_roundg kj20
                     case measure => have := HK1.out; have := HK2.out; have := HJ8.out; have := HJ20.out; omega
                     case rel => exact ⟨(y380), (wrap64 (x4_1 + 1)), (by first | rfl | (simp; done) | (simp [*]; done)), H', ⟨by have := HK1.out; have := HK2.out; have := HJ8.out; have := HJ20.out; omega⟩, ⟨by (with_reducible repeat (first | apply Kd.R_alloc | apply Kd.R_drewN | apply Kd.R_drew)); exact Kd.R_mono HO382.out (fun _ hk => trivial)⟩, ⟨uw w⟩⟩
                    ·rw [if_neg c39] at H
                     exact absurd H (by simp)
                   ·rw [if_neg c36] at H
                    exact absurd H (by simp)
                  ·rw [if_neg c35] at H
                   exact absurd H (by simp)
                 ·rw [if_neg c34] at H
                  exact absurd H (by simp)
                ·rw [if_neg c33] at H
                 exact absurd H (by simp)
               ·rw [if_neg c32] at H
                exact absurd H (by simp)
              ·rw [if_neg c31] at H
               exact absurd H (by simp)
     ·have H' := As.mk H
      clear H
      have p355 : 0 ≤ (x4_1 : Int) := oD
      have q355 : x4_1 < (l0.length : Int) := oD
      obtain ⟨ad355, e355, hx355_0, hx355_1, hx355_2⟩ := at_T41 HR0.out x4_1 p355 q355
      cases e355
      replace hx355_0 := cx wr hx355_0
      replace hx355_1 := cx wr hx355_1
      replace hx355_2 := cx wr hx355_2
      replace p355 := eq_true p355
      replace q355 := eq_true q355
      go_wp2_with (first | ((with_reducible refine gC 68 rfl ?_); refine gK (some 18) rfl rfl Try.func68 (by kernel_rfl) rfl #[.agg #[.int .i64 ((rd_T41 l0 x4_1).f0), .int .i64 ((rd_T41 l0 x4_1).f1), .bool ((rd_T41 l0 x4_1).f2)]] rfl (by (try simp only [sD, sE, sF]); first | done | rfl) (s_DominoOk.calls ((rd_T41 l0 x4_1).f0) ((rd_T41 l0 x4_1).f1) ((rd_T41 l0 x4_1).f2) false _ A6.out) ?_; intro w48 sb; have hb := sb.out; replace HO_3 := hB HO_3 hb))
      go_roundg k1
      case measure => have := HK1.out; omega
      case rel => exact ⟨(x3_1), (wrap64 (x4_1 + 1)), (by first | rfl | (simp; done) | (simp [*]; done)), H', ⟨by have := HK1.out; omega⟩, ⟨rX HO_3.out⟩, ⟨uw w⟩⟩
    ·rw [if_neg c5] at H
     exact absurd H (by simp)
   ·rw [if_neg c4] at H
    have c4b0 : decide (x4_1 < (l0.length : Int)) = false := decide_eq_false c4
    clear c4
    obtain rfl := Option.some.inj H
    go_wp2
    go_ret
    exact ⟨_, by first | rfl | (simp [*, errW_none, errW_some] <;> rfl), rX HO_3.out, uw w⟩
end Go.Proofs.Ytnfnlmilmpaofaa.PFnExactTreeOfTiling
namespace Go.Proofs.Ytnfnlmilmpaofaa.PFnExactTreeOfTiling
open Go.RowKit Go.Proofs.YtnfnlmilmpaofaaW.PrintWords Go.Proofs.YtnfnlmilmpaofaaW.PrintLast Go.Proofs.YtnfnlmilmpaofaaW.PrintMore
attribute [local go_sem] max2_int min2_int max_two min_two max_three min_three max_four min_four
set_option linter.unusedVariables false
attribute [local go_sem high] cell_bk frozen_bk
set_option linter.unusedSimpArgs false
def s_GridOk.f (a0 : Int) (a1 : Int) : Option (Bool) := (s_l01In.f a0 1 4).bind fun t383 => (if t383 = true then ((s_l01In.f a1 1 4).bind fun t384 => (some t384)) else (some false))
set_option maxRecDepth 100000 in
theorem s_GridOk.calls (a0 : Int) (a1 : Int) (r : Bool) (w : World) (h : s_GridOk.f a0 a1 = some r) :
  Calls Try.prog 87 #[.int .i64 a0, .int .i64 a1] w fun e w' => e = .returned (.bool r) ∧ Drawn0 w w' := by
 have H : ((s_l01In.f a0 1 4).bind fun t383 => (if t383 = true then ((s_l01In.f a1 1 4).bind fun t384 => (some t384)) else (some false))) = some r := h
 clear h
 obtain ⟨t383, A3, H⟩ := bI H
 replace H := bT H; rcases H with ⟨rfl, H⟩ | ⟨rfl, H⟩
 ·obtain ⟨t384, A5, H⟩ := bI H
  obtain rfl := Option.some.inj H
  go_enter Try.func87, Try.ntmps87
  go_wp2_with (first | ((with_reducible refine gC 103 rfl ?_); refine goesL_ (some 6) rfl rfl Try.func103 (by kernel_rfl) rfl #[.int .i64 a0, .int .i64 1, .int .i64 4] rfl (by (try simp only [sD, sE, sF]); first | done | rfl) ?_; (with_reducible refine (s_l01In.calls a0 1 4 true _ A3.out).mono ?_); rintro e w' ⟨rfl, ⟨nd, rfl⟩⟩; refine ⟨_, rfl, ?_⟩) | (go_at_call 103; (with_reducible refine (s_l01In.calls a1 1 4 t384 _ A5.out).mono ?_); rintro e w' ⟨rfl, ⟨nd, rfl⟩⟩))
  go_ret
  exact ⟨by first | rfl | (simp; done) | (simp [*]; done), by repeat (first | exact Drawn0.refl _ | apply Drawn0.step)⟩
 ·obtain rfl := Option.some.inj H
  go_enter Try.func87, Try.ntmps87
  go_wp2_with (first | ((with_reducible refine gC 103 rfl ?_); refine goesL_ (some 6) rfl rfl Try.func103 (by kernel_rfl) rfl #[.int .i64 a0, .int .i64 1, .int .i64 4] rfl (by (try simp only [sD, sE, sF]); first | done | rfl) ?_; (with_reducible refine (s_l01In.calls a0 1 4 false _ A3.out).mono ?_); rintro e w' ⟨rfl, ⟨nd, rfl⟩⟩; refine ⟨_, rfl, ?_⟩))
  go_ret
  exact ⟨by first | rfl | (simp; done) | (simp [*]; done), by repeat (first | exact Drawn0.refl _ | apply Drawn0.step)⟩
mutual
def s_LinksOf.l0 : Nat → Int → Int → List (S50) → Int → Option ((List (S50)))
 | 0, _, _, _, _ => none
 | k + 1, x0, x1, x5, x6 => (s_GridOk.f x0 x1).bind fun t388 => (if t388 = true then (s_LinksOf.j1 k x0 x1 x5 x6 (decide (x6 < (wrap64 (x0 * x1))))) else (s_LinksOf.j1 k x0 x1 x5 x6 false))
def s_LinksOf.j1 : Nat → Int → Int → List (S50) → Int → Bool → Option ((List (S50)))
 | 0, _, _, _, _, _ => none
 | k + 1, x0, x1, x5, x6, x19 => if x19 = true then (if x0 = 0 then (none) else (if (wrap64 ((Int.tmod x6 x0) + 1)) < x0 then (if x5.length < 5864062014805 then (s_LinksOf.j2 k x0 x1 (x5 ++ [(⟨Int.tmod x6 x0, wrap64 (Int.tdiv x6 x0), false⟩ : S50)]) x6 (Int.tmod x6 x0) (wrap64 (Int.tdiv x6 x0))) else (none)) else (s_LinksOf.j2 k x0 x1 x5 x6 (Int.tmod x6 x0) (wrap64 (Int.tdiv x6 x0))))) else (some x5)
def s_LinksOf.j2 : Nat → Int → Int → List (S50) → Int → Int → Int → Option ((List (S50)))
 | 0, _, _, _, _, _, _ => none
 | k + 1, x0, x1, x5, x6, x7, x8 => if (wrap64 (x8 + 1)) < x1 then (if x5.length < 5864062014805 then (s_LinksOf.l0 k x0 x1 (x5 ++ [(⟨x7, x8, true⟩ : S50)]) (wrap64 (x6 + 1))) else (none)) else (s_LinksOf.l0 k x0 x1 x5 (wrap64 (x6 + 1)))
end
def s_LinksOf.f (k : Nat) (a0 : Int) (a1 : Int) : Option ((List (S50))) := s_LinksOf.l0 k a0 a1 (([] : List (S50))) 0
theorem s_LinksOf.mono_l : ∀ k, (∀ y0 y1 y2 y3, LeO (s_LinksOf.l0 k y0 y1 y2 y3) (s_LinksOf.l0 (k + 1) y0 y1 y2 y3)) ∧ (∀ y0 y1 y2 y3 y4, LeO (s_LinksOf.j1 k y0 y1 y2 y3 y4) (s_LinksOf.j1 (k + 1) y0 y1 y2 y3 y4)) ∧ (∀ y0 y1 y2 y3 y4 y5, LeO (s_LinksOf.j2 k y0 y1 y2 y3 y4 y5) (s_LinksOf.j2 (k + 1) y0 y1 y2 y3 y4 y5))
 | 0 => ⟨fun _ _ _ _ r h => by simp [s_LinksOf.l0] at h, fun _ _ _ _ _ r h => by simp [s_LinksOf.j1] at h, fun _ _ _ _ _ _ r h => by simp [s_LinksOf.j2] at h⟩
 | k + 1 => by
  obtain ⟨ih0, ih1, ih2⟩ := s_LinksOf.mono_l k
  refine ⟨?_, ?_, ?_⟩ <;> intros
  all_goals first | unfold s_LinksOf.l0 | unfold s_LinksOf.j1 | unfold s_LinksOf.j2
  all_goals repeat' with_reducible first
  | exact ih0 _ _ _ _
  | exact ih1 _ _ _ _ _
  | exact ih2 _ _ _ _ _ _
  | exact LeO.refl _
  | exact LeO.none _
  | refine LeO.ite ?_ ?_
  | refine LeO.bind ?_ (fun _ => ?_)
theorem s_LinksOf.mono : ∀ a0 a1 k, LeO (s_LinksOf.f k a0 a1) (s_LinksOf.f (k + 1) a0 a1) := by
 intro a0 a1 k
 obtain ⟨ih0, ih1, ih2⟩ := s_LinksOf.mono_l k
 unfold s_LinksOf.f
 repeat' with_reducible first
 | exact ih0 _ _ _ _
 | exact ih1 _ _ _ _ _
 | exact ih2 _ _ _ _ _ _
 | exact LeO.refl _
 | exact LeO.none _
 | refine LeO.ite ?_ ?_
 | refine LeO.bind ?_ (fun _ => ?_)
set_option maxRecDepth 100000 in
theorem s_LinksOf.calls (k : Nat) (a0 : Int) (a1 : Int) (r : List (S50)) (w : World) (h : s_LinksOf.f k a0 a1 = some r) :
  Calls Try.prog 88 #[.int .i64 a0, .int .i64 a1] w fun e w' => ∃ v0_ : Value, e = .returned (v0_) ∧ Kd.R k50 50 w' w.heap.size (fun _ => True) v0_ r ∧ Below w.heap.size w w' := by
 have hu50 := Try.underlying50
 have HB : Up w w := ⟨Below.refl _ _⟩
 have H : (s_LinksOf.l0 k a0 a1 (([] : List (S50))) 0) = some r := h
 clear h
 obtain ⟨y385, hy385⟩ : ∃ y_ : List (S50), y_ = (([] : List (S50))) := ⟨_, rfl⟩
 replace H : (s_LinksOf.l0 k a0 a1 y385 0) = some r := by first | (rw [hy385]; with_reducible exact H) | (have H2_ := (Option.bind_some _ _).symm.trans H; rw [hy385]; with_reducible exact H2_) | (have H2_ := (Option.bind_some _ _).symm.trans H; with_reducible exact H2_) | with_reducible exact H | (rw [hy385]; exact H) | exact H
 have Ny385 := As.mk hy385
 clear hy385
 have H' := As.mk H
 clear H
 go_enter Try.func88, Try.ntmps88
 go_wp2_with (first | ((with_reducible refine gate_dst (N := 9) rfl ?_); refine Kd.R_lit k50 _ 50 ?hg (N := 9) ?hd (xs := ([] : List (S50))) (inner := []) (ok := fun _ => True) (okp := fun _ => True) ?hr ?hp (fun _ hk => hk) trivial (Below.refl _ _) (Nat.le_refl _) (by simp) ?_; (case hd => rfl); (case hg => rfl); (case hr => first | (go_simp; done) | (go_simp; rfl)); (case hp => exact (Reps.none _ _)); intro v386 w3 ho4 hb hg_ hnew_; clear hg_ hnew_; (first | rw [← Ny385.out] at ho4 | (simp only [Int.reduceToNat] at ho4; rw [← Ny385.out] at ho4)); have := Stp.mk hb; have HO387 := As.mk (Kd.R_lower ho4 (below_size (uw w))); clear hb ho4))
 go_loopg [5, 6] k (fun kq v5 v6 w' => ∃ (x5_1 : List (S50)) (x6_1 : Int), v6 = .int .i64 x6_1 ∧ As (s_LinksOf.l0 kq a0 a1 x5_1 x6_1 = some r) ∧ As (kq ≤ k) ∧ As (Kd.R k50 50 w' w.heap.size (fun _ => True) v5 x5_1) ∧ Up w w')
 case atStart => exact ⟨(y385), (0), (by first | rfl | (simp; done) | (simp [*]; done)), H', ⟨Nat.le_refl _⟩, ⟨rX HO387.out⟩, ⟨uw w⟩⟩
 case round =>
  clear H'
  obtain ⟨x5_1, x6_1, rfl, HA, HK1, HO_5, HB⟩ := hrel
  cases gk with
  | zero => exact absurd HA.out (by simp [s_LinksOf.l0])
  | succ k1 =>
   have H := HA.out
   clear HA
   simp only [s_LinksOf.l0] at H
   have HC5 := As.mk H
   clear H
   go_upto_region 3 with (fail)
   go_cut [19] (fun v19 wc => ∃ (kq : Nat) (x19_4 : Bool), v19 = .bool x19_4 ∧ As (s_LinksOf.j1 kq a0 a1 x5_1 x6_1 x19_4 = some r) ∧ As (kq ≤ k1) ∧ As (Kd.R k50 50 wc w.heap.size (fun _ => True) u5 x5_1) ∧ Up w wc)
   case first =>
    have H := HC5.out
    clear HC5
    obtain ⟨t388, A6, H⟩ := bI H
    replace H := bT H; rcases H with ⟨rfl, H⟩ | ⟨rfl, H⟩
    ·have H' := As.mk H
     clear H
     go_wp2_with (first | ((with_reducible refine gC 87 rfl ?_); refine goesL_ (some 12) rfl rfl Try.func87 (by kernel_rfl) rfl #[.int .i64 a0, .int .i64 a1] rfl (by (try simp only [sD, sE, sF]); first | done | rfl) ?_; (with_reducible refine (s_GridOk.calls a0 a1 true _ A6.out).mono ?_); rintro e w' ⟨rfl, ⟨nd, rfl⟩⟩; refine ⟨_, rfl, ?_⟩))
     go_meet
     case rel => exact ⟨_, (decide (x6_1 < (wrap64 (a0 * a1)))), (by first | rfl | (simp; done) | (simp [*]; done)), H', ⟨by have := HK1.out; first | omega | exact Nat.le_refl _⟩, ⟨rX HO_5.out⟩, ⟨uw w⟩⟩
    ·have H' := As.mk H
     clear H
     go_wp2_with (first | ((with_reducible refine gC 87 rfl ?_); refine goesL_ (some 12) rfl rfl Try.func87 (by kernel_rfl) rfl #[.int .i64 a0, .int .i64 a1] rfl (by (try simp only [sD, sE, sF]); first | done | rfl) ?_; (with_reducible refine (s_GridOk.calls a0 a1 false _ A6.out).mono ?_); rintro e w' ⟨rfl, ⟨nd, rfl⟩⟩; refine ⟨_, rfl, ?_⟩))
     go_meet
     case rel => exact ⟨_, (false), (by first | rfl | (simp; done) | (simp [*]; done)), H', ⟨by have := HK1.out; first | omega | exact Nat.le_refl _⟩, ⟨rX HO_5.out⟩, ⟨uw w⟩⟩
   case rest =>
    clear HC5
    obtain ⟨kq, x19_4, rfl, HA, HJ4, HO_5, HB⟩ := hcut
    cases kq with
    | zero => exact absurd HA.out (by simp [s_LinksOf.j1])
    | succ kj4 =>
     have H := HA.out
     clear HA
     simp only [s_LinksOf.j1] at H
     replace H := bT H; rcases H with ⟨rfl, H⟩ | ⟨rfl, H⟩
     ·by_cases c9 : a0 = 0
      ·rw [if_pos c9] at H
       exact absurd H (by simp)
      ·rw [if_neg c9] at H
       have c9b0 : (a0 == 0) = false := beq_eq_false_iff_ne.mpr c9
       have c9b1 : (a0 != 0) = true := bne_iff_ne.mpr c9
       have HC10 := As.mk H
       clear H
       go_upto_if 31 with (fail)
       go_cut [5] (fun v5 wc => ∃ (kq : Nat) (x5_9 : List (S50)), As (s_LinksOf.j2 kq a0 a1 x5_9 x6_1 (Int.tmod x6_1 a0) (wrap64 (Int.tdiv x6_1 a0)) = some r) ∧ As (kq ≤ kj4) ∧ As (Kd.R k50 50 wc w.heap.size (fun _ => True) v5 x5_9) ∧ Up w wc)
       case first =>
        have H := HC10.out
        clear HC10
        by_cases c11 : (wrap64 ((Int.tmod x6_1 a0) + 1)) < a0
        ·rw [if_pos c11] at H
         have c11b0 : decide ((wrap64 ((Int.tmod x6_1 a0) + 1)) < a0) = true := decide_eq_true c11
         clear c11
         (first | rw [c11b0] | (simp only [i64_w, i32_w]; rw [c11b0]) | skip)
         by_cases c12 : x5_1.length < 5864062014805
         ·rw [if_pos c12] at H
          have LMc12 := As.mk c12
          clear c12
          obtain ⟨y389, hy389⟩ : ∃ y_ : List (S50), y_ = (x5_1 ++ [(⟨Int.tmod x6_1 a0, wrap64 (Int.tdiv x6_1 a0), false⟩ : S50)]) := ⟨_, rfl⟩
          replace H : (s_LinksOf.j2 kj4 a0 a1 y389 x6_1 (Int.tmod x6_1 a0) (wrap64 (Int.tdiv x6_1 a0))) = some r := by first | (rw [hy389]; with_reducible exact H) | (have H2_ := (Option.bind_some _ _).symm.trans H; rw [hy389]; with_reducible exact H2_) | (have H2_ := (Option.bind_some _ _).symm.trans H; with_reducible exact H2_) | with_reducible exact H | (rw [hy389]; exact H) | exact H
          have Ny389 := As.mk hy389
          clear hy389
          have H' := As.mk H
          clear H
          go_wp2_with (first | ((with_reducible refine gate_builtin (b := .append) (xs := #[.tmp 32, .tmp 36]) rfl ?_); at_builtin; refine Kd.R_append k50 (w0 := w) w.heap.size rfl (.tmp 32) (.tmp 36) 44 50 (.agg #[(.int .i64 0), (.int .i64 0), (.bool false)]) 24 rfl Try.underlying44 info50 rfl (by decide) (by omega) u5 x5_1 (⟨Int.tmod x6_1 a0, wrap64 (Int.tdiv x6_1 a0), false⟩ : S50) [.int .i64 (Int.tmod x6_1 a0), .int .i64 (wrap64 (Int.tdiv x6_1 a0)), .bool false] (fun _ => True) (fun _ => False) rfl rfl ?aP (fun _ hk => hk.elim) ?aF ?aO ?aB ?aS ?aL ?_; (case aP => exact k50_mkM _ _ _ (⟨Int.tmod x6_1 a0, wrap64 (Int.tdiv x6_1 a0), false⟩ : S50)); (case aB => exact (uw w)); (case aF => exact (fun _ _ => trivial)); (case aO => exact (rX HO_5.out)); (case aS => exact (below_size (uw w))); (case aL => have := LMc12.out; omega); intro v390 w13 ho hb hg hat; rw [← Ny389.out] at ho; have n0_ := Up.mk (hb); have n1_ := As.mk (ho); clear HO_5; have HB := n0_; have HO391 := n1_; clear n0_ n1_; clear ho hb hg hat))
          go_meet
          case rel => exact ⟨_, (y389), H', ⟨by have := HK1.out; have := HJ4.out; first | omega | exact Nat.le_refl _⟩, ⟨rX HO391.out⟩, ⟨uw w⟩⟩
         ·rw [if_neg c12] at H
          exact absurd H (by simp)
        ·rw [if_neg c11] at H
         have c11b0 : decide ((wrap64 ((Int.tmod x6_1 a0) + 1)) < a0) = false := decide_eq_false c11
         clear c11
         (first | rw [c11b0] | (simp only [i64_w, i32_w]; rw [c11b0]) | skip)
         have H' := As.mk H
         clear H
         go_wp2
         go_meet
         case rel => exact ⟨_, (x5_1), H', ⟨by have := HK1.out; have := HJ4.out; first | omega | exact Nat.le_refl _⟩, ⟨rX HO_5.out⟩, ⟨uw w⟩⟩
       case rest =>
        clear HC10
        try clear c8
        try clear c9
        try clear c9b0
        try clear c9b1
        obtain ⟨kq, x5_9, HA, HJ9, HO_5, HB⟩ := hcut
        cases kq with
        | zero => exact absurd HA.out (by simp [s_LinksOf.j2])
        | succ kj9 =>
         have H := HA.out
         clear HA
         simp only [s_LinksOf.j2] at H
         by_cases c14 : (wrap64 ((wrap64 (Int.tdiv x6_1 a0)) + 1)) < a1
         ·rw [if_pos c14] at H
          have c14b0 : decide ((wrap64 ((wrap64 (Int.tdiv x6_1 a0)) + 1)) < a1) = true := decide_eq_true c14
          clear c14
          by_cases c15 : x5_9.length < 5864062014805
          ·rw [if_pos c15] at H
           have LMc15 := As.mk c15
           clear c15
           obtain ⟨y392, hy392⟩ : ∃ y_ : List (S50), y_ = (x5_9 ++ [(⟨(Int.tmod x6_1 a0), (wrap64 (Int.tdiv x6_1 a0)), true⟩ : S50)]) := ⟨_, rfl⟩
           replace H : (s_LinksOf.l0 kj9 a0 a1 y392 (wrap64 (x6_1 + 1))) = some r := by first | (rw [hy392]; with_reducible exact H) | (have H2_ := (Option.bind_some _ _).symm.trans H; rw [hy392]; with_reducible exact H2_) | (have H2_ := (Option.bind_some _ _).symm.trans H; with_reducible exact H2_) | with_reducible exact H | (rw [hy392]; exact H) | exact H
           have Ny392 := As.mk hy392
           clear hy392
           have H' := As.mk H
           clear H
           go_wp2_with (first | ((with_reducible refine gate_builtin (b := .append) (xs := #[.tmp 42, .tmp 46]) rfl ?_); at_builtin; refine Kd.R_append k50 (w0 := w) w.heap.size rfl (.tmp 42) (.tmp 46) 44 50 (.agg #[(.int .i64 0), (.int .i64 0), (.bool false)]) 24 rfl Try.underlying44 info50 rfl (by decide) (by omega) u5 x5_9 (⟨(Int.tmod x6_1 a0), (wrap64 (Int.tdiv x6_1 a0)), true⟩ : S50) [.int .i64 (Int.tmod x6_1 a0), .int .i64 (wrap64 (Int.tdiv x6_1 a0)), .bool true] (fun _ => True) (fun _ => False) rfl rfl ?aP (fun _ hk => hk.elim) ?aF ?aO ?aB ?aS ?aL ?_; (case aP => exact k50_mkM _ _ _ (⟨(Int.tmod x6_1 a0), (wrap64 (Int.tdiv x6_1 a0)), true⟩ : S50)); (case aB => exact (uw w)); (case aF => exact (fun _ _ => trivial)); (case aO => exact (rX HO_5.out)); (case aS => exact (below_size (uw w))); (case aL => have := LMc15.out; omega); intro v393 w16 ho hb hg hat; rw [← Ny392.out] at ho; have n0_ := Up.mk (hb); have n1_ := As.mk (ho); clear HO_5; have HB := n0_; have HO394 := n1_; clear n0_ n1_; clear ho hb hg hat))
           go_roundg kj9
           case measure => have := HK1.out; have := HJ4.out; have := HJ9.out; omega
           case rel => exact ⟨(y392), (wrap64 (x6_1 + 1)), (by first | rfl | (simp; done) | (simp [*]; done)), H', ⟨by have := HK1.out; have := HJ4.out; have := HJ9.out; omega⟩, ⟨rX HO394.out⟩, ⟨uw w⟩⟩
          ·rw [if_neg c15] at H
           exact absurd H (by simp)
         ·rw [if_neg c14] at H
          have c14b0 : decide ((wrap64 ((wrap64 (Int.tdiv x6_1 a0)) + 1)) < a1) = false := decide_eq_false c14
          clear c14
          have H' := As.mk H
          clear H
          go_wp2
          go_roundg kj9
          case measure => have := HK1.out; have := HJ4.out; have := HJ9.out; omega
          case rel => exact ⟨(x5_9), (wrap64 (x6_1 + 1)), (by first | rfl | (simp; done) | (simp [*]; done)), H', ⟨by have := HK1.out; have := HJ4.out; have := HJ9.out; omega⟩, ⟨rX HO_5.out⟩, ⟨uw w⟩⟩
     ·obtain rfl := Option.some.inj H
      go_wp2
      go_ret
      exact ⟨_, by first | rfl | (simp [*, errW_none, errW_some] <;> rfl), rX HO_5.out, uw w⟩
def s_l23Groups.l0 : Nat → Int → List Int → Int → Option (List Int)
 | 0, _, _, _ => none
 | k + 1, x0, x3, x4 => if x4 < x0 then (if x3.length < 17592186044416 then (s_l23Groups.l0 k x0 (x3 ++ [x4]) (wrap64 (x4 + 1))) else (none)) else (some x3)
def s_l23Groups.f (k : Nat) (a0 : Int) : Option (List Int) := s_l23Groups.l0 k a0 (([] : List Int)) 0
theorem s_l23Groups.mono_l : ∀ k, (∀ y0 y1 y2, LeO (s_l23Groups.l0 k y0 y1 y2) (s_l23Groups.l0 (k + 1) y0 y1 y2))
 | 0 => fun _ _ _ r h => by simp [s_l23Groups.l0] at h
 | k + 1 => by
  have ih0 := s_l23Groups.mono_l k
  ·intro y0 y1 y2
   unfold s_l23Groups.l0
   repeat' with_reducible first
   | exact ih0 _ _ _
   | exact LeO.refl _
   | exact LeO.none _
   | refine LeO.ite ?_ ?_
   | refine LeO.bind ?_ (fun _ => ?_)
theorem s_l23Groups.mono : ∀ a0 k, LeO (s_l23Groups.f k a0) (s_l23Groups.f (k + 1) a0) := by
 intro a0 k
 have ih0 := s_l23Groups.mono_l k
 unfold s_l23Groups.f
 repeat' with_reducible first
 | exact ih0 _ _ _
 | exact LeO.refl _
 | exact LeO.none _
 | refine LeO.ite ?_ ?_
 | refine LeO.bind ?_ (fun _ => ?_)
set_option maxRecDepth 100000 in
theorem s_l23Groups.calls (k : Nat) (a0 : Int) (r : List Int) (w : World) (h : s_l23Groups.f k a0 = some r) :
  Calls Try.prog 89 #[.int .i64 a0] w fun e w' => ∃ v0_ : Value, e = .returned (v0_) ∧ Kd.R (Kd.int .i64) 3 w' w.heap.size (fun _ => True) v0_ r ∧ Below w.heap.size w w' := by
 have HB : Up w w := ⟨Below.refl _ _⟩
 have H : (s_l23Groups.l0 k a0 (([] : List Int)) 0) = some r := h
 clear h
 obtain ⟨y395, hy395⟩ : ∃ y_ : List Int, y_ = (([] : List Int)) := ⟨_, rfl⟩
 replace H : (s_l23Groups.l0 k a0 y395 0) = some r := by first | (rw [hy395]; with_reducible exact H) | (have H2_ := (Option.bind_some _ _).symm.trans H; rw [hy395]; with_reducible exact H2_) | (have H2_ := (Option.bind_some _ _).symm.trans H; with_reducible exact H2_) | with_reducible exact H | (rw [hy395]; exact H) | exact H
 have Ny395 := As.mk hy395
 clear hy395
 have H' := As.mk H
 clear H
 go_enter Try.func89, Try.ntmps89
 go_wp2_with (first | ((with_reducible refine gate_dst (N := 5) rfl ?_); refine Kd.R_lit (Kd.int .i64) _ 3 ?hg (N := 5) ?hd (xs := ([] : List Int)) (inner := []) (ok := fun _ => True) (okp := fun _ => True) ?hr ?hp (fun _ hk => hk) trivial (Below.refl _ _) (Nat.le_refl _) (by simp) ?_; (case hd => rfl); (case hg => rfl); (case hr => first | (go_simp; done) | (go_simp; rfl)); (case hp => exact (Reps.none _ _)); intro v396 w2 ho3 hb hg_ hnew_; clear hg_ hnew_; (first | rw [← Ny395.out] at ho3 | (simp only [Int.reduceToNat] at ho3; rw [← Ny395.out] at ho3)); have := Stp.mk hb; have HO397 := As.mk (Kd.R_lower ho3 (below_size (uw w))); clear hb ho3))
 go_loopg [3, 4] k (fun kq v3 v4 w' => ∃ (x3_1 : List Int) (x4_1 : Int), v4 = .int .i64 x4_1 ∧ As (s_l23Groups.l0 kq a0 x3_1 x4_1 = some r) ∧ As (kq ≤ k) ∧ As (Kd.R (Kd.int .i64) 3 w' w.heap.size (fun _ => True) v3 x3_1) ∧ Up w w')
 case atStart => exact ⟨(y395), (0), (by first | rfl | (simp; done) | (simp [*]; done)), H', ⟨Nat.le_refl _⟩, ⟨rX HO397.out⟩, ⟨uw w⟩⟩
 case round =>
  clear H'
  obtain ⟨x3_1, x4_1, rfl, HA, HK1, HO_3, HB⟩ := hrel
  cases gk with
  | zero => exact absurd HA.out (by simp [s_l23Groups.l0])
  | succ k1 =>
   have H := HA.out
   clear HA
   simp only [s_l23Groups.l0] at H
   by_cases c4 : x4_1 < a0
   ·rw [if_pos c4] at H
    have c4b0 : decide (x4_1 < a0) = true := decide_eq_true c4
    clear c4
    by_cases c5 : x3_1.length < 17592186044416
    ·rw [if_pos c5] at H
     have LMc5 := As.mk c5
     clear c5
     obtain ⟨y398, hy398⟩ : ∃ y_ : List Int, y_ = (x3_1 ++ [x4_1]) := ⟨_, rfl⟩
     replace H : (s_l23Groups.l0 k1 a0 y398 (wrap64 (x4_1 + 1))) = some r := by first | (rw [hy398]; with_reducible exact H) | (have H2_ := (Option.bind_some _ _).symm.trans H; rw [hy398]; with_reducible exact H2_) | (have H2_ := (Option.bind_some _ _).symm.trans H; with_reducible exact H2_) | with_reducible exact H | (rw [hy398]; exact H) | exact H
     have Ny398 := As.mk hy398
     clear hy398
     have H' := As.mk H
     clear H
     go_wp2_with (first | ((with_reducible refine gate_builtin (b := .append) (xs := #[.tmp 11, .tmp 13]) rfl ?_); at_builtin; refine Kd.R_append (Kd.int .i64) (w0 := w) w.heap.size rfl (.tmp 11) (.tmp 13) 31 3 (.int .i64 0) 8 rfl Try.underlying31 info3 rfl (by decide) (by omega) u3 x3_1 x4_1 [.int .i64 x4_1] (fun _ => True) (fun _ => False) rfl rfl ?aP (fun _ hk => hk.elim) ?aF ?aO ?aB ?aS ?aL ?_; (case aP => exact rfl); (case aB => exact (uw w)); (case aF => exact (fun _ _ => trivial)); (case aO => exact (rX HO_3.out)); (case aS => exact (below_size (uw w))); (case aL => have := LMc5.out; omega); intro v399 w6 ho hb hg hat; rw [← Ny398.out] at ho; have n0_ := Up.mk (hb); have n1_ := As.mk (ho); clear HO_3; have HB := n0_; have HO400 := n1_; clear n0_ n1_; clear ho hb hg hat))
     go_roundg k1
     case measure => have := HK1.out; omega
     case rel => exact ⟨(y398), (wrap64 (x4_1 + 1)), (by first | rfl | (simp; done) | (simp [*]; done)), H', ⟨by have := HK1.out; omega⟩, ⟨rX HO400.out⟩, ⟨uw w⟩⟩
    ·rw [if_neg c5] at H
     exact absurd H (by simp)
   ·rw [if_neg c4] at H
    have c4b0 : decide (x4_1 < a0) = false := decide_eq_false c4
    clear c4
    obtain rfl := Option.some.inj H
    go_wp2
    go_ret
    exact ⟨_, by first | rfl | (simp [*, errW_none, errW_some] <;> rfl), rX HO_3.out, uw w⟩
def s_l23Ends.f (a0 : Int) (a1_0 : Int) (a1_1 : Int) (a1_2 : Bool) : Option (Int × Int) := if a1_2 = true then (some (wrap64 ((wrap64 (a1_1 * a0)) + a1_0), wrap64 ((wrap64 ((wrap64 (a1_1 * a0)) + a1_0)) + a0))) else (some (wrap64 ((wrap64 (a1_1 * a0)) + a1_0), wrap64 ((wrap64 ((wrap64 (a1_1 * a0)) + a1_0)) + 1)))
set_option maxRecDepth 100000 in
theorem s_l23Ends.calls (a0 : Int) (a1_0 : Int) (a1_1 : Int) (a1_2 : Bool) (r1 : Int) (r2 : Int) (w : World) (h : s_l23Ends.f a0 a1_0 a1_1 a1_2 = some (r1, r2)) :
  Calls Try.prog 90 #[.int .i64 a0, .agg #[.int .i64 a1_0, .int .i64 a1_1, .bool a1_2]] w fun e w' => e = .returned (.tuple #[.int .i64 r1, .int .i64 r2]) ∧ Below w.heap.size w w' := by
 have hu50 := Try.underlying50
 have HB : Up w w := ⟨Below.refl _ _⟩
 have H : (if a1_2 = true then (some (wrap64 ((wrap64 (a1_1 * a0)) + a1_0), wrap64 ((wrap64 ((wrap64 (a1_1 * a0)) + a1_0)) + a0))) else (some (wrap64 ((wrap64 (a1_1 * a0)) + a1_0), wrap64 ((wrap64 ((wrap64 (a1_1 * a0)) + a1_0)) + 1)))) = some (r1, r2) := h
 clear h
 replace H := bT H; rcases H with ⟨rfl, H⟩ | ⟨rfl, H⟩
 ·simp only [Option.some.injEq, Prod.mk.injEq] at H
  obtain ⟨rfl, rfl⟩ := H
  go_enter Try.func90, Try.ntmps90
  go_wp2_with (first | ((with_reducible refine gD 3 rfl ?_); refine bxE rfl #[.int .i64 a1_0, .int .i64 a1_1, .bool true] 50 ?_ ?_; (focus first | (go_simp; done) | (go_simp; rfl)); intro gb401 _ w4 _ _))
  go_ret2
  exact ⟨by first | rfl | (simp [*, errW_none, errW_some] <;> rfl), uw w⟩
 ·simp only [Option.some.injEq, Prod.mk.injEq] at H
  obtain ⟨rfl, rfl⟩ := H
  go_enter Try.func90, Try.ntmps90
  go_wp2_with (first | ((with_reducible refine gD 3 rfl ?_); refine bxE rfl #[.int .i64 a1_0, .int .i64 a1_1, .bool false] 50 ?_ ?_; (focus first | (go_simp; done) | (go_simp; rfl)); intro gb401 _ w6 _ _))
  go_ret2
  exact ⟨by first | rfl | (simp [*, errW_none, errW_some] <;> rfl), uw w⟩
mutual
def s_l23Join.l0 : Nat → List Int → Int → Int → Int → Option (Bool × List Int)
 | 0, _, _, _, _ => none
 | k + 1, x0, x7, x8, x9 => if x9 < (x0.length : Int) then (s_l23Join.j1 k x0 x7 x8 x9 (x7 != x8)) else (s_l23Join.j1 k x0 x7 x8 x9 false)
def s_l23Join.j1 : Nat → List Int → Int → Int → Int → Bool → Option (Bool × List Int)
 | 0, _, _, _, _, _ => none
 | k + 1, x0, x7, x8, x9, x26 => if x26 = true then (if 0 ≤ x9 then (if x9 < (x0.length : Int) then (if (rd x0 x9) = x8 then (s_l23Join.l0 k (x0.set (x9 : Int).toNat x7) x7 x8 (wrap64 (x9 + 1))) else (s_l23Join.l0 k x0 x7 x8 (wrap64 (x9 + 1)))) else (none)) else (none)) else (some ((x7 != x8), x0))
end
def s_l23Join.f (k : Nat) (l0 : List Int) (a1 : Int) (a2 : Int) : Option (Bool × List Int) := if 0 ≤ a1 then (if a1 < (l0.length : Int) then (if 0 ≤ a2 then (if a2 < (l0.length : Int) then (s_l23Join.l0 k l0 (rd l0 a1) (rd l0 a2) 0) else (none)) else (none)) else (none)) else (none)
theorem s_l23Join.mono_l : ∀ k, (∀ y0 y1 y2 y3, LeO (s_l23Join.l0 k y0 y1 y2 y3) (s_l23Join.l0 (k + 1) y0 y1 y2 y3)) ∧ (∀ y0 y1 y2 y3 y4, LeO (s_l23Join.j1 k y0 y1 y2 y3 y4) (s_l23Join.j1 (k + 1) y0 y1 y2 y3 y4))
 | 0 => ⟨fun _ _ _ _ r h => by simp [s_l23Join.l0] at h, fun _ _ _ _ _ r h => by simp [s_l23Join.j1] at h⟩
 | k + 1 => by
  obtain ⟨ih0, ih1⟩ := s_l23Join.mono_l k
  refine ⟨?_, ?_⟩ <;> intros
  all_goals first | unfold s_l23Join.l0 | unfold s_l23Join.j1
  all_goals repeat' with_reducible first
  | exact ih0 _ _ _ _
  | exact ih1 _ _ _ _ _
  | exact LeO.refl _
  | exact LeO.none _
  | refine LeO.ite ?_ ?_
  | refine LeO.bind ?_ (fun _ => ?_)
theorem s_l23Join.mono : ∀ a0 a1 a2 k, LeO (s_l23Join.f k a0 a1 a2) (s_l23Join.f (k + 1) a0 a1 a2) := by
 intro a0 a1 a2 k
 obtain ⟨ih0, ih1⟩ := s_l23Join.mono_l k
 unfold s_l23Join.f
 repeat' with_reducible first
 | exact ih0 _ _ _ _
 | exact ih1 _ _ _ _ _
 | exact LeO.refl _
 | exact LeO.none _
 | refine LeO.ite ?_ ?_
 | refine LeO.bind ?_ (fun _ => ?_)
set_option maxRecDepth 100000 in
theorem s_l23Join.calls (k : Nat) (P0_ : Nat → Prop) (u9000_ : Value) (l0 : List Int) (a1 : Int) (a2 : Int) (r1 : Bool) (r2 : List Int) (w0 w : World) (hB : Below w0.heap.size w0 w) (ho0 : Kd.R (Kd.int .i64) 3 w w0.heap.size P0_ u9000_ l0) (h : s_l23Join.f k l0 a1 a2 = some (r1, r2)) :
  Calls Try.prog 91 #[u9000_, .int .i64 a1, .int .i64 a2] w fun e w' => e = .returned (.bool r1) ∧ Kd.R (Kd.int .i64) 3 w' w0.heap.size (fun k_ => (P0_ k_ ∨ w.heap.size ≤ k_)) u9000_ r2 ∧ Below w0.heap.size w0 w' ∧ Kept w w' (fun k_ => P0_ k_) := by
 have HO0 := As.mk (show Kd.R (Kd.int .i64) 3 w w0.heap.size (fun k_ => (P0_ k_ ∨ w.heap.size ≤ k_)) u9000_ l0 from Kd.R_mono ho0 (fun k_ hk => (.inl hk)))
 have HK := As.mk (Kept.refl w (fun k_ => P0_ k_))
 have HW0 := As.mk hB.size
 have HB := As.mk hB
 clear hB
 have H : (if 0 ≤ a1 then (if a1 < (l0.length : Int) then (if 0 ≤ a2 then (if a2 < (l0.length : Int) then (s_l23Join.l0 k l0 (rd l0 a1) (rd l0 a2) 0) else (none)) else (none)) else (none)) else (none)) = some (r1, r2) := h
 clear h
 by_cases c4 : 0 ≤ a1
 ·rw [if_pos c4] at H
  have c4b0 : decide (0 ≤ a1) = true := decide_eq_true c4
  clear c4
  by_cases c5 : a1 < (l0.length : Int)
  ·rw [if_pos c5] at H
   have c5b0 : decide (a1 < (l0.length : Int)) = true := decide_eq_true c5
   clear c5
   by_cases c6 : 0 ≤ a2
   ·rw [if_pos c6] at H
    have c6b0 : decide (0 ≤ a2) = true := decide_eq_true c6
    clear c6
    by_cases c7 : a2 < (l0.length : Int)
    ·rw [if_pos c7] at H
     have c7b0 : decide (a2 < (l0.length : Int)) = true := decide_eq_true c7
     clear c7
     have H' := As.mk H
     clear H
     obtain ⟨gq8, co8, eo8, -⟩ := Kd.R_form HO0.out (by have h1 := of_decide_eq_true c4b0; have h2 := of_decide_eq_true c5b0; omega)
     subst eo8
     have p402 : 0 ≤ (a1 : Int) := oD
     have q402 : a1 < (l0.length : Int) := oD
     obtain ⟨ad402, e402, hx402_0⟩ := Kd.at_int (Kd.R_reads' HO0.out).2.2 a1 p402 q402
     cases e402
     replace p402 := eq_true p402
     replace q402 := eq_true q402
     have p403 : 0 ≤ (a2 : Int) := oD
     have q403 : a2 < (l0.length : Int) := oD
     obtain ⟨ad403, e403, hx403_0⟩ := Kd.at_int (Kd.R_reads' HO0.out).2.2 a2 p403 q403
     cases e403
     simp only [add_plain] at hx402_0 hx403_0
     replace p403 := eq_true p403
     replace q403 := eq_true q403
     go_enter Try.func91, Try.ntmps91
     go_wp2
     go_loopg [9] k (fun kq v9 w' => ∃ (x0_1 : List Int) (x9_1 : Int), v9 = .int .i64 x9_1 ∧ As (s_l23Join.l0 kq x0_1 (rd l0 a1) (rd l0 a2) x9_1 = some (r1, r2)) ∧ As (kq ≤ k) ∧ As (Kd.R (Kd.int .i64) 3 w' w0.heap.size (fun k_ => (P0_ k_ ∨ w.heap.size ≤ k_)) (.slice (some (⟨gq8, 0, none⟩ : Addr)) l0.length co8) x0_1) ∧ As (Kept w w' (fun k_ => P0_ k_)) ∧ As (Below w0.heap.size w0 w'))
     case atStart => exact ⟨(l0), (0), (by first | rfl | (simp; done) | (simp [*]; done)), H', ⟨Nat.le_refl _⟩, ⟨rX HO0.out⟩, ⟨by repeat (first | (with_reducible first | exact HK.out | apply Kept.alloc | apply Kept.drewN | apply Kept.drew) | exact HK.out)⟩, ⟨bX HB.out⟩⟩
     case round =>
      clear H'
      try clear c4
      try clear c4b0
      try clear c5
      try clear c5b0
      try clear c6
      try clear c6b0
      try clear c7
      try clear c7b0
      try clear hx402_0
      try clear hx403_0
      try clear p402
      try clear p403
      try clear q402
      try clear q403
      obtain ⟨x0_1, x9_1, rfl, HA, HK1, HO_0, HK, HB⟩ := hrel
      have hl0_1 := (Kd.R_reads' HO_0.out).1
      rw [hl0_1] at HO_0
      (try simp only [hl0_1])
      cases gk with
      | zero => exact absurd HA.out (by simp [s_l23Join.l0])
      | succ k1 =>
       have H := HA.out
       clear HA
       simp only [s_l23Join.l0] at H
       have HC9 := As.mk H
       clear H
       go_upto_region 4 with (fail)
       go_cut [26] (fun v26 wc => ∃ (kq : Nat) (x26_8 : Bool), v26 = .bool x26_8 ∧ As (s_l23Join.j1 kq x0_1 (rd l0 a1) (rd l0 a2) x9_1 x26_8 = some (r1, r2)) ∧ As (kq ≤ k1) ∧ As (Kd.R (Kd.int .i64) 3 wc w0.heap.size (fun k_ => (P0_ k_ ∨ w.heap.size ≤ k_)) (.slice (some (⟨gq8, 0, none⟩ : Addr)) x0_1.length co8) x0_1) ∧ As (Kept w wc (fun k_ => P0_ k_)) ∧ As (Below w0.heap.size w0 wc))
       case first =>
        have H := HC9.out
        clear HC9
        by_cases c10 : x9_1 < (x0_1.length : Int)
        ·rw [if_pos c10] at H
         have c10b0 : decide (x9_1 < (x0_1.length : Int)) = true := decide_eq_true c10
         clear c10
         (first | rw [c10b0] | (simp only [i64_w, i32_w]; rw [c10b0]) | skip)
         have H' := As.mk H
         clear H
         go_wp2
         go_meet
         case rel => exact ⟨_, (((rd l0 a1) != (rd l0 a2))), (by first | rfl | (simp; done) | (simp [*]; done)), H', ⟨by have := HK1.out; first | omega | exact Nat.le_refl _⟩, ⟨by (try simp only [hl0_1]); (with_reducible repeat (first | apply Kd.R_alloc | apply Kd.R_drewN | apply Kd.R_drew)); exact HO_0.out⟩, ⟨by repeat (first | (with_reducible first | exact HK.out | apply Kept.alloc | apply Kept.drewN | apply Kept.drew) | exact HK.out)⟩, ⟨bX HB.out⟩⟩
        ·rw [if_neg c10] at H
         have c10b0 : decide (x9_1 < (x0_1.length : Int)) = false := decide_eq_false c10
         clear c10
         (first | rw [c10b0] | (simp only [i64_w, i32_w]; rw [c10b0]) | skip)
         have H' := As.mk H
         clear H
         go_wp2
         go_meet
         case rel => exact ⟨_, (false), (by first | rfl | (simp; done) | (simp [*]; done)), H', ⟨by have := HK1.out; first | omega | exact Nat.le_refl _⟩, ⟨by (try simp only [hl0_1]); (with_reducible repeat (first | apply Kd.R_alloc | apply Kd.R_drewN | apply Kd.R_drew)); exact HO_0.out⟩, ⟨by repeat (first | (with_reducible first | exact HK.out | apply Kept.alloc | apply Kept.drewN | apply Kept.drew) | exact HK.out)⟩, ⟨bX HB.out⟩⟩
       case rest =>
        clear HC9
        try clear c4
        try clear c4b0
        try clear c5
        try clear c5b0
        try clear c6
        try clear c6b0
        try clear c7
        try clear c7b0
        try clear hx402_0
        try clear hx403_0
        try clear p402
        try clear p403
        try clear q402
        try clear q403
        obtain ⟨kq, x26_8, rfl, HA, HJ8, HO_0, HK, HB⟩ := hcut
        cases kq with
        | zero => exact absurd HA.out (by simp [s_l23Join.j1])
        | succ kj8 =>
         have H := HA.out
         clear HA
         simp only [s_l23Join.j1] at H
         by_cases c11 : x26_8 = true
         ·subst c11
          rw [if_pos rfl] at H
          by_cases c12 : 0 ≤ x9_1
          ·rw [if_pos c12] at H
           have c12b0 : decide (0 ≤ x9_1) = true := decide_eq_true c12
           clear c12
           by_cases c13 : x9_1 < (x0_1.length : Int)
           ·rw [if_pos c13] at H
            have c13b0 : decide (x9_1 < (x0_1.length : Int)) = true := decide_eq_true c13
            clear c13
            by_cases c14 : (rd x0_1 x9_1) = (rd l0 a2)
            ·rw [if_pos c14] at H
             have c14b0 : ((rd x0_1 x9_1) == (rd l0 a2)) = true := beq_iff_eq.mpr c14
             have c14b1 : ((rd x0_1 x9_1) != (rd l0 a2)) = false := bne_eq_false_iff_eq.mpr c14
             clear c14
             obtain ⟨y405, hy405⟩ : ∃ y_ : List Int, y_ = (x0_1.set (x9_1 : Int).toNat (rd l0 a1)) := ⟨_, rfl⟩
             replace H : (s_l23Join.l0 kj8 y405 (rd l0 a1) (rd l0 a2) (wrap64 (x9_1 + 1))) = some (r1, r2) := by first | (rw [hy405]; with_reducible exact H) | (have H2_ := (Option.bind_some _ _).symm.trans H; rw [hy405]; with_reducible exact H2_) | (have H2_ := (Option.bind_some _ _).symm.trans H; with_reducible exact H2_) | with_reducible exact H | (rw [hy405]; exact H) | exact H
             have Ny405 := As.mk hy405
             clear hy405
             have H' := As.mk H
             clear H
             have p404 : 0 ≤ (x9_1 : Int) := oD
             have q404 : x9_1 < (x0_1.length : Int) := oD
             obtain ⟨ad404, e404, hx404_0⟩ := Kd.at_int (Kd.R_reads' HO_0.out).2.2 x9_1 p404 q404
             obtain rfl : (⟨gq8, 0, none⟩ : Addr) = ad404 := (by injection e404); simp only [add_plain] at hx404_0
             replace p404 := eq_true p404
             replace q404 := eq_true q404
             have p15 : 0 ≤ (x9_1 : Int) := oD
             have q15 : (x9_1 : Int) < ((x0_1.length : Int) : Int) := oD
             obtain ⟨go15, co15, eo15, gb15, gl15, cl15, HG15⟩ := Kd.R_form HO_0.out (by omega)
             (first | cases eo15 | (injection eo15 with ea_ en_ ec_; (first | subst ea_ | (injection ea_ with ea_; subst ea_)); subst ec_; clear en_))
             have GB15 := As.mk gb15
             have GG15 := As.mk HG15
             clear gb15 gl15 HG15
             have HMgq8 := As.mk (show (P0_ gq8 ∨ w.heap.size ≤ gq8) from (HO_0.out.1 _ rfl))
             (first | simp only [add_plain] at hx402_0 | skip)
             (first | simp only [add_plain] at hx403_0 | skip)
             (first | simp only [add_plain] at hx404_0 | skip)
             obtain ⟨hx15_0, hf15_0⟩ := Kd.R_celln 0 HO_0.out (x9_1 : Int) p15 q15
             replace p15 := eq_true p15
             replace q15 := eq_true q15
             have HP16 := Kd.R_putg HO_0.out (x9_1 : Int) (rd l0 a1)
             go_wp2_with (first | ((with_reducible refine gate_store (t := 3) (p := 38) rfl ?_); refine store_event (t := 3) (p := 38) (v := ?vo_w17) (w1 := (wc.setCell ⟨gq8, (x9_1 : Int).toNat, none⟩ (.int .i64 (rd l0 a1)))) ?hg ?ho ?hn ?hr ?_; (case ho => rfl); (case hg => rfl); (case hn => rfl); (case hr => first | (go_simp; done) | (go_simp; rfl)); intro w17 hw; have hg : wc.grownBy w17 (some gq8) := (by rw [hw]; exact HP16.2); have hp_ : Kd.R (Kd.int .i64) 3 w17 w0.heap.size (fun k_ => (P0_ k_ ∨ w.heap.size ≤ k_)) (.slice (some ⟨gq8, 0, none⟩) x0_1.length co8) y405 := (by rw [hw, Ny405.out]; exact HP16.1); clear HP16; have n0_ := As.mk (hp_); have n1_ := As.mk ((by rw [hw]; exact below_set (HB.out) GB15.out : Below w0.heap.size w0 w17)); have n2_ := As.mk (Kept.of_grown (S := (fun k_ => P0_ k_)) hg (by repeat (first | (with_reducible first | exact HK.out | apply Kept.alloc | apply Kept.drewN | apply Kept.drew) | exact HK.out)) (fun k_ e_ => (HO_0.out.1 k_ e_))); clear HO_0; clear HB; clear HK; have HO_0 := n0_; have HB := n1_; have HK := n2_; clear n0_ n1_ n2_; clear hg hw hp_))
             (try simp only [← hl0_1])
             go_roundg kj8
             case measure => have := HK1.out; have := HJ8.out; omega
             case rel => exact ⟨(y405), (wrap64 (x9_1 + 1)), (by first | rfl | (simp; done) | (simp [*]; done)), H', ⟨by have := HK1.out; have := HJ8.out; omega⟩, ⟨by (try simp only [hl0_1]); (with_reducible repeat (first | apply Kd.R_alloc | apply Kd.R_drewN | apply Kd.R_drew)); exact HO_0.out⟩, ⟨by repeat (first | (with_reducible first | exact HK.out | apply Kept.alloc | apply Kept.drewN | apply Kept.drew) | exact HK.out)⟩, ⟨bX HB.out⟩⟩
            ·rw [if_neg c14] at H
             have c14b0 : ((rd x0_1 x9_1) == (rd l0 a2)) = false := beq_eq_false_iff_ne.mpr c14
             have c14b1 : ((rd x0_1 x9_1) != (rd l0 a2)) = true := bne_iff_ne.mpr c14
             have H' := As.mk H
             clear H
             have p404 : 0 ≤ (x9_1 : Int) := oD
             have q404 : x9_1 < (x0_1.length : Int) := oD
             obtain ⟨ad404, e404, hx404_0⟩ := Kd.at_int (Kd.R_reads' HO_0.out).2.2 x9_1 p404 q404
             obtain rfl : (⟨gq8, 0, none⟩ : Addr) = ad404 := (by injection e404); simp only [add_plain] at hx404_0
             replace p404 := eq_true p404
             replace q404 := eq_true q404
             go_wp2
             (try simp only [← hl0_1])
             go_roundg kj8
             case measure => have := HK1.out; have := HJ8.out; omega
             case rel => exact ⟨(x0_1), (wrap64 (x9_1 + 1)), (by first | rfl | (simp; done) | (simp [*]; done)), H', ⟨by have := HK1.out; have := HJ8.out; omega⟩, ⟨by (try simp only [hl0_1]); (with_reducible repeat (first | apply Kd.R_alloc | apply Kd.R_drewN | apply Kd.R_drew)); exact HO_0.out⟩, ⟨by repeat (first | (with_reducible first | exact HK.out | apply Kept.alloc | apply Kept.drewN | apply Kept.drew) | exact HK.out)⟩, ⟨bX HB.out⟩⟩
           ·rw [if_neg c13] at H
            exact absurd H (by simp)
          ·rw [if_neg c12] at H
           exact absurd H (by simp)
         ·replace c11 := Bool.eq_false_iff.mpr c11
          subst c11
          rw [if_neg Bool.false_ne_true] at H
          simp only [Option.some.injEq, Prod.mk.injEq] at H
          obtain ⟨rfl, rfl⟩ := H
          go_wp2
          go_ret
          exact ⟨by first | rfl | (simp [*, errW_none, errW_some] <;> rfl), (by first | exact (rX HO_0.out) | (simp only [hl0_1]; exact (rX HO_0.out))), bX HB.out, by repeat (first | (with_reducible first | exact HK.out | apply Kept.alloc | apply Kept.drewN | apply Kept.drew) | exact HK.out)⟩
    ·rw [if_neg c7] at H
     exact absurd H (by simp)
   ·rw [if_neg c6] at H
    exact absurd H (by simp)
  ·rw [if_neg c5] at H
   exact absurd H (by simp)
 ·rw [if_neg c4] at H
  exact absurd H (by simp)
end Go.Proofs.Ytnfnlmilmpaofaa.PFnExactTreeOfTiling
namespace Go.Proofs.Ytnfnlmilmpaofaa.PFnExactTreeOfTiling
open Go.RowKit Go.Proofs.YtnfnlmilmpaofaaW.PrintWords Go.Proofs.YtnfnlmilmpaofaaW.PrintLast Go.Proofs.YtnfnlmilmpaofaaW.PrintMore
attribute [local go_sem] max2_int min2_int max_two min_two max_three min_three max_four min_four
set_option linter.unusedVariables false
attribute [local go_sem high] cell_bk frozen_bk
set_option linter.unusedSimpArgs false
attribute [local go_sem high] eqA50
mutual
def s_IsTree.j0 : Nat → Int → Int → List (S50) → Bool → Option (Bool)
 | 0, _, _, _, _ => none
 | k + 1, x0, x1, x2, x26 => if x26 = true then (some false) else ((s_LinksOf.f k x0 x1).bind fun t407 => ((s_l23Groups.f k (wrap64 (x0 * x1))).bind fun t410 => (s_IsTree.l0 k x0 x2 t407 t410 0)))
def s_IsTree.l0 : Nat → Int → List (S50) → List (S50) → List Int → Int → Option (Bool)
 | 0, _, _, _, _, _ => none
 | k + 1, x0, x2, x7, x8, x9 => if x9 < (x2.length : Int) then (s_IsTree.l1 k x0 x2 x7 x8 x9 false 0) else (some true)
def s_IsTree.l1 : Nat → Int → List (S50) → List (S50) → List Int → Int → Bool → Int → Option (Bool)
 | 0, _, _, _, _, _, _, _ => none
 | k + 1, x0, x2, x7, x8, x9, x10, x11 => if x11 < (x7.length : Int) then (if x10 = true then (s_IsTree.l1 k x0 x2 x7 x8 x9 true (wrap64 (x11 + 1))) else (if 0 ≤ x11 then (if 0 ≤ x9 then (if x9 < (x2.length : Int) then (s_IsTree.l1 k x0 x2 x7 x8 x9 (((rd_T50 x7 x11).f0) == ((rd_T50 x2 x9).f0) && (((rd_T50 x7 x11).f1) == ((rd_T50 x2 x9).f1) && (((rd_T50 x7 x11).f2) == ((rd_T50 x2 x9).f2)))) (wrap64 (x11 + 1))) else (none)) else (none)) else (none))) else (if x10 = true then (if 0 ≤ x9 then (if x9 < (x2.length : Int) then ((s_l23Ends.f x0 ((rd_T50 x2 x9).f0) ((rd_T50 x2 x9).f1) ((rd_T50 x2 x9).f2)).bind fun bt416 => ((s_l23Join.f k x8 bt416.1 bt416.2).bind fun bt418 => (if bt418.1 = true then (s_IsTree.l0 k x0 x2 x7 bt418.2 (wrap64 (x9 + 1))) else (some false)))) else (none)) else (none)) else (some false))
end
def s_IsTree.f (k : Nat) (a0 : Int) (a1 : Int) (l2 : List (S50)) : Option (Bool) := (s_GridOk.f a0 a1).bind fun t406 => (if t406 = true then (s_IsTree.j0 k a0 a1 l2 ((l2.length : Int) != (wrap64 ((wrap64 (a0 * a1)) - 1)))) else (s_IsTree.j0 k a0 a1 l2 true))
theorem s_IsTree.mono_l : ∀ k, (∀ y0 y1 y2 y3, LeO (s_IsTree.j0 k y0 y1 y2 y3) (s_IsTree.j0 (k + 1) y0 y1 y2 y3)) ∧ (∀ y0 y1 y2 y3 y4, LeO (s_IsTree.l0 k y0 y1 y2 y3 y4) (s_IsTree.l0 (k + 1) y0 y1 y2 y3 y4)) ∧ (∀ y0 y1 y2 y3 y4 y5 y6, LeO (s_IsTree.l1 k y0 y1 y2 y3 y4 y5 y6) (s_IsTree.l1 (k + 1) y0 y1 y2 y3 y4 y5 y6))
 | 0 => ⟨fun _ _ _ _ r h => by simp [s_IsTree.j0] at h, fun _ _ _ _ _ r h => by simp [s_IsTree.l0] at h, fun _ _ _ _ _ _ _ r h => by simp [s_IsTree.l1] at h⟩
 | k + 1 => by
  obtain ⟨ih0, ih1, ih2⟩ := s_IsTree.mono_l k
  refine ⟨?_, ?_, ?_⟩ <;> intros
  all_goals first | unfold s_IsTree.j0 | unfold s_IsTree.l0 | unfold s_IsTree.l1
  all_goals repeat' with_reducible first
  | exact ih0 _ _ _ _
  | exact ih1 _ _ _ _ _
  | exact ih2 _ _ _ _ _ _ _
  | exact s_LinksOf.mono _ _ _
  | exact s_l23Groups.mono _ _
  | exact s_l23Join.mono _ _ _ _
  | exact LeO.refl _
  | exact LeO.none _
  | refine LeO.ite ?_ ?_
  | refine LeO.bind ?_ (fun _ => ?_)
theorem s_IsTree.mono : ∀ a0 a1 a2 k, LeO (s_IsTree.f k a0 a1 a2) (s_IsTree.f (k + 1) a0 a1 a2) := by
 intro a0 a1 a2 k
 obtain ⟨ih0, ih1, ih2⟩ := s_IsTree.mono_l k
 unfold s_IsTree.f
 repeat' with_reducible first
 | exact ih0 _ _ _ _
 | exact ih1 _ _ _ _ _
 | exact ih2 _ _ _ _ _ _ _
 | exact s_LinksOf.mono _ _ _
 | exact s_l23Groups.mono _ _
 | exact s_l23Join.mono _ _ _ _
 | exact LeO.refl _
 | exact LeO.none _
 | refine LeO.ite ?_ ?_
 | refine LeO.bind ?_ (fun _ => ?_)
set_option maxRecDepth 100000 in
theorem s_IsTree.calls (k : Nat) (a0 : Int) (a1 : Int) (A2 : Option Addr) (c2 : Nat) (l2 : List (S50)) (r : Bool) (w : World) (hr2 : Kd.C k50 w A2 l2.length l2) (hc2 : l2.length ≤ c2) (h : s_IsTree.f k a0 a1 l2 = some r) :
  Calls Try.prog 27 #[.int .i64 a0, .int .i64 a1, .slice A2 l2.length c2] w fun e w' => e = .returned (.bool r) ∧ Below w.heap.size w w' := by
 have hu50 := Try.underlying50
 have HR2 := As.mk hr2
 have HC2 := As.mk hc2
 clear hr2 hc2
 have HB : Up w w := ⟨Below.refl _ _⟩
 have H : ((s_GridOk.f a0 a1).bind fun t406 => (if t406 = true then (s_IsTree.j0 k a0 a1 l2 ((l2.length : Int) != (wrap64 ((wrap64 (a0 * a1)) - 1)))) else (s_IsTree.j0 k a0 a1 l2 true))) = some r := h
 clear h
 have HC4 := As.mk H
 clear H
 go_enter Try.func27, Try.ntmps27
 go_upto_region 1 with (fail)
 repeat (go_quiet (fail); go_upto_region 1 with (fail))
 go_cut [26] (fun v26 wc => ∃ (kq : Nat) (x26_3 : Bool), v26 = .bool x26_3 ∧ As (s_IsTree.j0 kq a0 a1 l2 x26_3 = some r) ∧ As (kq ≤ k) ∧ Up w wc)
 case first =>
  have H := HC4.out
  clear HC4
  obtain ⟨t406, A5, H⟩ := bI H
  replace H := bT H; rcases H with ⟨rfl, H⟩ | ⟨rfl, H⟩
  ·have H' := As.mk H
   clear H
   go_wp2_with (first | (go_at_call 87; (with_reducible refine (s_GridOk.calls a0 a1 true _ A5.out).mono ?_); rintro e w' ⟨rfl, ⟨nd, rfl⟩⟩; (try first | exact ⟨rfl, _, World.drewN_drewN _ _ _⟩ | exact ⟨rfl, _, Eq.trans (World.drewN_drewN _ _ _) (congrArg (World.drewN _) (Nat.add_assoc _ _ _))⟩)))
   repeat (go_quiet (first | (go_at_call 87; (with_reducible refine (s_GridOk.calls a0 a1 true _ A5.out).mono ?_); rintro e w' ⟨rfl, ⟨nd, rfl⟩⟩; (try first | exact ⟨rfl, _, World.drewN_drewN _ _ _⟩ | exact ⟨rfl, _, Eq.trans (World.drewN_drewN _ _ _) (congrArg (World.drewN _) (Nat.add_assoc _ _ _))⟩))); try go_wp2_with (first | (go_at_call 87; (with_reducible refine (s_GridOk.calls a0 a1 true _ A5.out).mono ?_); rintro e w' ⟨rfl, ⟨nd, rfl⟩⟩; (try first | exact ⟨rfl, _, World.drewN_drewN _ _ _⟩ | exact ⟨rfl, _, Eq.trans (World.drewN_drewN _ _ _) (congrArg (World.drewN _) (Nat.add_assoc _ _ _))⟩))))
   go_meet
   case rel => exact ⟨_, (((l2.length : Int) != (wrap64 ((wrap64 (a0 * a1)) - 1)))), (by first | rfl | (simp; done) | (simp [*]; done)), H', ⟨by first | omega | exact Nat.le_refl _⟩, ⟨uw w⟩⟩
  ·have H' := As.mk H
   clear H
   go_wp2_with (first | (go_at_call 87; (with_reducible refine (s_GridOk.calls a0 a1 false _ A5.out).mono ?_); rintro e w' ⟨rfl, ⟨nd, rfl⟩⟩; (try first | exact ⟨rfl, _, World.drewN_drewN _ _ _⟩ | exact ⟨rfl, _, Eq.trans (World.drewN_drewN _ _ _) (congrArg (World.drewN _) (Nat.add_assoc _ _ _))⟩)))
   repeat (go_quiet (first | (go_at_call 87; (with_reducible refine (s_GridOk.calls a0 a1 false _ A5.out).mono ?_); rintro e w' ⟨rfl, ⟨nd, rfl⟩⟩; (try first | exact ⟨rfl, _, World.drewN_drewN _ _ _⟩ | exact ⟨rfl, _, Eq.trans (World.drewN_drewN _ _ _) (congrArg (World.drewN _) (Nat.add_assoc _ _ _))⟩))); try go_wp2_with (first | (go_at_call 87; (with_reducible refine (s_GridOk.calls a0 a1 false _ A5.out).mono ?_); rintro e w' ⟨rfl, ⟨nd, rfl⟩⟩; (try first | exact ⟨rfl, _, World.drewN_drewN _ _ _⟩ | exact ⟨rfl, _, Eq.trans (World.drewN_drewN _ _ _) (congrArg (World.drewN _) (Nat.add_assoc _ _ _))⟩))))
   go_meet
   case rel => exact ⟨_, (true), (by first | rfl | (simp; done) | (simp [*]; done)), H', ⟨by first | omega | exact Nat.le_refl _⟩, ⟨uw w⟩⟩
 case rest =>
  clear HC4
  obtain ⟨kq, x26_3, rfl, HA, HJ3, HB⟩ := hcut
  cases kq with
  | zero => exact absurd HA.out (by simp [s_IsTree.j0])
  | succ kj3 =>
   have H := HA.out
   clear HA
   simp only [s_IsTree.j0] at H
   replace H := bT H; rcases H with ⟨rfl, H⟩ | ⟨rfl, H⟩
   ·obtain rfl := Option.some.inj H
    go_wp2
    repeat (go_quiet (fail); try go_wp2)
    go_ret
    exact ⟨by first | rfl | (simp [*, errW_none, errW_some] <;> rfl), uw w⟩
   ·obtain ⟨t407, A8, H⟩ := bI H
    obtain ⟨t410, A9, H⟩ := bI H
    have H' := As.mk H
    clear H
    go_wp2_with (first | (go_at_call 88; (with_reducible refine (s_LinksOf.calls kj3 a0 a1 t407 _ A8.out).mono ?_); rintro e w10 ⟨v408, rfl, ho0, hb⟩; have := Stp.mk hb; have HO409 := As.mk (Kd.R_lower ho0 (below_size (uw w))); (try clear ho0)) | (go_at_call 89; (with_reducible refine (s_l23Groups.calls kj3 (wrap64 (a0 * a1)) t410 _ A9.out).mono ?_); rintro e w11 ⟨v411, rfl, ho0, hb⟩; have := Stp.mk hb; replace HO409 := hB HO409 hb; have HO412 := As.mk (Kd.R_lower ho0 (below_size (uw w))); (try clear ho0)))
    repeat (go_quiet (first | (go_at_call 88; (with_reducible refine (s_LinksOf.calls kj3 a0 a1 t407 _ A8.out).mono ?_); rintro e w10 ⟨v408, rfl, ho0, hb⟩; have := Stp.mk hb; have HO409 := As.mk (Kd.R_lower ho0 (below_size (uw w))); (try clear ho0)) | (go_at_call 89; (with_reducible refine (s_l23Groups.calls kj3 (wrap64 (a0 * a1)) t410 _ A9.out).mono ?_); rintro e w11 ⟨v411, rfl, ho0, hb⟩; have := Stp.mk hb; replace HO409 := hB HO409 hb; have HO412 := As.mk (Kd.R_lower ho0 (below_size (uw w))); (try clear ho0))); try go_wp2_with (first | (go_at_call 88; (with_reducible refine (s_LinksOf.calls kj3 a0 a1 t407 _ A8.out).mono ?_); rintro e w10 ⟨v408, rfl, ho0, hb⟩; have := Stp.mk hb; have HO409 := As.mk (Kd.R_lower ho0 (below_size (uw w))); (try clear ho0)) | (go_at_call 89; (with_reducible refine (s_l23Groups.calls kj3 (wrap64 (a0 * a1)) t410 _ A9.out).mono ?_); rintro e w11 ⟨v411, rfl, ho0, hb⟩; have := Stp.mk hb; replace HO409 := hB HO409 hb; have HO412 := As.mk (Kd.R_lower ho0 (below_size (uw w))); (try clear ho0))))
    go_loopg [9] kj3 (fun kq v9 w' => ∃ (x8_2 : List Int) (x9_2 : Int), v9 = .int .i64 x9_2 ∧ As (s_IsTree.l0 kq a0 l2 t407 x8_2 x9_2 = some r) ∧ As (kq ≤ kj3) ∧ As (Kd.R k50 50 w' w.heap.size (fun _ => True) v408 t407) ∧ As (Kd.R (Kd.int .i64) 3 w' w.heap.size (fun _ => True) v411 x8_2) ∧ Up w w')
    case atStart => exact ⟨(t410), (0), (by first | rfl | (simp; done) | (simp [*]; done)), H', ⟨Nat.le_refl _⟩, ⟨rX HO409.out⟩, ⟨rX HO412.out⟩, ⟨uw w⟩⟩
    case round =>
     clear H'
     try clear c7
     obtain ⟨x8_2, x9_2, rfl, HA, HK2, HO_7, HO_8, HB⟩ := hrel
     cases gk with
     | zero => exact absurd HA.out (by simp [s_IsTree.l0])
     | succ k2 =>
      have H := HA.out
      clear HA
      simp only [s_IsTree.l0] at H
      by_cases c12 : x9_2 < (l2.length : Int)
      ·rw [if_pos c12] at H
       have c12b0 : decide (x9_2 < (l2.length : Int)) = true := decide_eq_true c12
       clear c12
       have H' := As.mk H
       clear H
       go_wp2
       repeat (go_quiet (fail); try go_wp2)
       go_loopg [10, 11] k2 (fun kq v10 v11 w' => ∃ (x10_3 : Bool) (x11_3 : Int), v10 = .bool x10_3 ∧ v11 = .int .i64 x11_3 ∧ As (s_IsTree.l1 kq a0 l2 t407 x8_2 x9_2 x10_3 x11_3 = some r) ∧ As (kq ≤ k2) ∧ As (Kd.R k50 50 w' w.heap.size (fun _ => True) v408 t407) ∧ As (Kd.R (Kd.int .i64) 3 w' w.heap.size (fun _ => True) v411 x8_2) ∧ Up w w')
       case atStart => exact ⟨(false), (0), (by first | rfl | (simp; done) | (simp [*]; done)), (by first | rfl | (simp; done) | (simp [*]; done)), H', ⟨Nat.le_refl _⟩, ⟨rX HO_7.out⟩, ⟨rX HO_8.out⟩, ⟨uw w⟩⟩
       case round =>
        clear H'
        try clear c7
        try clear c12
        try clear c12b0
        obtain ⟨x10_3, x11_3, rfl, rfl, HA, HK3, HO_7, HO_8, HB⟩ := hrel
        cases gk with
        | zero => exact absurd HA.out (by simp [s_IsTree.l1])
        | succ k3 =>
         have H := HA.out
         clear HA
         simp only [s_IsTree.l1] at H
         by_cases c13 : x11_3 < (t407.length : Int)
         ·rw [if_pos c13] at H
          have c13b0 : decide (x11_3 < (t407.length : Int)) = true := decide_eq_true c13
          clear c13
          replace H := bT H; rcases H with ⟨rfl, H⟩ | ⟨rfl, H⟩
          ·have H' := As.mk H
           clear H
           obtain ⟨Ao15, co15, eo15⟩ := Kd.R_slice HO_7.out
           subst eo15
           go_wp2
           repeat (go_quiet (fail); try go_wp2)
           go_roundg k3
           case measure => have := HJ3.out; have := HK2.out; have := HK3.out; omega
           case rel => exact ⟨(true), (wrap64 (x11_3 + 1)), (by first | rfl | (simp; done) | (simp [*]; done)), (by first | rfl | (simp; done) | (simp [*]; done)), H', ⟨by have := HJ3.out; have := HK2.out; have := HK3.out; omega⟩, ⟨rX HO_7.out⟩, ⟨rX HO_8.out⟩, ⟨uw w⟩⟩
          ·by_cases c16 : 0 ≤ x11_3
           ·rw [if_pos c16] at H
            have c16b0 : decide (0 ≤ x11_3) = true := decide_eq_true c16
            clear c16
            by_cases c17 : 0 ≤ x9_2
            ·rw [if_pos c17] at H
             have c17b0 : decide (0 ≤ x9_2) = true := decide_eq_true c17
             clear c17
             by_cases c18 : x9_2 < (l2.length : Int)
             ·rw [if_pos c18] at H
              have c18b0 : decide (x9_2 < (l2.length : Int)) = true := decide_eq_true c18
              clear c18
              have H' := As.mk H
              clear H
              obtain ⟨Ao19, co19, eo19⟩ := Kd.R_slice HO_7.out
              subst eo19
              have p413 : 0 ≤ (x11_3 : Int) := oD
              have q413 : x11_3 < (t407.length : Int) := oD
              obtain ⟨ad413, e413, hx413_0, hx413_1, hx413_2⟩ := at_T50 (Kd.R_reads' HO_7.out).2.2 x11_3 p413 q413
              cases e413
              replace p413 := eq_true p413
              replace q413 := eq_true q413
              have p414 : 0 ≤ (x9_2 : Int) := oD
              have q414 : x9_2 < (l2.length : Int) := oD
              obtain ⟨ad414, e414, hx414_0, hx414_1, hx414_2⟩ := at_T50 HR2.out x9_2 p414 q414
              cases e414
              replace hx414_0 := cx wr hx414_0
              replace hx414_1 := cx wr hx414_1
              replace hx414_2 := cx wr hx414_2
              replace p414 := eq_true p414
              replace q414 := eq_true q414
              go_wp2
              repeat (go_quiet (fail); try go_wp2)
              go_roundg k3
              case measure => have := HJ3.out; have := HK2.out; have := HK3.out; omega
              case rel => exact ⟨((((rd_T50 t407 x11_3).f0) == ((rd_T50 l2 x9_2).f0) && (((rd_T50 t407 x11_3).f1) == ((rd_T50 l2 x9_2).f1) && (((rd_T50 t407 x11_3).f2) == ((rd_T50 l2 x9_2).f2))))), (wrap64 (x11_3 + 1)), (by first | rfl | (simp; done) | (simp [*]; done)), (by first | rfl | (simp; done) | (simp [*]; done)), H', ⟨by have := HJ3.out; have := HK2.out; have := HK3.out; omega⟩, ⟨rX HO_7.out⟩, ⟨rX HO_8.out⟩, ⟨uw w⟩⟩
             ·rw [if_neg c18] at H
              exact absurd H (by simp)
            ·rw [if_neg c17] at H
             exact absurd H (by simp)
           ·rw [if_neg c16] at H
            exact absurd H (by simp)
         ·rw [if_neg c13] at H
          have c13b0 : decide (x11_3 < (t407.length : Int)) = false := decide_eq_false c13
          clear c13
          replace H := bT H; rcases H with ⟨rfl, H⟩ | ⟨rfl, H⟩
          ·by_cases c21 : 0 ≤ x9_2
           ·rw [if_pos c21] at H
            have c21b0 : decide (0 ≤ x9_2) = true := decide_eq_true c21
            clear c21
            by_cases c22 : x9_2 < (l2.length : Int)
            ·rw [if_pos c22] at H
             have c22b0 : decide (x9_2 < (l2.length : Int)) = true := decide_eq_true c22
             clear c22
             obtain ⟨⟨t416, t417⟩, A23, H⟩ := bI H
             dsimp only at H
             obtain ⟨⟨t418, t419⟩, A24, H⟩ := bI H
             dsimp only at H
             replace H := bT H; rcases H with ⟨rfl, H⟩ | ⟨rfl, H⟩
             ·have H' := As.mk H
              clear H
              obtain ⟨Ao26, co26, eo26⟩ := Kd.R_slice HO_7.out
              subst eo26
              have p415 : 0 ≤ (x9_2 : Int) := oD
              have q415 : x9_2 < (l2.length : Int) := oD
              obtain ⟨ad415, e415, hx415_0, hx415_1, hx415_2⟩ := at_T50 HR2.out x9_2 p415 q415
              cases e415
              replace hx415_0 := cx wr hx415_0
              replace hx415_1 := cx wr hx415_1
              replace hx415_2 := cx wr hx415_2
              replace p415 := eq_true p415
              replace q415 := eq_true q415
              go_wp2_with (first | (go_at_call 90; (with_reducible refine (s_l23Ends.calls a0 ((rd_T50 l2 x9_2).f0) ((rd_T50 l2 x9_2).f1) ((rd_T50 l2 x9_2).f2) t416 t417 _ A23.out).mono ?_); rintro e w27 ⟨rfl, hb⟩; have := Stp.mk hb; replace HO_7 := hB HO_7 hb; replace HO_8 := hB HO_8 hb; obtain ⟨Ao28, co28, eo28⟩ := Kd.R_slice HO_8.out; subst eo28) | (go_at_call 91; (with_reducible refine (s_l23Join.calls k3 (fun k_ => some k_ = (.slice Ao28 x8_2.length co28 : Value).ownBlock) (.slice Ao28 x8_2.length co28) x8_2 t416 t417 true t419 w _ ?side1 ?side2 A24.out).mono ?_); (case side1 => repeat (first | (with_reducible first | exact (uw w (w := w27)) | apply below_alloc | apply pw_below_drewN | apply below_drew1) | exact (uw w (w := w27)))); (case side2 => exact Kd.R_tight rfl HO_8.out); rintro e w29 ⟨rfl, hy0, hb, hkp⟩; have := Stp.mk hb; replace HO_7 := As.mk (Kd.R_mono (ok' := fun k_ => True) (Kd.R_keptB ((Kd.R_apart' HO_7.out (Kd.R_typed HO_8.out) (by decide))) hkp (fun k_ hk_ hs_ => (hk_.2) hs_)) (fun k_ hk_ => trivial)); replace HO_8 := As.mk (Kd.R_reok rfl hy0 (fun k_ e_ => HO_8.out.1 k_ e_)); have HB := Up.mk (hb); (try clear hkp); (try clear hy0)))
              repeat (go_quiet (first | (go_at_call 90; (with_reducible refine (s_l23Ends.calls a0 ((rd_T50 l2 x9_2).f0) ((rd_T50 l2 x9_2).f1) ((rd_T50 l2 x9_2).f2) t416 t417 _ A23.out).mono ?_); rintro e w27 ⟨rfl, hb⟩; have := Stp.mk hb; replace HO_7 := hB HO_7 hb; replace HO_8 := hB HO_8 hb; obtain ⟨Ao28, co28, eo28⟩ := Kd.R_slice HO_8.out; subst eo28) | (go_at_call 91; (with_reducible refine (s_l23Join.calls k3 (fun k_ => some k_ = (.slice Ao28 x8_2.length co28 : Value).ownBlock) (.slice Ao28 x8_2.length co28) x8_2 t416 t417 true t419 w _ ?side1 ?side2 A24.out).mono ?_); (case side1 => repeat (first | (with_reducible first | exact (uw w (w := w27)) | apply below_alloc | apply pw_below_drewN | apply below_drew1) | exact (uw w (w := w27)))); (case side2 => exact Kd.R_tight rfl HO_8.out); rintro e w29 ⟨rfl, hy0, hb, hkp⟩; have := Stp.mk hb; replace HO_7 := As.mk (Kd.R_mono (ok' := fun k_ => True) (Kd.R_keptB ((Kd.R_apart' HO_7.out (Kd.R_typed HO_8.out) (by decide))) hkp (fun k_ hk_ hs_ => (hk_.2) hs_)) (fun k_ hk_ => trivial)); replace HO_8 := As.mk (Kd.R_reok rfl hy0 (fun k_ e_ => HO_8.out.1 k_ e_)); have HB := Up.mk (hb); (try clear hkp); (try clear hy0))); try go_wp2_with (first | (go_at_call 90; (with_reducible refine (s_l23Ends.calls a0 ((rd_T50 l2 x9_2).f0) ((rd_T50 l2 x9_2).f1) ((rd_T50 l2 x9_2).f2) t416 t417 _ A23.out).mono ?_); rintro e w27 ⟨rfl, hb⟩; have := Stp.mk hb; replace HO_7 := hB HO_7 hb; replace HO_8 := hB HO_8 hb; obtain ⟨Ao28, co28, eo28⟩ := Kd.R_slice HO_8.out; subst eo28) | (go_at_call 91; (with_reducible refine (s_l23Join.calls k3 (fun k_ => some k_ = (.slice Ao28 x8_2.length co28 : Value).ownBlock) (.slice Ao28 x8_2.length co28) x8_2 t416 t417 true t419 w _ ?side1 ?side2 A24.out).mono ?_); (case side1 => repeat (first | (with_reducible first | exact (uw w (w := w27)) | apply below_alloc | apply pw_below_drewN | apply below_drew1) | exact (uw w (w := w27)))); (case side2 => exact Kd.R_tight rfl HO_8.out); rintro e w29 ⟨rfl, hy0, hb, hkp⟩; have := Stp.mk hb; replace HO_7 := As.mk (Kd.R_mono (ok' := fun k_ => True) (Kd.R_keptB ((Kd.R_apart' HO_7.out (Kd.R_typed HO_8.out) (by decide))) hkp (fun k_ hk_ hs_ => (hk_.2) hs_)) (fun k_ hk_ => trivial)); replace HO_8 := As.mk (Kd.R_reok rfl hy0 (fun k_ e_ => HO_8.out.1 k_ e_)); have HB := Up.mk (hb); (try clear hkp); (try clear hy0))))
              go_roundg k3
              case measure => have := HJ3.out; have := HK2.out; have := HK3.out; omega
              case rel => exact ⟨(t419), (wrap64 (x9_2 + 1)), (by first | rfl | (simp; done) | (simp [*]; done)), H', ⟨by have := HJ3.out; have := HK2.out; have := HK3.out; omega⟩, ⟨rX HO_7.out⟩, ⟨rX HO_8.out⟩, ⟨uw w⟩⟩
             ·obtain rfl := Option.some.inj H
              obtain ⟨Ao30, co30, eo30⟩ := Kd.R_slice HO_7.out
              subst eo30
              have p415 : 0 ≤ (x9_2 : Int) := oD
              have q415 : x9_2 < (l2.length : Int) := oD
              obtain ⟨ad415, e415, hx415_0, hx415_1, hx415_2⟩ := at_T50 HR2.out x9_2 p415 q415
              cases e415
              replace hx415_0 := cx wr hx415_0
              replace hx415_1 := cx wr hx415_1
              replace hx415_2 := cx wr hx415_2
              replace p415 := eq_true p415
              replace q415 := eq_true q415
              go_wp2_with (first | (go_at_call 90; (with_reducible refine (s_l23Ends.calls a0 ((rd_T50 l2 x9_2).f0) ((rd_T50 l2 x9_2).f1) ((rd_T50 l2 x9_2).f2) t416 t417 _ A23.out).mono ?_); rintro e w31 ⟨rfl, hb⟩; have := Stp.mk hb; replace HO_7 := hB HO_7 hb; replace HO_8 := hB HO_8 hb; obtain ⟨Ao32, co32, eo32⟩ := Kd.R_slice HO_8.out; subst eo32) | (go_at_call 91; (with_reducible refine (s_l23Join.calls k3 (fun k_ => some k_ = (.slice Ao32 x8_2.length co32 : Value).ownBlock) (.slice Ao32 x8_2.length co32) x8_2 t416 t417 false t419 w _ ?side1 ?side2 A24.out).mono ?_); (case side1 => repeat (first | (with_reducible first | exact (uw w (w := w31)) | apply below_alloc | apply pw_below_drewN | apply below_drew1) | exact (uw w (w := w31)))); (case side2 => exact Kd.R_tight rfl HO_8.out); rintro e w33 ⟨rfl, hy0, hb, hkp⟩; have := Stp.mk hb; replace HO_7 := As.mk (Kd.R_mono (ok' := fun k_ => True) (Kd.R_keptB ((Kd.R_apart' HO_7.out (Kd.R_typed HO_8.out) (by decide))) hkp (fun k_ hk_ hs_ => (hk_.2) hs_)) (fun k_ hk_ => trivial)); replace HO_8 := As.mk (Kd.R_reok rfl hy0 (fun k_ e_ => HO_8.out.1 k_ e_)); have HB := Up.mk (hb); (try clear hkp); (try clear hy0)))
              repeat (go_quiet (first | (go_at_call 90; (with_reducible refine (s_l23Ends.calls a0 ((rd_T50 l2 x9_2).f0) ((rd_T50 l2 x9_2).f1) ((rd_T50 l2 x9_2).f2) t416 t417 _ A23.out).mono ?_); rintro e w31 ⟨rfl, hb⟩; have := Stp.mk hb; replace HO_7 := hB HO_7 hb; replace HO_8 := hB HO_8 hb; obtain ⟨Ao32, co32, eo32⟩ := Kd.R_slice HO_8.out; subst eo32) | (go_at_call 91; (with_reducible refine (s_l23Join.calls k3 (fun k_ => some k_ = (.slice Ao32 x8_2.length co32 : Value).ownBlock) (.slice Ao32 x8_2.length co32) x8_2 t416 t417 false t419 w _ ?side1 ?side2 A24.out).mono ?_); (case side1 => repeat (first | (with_reducible first | exact (uw w (w := w31)) | apply below_alloc | apply pw_below_drewN | apply below_drew1) | exact (uw w (w := w31)))); (case side2 => exact Kd.R_tight rfl HO_8.out); rintro e w33 ⟨rfl, hy0, hb, hkp⟩; have := Stp.mk hb; replace HO_7 := As.mk (Kd.R_mono (ok' := fun k_ => True) (Kd.R_keptB ((Kd.R_apart' HO_7.out (Kd.R_typed HO_8.out) (by decide))) hkp (fun k_ hk_ hs_ => (hk_.2) hs_)) (fun k_ hk_ => trivial)); replace HO_8 := As.mk (Kd.R_reok rfl hy0 (fun k_ e_ => HO_8.out.1 k_ e_)); have HB := Up.mk (hb); (try clear hkp); (try clear hy0))); try go_wp2_with (first | (go_at_call 90; (with_reducible refine (s_l23Ends.calls a0 ((rd_T50 l2 x9_2).f0) ((rd_T50 l2 x9_2).f1) ((rd_T50 l2 x9_2).f2) t416 t417 _ A23.out).mono ?_); rintro e w31 ⟨rfl, hb⟩; have := Stp.mk hb; replace HO_7 := hB HO_7 hb; replace HO_8 := hB HO_8 hb; obtain ⟨Ao32, co32, eo32⟩ := Kd.R_slice HO_8.out; subst eo32) | (go_at_call 91; (with_reducible refine (s_l23Join.calls k3 (fun k_ => some k_ = (.slice Ao32 x8_2.length co32 : Value).ownBlock) (.slice Ao32 x8_2.length co32) x8_2 t416 t417 false t419 w _ ?side1 ?side2 A24.out).mono ?_); (case side1 => repeat (first | (with_reducible first | exact (uw w (w := w31)) | apply below_alloc | apply pw_below_drewN | apply below_drew1) | exact (uw w (w := w31)))); (case side2 => exact Kd.R_tight rfl HO_8.out); rintro e w33 ⟨rfl, hy0, hb, hkp⟩; have := Stp.mk hb; replace HO_7 := As.mk (Kd.R_mono (ok' := fun k_ => True) (Kd.R_keptB ((Kd.R_apart' HO_7.out (Kd.R_typed HO_8.out) (by decide))) hkp (fun k_ hk_ hs_ => (hk_.2) hs_)) (fun k_ hk_ => trivial)); replace HO_8 := As.mk (Kd.R_reok rfl hy0 (fun k_ e_ => HO_8.out.1 k_ e_)); have HB := Up.mk (hb); (try clear hkp); (try clear hy0))))
              go_ret
              exact ⟨by first | rfl | (simp [*, errW_none, errW_some] <;> rfl), uw w⟩
            ·rw [if_neg c22] at H
             exact absurd H (by simp)
           ·rw [if_neg c21] at H
            exact absurd H (by simp)
          ·obtain rfl := Option.some.inj H
           obtain ⟨Ao34, co34, eo34⟩ := Kd.R_slice HO_7.out
           subst eo34
           go_wp2
           repeat (go_quiet (fail); try go_wp2)
           go_ret
           exact ⟨by first | rfl | (simp [*, errW_none, errW_some] <;> rfl), uw w⟩
      ·rw [if_neg c12] at H
       have c12b0 : decide (x9_2 < (l2.length : Int)) = false := decide_eq_false c12
       clear c12
       obtain rfl := Option.some.inj H
       go_wp2
       repeat (go_quiet (fail); try go_wp2)
       go_ret
       exact ⟨by first | rfl | (simp [*, errW_none, errW_some] <;> rfl), uw w⟩
end Go.Proofs.Ytnfnlmilmpaofaa.PFnExactTreeOfTiling
namespace Go.Proofs.Ytnfnlmilmpaofaa.PFnExactTreeOfTiling
open Go.RowKit Go.Proofs.YtnfnlmilmpaofaaW.PrintWords Go.Proofs.YtnfnlmilmpaofaaW.PrintLast Go.Proofs.YtnfnlmilmpaofaaW.PrintMore
attribute [local go_sem] max2_int min2_int max_two min_two max_three min_three max_four min_four
set_option linter.unusedVariables false
attribute [local go_sem high] cell_bk frozen_bk
set_option linter.unusedSimpArgs false
def s_l24Has.l0 : Nat → List (S50) → Int → Int → Int → Option (Bool)
 | 0, _, _, _, _ => none
 | k + 1, x0, x5, x421000, x421001 => if x5 < (x0.length : Int) then (if 0 ≤ x5 then (if ((rd_T50 x0 x5).f2 = true) then (if (rd_T50 x0 x5).f2 = true then (if x421000 = (wrap64 (2 * ((rd_T50 x0 x5).f0))) then (if x421001 = (wrap64 ((wrap64 (2 * ((rd_T50 x0 x5).f1))) + 1)) then (some true) else (s_l24Has.l0 k x0 (wrap64 (x5 + 1)) x421000 x421001)) else (s_l24Has.l0 k x0 (wrap64 (x5 + 1)) x421000 x421001)) else (s_l24Has.l0 k x0 (wrap64 (x5 + 1)) x421000 x421001)) else (if x421000 = (wrap64 ((wrap64 (2 * ((rd_T50 x0 x5).f0))) + 1)) then (if x421001 = (wrap64 (2 * ((rd_T50 x0 x5).f1))) then (some true) else (if (rd_T50 x0 x5).f2 = true then (if x421000 = (wrap64 (2 * ((rd_T50 x0 x5).f0))) then (if x421001 = (wrap64 ((wrap64 (2 * ((rd_T50 x0 x5).f1))) + 1)) then (some true) else (s_l24Has.l0 k x0 (wrap64 (x5 + 1)) x421000 x421001)) else (s_l24Has.l0 k x0 (wrap64 (x5 + 1)) x421000 x421001)) else (s_l24Has.l0 k x0 (wrap64 (x5 + 1)) x421000 x421001))) else (if (rd_T50 x0 x5).f2 = true then (if x421000 = (wrap64 (2 * ((rd_T50 x0 x5).f0))) then (if x421001 = (wrap64 ((wrap64 (2 * ((rd_T50 x0 x5).f1))) + 1)) then (some true) else (s_l24Has.l0 k x0 (wrap64 (x5 + 1)) x421000 x421001)) else (s_l24Has.l0 k x0 (wrap64 (x5 + 1)) x421000 x421001)) else (s_l24Has.l0 k x0 (wrap64 (x5 + 1)) x421000 x421001)))) else (none)) else (some false)
def s_l24Has.f (k : Nat) (l0 : List (S50)) (a1_0 : Int) (a1_1 : Int) : Option (Bool) := s_l24Has.l0 k l0 0 a1_0 a1_1
theorem s_l24Has.mono_l : ∀ k, (∀ y0 y1 y2 y3, LeO (s_l24Has.l0 k y0 y1 y2 y3) (s_l24Has.l0 (k + 1) y0 y1 y2 y3))
 | 0 => fun _ _ _ _ r h => by simp [s_l24Has.l0] at h
 | k + 1 => by
  have ih0 := s_l24Has.mono_l k
  ·intro y0 y1 y2 y3
   unfold s_l24Has.l0
   repeat' with_reducible first
   | exact ih0 _ _ _ _
   | exact LeO.refl _
   | exact LeO.none _
   | refine LeO.ite ?_ ?_
   | refine LeO.bind ?_ (fun _ => ?_)
theorem s_l24Has.mono : ∀ a0 a1 a2 k, LeO (s_l24Has.f k a0 a1 a2) (s_l24Has.f (k + 1) a0 a1 a2) := by
 intro a0 a1 a2 k
 have ih0 := s_l24Has.mono_l k
 unfold s_l24Has.f
 repeat' with_reducible first
 | exact ih0 _ _ _ _
 | exact LeO.refl _
 | exact LeO.none _
 | refine LeO.ite ?_ ?_
 | refine LeO.bind ?_ (fun _ => ?_)
set_option maxRecDepth 100000 in
theorem s_l24Has.calls (k : Nat) (A0 : Option Addr) (c0 : Nat) (l0 : List (S50)) (a1_0 : Int) (a1_1 : Int) (r : Bool) (w : World) (hr0 : Kd.C k50 w A0 l0.length l0) (hc0 : l0.length ≤ c0) (h : s_l24Has.f k l0 a1_0 a1_1 = some r) :
  Calls Try.prog 148 #[.slice A0 l0.length c0, .agg #[.int .i64 a1_0, .int .i64 a1_1]] w fun e w' => e = .returned (.bool r) ∧ Below w.heap.size w w' := by
 have hu39 := Try.underlying39
 have hu50 := Try.underlying50
 have HR0 := As.mk hr0
 have HC0 := As.mk hc0
 clear hr0 hc0
 have HB : Up w w := ⟨Below.refl _ _⟩
 have H : (s_l24Has.l0 k l0 0 a1_0 a1_1) = some r := h
 clear h
 have H' := As.mk H
 clear H
 go_enter Try.func148, Try.ntmps148
 go_wp2_with (first | ((with_reducible refine gD 3 rfl ?_); refine bxE rfl #[.int .i64 a1_0, .int .i64 a1_1] 39 ?_ ?_; (focus first | (go_simp; done) | (go_simp; rfl)); intro gb420 _ w3 _ _))
 go_loopg [5] k (fun kq v5 w' => ∃ (x5_1 : Int), v5 = .int .i64 x5_1 ∧ As (s_l24Has.l0 kq l0 x5_1 a1_0 a1_1 = some r) ∧ As (kq ≤ k) ∧ Bk w' gb420 (.cells #[.int .i64 a1_0, .int .i64 a1_1] 39 (0, 0)) ∧ Up w w')
 case atStart => exact ⟨(0), (by first | rfl | (simp; done) | (simp [*]; done)), H', ⟨Nat.le_refl _⟩, bM (by rfl), ⟨uw w⟩⟩
 case round =>
  clear H'
  obtain ⟨x5_1, rfl, HA, HK1, BK420, HB⟩ := hrel
  cases gk with
  | zero => exact absurd HA.out (by simp [s_l24Has.l0])
  | succ k1 =>
   have H := HA.out
   clear HA
   simp only [s_l24Has.l0] at H
   by_cases c4 : x5_1 < (l0.length : Int)
   ·rw [if_pos c4] at H
    have c4b0 : decide (x5_1 < (l0.length : Int)) = true := decide_eq_true c4
    clear c4
    by_cases c5 : 0 ≤ x5_1
    ·rw [if_pos c5] at H
     have c5b0 : decide (0 ≤ x5_1) = true := decide_eq_true c5
     clear c5
     obtain ⟨bq6, hbq6⟩ : ∃ b_ : Bool, b_ = ((rd_T50 l0 x5_1).f2) := ⟨_, rfl⟩
     replace H : (if (bq6 = true) then (if bq6 = true then (if a1_0 = (wrap64 (2 * ((rd_T50 l0 x5_1).f0))) then (if a1_1 = (wrap64 ((wrap64 (2 * ((rd_T50 l0 x5_1).f1))) + 1)) then (some true) else (s_l24Has.l0 k1 l0 (wrap64 (x5_1 + 1)) a1_0 a1_1)) else (s_l24Has.l0 k1 l0 (wrap64 (x5_1 + 1)) a1_0 a1_1)) else (s_l24Has.l0 k1 l0 (wrap64 (x5_1 + 1)) a1_0 a1_1)) else (if a1_0 = (wrap64 ((wrap64 (2 * ((rd_T50 l0 x5_1).f0))) + 1)) then (if a1_1 = (wrap64 (2 * ((rd_T50 l0 x5_1).f1))) then (some true) else (if bq6 = true then (if a1_0 = (wrap64 (2 * ((rd_T50 l0 x5_1).f0))) then (if a1_1 = (wrap64 ((wrap64 (2 * ((rd_T50 l0 x5_1).f1))) + 1)) then (some true) else (s_l24Has.l0 k1 l0 (wrap64 (x5_1 + 1)) a1_0 a1_1)) else (s_l24Has.l0 k1 l0 (wrap64 (x5_1 + 1)) a1_0 a1_1)) else (s_l24Has.l0 k1 l0 (wrap64 (x5_1 + 1)) a1_0 a1_1))) else (if bq6 = true then (if a1_0 = (wrap64 (2 * ((rd_T50 l0 x5_1).f0))) then (if a1_1 = (wrap64 ((wrap64 (2 * ((rd_T50 l0 x5_1).f1))) + 1)) then (some true) else (s_l24Has.l0 k1 l0 (wrap64 (x5_1 + 1)) a1_0 a1_1)) else (s_l24Has.l0 k1 l0 (wrap64 (x5_1 + 1)) a1_0 a1_1)) else (s_l24Has.l0 k1 l0 (wrap64 (x5_1 + 1)) a1_0 a1_1)))) = some r := by rw [← hbq6] at H; exact H
     have Nbq6 := As.mk hbq6
     clear hbq6
     by_cases c7 : (bq6 = true)
     ·subst c7
      rw [if_pos rfl] at H
      rw [if_pos rfl] at H
      by_cases c9 : a1_0 = (wrap64 (2 * ((rd_T50 l0 x5_1).f0)))
      ·rw [if_pos c9] at H
       have c9b0 : (a1_0 == (wrap64 (2 * ((rd_T50 l0 x5_1).f0)))) = true := beq_iff_eq.mpr c9
       have c9b1 : (a1_0 != (wrap64 (2 * ((rd_T50 l0 x5_1).f0)))) = false := bne_eq_false_iff_eq.mpr c9
       clear c9
       by_cases c10 : a1_1 = (wrap64 ((wrap64 (2 * ((rd_T50 l0 x5_1).f1))) + 1))
       ·rw [if_pos c10] at H
        have c10b0 : (a1_1 == (wrap64 ((wrap64 (2 * ((rd_T50 l0 x5_1).f1))) + 1))) = true := beq_iff_eq.mpr c10
        have c10b1 : (a1_1 != (wrap64 ((wrap64 (2 * ((rd_T50 l0 x5_1).f1))) + 1))) = false := bne_eq_false_iff_eq.mpr c10
        clear c10
        obtain rfl := Option.some.inj H
        have p421 : 0 ≤ (x5_1 : Int) := oD
        have q421 : x5_1 < (l0.length : Int) := oD
        obtain ⟨ad421, e421, hx421_0, hx421_1, hx421_2⟩ := at_T50 HR0.out x5_1 p421 q421
        (try rw [← Nbq6.out] at hx421_2)
        cases e421
        replace hx421_0 := cx wr hx421_0
        replace hx421_1 := cx wr hx421_1
        replace hx421_2 := cx wr hx421_2
        replace p421 := eq_true p421
        replace q421 := eq_true q421
        go_wp2_with (first | ((with_reducible refine gD 6 rfl ?_); refine bxE rfl #[.int .i64 0, .int .i64 0, .bool false] 50 ?_ ?_; (focus first | (go_simp; done) | (go_simp; rfl)); intro gb422 _ w11 _ _))
        go_ret
        exact ⟨by first | rfl | (simp [*, errW_none, errW_some] <;> rfl), uw w⟩
       ·rw [if_neg c10] at H
        have c10b0 : (a1_1 == (wrap64 ((wrap64 (2 * ((rd_T50 l0 x5_1).f1))) + 1))) = false := beq_eq_false_iff_ne.mpr c10
        have c10b1 : (a1_1 != (wrap64 ((wrap64 (2 * ((rd_T50 l0 x5_1).f1))) + 1))) = true := bne_iff_ne.mpr c10
        have H' := As.mk H
        clear H
        have p421 : 0 ≤ (x5_1 : Int) := oD
        have q421 : x5_1 < (l0.length : Int) := oD
        obtain ⟨ad421, e421, hx421_0, hx421_1, hx421_2⟩ := at_T50 HR0.out x5_1 p421 q421
        (try rw [← Nbq6.out] at hx421_2)
        cases e421
        replace hx421_0 := cx wr hx421_0
        replace hx421_1 := cx wr hx421_1
        replace hx421_2 := cx wr hx421_2
        replace p421 := eq_true p421
        replace q421 := eq_true q421
        go_wp2_with (first | ((with_reducible refine gD 6 rfl ?_); refine bxE rfl #[.int .i64 0, .int .i64 0, .bool false] 50 ?_ ?_; (focus first | (go_simp; done) | (go_simp; rfl)); intro gb422 _ w15 _ _))
        go_roundg k1
        case measure => have := HK1.out; omega
        case rel => exact ⟨(wrap64 (x5_1 + 1)), (by first | rfl | (simp; done) | (simp [*]; done)), H', ⟨by have := HK1.out; omega⟩, bM (by rfl), ⟨uw w⟩⟩
      ·rw [if_neg c9] at H
       have c9b0 : (a1_0 == (wrap64 (2 * ((rd_T50 l0 x5_1).f0)))) = false := beq_eq_false_iff_ne.mpr c9
       have c9b1 : (a1_0 != (wrap64 (2 * ((rd_T50 l0 x5_1).f0)))) = true := bne_iff_ne.mpr c9
       have H' := As.mk H
       clear H
       have p421 : 0 ≤ (x5_1 : Int) := oD
       have q421 : x5_1 < (l0.length : Int) := oD
       obtain ⟨ad421, e421, hx421_0, hx421_1, hx421_2⟩ := at_T50 HR0.out x5_1 p421 q421
       (try rw [← Nbq6.out] at hx421_2)
       cases e421
       replace hx421_0 := cx wr hx421_0
       replace hx421_1 := cx wr hx421_1
       replace hx421_2 := cx wr hx421_2
       replace p421 := eq_true p421
       replace q421 := eq_true q421
       go_wp2_with (first | ((with_reducible refine gD 6 rfl ?_); refine bxE rfl #[.int .i64 0, .int .i64 0, .bool false] 50 ?_ ?_; (focus first | (go_simp; done) | (go_simp; rfl)); intro gb422 _ w19 _ _))
       go_roundg k1
       case measure => have := HK1.out; omega
       case rel => exact ⟨(wrap64 (x5_1 + 1)), (by first | rfl | (simp; done) | (simp [*]; done)), H', ⟨by have := HK1.out; omega⟩, bM (by rfl), ⟨uw w⟩⟩
     ·replace c7 := Bool.eq_false_iff.mpr c7
      subst c7
      rw [if_neg Bool.false_ne_true] at H
      by_cases c26 : a1_0 = (wrap64 ((wrap64 (2 * ((rd_T50 l0 x5_1).f0))) + 1))
      ·rw [if_pos c26] at H
       have c26b0 : (a1_0 == (wrap64 ((wrap64 (2 * ((rd_T50 l0 x5_1).f0))) + 1))) = true := beq_iff_eq.mpr c26
       have c26b1 : (a1_0 != (wrap64 ((wrap64 (2 * ((rd_T50 l0 x5_1).f0))) + 1))) = false := bne_eq_false_iff_eq.mpr c26
       clear c26
       by_cases c27 : a1_1 = (wrap64 (2 * ((rd_T50 l0 x5_1).f1)))
       ·rw [if_pos c27] at H
        have c27b0 : (a1_1 == (wrap64 (2 * ((rd_T50 l0 x5_1).f1)))) = true := beq_iff_eq.mpr c27
        have c27b1 : (a1_1 != (wrap64 (2 * ((rd_T50 l0 x5_1).f1)))) = false := bne_eq_false_iff_eq.mpr c27
        clear c27
        obtain rfl := Option.some.inj H
        have p421 : 0 ≤ (x5_1 : Int) := oD
        have q421 : x5_1 < (l0.length : Int) := oD
        obtain ⟨ad421, e421, hx421_0, hx421_1, hx421_2⟩ := at_T50 HR0.out x5_1 p421 q421
        (try rw [← Nbq6.out] at hx421_2)
        cases e421
        replace hx421_0 := cx wr hx421_0
        replace hx421_1 := cx wr hx421_1
        replace hx421_2 := cx wr hx421_2
        replace p421 := eq_true p421
        replace q421 := eq_true q421
        go_wp2_with (first | ((with_reducible refine gD 6 rfl ?_); refine bxE rfl #[.int .i64 0, .int .i64 0, .bool false] 50 ?_ ?_; (focus first | (go_simp; done) | (go_simp; rfl)); intro gb422 _ w28 _ _))
        go_ret
        exact ⟨by first | rfl | (simp [*, errW_none, errW_some] <;> rfl), uw w⟩
       ·rw [if_neg c27] at H
        have c27b0 : (a1_1 == (wrap64 (2 * ((rd_T50 l0 x5_1).f1)))) = false := beq_eq_false_iff_ne.mpr c27
        have c27b1 : (a1_1 != (wrap64 (2 * ((rd_T50 l0 x5_1).f1)))) = true := bne_iff_ne.mpr c27
        rw [if_neg Bool.false_ne_true] at H
        have H' := As.mk H
        clear H
        have p421 : 0 ≤ (x5_1 : Int) := oD
        have q421 : x5_1 < (l0.length : Int) := oD
        obtain ⟨ad421, e421, hx421_0, hx421_1, hx421_2⟩ := at_T50 HR0.out x5_1 p421 q421
        (try rw [← Nbq6.out] at hx421_2)
        cases e421
        replace hx421_0 := cx wr hx421_0
        replace hx421_1 := cx wr hx421_1
        replace hx421_2 := cx wr hx421_2
        replace p421 := eq_true p421
        replace q421 := eq_true q421
        go_wp2_with (first | ((with_reducible refine gD 6 rfl ?_); refine bxE rfl #[.int .i64 0, .int .i64 0, .bool false] 50 ?_ ?_; (focus first | (go_simp; done) | (go_simp; rfl)); intro gb422 _ w47 _ _))
        go_roundg k1
        case measure => have := HK1.out; omega
        case rel => exact ⟨(wrap64 (x5_1 + 1)), (by first | rfl | (simp; done) | (simp [*]; done)), H', ⟨by have := HK1.out; omega⟩, bM (by rfl), ⟨uw w⟩⟩
      ·rw [if_neg c26] at H
       have c26b0 : (a1_0 == (wrap64 ((wrap64 (2 * ((rd_T50 l0 x5_1).f0))) + 1))) = false := beq_eq_false_iff_ne.mpr c26
       have c26b1 : (a1_0 != (wrap64 ((wrap64 (2 * ((rd_T50 l0 x5_1).f0))) + 1))) = true := bne_iff_ne.mpr c26
       rw [if_neg Bool.false_ne_true] at H
       have H' := As.mk H
       clear H
       have p421 : 0 ≤ (x5_1 : Int) := oD
       have q421 : x5_1 < (l0.length : Int) := oD
       obtain ⟨ad421, e421, hx421_0, hx421_1, hx421_2⟩ := at_T50 HR0.out x5_1 p421 q421
       (try rw [← Nbq6.out] at hx421_2)
       cases e421
       replace hx421_0 := cx wr hx421_0
       replace hx421_1 := cx wr hx421_1
       replace hx421_2 := cx wr hx421_2
       replace p421 := eq_true p421
       replace q421 := eq_true q421
       go_wp2_with (first | ((with_reducible refine gD 6 rfl ?_); refine bxE rfl #[.int .i64 0, .int .i64 0, .bool false] 50 ?_ ?_; (focus first | (go_simp; done) | (go_simp; rfl)); intro gb422 _ w66 _ _))
       go_roundg k1
       case measure => have := HK1.out; omega
       case rel => exact ⟨(wrap64 (x5_1 + 1)), (by first | rfl | (simp; done) | (simp [*]; done)), H', ⟨by have := HK1.out; omega⟩, bM (by rfl), ⟨uw w⟩⟩
    ·rw [if_neg c5] at H
     exact absurd H (by simp)
   ·rw [if_neg c4] at H
    have c4b0 : decide (x5_1 < (l0.length : Int)) = false := decide_eq_false c4
    clear c4
    obtain rfl := Option.some.inj H
    go_wp2
    go_ret
    exact ⟨by first | rfl | (simp [*, errW_none, errW_some] <;> rfl), uw w⟩
def s_AreNeighbors.j0 : Nat → Bool → Int → Int → Int → Int → Option (Bool)
 | 0, _, _, _, _, _ => none
 | k + 1, x14, x424000, x424001, x425000, x425001 => if x14 = true then (some false) else (some ((wrap64 ((wrap64 ((wrap64 (x424000 - x425000)) * (wrap64 (x424000 - x425000)))) + (wrap64 ((wrap64 (x424001 - x425001)) * (wrap64 (x424001 - x425001)))))) == 1))
def s_AreNeighbors.f (k : Nat) (a0_0 : Int) (a0_1 : Int) (a1_0 : Int) (a1_1 : Int) : Option (Bool) := (s_CellOk.f a0_0 a0_1).bind fun t425 => (if t425 = true then ((s_CellOk.f a1_0 a1_1).bind fun t426 => (s_AreNeighbors.j0 k (!t426) a0_0 a0_1 a1_0 a1_1)) else (s_AreNeighbors.j0 k true a0_0 a0_1 a1_0 a1_1))
theorem s_AreNeighbors.mono_l : ∀ k, (∀ y0 y1 y2 y3 y4, LeO (s_AreNeighbors.j0 k y0 y1 y2 y3 y4) (s_AreNeighbors.j0 (k + 1) y0 y1 y2 y3 y4))
 | 0 => fun _ _ _ _ _ r h => by simp [s_AreNeighbors.j0] at h
 | k + 1 => by
  have ih0 := s_AreNeighbors.mono_l k
  ·intro y0 y1 y2 y3 y4
   unfold s_AreNeighbors.j0
   repeat' with_reducible first
   | exact ih0 _ _ _ _ _
   | exact LeO.refl _
   | exact LeO.none _
   | refine LeO.ite ?_ ?_
   | refine LeO.bind ?_ (fun _ => ?_)
theorem s_AreNeighbors.mono : ∀ a0 a1 a2 a3 k, LeO (s_AreNeighbors.f k a0 a1 a2 a3) (s_AreNeighbors.f (k + 1) a0 a1 a2 a3) := by
 intro a0 a1 a2 a3 k
 have ih0 := s_AreNeighbors.mono_l k
 unfold s_AreNeighbors.f
 repeat' with_reducible first
 | exact ih0 _ _ _ _ _
 | exact LeO.refl _
 | exact LeO.none _
 | refine LeO.ite ?_ ?_
 | refine LeO.bind ?_ (fun _ => ?_)
set_option maxRecDepth 100000 in
theorem s_AreNeighbors.calls (k : Nat) (a0_0 : Int) (a0_1 : Int) (a1_0 : Int) (a1_1 : Int) (r : Bool) (w : World) (h : s_AreNeighbors.f k a0_0 a0_1 a1_0 a1_1 = some r) :
  Calls Try.prog 171 #[.agg #[.int .i64 a0_0, .int .i64 a0_1], .agg #[.int .i64 a1_0, .int .i64 a1_1]] w fun e w' => e = .returned (.bool r) ∧ Below w.heap.size w w' := by
 have hu39 := Try.underlying39
 have HB : Up w w := ⟨Below.refl _ _⟩
 have H : ((s_CellOk.f a0_0 a0_1).bind fun t425 => (if t425 = true then ((s_CellOk.f a1_0 a1_1).bind fun t426 => (s_AreNeighbors.j0 k (!t426) a0_0 a0_1 a1_0 a1_1)) else (s_AreNeighbors.j0 k true a0_0 a0_1 a1_0 a1_1))) = some r := h
 clear h
 have HC3 := As.mk H
 clear H
 go_enter Try.func171, Try.ntmps171
 go_upto_region 1 with (first | ((with_reducible refine gD 2 rfl ?_); refine bxE rfl #[.int .i64 a0_0, .int .i64 a0_1] 39 ?_ ?_; (focus first | (go_simp; done) | (go_simp; rfl)); intro gb423 _ w4 _ _) | ((with_reducible refine gD 3 rfl ?_); refine bxE rfl #[.int .i64 a1_0, .int .i64 a1_1] 39 ?_ ?_; (focus first | (go_simp; done) | (go_simp; rfl)); intro gb424 _ w5 _ _))
 (try simp only [Act.put, List.setIfInBounds_toArray, List.set_cons_zero, List.set_cons_succ])
 go_cut [14] (fun v14 wc => ∃ (kq : Nat) (x14_2 : Bool), v14 = .bool x14_2 ∧ As (s_AreNeighbors.j0 kq x14_2 a0_0 a0_1 a1_0 a1_1 = some r) ∧ As (kq ≤ k) ∧ Bk wc gb423 (.cells #[.int .i64 a0_0, .int .i64 a0_1] 39 (0, 0)) ∧ Bk wc gb424 (.cells #[.int .i64 a1_0, .int .i64 a1_1] 39 (0, 0)) ∧ Up w wc)
 case first =>
  have H := HC3.out
  clear HC3
  obtain ⟨t425, A6, H⟩ := bI H
  replace H := bT H; rcases H with ⟨rfl, H⟩ | ⟨rfl, H⟩
  ·obtain ⟨t426, A8, H⟩ := bI H
   have H' := As.mk H
   clear H
   go_wp2_with (first | ((with_reducible refine gC 132 rfl ?_); refine gK (some 8) rfl rfl Try.func132 (by kernel_rfl) rfl #[.agg #[.int .i64 a0_0, .int .i64 a0_1]] rfl (by (try simp only [sD, sE, sF]); first | done | rfl) (s_CellOk.calls a0_0 a0_1 true _ A6.out) ?_; intro w11 _) | (go_at_call 132; (with_reducible refine (s_CellOk.calls a1_0 a1_1 t426 _ A8.out).mono ?_); rintro e w13 ⟨rfl, hb⟩; have := Stp.mk hb))
   go_meet
   case rel => exact ⟨_, (!t426), (by first | rfl | (simp; done) | (simp [*]; done)), H', ⟨by first | omega | exact Nat.le_refl _⟩, bM (by rfl), bM (by rfl), ⟨uw w⟩⟩
  ·have H' := As.mk H
   clear H
   go_wp2_with (first | ((with_reducible refine gC 132 rfl ?_); refine gK (some 8) rfl rfl Try.func132 (by kernel_rfl) rfl #[.agg #[.int .i64 a0_0, .int .i64 a0_1]] rfl (by (try simp only [sD, sE, sF]); first | done | rfl) (s_CellOk.calls a0_0 a0_1 false _ A6.out) ?_; intro w16 _))
   go_meet
   case rel => exact ⟨_, (true), (by first | rfl | (simp; done) | (simp [*]; done)), H', ⟨by first | omega | exact Nat.le_refl _⟩, bM (by rfl), bM (by rfl), ⟨uw w⟩⟩
 case rest =>
  clear HC3
  obtain ⟨kq, x14_2, rfl, HA, HJ2, BK423, BK424, HB⟩ := hcut
  cases kq with
  | zero => exact absurd HA.out (by simp [s_AreNeighbors.j0])
  | succ kj2 =>
   have H := HA.out
   clear HA
   simp only [s_AreNeighbors.j0] at H
   replace H := bT H; rcases H with ⟨rfl, H⟩ | ⟨rfl, H⟩
   ·obtain rfl := Option.some.inj H
    go_wp2
    go_ret
    exact ⟨by first | rfl | (simp [*, errW_none, errW_some] <;> rfl), uw w⟩
   ·obtain rfl := Option.some.inj H
    go_wp2
    go_ret
    exact ⟨by first | rfl | (simp [*, errW_none, errW_some] <;> rfl), uw w⟩
def s_DominoOver.f (k : Nat) (a0_0 : Int) (a0_1 : Int) (a1_0 : Int) (a1_1 : Int) : Option (Int × Int × Bool × Bool) := (s_AreNeighbors.f k a0_0 a0_1 a1_0 a1_1).bind fun t430 => (if t430 = true then (some (mn a0_0 a1_0, mn a0_1 a1_1, (a0_0 == a1_0), true)) else (some (0, 0, false, false)))
theorem s_DominoOver.mono : ∀ a0 a1 a2 a3 k, LeO (s_DominoOver.f k a0 a1 a2 a3) (s_DominoOver.f (k + 1) a0 a1 a2 a3) := by
 intro a0 a1 a2 a3 k
 unfold s_DominoOver.f
 repeat' with_reducible first
 | exact s_AreNeighbors.mono _ _ _ _ _
 | exact LeO.refl _
 | exact LeO.none _
 | refine LeO.ite ?_ ?_
 | refine LeO.bind ?_ (fun _ => ?_)
set_option maxRecDepth 100000 in
theorem s_DominoOver.calls (k : Nat) (a0_0 : Int) (a0_1 : Int) (a1_0 : Int) (a1_1 : Int) (r1 : Int) (r2 : Int) (r3 : Bool) (r4 : Bool) (w : World) (h : s_DominoOver.f k a0_0 a0_1 a1_0 a1_1 = some (r1, r2, r3, r4)) :
  Calls Try.prog 149 #[.agg #[.int .i64 a0_0, .int .i64 a0_1], .agg #[.int .i64 a1_0, .int .i64 a1_1]] w fun e w' => e = .returned (.tuple #[.agg #[.int .i64 r1, .int .i64 r2, .bool r3], .bool r4]) ∧ Below w.heap.size w w' := by
 have hu39 := Try.underlying39
 have hu41 := Try.underlying41
 have HB : Up w w := ⟨Below.refl _ _⟩
 have H : ((s_AreNeighbors.f k a0_0 a0_1 a1_0 a1_1).bind fun t430 => (if t430 = true then (some (mn a0_0 a1_0, mn a0_1 a1_1, (a0_0 == a1_0), true)) else (some (0, 0, false, false)))) = some (r1, r2, r3, r4) := h
 clear h
 obtain ⟨t430, A3, H⟩ := bI H
 replace H := bT H; rcases H with ⟨rfl, H⟩ | ⟨rfl, H⟩
 ·obtain ⟨ji5, hji5⟩ : ∃ j_ : Int, (mn a0_0 a1_0) = j_ := ⟨_, rfl⟩
  replace H : (some (ji5, mn a0_1 a1_1, (a0_0 == a1_0), true)) = some (r1, r2, r3, r4) := by first | (rw [hji5] at H; exact H) | (simp only [hji5] at H ⊢; exact H)
  (try rw [hji5] at A3)
  have hji5_ : (if a1_0 < a0_0 then a1_0 else a0_0) = ji5 := hji5
  obtain ⟨ji6, hji6⟩ : ∃ j_ : Int, (mn a0_1 a1_1) = j_ := ⟨_, rfl⟩
  replace H : (some (ji5, ji6, (a0_0 == a1_0), true)) = some (r1, r2, r3, r4) := by first | (rw [hji6] at H; exact H) | (simp only [hji6] at H ⊢; exact H)
  (try rw [hji6] at A3)
  have hji6_ : (if a1_1 < a0_1 then a1_1 else a0_1) = ji6 := hji6
  simp only [Option.some.injEq, Prod.mk.injEq] at H
  obtain ⟨rfl, rfl, rfl, rfl⟩ := H
  go_enter Try.func149, Try.ntmps149
  go_wp2_with (first | ((with_reducible refine gD 2 rfl ?_); refine bxE rfl #[.int .i64 a0_0, .int .i64 a0_1] 39 ?_ ?_; (focus first | (go_simp; done) | (go_simp; rfl)); intro gb427 _ w7 _ _) | ((with_reducible refine gD 3 rfl ?_); refine bxE rfl #[.int .i64 a1_0, .int .i64 a1_1] 39 ?_ ?_; (focus first | (go_simp; done) | (go_simp; rfl)); intro gb428 _ w8 _ _) | ((with_reducible refine gD 4 rfl ?_); refine bxE rfl #[.int .i64 0, .int .i64 0, .bool false] 41 ?_ ?_; (focus first | (go_simp; done) | (go_simp; rfl)); intro gb429 _ w9 _ _) | ((with_reducible refine gC 171 rfl ?_); refine gK (some 8) rfl rfl Try.func171 (by kernel_rfl) rfl #[.agg #[.int .i64 a0_0, .int .i64 a0_1], .agg #[.int .i64 a1_0, .int .i64 a1_1]] rfl (by (try simp only [sD, sE, sF]); first | done | rfl) (s_AreNeighbors.calls k a0_0 a0_1 a1_0 a1_1 true _ A3.out) ?_; intro w15 _))
  refine bodyPost_ret (results_ct rfl _ _ gb429 41 #[.int .i64 ji5, .int .i64 ji6, .bool (a0_0 == a1_0)] (0, 0) _ rfl (bkr gb429 (by rfl)) Try.underlying41 rfl (by kernel_rfl)) rfl ?_
  exact ⟨by first | rfl | (simp [errW_none, errW_some] <;> rfl) | (simp only [← hji5, ← hji6]; first | rfl | (simp [errW_none, errW_some] <;> rfl)) | (simp [*, errW_none, errW_some] <;> rfl), uw w⟩
 ·simp only [Option.some.injEq, Prod.mk.injEq] at H
  obtain ⟨rfl, rfl, rfl, rfl⟩ := H
  go_enter Try.func149, Try.ntmps149
  go_wp2_with (first | ((with_reducible refine gD 2 rfl ?_); refine bxE rfl #[.int .i64 a0_0, .int .i64 a0_1] 39 ?_ ?_; (focus first | (go_simp; done) | (go_simp; rfl)); intro gb427 _ w19 _ _) | ((with_reducible refine gD 3 rfl ?_); refine bxE rfl #[.int .i64 a1_0, .int .i64 a1_1] 39 ?_ ?_; (focus first | (go_simp; done) | (go_simp; rfl)); intro gb428 _ w20 _ _) | ((with_reducible refine gD 4 rfl ?_); refine bxE rfl #[.int .i64 0, .int .i64 0, .bool false] 41 ?_ ?_; (focus first | (go_simp; done) | (go_simp; rfl)); intro gb429 _ w21 _ _) | ((with_reducible refine gC 171 rfl ?_); refine gK (some 8) rfl rfl Try.func171 (by kernel_rfl) rfl #[.agg #[.int .i64 a0_0, .int .i64 a0_1], .agg #[.int .i64 a1_0, .int .i64 a1_1]] rfl (by (try simp only [sD, sE, sF]); first | done | rfl) (s_AreNeighbors.calls k a0_0 a0_1 a1_0 a1_1 false _ A3.out) ?_; intro w27 _))
  refine bodyPost_ret (results_ct rfl _ _ gb429 41 #[.int .i64 0, .int .i64 0, .bool false] (0, 0) _ rfl (bkr gb429 (by rfl)) Try.underlying41 rfl (by kernel_rfl)) rfl ?_
  exact ⟨by first | rfl | (simp [*, errW_none, errW_some] <;> rfl), uw w⟩
end Go.Proofs.Ytnfnlmilmpaofaa.PFnExactTreeOfTiling
