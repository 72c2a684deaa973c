/- Printed twins and contracts of functions, part 3; l24Steps, outward and SortDominoes are walked by hand. Nothing is assumed. -/
import Derived.Test.YtnfnlmilmpaofaaA1
import Derived.Test.YtnfnlmilmpaofaaB1
import Derived.Test.YtnfnlmilmpaofaaB2
namespace Go.Proofs.Ytnfnlmilmpaofaa.PFnExactTilingOfTree
open Go.RowKit Go.Proofs.YtnfnlmilmpaofaaW.PrintWords Go.Proofs.YtnfnlmilmpaofaaW.PrintLast Go.Proofs.YtnfnlmilmpaofaaW.PrintMore
attribute [local go_sem] max2_int min2_int max_two min_two max_three min_three max_four min_four   -- for this text's walks alone
set_option linter.unusedVariables false
set_option linter.unusedSimpArgs false
def spec_IsDominoBefore.j0 : Nat → Bool → Int → Int → Bool → Int → Int → Bool → Option (Bool)
 | 0, _, _, _, _, _, _, _ => none
 | k + 1, x14, x225000, x225001, x225002, x226000, x226001, x226002 => if x14 = true then (some false) else (if (wrap64 ((wrap64 (x225001 * 8)) + x225000)) < (wrap64 ((wrap64 (x226001 * 8)) + x226000)) then (some true) else (if (wrap64 ((wrap64 (x225001 * 8)) + x225000)) = (wrap64 ((wrap64 (x226001 * 8)) + x226000)) then (if x225002 = true then (some false) else (some x226002)) else (some false)))
def spec_IsDominoBefore.f (k : Nat) (a0_0 : Int) (a0_1 : Int) (a0_2 : Bool) (a1_0 : Int) (a1_1 : Int) (a1_2 : Bool) : Option (Bool) := (spec_DominoOk.f a0_0 a0_1 a0_2).bind fun t226 => (if t226 = true then ((spec_DominoOk.f a1_0 a1_1 a1_2).bind fun t227 => (spec_IsDominoBefore.j0 k (!t227) a0_0 a0_1 a0_2 a1_0 a1_1 a1_2)) else (spec_IsDominoBefore.j0 k true a0_0 a0_1 a0_2 a1_0 a1_1 a1_2))
theorem spec_IsDominoBefore.mono_l : ∀ k, (∀ y0 y1 y2 y3 y4 y5 y6, LeO (spec_IsDominoBefore.j0 k y0 y1 y2 y3 y4 y5 y6) (spec_IsDominoBefore.j0 (k + 1) y0 y1 y2 y3 y4 y5 y6))
 | 0 => fun _ _ _ _ _ _ _ r h => by simp [spec_IsDominoBefore.j0] at h
 | k + 1 => by
  have ih0 := spec_IsDominoBefore.mono_l k
  ·intro y0 y1 y2 y3 y4 y5 y6
   unfold spec_IsDominoBefore.j0
   repeat' with_reducible first
   | exact ih0 _ _ _ _ _ _ _
   | exact LeO.refl _
   | exact LeO.none _
   | refine LeO.ite ?_ ?_
   | refine LeO.bind ?_ (fun _ => ?_)
theorem spec_IsDominoBefore.mono : ∀ a0 a1 a2 a3 a4 a5 k, LeO (spec_IsDominoBefore.f k a0 a1 a2 a3 a4 a5) (spec_IsDominoBefore.f (k + 1) a0 a1 a2 a3 a4 a5) := by
 intro a0 a1 a2 a3 a4 a5 k
 have ih0 := spec_IsDominoBefore.mono_l k
 unfold spec_IsDominoBefore.f
 repeat' first
   | (with_reducible exact ih0 _ _ _ _ _ _ _)
   | (with_reducible exact LeO.refl _)
   | (with_reducible exact LeO.none _)
   | (with_reducible refine LeO.ite ?_ ?_)
   | (with_reducible refine LeO.bind ?_ (fun _ => ?_))
   | exact ih0 _ _ _ _ _ _ _
   | exact LeO.none _
   | refine LeO.ite ?_ ?_
   | refine LeO.bind ?_ (fun _ => ?_)
set_option maxHeartbeats 8000000 in
set_option maxRecDepth 100000 in
theorem spec_IsDominoBefore.calls (k : Nat) (a0_0 : Int) (a0_1 : Int) (a0_2 : Bool) (a1_0 : Int) (a1_1 : Int) (a1_2 : Bool) (r : Bool) (w : World) (h : spec_IsDominoBefore.f k a0_0 a0_1 a0_2 a1_0 a1_1 a1_2 = some r) :
  Calls Try.prog 69 #[.agg #[.int .i64 a0_0, .int .i64 a0_1, .bool a0_2], .agg #[.int .i64 a1_0, .int .i64 a1_1, .bool a1_2]] w fun e w' => e = .returned (.bool r) ∧ Below w.heap.size w w' := by
 have hu41 := Try.underlying41
 have HB := Aside0.mk (Below.refl w.heap.size w)
 have H : ((spec_DominoOk.f a0_0 a0_1 a0_2).bind fun t226 => (if t226 = true then ((spec_DominoOk.f a1_0 a1_1 a1_2).bind fun t227 => (spec_IsDominoBefore.j0 k (!t227) a0_0 a0_1 a0_2 a1_0 a1_1 a1_2)) else (spec_IsDominoBefore.j0 k true a0_0 a0_1 a0_2 a1_0 a1_1 a1_2))) = some r := h
 clear h
 have HC3 := Aside0.mk H
 clear H
 go_enter Try.func69, Try.ntmps69
 go_upto_region 1 with (first | ((with_reducible refine gate_dst (N := 2) rfl ?_); refine box_event ?hg (N := 2) ?hd (cs := #[.int .i64 a0_0, .int .i64 a0_1, .bool a0_2]) (t := 41) ?hr ?_; (case hd => rfl); (case hg => rfl); (case hr => first | (go_simp; done) | (go_simp; rfl)); intro gb224 hg w4 hbox hb; have n0_ := Aside0.mk (below_step (bX HB.out) hb); have n1_ := Aside0.mk (hbox); have n2_ := Aside0.mk ((by rw [hg]; exact (below_size (bX HB.out)) : w.heap.size ≤ gb224)); have n3_ := Aside0.mk ((by rw [hg]; exact (below_size (bX HB.out)) : w.heap.size ≤ gb224)); clear HB; have HB := n0_; have BK224 := n1_; have GW224 := n2_; have GE224 := n3_; clear n0_ n1_ n2_ n3_; clear hb hbox hg) | ((with_reducible refine gate_dst (N := 3) rfl ?_); refine box_event ?hg (N := 3) ?hd (cs := #[.int .i64 a1_0, .int .i64 a1_1, .bool a1_2]) (t := 41) ?hr ?_; (case hd => rfl); (case hg => rfl); (case hr => first | (go_simp; done) | (go_simp; rfl)); intro gb225 hg w5 hbox hb; have n0_ := Aside0.mk (blk_below (g := gb224) (o := .cells #[.int .i64 a0_0, .int .i64 a0_1, .bool a0_2] 41 (0, 0)) (kX BK224.out) hb); have n1_ := Aside0.mk (below_step (by repeat (with_reducible first | exact HB.out | apply below_alloc | apply pw_below_drewN | apply below_drew1 | refine below_set ?_ GE224.out)) hb); have n2_ := Aside0.mk (hbox); have n3_ := Aside0.mk ((by rw [hg]; exact (below_size (by repeat (with_reducible first | exact HB.out | apply below_alloc | apply pw_below_drewN | apply below_drew1 | refine below_set ?_ GE224.out))) : w.heap.size ≤ gb225)); have n4_ := Aside0.mk ((by rw [hg]; exact (below_size (by repeat (with_reducible first | exact HB.out | apply below_alloc | apply pw_below_drewN | apply below_drew1 | refine below_set ?_ GE224.out))) : w.heap.size ≤ gb225)); have n5_ := Aside0.mk ((by rw [hg]; exact Nat.ne_of_lt (blk_lt (g := gb224) (o := .cells #[.int .i64 a0_0, .int .i64 a0_1, .bool a0_2] 41 (0, 0)) (kX BK224.out)) : gb224 ≠ gb225)); have n6_ := Aside0.mk ((by rw [hg]; exact Nat.ne_of_gt (blk_lt (g := gb224) (o := .cells #[.int .i64 a0_0, .int .i64 a0_1, .bool a0_2] 41 (0, 0)) (kX BK224.out)) : gb225 ≠ gb224)); clear BK224; clear HB; have BK224 := n0_; have HB := n1_; have BK225 := n2_; have GW225 := n3_; have GE225 := n4_; have NB224_225 := n5_; have NB225_224 := n6_; clear n0_ n1_ n2_ n3_ n4_ n5_ n6_; clear hb hbox hg))
 (try simp only [Act.put, List.setIfInBounds_toArray, List.set_cons_zero, List.set_cons_succ])
 go_cut [14] (fun v14 wc => ∃ (kq : Nat) (x14_2 : Bool), v14 = .bool x14_2 ∧ Aside0 (spec_IsDominoBefore.j0 kq x14_2 a0_0 a0_1 a0_2 a1_0 a1_1 a1_2 = some r) ∧ Aside0 (kq ≤ k) ∧ Aside0 (wc.heap[gb224]? = some (.cells #[.int .i64 a0_0, .int .i64 a0_1, .bool a0_2] 41 (0, 0))) ∧ Aside0 (wc.heap[gb225]? = some (.cells #[.int .i64 a1_0, .int .i64 a1_1, .bool a1_2] 41 (0, 0))) ∧ Aside0 (Below w.heap.size w wc))
 case first =>
  have H := HC3.out
  clear HC3
  replace H := Option.bind_eq_some_iff.mp H
  obtain ⟨t226, A60, H⟩ := H
  replace H : (if t226 = true then ((spec_DominoOk.f a1_0 a1_1 a1_2).bind fun t227 => (spec_IsDominoBefore.j0 k (!t227) a0_0 a0_1 a0_2 a1_0 a1_1 a1_2)) else (spec_IsDominoBefore.j0 k true a0_0 a0_1 a0_2 a1_0 a1_1 a1_2)) = some r := H
  have A6 := Aside0.mk A60
  clear A60
  by_cases c7 : t226 = true
  ·subst c7
   have H1 : ((spec_DominoOk.f a1_0 a1_1 a1_2).bind fun t227 => (spec_IsDominoBefore.j0 k (!t227) a0_0 a0_1 a0_2 a1_0 a1_1 a1_2)) = some r := by rw [if_pos rfl] at H; exact H
   clear H
   have H := H1
   clear H1
   replace H := Option.bind_eq_some_iff.mp H
   obtain ⟨t227, A80, H⟩ := H
   replace H : (spec_IsDominoBefore.j0 k (!t227) a0_0 a0_1 a0_2 a1_0 a1_1 a1_2) = some r := H
   have A8 := Aside0.mk A80
   clear A80
   have H' := Aside0.mk H
   clear H
   have hnb9 := NB224_225.out
   have hnc9 := NB225_224.out
   have hcz10_0 : w5.cell? ⟨gb224, 0, none⟩ = some (.int .i64 a0_0) := (blk_cell BK224.out 0).trans rfl
   have hcz10_1 : w5.cell? ⟨gb224, 1, none⟩ = some (.int .i64 a0_1) := (blk_cell BK224.out 1).trans rfl
   have hcz10_2 : w5.cell? ⟨gb224, 2, none⟩ = some (.bool a0_2) := (blk_cell BK224.out 2).trans rfl
   have hfz10_0 := blk_frozen BK224.out 0
   have hfz10_1 := blk_frozen BK224.out 1
   have hfz10_2 := blk_frozen BK224.out 2
   go_wp2_with (first | ((with_reducible refine gate_callee (f := 68) rfl ?_); refine goesL_ (some 8) rfl rfl Try.func68 (by kernel_rfl) rfl #[.agg #[.int .i64 a0_0, .int .i64 a0_1, .bool a0_2]] rfl (by (try simp only [sD, sE, sF]); first | done | rfl) ?_; (with_reducible refine (spec_DominoOk.calls a0_0 a0_1 a0_2 true _ A6.out).mono ?_); rintro e w11 ⟨rfl, hb⟩; refine ⟨_, rfl, ?_⟩; have n0_ := Aside0.mk (blk_below (g := gb224) (o := .cells #[.int .i64 a0_0, .int .i64 a0_1, .bool a0_2] 41 (0, 0)) (kX BK224.out) hb); have n1_ := Aside0.mk (blk_below (g := gb225) (o := .cells #[.int .i64 a1_0, .int .i64 a1_1, .bool a1_2] 41 (0, 0)) (kX BK225.out) hb); have n2_ := Aside0.mk (below_step (by repeat (with_reducible first | exact HB.out | apply below_alloc | apply pw_below_drewN | apply below_drew1 | refine below_set ?_ GE224.out | refine below_set ?_ GE225.out)) hb); clear BK224; clear BK225; clear HB; have BK224 := n0_; have BK225 := n1_; have HB := n2_; clear n0_ n1_ n2_; (try clear hb); (try clear hb2); (try clear hk); (try clear hi); have hcz12_0 : w11.cell? ⟨gb225, 0, none⟩ = some (.int .i64 a1_0) := (blk_cell BK225.out 0).trans rfl; have hcz12_1 : w11.cell? ⟨gb225, 1, none⟩ = some (.int .i64 a1_1) := (blk_cell BK225.out 1).trans rfl; have hcz12_2 : w11.cell? ⟨gb225, 2, none⟩ = some (.bool a1_2) := (blk_cell BK225.out 2).trans rfl; have hfz12_0 := blk_frozen BK225.out 0; have hfz12_1 := blk_frozen BK225.out 1; have hfz12_2 := blk_frozen BK225.out 2) | (go_at_call 68; (with_reducible refine (spec_DominoOk.calls a1_0 a1_1 a1_2 t227 _ A8.out).mono ?_); rintro e w13 ⟨rfl, hb⟩; have n0_ := Aside0.mk (blk_below (g := gb224) (o := .cells #[.int .i64 a0_0, .int .i64 a0_1, .bool a0_2] 41 (0, 0)) (kX BK224.out) hb); have n1_ := Aside0.mk (blk_below (g := gb225) (o := .cells #[.int .i64 a1_0, .int .i64 a1_1, .bool a1_2] 41 (0, 0)) (kX BK225.out) hb); have n2_ := Aside0.mk (below_step (by repeat (with_reducible first | exact HB.out | apply below_alloc | apply pw_below_drewN | apply below_drew1 | refine below_set ?_ GE224.out | refine below_set ?_ GE225.out)) hb); clear BK224; clear BK225; clear HB; have BK224 := n0_; have BK225 := n1_; have HB := n2_; clear n0_ n1_ n2_; (try clear hb); (try clear hb2); (try clear hk); (try clear hi)))
   go_meet
   case rel => exact ⟨_, (!t227), (by first | rfl | (simp; done) | (simp [*]; done)), H', ⟨by first | omega | exact Nat.le_refl _⟩, ⟨kX BK224.out⟩, ⟨kX BK225.out⟩, ⟨by repeat (with_reducible first | exact HB.out | apply below_alloc | apply pw_below_drewN | apply below_drew1 | refine below_set ?_ GE224.out | refine below_set ?_ GE225.out)⟩⟩
  ·replace c7 := Bool.eq_false_iff.mpr c7
   subst c7
   have H1 : (spec_IsDominoBefore.j0 k true a0_0 a0_1 a0_2 a1_0 a1_1 a1_2) = some r := by rw [if_neg (show ¬ (false = true) by decide)] at H; exact H
   clear H
   have H := H1
   clear H1
   have H' := Aside0.mk H
   clear H
   have hnb14 := NB224_225.out
   have hnc14 := NB225_224.out
   have hcz15_0 : w5.cell? ⟨gb224, 0, none⟩ = some (.int .i64 a0_0) := (blk_cell BK224.out 0).trans rfl
   have hcz15_1 : w5.cell? ⟨gb224, 1, none⟩ = some (.int .i64 a0_1) := (blk_cell BK224.out 1).trans rfl
   have hcz15_2 : w5.cell? ⟨gb224, 2, none⟩ = some (.bool a0_2) := (blk_cell BK224.out 2).trans rfl
   have hfz15_0 := blk_frozen BK224.out 0
   have hfz15_1 := blk_frozen BK224.out 1
   have hfz15_2 := blk_frozen BK224.out 2
   go_wp2_with (first | ((with_reducible refine gate_callee (f := 68) rfl ?_); refine goesL_ (some 8) rfl rfl Try.func68 (by kernel_rfl) rfl #[.agg #[.int .i64 a0_0, .int .i64 a0_1, .bool a0_2]] rfl (by (try simp only [sD, sE, sF]); first | done | rfl) ?_; (with_reducible refine (spec_DominoOk.calls a0_0 a0_1 a0_2 false _ A6.out).mono ?_); rintro e w16 ⟨rfl, hb⟩; refine ⟨_, rfl, ?_⟩; have n0_ := Aside0.mk (blk_below (g := gb224) (o := .cells #[.int .i64 a0_0, .int .i64 a0_1, .bool a0_2] 41 (0, 0)) (kX BK224.out) hb); have n1_ := Aside0.mk (blk_below (g := gb225) (o := .cells #[.int .i64 a1_0, .int .i64 a1_1, .bool a1_2] 41 (0, 0)) (kX BK225.out) hb); have n2_ := Aside0.mk (below_step (by repeat (with_reducible first | exact HB.out | apply below_alloc | apply pw_below_drewN | apply below_drew1 | refine below_set ?_ GE224.out | refine below_set ?_ GE225.out)) hb); clear BK224; clear BK225; clear HB; have BK224 := n0_; have BK225 := n1_; have HB := n2_; clear n0_ n1_ n2_; (try clear hb); (try clear hb2); (try clear hk); (try clear hi)))
   go_meet
   case rel => exact ⟨_, (true), (by first | rfl | (simp; done) | (simp [*]; done)), H', ⟨by first | omega | exact Nat.le_refl _⟩, ⟨kX BK224.out⟩, ⟨kX BK225.out⟩, ⟨by repeat (with_reducible first | exact HB.out | apply below_alloc | apply pw_below_drewN | apply below_drew1 | refine below_set ?_ GE224.out | refine below_set ?_ GE225.out)⟩⟩
 case rest =>
  clear HC3
  try clear c1
  try clear p2
  try clear c6
  try clear c7
  try clear c9
  try clear c14
  try clear hcz10_0
  try clear hcz10_1
  try clear hcz10_2
  try clear hcz12_0
  try clear hcz12_1
  try clear hcz12_2
  try clear hcz15_0
  try clear hcz15_1
  try clear hcz15_2
  try clear hfz10_0
  try clear hfz10_1
  try clear hfz10_2
  try clear hfz12_0
  try clear hfz12_1
  try clear hfz12_2
  try clear hfz15_0
  try clear hfz15_1
  try clear hfz15_2
  obtain ⟨kq, x14_2, rfl, HA, HJ2, BK224, BK225, HB⟩ := hcut
  cases kq with
  | zero => exact absurd HA.out (by simp [spec_IsDominoBefore.j0])
  | succ kj2 =>
   have H := HA.out
   clear HA
   simp only [spec_IsDominoBefore.j0] at H
   by_cases c17 : x14_2 = true
   ·subst c17
    have H1 : (some false) = some r := by rw [if_pos rfl] at H; exact H
    clear H
    have H := H1
    clear H1
    obtain rfl := Option.some.inj H
    go_wp2
    go_ret
    exact ⟨by first | rfl | (simp [*, errW_none, errW_some] <;> rfl), by repeat (with_reducible first | exact HB.out | apply below_alloc | apply pw_below_drewN | apply below_drew1 | refine below_set ?_ GE224.out | refine below_set ?_ GE225.out)⟩
   ·replace c17 := Bool.eq_false_iff.mpr c17
    subst c17
    have H1 : (if (wrap64 ((wrap64 (a0_1 * 8)) + a0_0)) < (wrap64 ((wrap64 (a1_1 * 8)) + a1_0)) then (some true) else (if (wrap64 ((wrap64 (a0_1 * 8)) + a0_0)) = (wrap64 ((wrap64 (a1_1 * 8)) + a1_0)) then (if a0_2 = true then (some false) else (some a1_2)) else (some false))) = some r := by rw [if_neg (show ¬ (false = true) by decide)] at H; exact H
    clear H
    have H := H1
    clear H1
    by_cases c18 : (wrap64 ((wrap64 (a0_1 * 8)) + a0_0)) < (wrap64 ((wrap64 (a1_1 * 8)) + a1_0))
    ·rw [if_pos c18] at H
     have c18b0 : decide ((wrap64 ((wrap64 (a0_1 * 8)) + a0_0)) < (wrap64 ((wrap64 (a1_1 * 8)) + a1_0))) = true := decide_eq_true c18
     clear c18
     obtain rfl := Option.some.inj H
     have hnb19 := NB224_225.out
     have hnc19 := NB225_224.out
     have hcz20_0 : wc.cell? ⟨gb224, 0, none⟩ = some (.int .i64 a0_0) := (blk_cell BK224.out 0).trans rfl
     have hcz20_1 : wc.cell? ⟨gb224, 1, none⟩ = some (.int .i64 a0_1) := (blk_cell BK224.out 1).trans rfl
     have hcz20_2 : wc.cell? ⟨gb224, 2, none⟩ = some (.bool a0_2) := (blk_cell BK224.out 2).trans rfl
     have hfz20_0 := blk_frozen BK224.out 0
     have hfz20_1 := blk_frozen BK224.out 1
     have hfz20_2 := blk_frozen BK224.out 2
     have hcz21_0 : wc.cell? ⟨gb225, 0, none⟩ = some (.int .i64 a1_0) := (blk_cell BK225.out 0).trans rfl
     have hcz21_1 : wc.cell? ⟨gb225, 1, none⟩ = some (.int .i64 a1_1) := (blk_cell BK225.out 1).trans rfl
     have hcz21_2 : wc.cell? ⟨gb225, 2, none⟩ = some (.bool a1_2) := (blk_cell BK225.out 2).trans rfl
     have hfz21_0 := blk_frozen BK225.out 0
     have hfz21_1 := blk_frozen BK225.out 1
     have hfz21_2 := blk_frozen BK225.out 2
     go_wp2
     go_ret
     exact ⟨by first | rfl | (simp [*, errW_none, errW_some] <;> rfl), by repeat (with_reducible first | exact HB.out | apply below_alloc | apply pw_below_drewN | apply below_drew1 | refine below_set ?_ GE224.out | refine below_set ?_ GE225.out)⟩
    ·rw [if_neg c18] at H
     have c18b0 : decide ((wrap64 ((wrap64 (a0_1 * 8)) + a0_0)) < (wrap64 ((wrap64 (a1_1 * 8)) + a1_0))) = false := decide_eq_false c18
     clear c18
     by_cases c22 : (wrap64 ((wrap64 (a0_1 * 8)) + a0_0)) = (wrap64 ((wrap64 (a1_1 * 8)) + a1_0))
     ·rw [if_pos c22] at H
      have c22b0 : ((wrap64 ((wrap64 (a0_1 * 8)) + a0_0)) == (wrap64 ((wrap64 (a1_1 * 8)) + a1_0))) = true := beq_iff_eq.mpr c22
      have c22b1 : ((wrap64 ((wrap64 (a0_1 * 8)) + a0_0)) != (wrap64 ((wrap64 (a1_1 * 8)) + a1_0))) = false := bne_eq_false_iff_eq.mpr c22
      clear c22
      by_cases c23 : a0_2 = true
      ·subst c23
       have H1 : (some false) = some r := by rw [if_pos rfl] at H; exact H
       clear H
       have H := H1
       clear H1
       obtain rfl := Option.some.inj H
       have hnb24 := NB224_225.out
       have hnc24 := NB225_224.out
       have hcz25_0 : wc.cell? ⟨gb224, 0, none⟩ = some (.int .i64 a0_0) := (blk_cell BK224.out 0).trans rfl
       have hcz25_1 : wc.cell? ⟨gb224, 1, none⟩ = some (.int .i64 a0_1) := (blk_cell BK224.out 1).trans rfl
       have hcz25_2 : wc.cell? ⟨gb224, 2, none⟩ = some (.bool true) := (blk_cell BK224.out 2).trans rfl
       have hfz25_0 := blk_frozen BK224.out 0
       have hfz25_1 := blk_frozen BK224.out 1
       have hfz25_2 := blk_frozen BK224.out 2
       have hcz26_0 : wc.cell? ⟨gb225, 0, none⟩ = some (.int .i64 a1_0) := (blk_cell BK225.out 0).trans rfl
       have hcz26_1 : wc.cell? ⟨gb225, 1, none⟩ = some (.int .i64 a1_1) := (blk_cell BK225.out 1).trans rfl
       have hcz26_2 : wc.cell? ⟨gb225, 2, none⟩ = some (.bool a1_2) := (blk_cell BK225.out 2).trans rfl
       have hfz26_0 := blk_frozen BK225.out 0
       have hfz26_1 := blk_frozen BK225.out 1
       have hfz26_2 := blk_frozen BK225.out 2
       go_wp2
       go_ret
       exact ⟨by first | rfl | (simp [*, errW_none, errW_some] <;> rfl), by repeat (with_reducible first | exact HB.out | apply below_alloc | apply pw_below_drewN | apply below_drew1 | refine below_set ?_ GE224.out | refine below_set ?_ GE225.out)⟩
      ·replace c23 := Bool.eq_false_iff.mpr c23
       subst c23
       have H1 : (some a1_2) = some r := by rw [if_neg (show ¬ (false = true) by decide)] at H; exact H
       clear H
       have H := H1
       clear H1
       obtain rfl := Option.some.inj H
       have hnb27 := NB224_225.out
       have hnc27 := NB225_224.out
       have hcz28_0 : wc.cell? ⟨gb224, 0, none⟩ = some (.int .i64 a0_0) := (blk_cell BK224.out 0).trans rfl
       have hcz28_1 : wc.cell? ⟨gb224, 1, none⟩ = some (.int .i64 a0_1) := (blk_cell BK224.out 1).trans rfl
       have hcz28_2 : wc.cell? ⟨gb224, 2, none⟩ = some (.bool false) := (blk_cell BK224.out 2).trans rfl
       have hfz28_0 := blk_frozen BK224.out 0
       have hfz28_1 := blk_frozen BK224.out 1
       have hfz28_2 := blk_frozen BK224.out 2
       have hcz29_0 : wc.cell? ⟨gb225, 0, none⟩ = some (.int .i64 a1_0) := (blk_cell BK225.out 0).trans rfl
       have hcz29_1 : wc.cell? ⟨gb225, 1, none⟩ = some (.int .i64 a1_1) := (blk_cell BK225.out 1).trans rfl
       have hcz29_2 : wc.cell? ⟨gb225, 2, none⟩ = some (.bool a1_2) := (blk_cell BK225.out 2).trans rfl
       have hfz29_0 := blk_frozen BK225.out 0
       have hfz29_1 := blk_frozen BK225.out 1
       have hfz29_2 := blk_frozen BK225.out 2
       go_wp2
       go_ret
       exact ⟨by first | rfl | (simp [*, errW_none, errW_some] <;> rfl), by repeat (with_reducible first | exact HB.out | apply below_alloc | apply pw_below_drewN | apply below_drew1 | refine below_set ?_ GE224.out | refine below_set ?_ GE225.out)⟩
     ·rw [if_neg c22] at H
      have c22b0 : ((wrap64 ((wrap64 (a0_1 * 8)) + a0_0)) == (wrap64 ((wrap64 (a1_1 * 8)) + a1_0))) = false := beq_eq_false_iff_ne.mpr c22
      have c22b1 : ((wrap64 ((wrap64 (a0_1 * 8)) + a0_0)) != (wrap64 ((wrap64 (a1_1 * 8)) + a1_0))) = true := bne_iff_ne.mpr c22
      obtain rfl := Option.some.inj H
      have hnb30 := NB224_225.out
      have hnc30 := NB225_224.out
      have hcz31_0 : wc.cell? ⟨gb224, 0, none⟩ = some (.int .i64 a0_0) := (blk_cell BK224.out 0).trans rfl
      have hcz31_1 : wc.cell? ⟨gb224, 1, none⟩ = some (.int .i64 a0_1) := (blk_cell BK224.out 1).trans rfl
      have hcz31_2 : wc.cell? ⟨gb224, 2, none⟩ = some (.bool a0_2) := (blk_cell BK224.out 2).trans rfl
      have hfz31_0 := blk_frozen BK224.out 0
      have hfz31_1 := blk_frozen BK224.out 1
      have hfz31_2 := blk_frozen BK224.out 2
      have hcz32_0 : wc.cell? ⟨gb225, 0, none⟩ = some (.int .i64 a1_0) := (blk_cell BK225.out 0).trans rfl
      have hcz32_1 : wc.cell? ⟨gb225, 1, none⟩ = some (.int .i64 a1_1) := (blk_cell BK225.out 1).trans rfl
      have hcz32_2 : wc.cell? ⟨gb225, 2, none⟩ = some (.bool a1_2) := (blk_cell BK225.out 2).trans rfl
      have hfz32_0 := blk_frozen BK225.out 0
      have hfz32_1 := blk_frozen BK225.out 1
      have hfz32_2 := blk_frozen BK225.out 2
      go_wp2
      go_ret
      exact ⟨by first | rfl | (simp [*, errW_none, errW_some] <;> rfl), by repeat (with_reducible first | exact HB.out | apply below_alloc | apply pw_below_drewN | apply below_drew1 | refine below_set ?_ GE224.out | refine below_set ?_ GE225.out)⟩
end Go.Proofs.Ytnfnlmilmpaofaa.PFnExactTilingOfTree
namespace Go.Proofs.Ytnfnlmilmpaofaa.PFnExactTilingOfTree
open Go.RowKit Go.Proofs.YtnfnlmilmpaofaaW.PrintWords Go.Proofs.YtnfnlmilmpaofaaW.PrintLast Go.Proofs.YtnfnlmilmpaofaaW.PrintMore
attribute [local go_sem] max2_int min2_int max_two min_two max_three min_three max_four min_four   -- for this text's walks alone
set_option linter.unusedVariables false
set_option linter.unusedSimpArgs false
attribute [local go_sem high] eqA41
mutual
def spec_SortDominoes.l0 : Nat → List (S41) → List (S41) → Int → Option ((List (S41)))
 | 0, _, _, _ => none
 | k + 1, x0, x3, x4 => if x4 < (x0.length : Int) then (if 0 ≤ x4 then ((spec_DominoOk.f ((rd_T41 x0 x4).f0) ((rd_T41 x0 x4).f1) ((rd_T41 x0 x4).f2)).bind fun t232 => (if t232 = true then (spec_SortDominoes.l1 k x0 x3 x4 0) else (spec_SortDominoes.l0 k x0 x3 (wrap64 (x4 + 1))))) else (none)) else (some x3)
def spec_SortDominoes.l1 : Nat → List (S41) → List (S41) → Int → Int → Option ((List (S41)))
 | 0, _, _, _, _ => none
 | k + 1, x0, x3, x4, x5 => if x5 < (x3.length : Int) then (if 0 ≤ x5 then (if 0 ≤ x4 then (if x4 < (x0.length : Int) then ((spec_IsDominoBefore.f k ((rd_T41 x3 x5).f0) ((rd_T41 x3 x5).f1) ((rd_T41 x3 x5).f2) ((rd_T41 x0 x4).f0) ((rd_T41 x0 x4).f1) ((rd_T41 x0 x4).f2)).bind fun t235 => (spec_SortDominoes.j2 k x0 x3 x4 x5 t235)) else (none)) else (none)) else (none)) else (spec_SortDominoes.j2 k x0 x3 x4 x5 false)
def spec_SortDominoes.j2 : Nat → List (S41) → List (S41) → Int → Int → Bool → Option ((List (S41)))
 | 0, _, _, _, _, _ => none
 | k + 1, x0, x3, x4, x5, x34 => if x34 = true then (spec_SortDominoes.l1 k x0 x3 x4 (wrap64 (x5 + 1))) else (if x5 < (x3.length : Int) then (if 0 ≤ x5 then (if 0 ≤ x4 then (if x4 < (x0.length : Int) then (spec_SortDominoes.j3 k x0 x3 x4 x5 (((rd_T41 x3 x5).f0) == ((rd_T41 x0 x4).f0) && (((rd_T41 x3 x5).f1) == ((rd_T41 x0 x4).f1) && (((rd_T41 x3 x5).f2) == ((rd_T41 x0 x4).f2))))) else (none)) else (none)) else (none)) else (spec_SortDominoes.j3 k x0 x3 x4 x5 false))
def spec_SortDominoes.j3 : Nat → List (S41) → List (S41) → Int → Int → Bool → Option ((List (S41)))
 | 0, _, _, _, _, _ => none
 | k + 1, x0, x3, x4, x5, x51 => if x51 = true then (spec_SortDominoes.l0 k x0 x3 (wrap64 (x4 + 1))) else ((some (([] : List (S41)) : List (S41))).bind fun y238 => (if 0 ≤ x5 then (if x5 ≤ (x3.length : Int) then ((some (x3.take (x5 : Int).toNat : List (S41))).bind fun y241 => (if y238.length + y241.length < 5864062014805 then ((some (y238 ++ y241 : List (S41))).bind fun y245 => (if 0 ≤ x4 then (if x4 < (x0.length : Int) then (if y245.length < 5864062014805 then ((some (y245 ++ [(⟨(rd_T41 x0 x4).f0, (rd_T41 x0 x4).f1, (rd_T41 x0 x4).f2⟩ : S41)] : List (S41))).bind fun y249 => ((some (x3.drop (x5 : Int).toNat : List (S41))).bind fun y252 => (if y249.length + y252.length < 5864062014805 then (spec_SortDominoes.l0 k x0 (y249 ++ y252) (wrap64 (x4 + 1))) else (none)))) else (none)) else (none)) else (none))) else (none))) else (none)) else (none)))
end
def spec_SortDominoes.f (k : Nat) (l0 : List (S41)) : Option ((List (S41))) := spec_SortDominoes.l0 k l0 (([] : List (S41))) 0
theorem spec_SortDominoes.mono_l : ∀ k, (∀ y0 y1 y2, LeO (spec_SortDominoes.l0 k y0 y1 y2) (spec_SortDominoes.l0 (k + 1) y0 y1 y2)) ∧ (∀ y0 y1 y2 y3, LeO (spec_SortDominoes.l1 k y0 y1 y2 y3) (spec_SortDominoes.l1 (k + 1) y0 y1 y2 y3)) ∧ (∀ y0 y1 y2 y3 y4, LeO (spec_SortDominoes.j2 k y0 y1 y2 y3 y4) (spec_SortDominoes.j2 (k + 1) y0 y1 y2 y3 y4)) ∧ (∀ y0 y1 y2 y3 y4, LeO (spec_SortDominoes.j3 k y0 y1 y2 y3 y4) (spec_SortDominoes.j3 (k + 1) y0 y1 y2 y3 y4))
 | 0 => ⟨fun _ _ _ r h => by simp [spec_SortDominoes.l0] at h, fun _ _ _ _ r h => by simp [spec_SortDominoes.l1] at h, fun _ _ _ _ _ r h => by simp [spec_SortDominoes.j2] at h, fun _ _ _ _ _ r h => by simp [spec_SortDominoes.j3] at h⟩
 | k + 1 => by
  obtain ⟨ih0, ih1, ih2, ih3⟩ := spec_SortDominoes.mono_l k
  refine ⟨?_, ?_, ?_, ?_⟩
  ·intro y0 y1 y2
   unfold spec_SortDominoes.l0
   repeat' with_reducible first
   | exact ih0 _ _ _
   | exact ih1 _ _ _ _
   | exact ih2 _ _ _ _ _
   | exact ih3 _ _ _ _ _
   | exact spec_IsDominoBefore.mono _ _ _ _ _ _ _
   | exact LeO.refl _
   | exact LeO.none _
   | refine LeO.ite ?_ ?_
   | refine LeO.bind ?_ (fun _ => ?_)
  ·intro y0 y1 y2 y3
   unfold spec_SortDominoes.l1
   repeat' with_reducible first
   | exact ih0 _ _ _
   | exact ih1 _ _ _ _
   | exact ih2 _ _ _ _ _
   | exact ih3 _ _ _ _ _
   | exact spec_IsDominoBefore.mono _ _ _ _ _ _ _
   | exact LeO.refl _
   | exact LeO.none _
   | refine LeO.ite ?_ ?_
   | refine LeO.bind ?_ (fun _ => ?_)
  ·intro y0 y1 y2 y3 y4
   unfold spec_SortDominoes.j2
   repeat' with_reducible first
   | exact ih0 _ _ _
   | exact ih1 _ _ _ _
   | exact ih2 _ _ _ _ _
   | exact ih3 _ _ _ _ _
   | exact spec_IsDominoBefore.mono _ _ _ _ _ _ _
   | exact LeO.refl _
   | exact LeO.none _
   | refine LeO.ite ?_ ?_
   | refine LeO.bind ?_ (fun _ => ?_)
  ·intro y0 y1 y2 y3 y4
   unfold spec_SortDominoes.j3
   repeat' with_reducible first
   | exact ih0 _ _ _
   | exact ih1 _ _ _ _
   | exact ih2 _ _ _ _ _
   | exact ih3 _ _ _ _ _
   | exact spec_IsDominoBefore.mono _ _ _ _ _ _ _
   | exact LeO.refl _
   | exact LeO.none _
   | refine LeO.ite ?_ ?_
   | refine LeO.bind ?_ (fun _ => ?_)
theorem spec_SortDominoes.mono : ∀ a0 k, LeO (spec_SortDominoes.f k a0) (spec_SortDominoes.f (k + 1) a0) := by
 intro a0 k
 obtain ⟨ih0, ih1, ih2, ih3⟩ := spec_SortDominoes.mono_l k
 unfold spec_SortDominoes.f
 repeat' first
   | (with_reducible exact ih0 _ _ _)
   | (with_reducible exact ih1 _ _ _ _)
   | (with_reducible exact ih2 _ _ _ _ _)
   | (with_reducible exact ih3 _ _ _ _ _)
   | (with_reducible exact spec_IsDominoBefore.mono _ _ _ _ _ _ _)
   | (with_reducible exact LeO.refl _)
   | (with_reducible exact LeO.none _)
   | (with_reducible refine LeO.ite ?_ ?_)
   | (with_reducible refine LeO.bind ?_ (fun _ => ?_))
   | exact ih0 _ _ _
   | exact ih1 _ _ _ _
   | exact ih2 _ _ _ _ _
   | exact ih3 _ _ _ _ _
   | exact spec_IsDominoBefore.mono _ _ _ _ _ _ _
   | exact LeO.none _
   | refine LeO.ite ?_ ?_
   | refine LeO.bind ?_ (fun _ => ?_)
def spec_SortDominoes.T7 : Bool × List (List Nat × List Nat) := (true, [([], []), ([], []), ([1], [1]), ([0, 2], [0, 2]), ([3], [3]), ([4], [4]), ([4], [4]), ([5, 6, 4], [4, 5, 6]), ([7, 4], [4, 7]), ([4], [4]), ([4], [4]), ([9, 10, 4], [4, 9, 10]), ([11, 4], [4, 11]), ([8, 12, 4, 4], [4, 8, 12]), ([4, 13], [4, 13])])
def spec_SortDominoes.B7 : List Nat := [0, 0, 2, 7, 15, 31, 31, 127, 255, 31, 31, 1567, 3615, 8191, 16383]
theorem spec_SortDominoes.tab7 : rtab .any (opsOf Try.f19 7) = spec_SortDominoes.T7 := by kernel_rfl
theorem spec_SortDominoes.bits7 : waitsOk spec_SortDominoes.T7.2 spec_SortDominoes.B7 = true := by kernel_rfl
def spec_SortDominoes.T9 : Bool × List (List Nat × List Nat) := (true, [([], []), ([], []), ([1], [1]), ([0, 2], [0, 2]), ([3], [3]), ([4], [4]), ([4], [4]), ([5, 6, 4], [4, 5, 6]), ([7, 4], [4, 7]), ([4], [4]), ([4], [4]), ([9, 10, 4], [4, 9, 10]), ([11, 4], [4, 11]), ([8, 12, 4], [4, 8, 12]), ([4, 13], [4, 13])])
def spec_SortDominoes.B9 : List Nat := [0, 0, 2, 7, 15, 31, 31, 127, 255, 31, 31, 1567, 3615, 8191, 16383]
theorem spec_SortDominoes.tab9 : rtab .any (opsOf Try.f19 9) = spec_SortDominoes.T9 := by kernel_rfl
theorem spec_SortDominoes.bits9 : waitsOk spec_SortDominoes.T9.2 spec_SortDominoes.B9 = true := by kernel_rfl
set_option maxHeartbeats 8000000 in
set_option maxRecDepth 100000 in
theorem spec_SortDominoes.calls (k : Nat) (A0 : Option Addr) (c0 : Nat) (l0 : List (S41)) (r : List (S41)) (w : World) (hr0 : Kd.C k41 w A0 l0.length l0) (hc0 : l0.length ≤ c0) (h : spec_SortDominoes.f k l0 = some r) :
  Calls Try.prog 19 #[.slice A0 l0.length c0] w fun e w' => ∃ v0_ : Value, e = .returned (v0_) ∧ Kd.R k41 41 w' w.heap.size (fun _ => True) v0_ r ∧ Below w.heap.size w w' := by
 have hu41 := Try.underlying41
 have HR0 := Aside0.mk hr0
 have HC0 := Aside0.mk hc0
 clear hr0 hc0
 have HB := Aside0.mk (Below.refl w.heap.size w)
 have H : (spec_SortDominoes.l0 k l0 (([] : List (S41))) 0) = some r := h
 clear h
 obtain ⟨y228, hy228⟩ : ∃ y_ : List (S41), y_ = (([] : List (S41))) := ⟨_, rfl⟩
 replace H : (spec_SortDominoes.l0 k l0 y228 0) = some r := by first | (rw [hy228]; with_reducible exact H) | (have H2_ := (Option.bind_some _ _).symm.trans H; rw [hy228]; with_reducible exact H2_) | (have H2_ := (Option.bind_some _ _).symm.trans H; with_reducible exact H2_) | with_reducible exact H | (rw [hy228]; exact H) | exact H
 have Ny228 := Aside0.mk hy228
 clear hy228
 have H' := Aside0.mk H
 clear H
 go_enter Try.func19, Try.ntmps19
 go_wp2_with (first | ((with_reducible refine gate_dst (N := 7) rfl ?_); refine Kd.R_lit k41 _ 41 ?hg (N := 7) ?hd (xs := ([] : List (S41))) (inner := []) (ok := fun _ => True) (okp := fun _ => True) ?hr ?hp (fun _ hk => hk) trivial (Below.refl _ _) (Nat.le_refl _) (by simp) ?_; (case hd => rfl); (case hg => rfl); (case hr => first | (go_simp; done) | (go_simp; rfl)); (case hp => exact (Reps.none _ _)); intro v229 w2 ho3 hb hg_ hnew_; clear hg_ hnew_; (first | rw [← Ny228.out] at ho3 | (simp only [Int.reduceToNat] at ho3; rw [← Ny228.out] at ho3)); have n0_ := Aside0.mk (Kd.R_lower ho3 (below_size (bX HB.out))); have n1_ := Aside0.mk (below_step (bX HB.out) hb); clear HB; have HO230 := n0_; have HB := n1_; clear n0_ n1_; clear hb ho3))
 go_loopg [3, 4] k (fun kq v3 v4 w' => ∃ (x3_1 : List (S41)) (x4_1 : Int), v4 = .int .i64 x4_1 ∧ Aside0 (spec_SortDominoes.l0 kq l0 x3_1 x4_1 = some r) ∧ Aside0 (kq ≤ k) ∧ Aside0 (Kd.R k41 41 w' w.heap.size (fun _ => True) v3 x3_1) ∧ Aside0 (Below w.heap.size w w'))
 case atStart => exact ⟨(y228), (0), (by first | rfl | (simp; done) | (simp [*]; done)), H', ⟨Nat.le_refl _⟩, ⟨rX HO230.out⟩, ⟨bX HB.out⟩⟩
 case round =>
  clear H'
  try clear c1
  try clear p2
  obtain ⟨x3_1, x4_1, rfl, HA, HK1, HO_3, HB⟩ := hrel
  cases gk with
  | zero => exact absurd HA.out (by simp [spec_SortDominoes.l0])
  | succ k1 =>
   have H := HA.out
   clear HA
   simp only [spec_SortDominoes.l0] at H
   by_cases c4 : x4_1 < (l0.length : Int)
   ·rw [if_pos c4] at H
    have c4b0 : decide (x4_1 < (l0.length : Int)) = true := decide_eq_true c4
    clear c4
    by_cases c5 : 0 ≤ x4_1
    ·rw [if_pos c5] at H
     have c5b0 : decide (0 ≤ x4_1) = true := decide_eq_true c5
     clear c5
     replace H := Option.bind_eq_some_iff.mp H
     obtain ⟨t232, A60, H⟩ := H
     replace H : (if t232 = true then (spec_SortDominoes.l1 k1 l0 x3_1 x4_1 0) else (spec_SortDominoes.l0 k1 l0 x3_1 (wrap64 (x4_1 + 1)))) = some r := H
     have A6 := Aside0.mk A60
     clear A60
     by_cases c7 : t232 = true
     ·subst c7
      have H1 : (spec_SortDominoes.l1 k1 l0 x3_1 x4_1 0) = some r := by rw [if_pos rfl] at H; exact H
      clear H
      have H := H1
      clear H1
      have H' := Aside0.mk H
      clear H
      have p231 : 0 ≤ (x4_1 : Int) := of_decide_eq_true (by assumption)
      have q231 : x4_1 < (l0.length : Int) := of_decide_eq_true (by assumption)
      obtain ⟨ad231, e231, hx231_0, hx231_1, hx231_2⟩ := at_T41 HR0.out x4_1 p231 q231
      cases e231
      replace hx231_0 := (HB.out.cell (World.block_lt_of_cell? w _ hx231_0)).trans hx231_0
      replace hx231_1 := (HB.out.cell (World.block_lt_of_cell? w _ hx231_1)).trans hx231_1
      replace hx231_2 := (HB.out.cell (World.block_lt_of_cell? w _ hx231_2)).trans hx231_2
      replace p231 := eq_true p231
      replace q231 := eq_true q231
      go_wp2_with (first | ((with_reducible refine gate_callee (f := 68) rfl ?_); refine goesL_ (some 18) rfl rfl Try.func68 (by kernel_rfl) rfl #[.agg #[.int .i64 ((rd_T41 l0 x4_1).f0), .int .i64 ((rd_T41 l0 x4_1).f1), .bool ((rd_T41 l0 x4_1).f2)]] rfl (by (try simp only [sD, sE, sF]); first | done | rfl) ?_; (with_reducible refine (spec_DominoOk.calls ((rd_T41 l0 x4_1).f0) ((rd_T41 l0 x4_1).f1) ((rd_T41 l0 x4_1).f2) true _ A6.out).mono ?_); rintro e w8 ⟨rfl, hb⟩; refine ⟨_, rfl, ?_⟩; have n0_ := Aside0.mk (Kd.R_below (rX HO_3.out) hb); have n1_ := Aside0.mk (below_step (bX HB.out) hb); clear HO_3; clear HB; have HO_3 := n0_; have HB := n1_; clear n0_ n1_; (try clear hb); (try clear hb2); (try clear hk); (try clear hi)))
      go_loopg [5] k1 (fun kq v5 w' => ∃ (x5_2 : Int), v5 = .int .i64 x5_2 ∧ Aside0 (spec_SortDominoes.l1 kq l0 x3_1 x4_1 x5_2 = some r) ∧ Aside0 (kq ≤ k1) ∧ Aside0 (Kd.R k41 41 w' w.heap.size (fun _ => True) u3 x3_1) ∧ Aside0 (Below w.heap.size w w'))
      case atStart => exact ⟨(0), (by first | rfl | (simp; done) | (simp [*]; done)), H', ⟨Nat.le_refl _⟩, ⟨rX HO_3.out⟩, ⟨bX HB.out⟩⟩
      case round =>
       clear H'
       try clear c1
       try clear p2
       try clear q2
       try clear hx2
       try clear c4
       try clear c4b0
       try clear c5
       try clear c5b0
       try clear c6
       try clear p6
       try clear c7
       try clear hx231_0
       try clear hx231_1
       try clear hx231_2
       try clear p2
       try clear p231
       try clear q231
       obtain ⟨x5_2, rfl, HA, HK2, HO_3, HB⟩ := hrel
       cases gk with
       | zero => exact absurd HA.out (by simp [spec_SortDominoes.l1])
       | succ k2 =>
        have H := HA.out
        clear HA
        simp only [spec_SortDominoes.l1] at H
        have HC9 := Aside0.mk H
        clear H
        go_upto_region 7 with (fail)
        go_cut [34] (fun v34 wc => ∃ (kq : Nat) (x34_8 : Bool), v34 = .bool x34_8 ∧ Aside0 (spec_SortDominoes.j2 kq l0 x3_1 x4_1 x5_2 x34_8 = some r) ∧ Aside0 (kq ≤ k2) ∧ Aside0 (Kd.R k41 41 wc w.heap.size (fun _ => True) u3 x3_1) ∧ Aside0 (Below w.heap.size w wc))
        case first =>
         have H := HC9.out
         clear HC9
         by_cases c10 : x5_2 < (x3_1.length : Int)
         ·rw [if_pos c10] at H
          have c10b0 : decide (x5_2 < (x3_1.length : Int)) = true := decide_eq_true c10
          clear c10
          (first | rw [c10b0] | (simp only [i64_w, i32_w]; rw [c10b0]) | skip)
          by_cases c11 : 0 ≤ x5_2
          ·rw [if_pos c11] at H
           have c11b0 : decide (0 ≤ x5_2) = true := decide_eq_true c11
           clear c11
           by_cases c12 : 0 ≤ x4_1
           ·rw [if_pos c12] at H
            have c12b0 : decide (0 ≤ x4_1) = true := decide_eq_true c12
            clear c12
            by_cases c13 : x4_1 < (l0.length : Int)
            ·rw [if_pos c13] at H
             have c13b0 : decide (x4_1 < (l0.length : Int)) = true := decide_eq_true c13
             clear c13
             replace H := Option.bind_eq_some_iff.mp H
             obtain ⟨t235, A140, H⟩ := H
             replace H : (spec_SortDominoes.j2 k2 l0 x3_1 x4_1 x5_2 t235) = some r := H
             have A14 := Aside0.mk A140
             clear A140
             have H' := Aside0.mk H
             clear H
             try go_wp2
             have n0_ := Aside0.mk (Kd.R_drew HO_3.out)
             have n1_ := Aside0.mk (below_drew1 HB.out)
             clear HO_3
             clear HB
             have HO_3 := n0_
             have HB := n1_
             clear n0_ n1_
             obtain ⟨Ao16, co16, eo16⟩ := Kd.R_slice HO_3.out
             (first | subst eo16 | (injection eo16 with f1_ f2_ f3_; have f4_ := f1_.symm; have f5_ := f3_.symm; clear f1_ f2_ f3_; subst f4_; subst f5_))
             have p233 : 0 ≤ (x5_2 : Int) := of_decide_eq_true (by assumption)
             have q233 : x5_2 < (x3_1.length : Int) := of_decide_eq_true (by assumption)
             obtain ⟨ad233, e233, hx233_0, hx233_1, hx233_2⟩ := at_T41 (Kd.R_reads' HO_3.out).2.2 x5_2 p233 q233
             cases e233
             replace p233 := eq_true p233
             replace q233 := eq_true q233
             have p234 : 0 ≤ (x4_1 : Int) := of_decide_eq_true (by assumption)
             have q234 : x4_1 < (l0.length : Int) := of_decide_eq_true (by assumption)
             obtain ⟨ad234, e234, hx234_0, hx234_1, hx234_2⟩ := at_T41 HR0.out x4_1 p234 q234
             have hw234_2 := hx234_2
             have hw234_1 := hx234_1
             have hw234_0 := hx234_0
             obtain rfl : ad231 = ad234 := (by injection e234)
             replace hx234_0 := (HB.out.cell (World.block_lt_of_cell? w _ hx234_0)).trans hx234_0
             replace hx234_1 := (HB.out.cell (World.block_lt_of_cell? w _ hx234_1)).trans hx234_1
             replace hx234_2 := (HB.out.cell (World.block_lt_of_cell? w _ hx234_2)).trans hx234_2
             replace p234 := eq_true p234
             replace q234 := eq_true q234
             refine start_ (n := 15) (S := fun w' => w'.cell? (ad233.add ((x5_2).toNat * 3)) = some (.int .i64 ((rd_T41 x3_1 x5_2).f0)) ∧ w'.cell? ⟨(ad233.add ((x5_2).toNat * 3)).block, (ad233.add ((x5_2).toNat * 3)).off + 1, none⟩ = some (.int .i64 ((rd_T41 x3_1 x5_2).f1)) ∧ w'.cell? ⟨(ad233.add ((x5_2).toNat * 3)).block, (ad233.add ((x5_2).toNat * 3)).off + 2, none⟩ = some (.bool ((rd_T41 x3_1 x5_2).f2)) ∧ w'.cell? (ad231.add ((x4_1).toNat * 3)) = some (.int .i64 ((rd_T41 l0 x4_1).f0)) ∧ w'.cell? ⟨(ad231.add ((x4_1).toNat * 3)).block, (ad231.add ((x4_1).toNat * 3)).off + 1, none⟩ = some (.int .i64 ((rd_T41 l0 x4_1).f1)) ∧ w'.cell? ⟨(ad231.add ((x4_1).toNat * 3)).block, (ad231.add ((x4_1).toNat * 3)).off + 2, none⟩ = some (.bool ((rd_T41 l0 x4_1).f2))) (ds := []) #[false, false, false, false, false, false, false, false, false, false, false, false, false, false, false] (by kernel_rfl) rfl rfl ⟨hx233_0, hx233_1, hx233_2, ((HB.out.cell (World.block_lt_of_cell? w _ hw234_0)).trans hw234_0), ((HB.out.cell (World.block_lt_of_cell? w _ hw234_1)).trans hw234_1), ((HB.out.cell (World.block_lt_of_cell? w _ hw234_2)).trans hw234_2)⟩ (fun hHeld => ?_); refine with_tabW spec_SortDominoes.tab7 spec_SortDominoes.bits7 (fun HT_ HW_ => ?_)
             generalize wr.drew = w15 at HO_3 HB hx233_0 hx233_1 hx233_2 hx234_0 hx234_1 hx234_2 hHeld ⊢
             refine pure_ (i := 0) (N := some 20) (v := ?_) (a' := ?_) #[true, false, false, false, false, false, false, false, false, false, false, false, false, false, false] rfl rfl (any_of HT_.out (by kernel_rfl)) (fun _ _ _ h => h) (Or.inl ⟨by rfl, ?_⟩) ?_ ?_
             rotate_left
             ·intro w'
              go_simp
              with_reducible rfl
             rotate_left
             ·simp only [Act.put, sA, sB, sC, i64_w, i32_w]
              rfl
             refine pure_ (i := 1) (N := some 21) (v := ?_) (a' := ?_) #[true, true, false, false, false, false, false, false, false, false, false, false, false, false, false] rfl rfl (any_of HT_.out (by kernel_rfl)) (fun _ _ _ h => h) (Or.inl ⟨by rfl, ?_⟩) ?_ ?_
             rotate_left
             ·intro w'
              go_simp
              with_reducible rfl
             rotate_left
             ·simp only [Act.put, sA, sB, sC, i64_w, i32_w]
              rfl
             refine pure_ (i := 2) (N := some 22) (v := ?_) (a' := ?_) #[true, true, true, false, false, false, false, false, false, false, false, false, false, false, false] rfl rfl (any_of HT_.out (by kernel_rfl)) (fun _ _ _ h => h) (Or.inl ⟨by rfl, ?_⟩) ?_ ?_
             rotate_left
             ·intro w'
              go_simp
              with_reducible rfl
             rotate_left
             ·simp only [Act.put, sA, sB, sC, i64_w, i32_w]
              rfl
             refine pure_ (i := 3) (N := some 23) (v := ?_) (a' := ?_) #[true, true, true, true, false, false, false, false, false, false, false, false, false, false, false] rfl rfl (any_of HT_.out (by kernel_rfl)) (fun _ _ _ h => h) (Or.inl ⟨by rfl, ?_⟩) ?_ ?_
             rotate_left
             ·intro w'
              go_simp
              with_reducible rfl
             rotate_left
             ·simp only [Act.put, sA, sB, sC, i64_w, i32_w]
              rfl
             refine pure_ (i := 4) (N := some 24) (v := ?_) (a' := ?_) #[true, true, true, true, true, false, false, false, false, false, false, false, false, false, false] rfl rfl (any_of HT_.out (by kernel_rfl)) (fun _ _ _ h => h) (Or.inl ⟨by rfl, ?_⟩) ?_ ?_
             rotate_left
             ·intro w'
              go_simp
              with_reducible rfl
             rotate_left
             ·simp only [Act.put, sA, sB, sC, i64_w, i32_w]
              rfl
             refine pure_ (i := 5) (N := some 25) (v := ?_) (a' := ?_) #[true, true, true, true, true, true, false, false, false, false, false, false, false, false, false] rfl rfl (any_of HT_.out (by kernel_rfl)) (fun _ _ _ h => h) (Or.inl ⟨by rfl, ?_⟩) ?_ ?_
             rotate_left
             ·intro w'
              go_simp
              with_reducible rfl
             rotate_left
             ·simp only [Act.put, sA, sB, sC, i64_w, i32_w]
              rfl
             refine pure_ (i := 6) (N := some 26) (v := ?_) (a' := ?_) #[true, true, true, true, true, true, true, false, false, false, false, false, false, false, false] rfl rfl (any_of HT_.out (by kernel_rfl)) (fun _ _ _ h => h) (Or.inl ⟨by rfl, ?_⟩) ?_ ?_
             rotate_left
             ·intro w'
              go_simp
              with_reducible rfl
             rotate_left
             ·simp only [Act.put, sA, sB, sC, i64_w, i32_w]
              rfl
             refine pure_ (i := 7) (N := some 27) (v := ?_) (a' := ?_) #[true, true, true, true, true, true, true, true, false, false, false, false, false, false, false] rfl rfl (any_of HT_.out (by kernel_rfl)) (fun _ _ _ h => h) (Or.inl ⟨by rfl, ?_⟩) ?_ ?_
             rotate_left
             ·intro w'
              go_simp
              with_reducible rfl
             rotate_left
             ·simp only [Act.put, sA, sB, sC, i64_w, i32_w]
              rfl
             refine pure_ (i := 9) (N := some 29) (v := ?_) (a' := ?_) #[true, true, true, true, true, true, true, true, false, true, false, false, false, false, false] rfl rfl (any_of HT_.out (by kernel_rfl)) (fun _ _ _ h => h) (Or.inl ⟨by rfl, ?_⟩) ?_ ?_
             rotate_left
             ·intro w'
              go_simp
              with_reducible rfl
             rotate_left
             ·simp only [Act.put, sA, sB, sC, i64_w, i32_w]
              rfl
             refine pure_ (i := 10) (N := some 30) (v := ?_) (a' := ?_) #[true, true, true, true, true, true, true, true, false, true, true, false, false, false, false] rfl rfl (any_of HT_.out (by kernel_rfl)) (fun _ _ _ h => h) (Or.inl ⟨by rfl, ?_⟩) ?_ ?_
             rotate_left
             ·intro w'
              go_simp
              with_reducible rfl
             rotate_left
             ·simp only [Act.put, sA, sB, sC, i64_w, i32_w]
              rfl
             refine pure_ (i := 11) (N := some 31) (v := ?_) (a' := ?_) #[true, true, true, true, true, true, true, true, false, true, true, true, false, false, false] rfl rfl (any_of HT_.out (by kernel_rfl)) (fun _ _ _ h => h) (Or.inl ⟨by rfl, ?_⟩) ?_ ?_
             rotate_left
             ·intro w'
              go_simp
              with_reducible rfl
             rotate_left
             ·simp only [Act.put, sA, sB, sC, i64_w, i32_w]
              rfl
             refine take_ (i := 8) (N := some 28) (v := ?_) (a' := ?_) #[true, true, true, true, true, true, true, true, true, true, true, true, false, false, false] rfl rfl (take_ofW HT_.out HW_.out (by kernel_rfl)) (fun _ _ _ h => h) (Or.inl ⟨by rfl, ?_⟩) hHeld ?_ ?_
             rotate_left
             ·rintro w' ⟨s0, s1, s2, s3, s4, s5⟩
              go_simp
              with_reducible rfl
             rotate_left
             ·simp only [Act.put, sA, sB, sC, i64_w, i32_w]
              rfl
             refine take_ (i := 12) (N := some 32) (v := ?_) (a' := ?_) #[true, true, true, true, true, true, true, true, true, true, true, true, true, false, false] rfl rfl (take_ofW HT_.out HW_.out (by kernel_rfl)) (fun _ _ _ h => h) (Or.inl ⟨by rfl, ?_⟩) hHeld ?_ ?_
             rotate_left
             ·rintro w' ⟨s0, s1, s2, s3, s4, s5⟩
              go_simp
              with_reducible rfl
             rotate_left
             ·simp only [Act.put, sA, sB, sC, i64_w, i32_w]
              rfl
             refine one_ (i := 13) (N := some 33) #[true, true, true, true, true, true, true, true, true, true, true, true, true, true, false] rfl rfl (one_of HT_.out (by kernel_rfl)) (by decide) (fun K hK => ?_)
             refine goes_ Try.func69 (by kernel_rfl) rfl #[.agg #[.int .i64 ((rd_T41 x3_1 x5_2).f0), .int .i64 ((rd_T41 x3_1 x5_2).f1), .bool ((rd_T41 x3_1 x5_2).f2)], .agg #[.int .i64 ((rd_T41 l0 x4_1).f0), .int .i64 ((rd_T41 l0 x4_1).f1), .bool ((rd_T41 l0 x4_1).f2)]] (by rfl) rfl rfl (by (try simp only [sD, sE, sF]); first | done | rfl) ?_
             with_reducible refine (spec_IsDominoBefore.calls k2 ((rd_T41 x3_1 x5_2).f0) ((rd_T41 x3_1 x5_2).f1) ((rd_T41 x3_1 x5_2).f2) ((rd_T41 l0 x4_1).f0) ((rd_T41 l0 x4_1).f1) ((rd_T41 l0 x4_1).f2) t235 _ A14.out).mono ?_
             rintro e w17 ⟨rfl, hb⟩
             have HS0_ := (hb.cell (World.block_lt_of_cell? _ _ (hHeld.1))).trans (hHeld.1)
             have HS1_ := (hb.cell (World.block_lt_of_cell? _ _ (hHeld.2.1))).trans (hHeld.2.1)
             have HS2_ := (hb.cell (World.block_lt_of_cell? _ _ (hHeld.2.2.1))).trans (hHeld.2.2.1)
             refine ⟨_, rfl, ?_⟩
             have n0_ := Aside0.mk (Kd.R_below (rX HO_3.out) hb)
             have n1_ := Aside0.mk (below_step (bX HB.out) hb)
             clear HO_3
             clear HB
             have HO_3 := n0_
             have HB := n1_
             clear n0_ n1_
             (try clear hb)
             (try clear hb2)
             (try clear hk)
             (try clear hi)
             refine hK.out _ _ ⟨HS0_, HS1_, HS2_, ((HB.out.cell (World.block_lt_of_cell? w _ hw234_0)).trans hw234_0), ((HB.out.cell (World.block_lt_of_cell? w _ hw234_1)).trans hw234_1), ((HB.out.cell (World.block_lt_of_cell? w _ hw234_2)).trans hw234_2)⟩ (fun hHeld => ?_)
             clear hK K
             refine norm_ (a' := ?_) ?_ ?_
             rotate_left
             ·show Act.put _ (some 33) _ = _
              simp only [Act.put, sA, sB, sC, i64_w, i32_w]
              rfl
             refine pure_ (i := 14) (N := some 34) (v := ?_) (a' := ?_) #[true, true, true, true, true, true, true, true, true, true, true, true, true, true, true] rfl rfl (any_of HT_.out (by kernel_rfl)) (fun _ _ _ h => h) (Or.inl ⟨by rfl, ?_⟩) ?_ ?_
             rotate_left
             ·intro w'
              go_simp
              with_reducible rfl
             rotate_left
             ·simp only [Act.put, sA, sB, sC, i64_w, i32_w]
              rfl
             refine done_ (done_of HT_.out (by kernel_rfl)) ?_
             try go_wp2
             go_meet
             case rel => exact ⟨_, (t235), (by first | rfl | (simp; done) | (simp [*]; done)), H', ⟨by have := HK1.out; have := HK2.out; first | omega | exact Nat.le_refl _⟩, ⟨rX HO_3.out⟩, ⟨bX HB.out⟩⟩
            ·rw [if_neg c13] at H
             exact absurd H (by simp)
           ·rw [if_neg c12] at H
            exact absurd H (by simp)
          ·rw [if_neg c11] at H
           exact absurd H (by simp)
         ·rw [if_neg c10] at H
          have c10b0 : decide (x5_2 < (x3_1.length : Int)) = false := decide_eq_false c10
          clear c10
          (first | rw [c10b0] | (simp only [i64_w, i32_w]; rw [c10b0]) | skip)
          have H' := Aside0.mk H
          clear H
          try go_wp2
          have n0_ := Aside0.mk (Kd.R_drew HO_3.out)
          have n1_ := Aside0.mk (below_drew1 HB.out)
          clear HO_3
          clear HB
          have HO_3 := n0_
          have HB := n1_
          clear n0_ n1_
          obtain ⟨Ao19, co19, eo19⟩ := Kd.R_slice HO_3.out
          (first | subst eo19 | (injection eo19 with f1_ f2_ f3_; have f4_ := f1_.symm; have f5_ := f3_.symm; clear f1_ f2_ f3_; subst f4_; subst f5_))
          refine start_ (n := 15) (S := fun w' => True) (ds := []) #[false, false, false, false, false, false, false, false, false, false, false, false, false, false, false] (by kernel_rfl) rfl rfl trivial (fun hHeld => ?_); refine with_tabW spec_SortDominoes.tab7 spec_SortDominoes.bits7 (fun HT_ HW_ => ?_)
          generalize wr.drew = w18 at HO_3 HB hHeld ⊢
          refine pure_ (i := 0) (N := some 20) (v := ?_) (a' := ?_) #[true, false, false, false, false, false, false, false, false, false, false, false, false, false, false] rfl rfl (any_of HT_.out (by kernel_rfl)) (fun _ _ _ h => h) (Or.inl ⟨by rfl, ?_⟩) ?_ ?_
          rotate_left
          ·intro w'
           go_simp
           with_reducible rfl
          rotate_left
          ·simp only [Act.put, sA, sB, sC, i64_w, i32_w]
           rfl
          refine pure_ (i := 1) (N := some 21) (v := ?_) (a' := ?_) #[true, true, false, false, false, false, false, false, false, false, false, false, false, false, false] rfl rfl (any_of HT_.out (by kernel_rfl)) (fun _ _ _ h => h) (Or.inl ⟨by rfl, ?_⟩) ?_ ?_
          rotate_left
          ·intro w'
           go_simp
           with_reducible rfl
          rotate_left
          ·simp only [Act.put, sA, sB, sC, i64_w, i32_w]
           rfl
          refine pure_ (i := 2) (N := some 22) (v := ?_) (a' := ?_) #[true, true, true, false, false, false, false, false, false, false, false, false, false, false, false] rfl rfl (any_of HT_.out (by kernel_rfl)) (fun _ _ _ h => h) (Or.inl ⟨by rfl, ?_⟩) ?_ ?_
          rotate_left
          ·intro w'
           go_simp
           with_reducible rfl
          rotate_left
          ·simp only [Act.put, sA, sB, sC, i64_w, i32_w]
           rfl
          refine pure_ (i := 3) (N := some 23) (v := ?_) (a' := ?_) #[true, true, true, true, false, false, false, false, false, false, false, false, false, false, false] rfl rfl (any_of HT_.out (by kernel_rfl)) (fun _ _ _ h => h) (Or.inl ⟨by rfl, ?_⟩) ?_ ?_
          rotate_left
          ·intro w'
           go_simp
           with_reducible rfl
          rotate_left
          ·simp only [Act.put, sA, sB, sC, i64_w, i32_w]
           rfl
          refine pure_ (i := 4) (N := some 24) (v := ?_) (a' := ?_) #[true, true, true, true, true, false, false, false, false, false, false, false, false, false, false] rfl rfl (any_of HT_.out (by kernel_rfl)) (fun _ _ _ h => h) (Or.inl ⟨by rfl, ?_⟩) ?_ ?_
          rotate_left
          ·intro w'
           go_simp
           with_reducible rfl
          rotate_left
          ·simp only [Act.put, sA, sB, sC, i64_w, i32_w]
           rfl
          refine pure_ (i := 5) (N := some 25) (v := undef) (a' := ?_) #[true, true, true, true, true, true, false, false, false, false, false, false, false, false, false] rfl rfl (any_of HT_.out (by kernel_rfl)) (fun _ _ _ h => h) (Or.inr ⟨by rfl, rfl⟩) ?_ ?_
          rotate_left
          ·simp only [Act.put, sA, sB, sC, i64_w, i32_w]
           rfl
          refine pure_ (i := 6) (N := some 26) (v := undef) (a' := ?_) #[true, true, true, true, true, true, true, false, false, false, false, false, false, false, false] rfl rfl (any_of HT_.out (by kernel_rfl)) (fun _ _ _ h => h) (Or.inr ⟨by rfl, rfl⟩) ?_ ?_
          rotate_left
          ·simp only [Act.put, sA, sB, sC, i64_w, i32_w]
           rfl
          refine pure_ (i := 7) (N := some 27) (v := undef) (a' := ?_) #[true, true, true, true, true, true, true, true, false, false, false, false, false, false, false] rfl rfl (any_of HT_.out (by kernel_rfl)) (fun _ _ _ h => h) (Or.inr ⟨by rfl, rfl⟩) ?_ ?_
          rotate_left
          ·simp only [Act.put, sA, sB, sC, i64_w, i32_w]
           rfl
          refine pure_ (i := 8) (N := some 28) (v := undef) (a' := ?_) #[true, true, true, true, true, true, true, true, true, false, false, false, false, false, false] rfl rfl (any_of HT_.out (by kernel_rfl)) (fun _ _ _ h => h) (Or.inr ⟨by rfl, rfl⟩) ?_ ?_
          rotate_left
          ·simp only [Act.put, sA, sB, sC, i64_w, i32_w]
           rfl
          refine pure_ (i := 9) (N := some 29) (v := undef) (a' := ?_) #[true, true, true, true, true, true, true, true, true, true, false, false, false, false, false] rfl rfl (any_of HT_.out (by kernel_rfl)) (fun _ _ _ h => h) (Or.inr ⟨by rfl, rfl⟩) ?_ ?_
          rotate_left
          ·simp only [Act.put, sA, sB, sC, i64_w, i32_w]
           rfl
          refine pure_ (i := 10) (N := some 30) (v := undef) (a' := ?_) #[true, true, true, true, true, true, true, true, true, true, true, false, false, false, false] rfl rfl (any_of HT_.out (by kernel_rfl)) (fun _ _ _ h => h) (Or.inr ⟨by rfl, rfl⟩) ?_ ?_
          rotate_left
          ·simp only [Act.put, sA, sB, sC, i64_w, i32_w]
           rfl
          refine pure_ (i := 11) (N := some 31) (v := undef) (a' := ?_) #[true, true, true, true, true, true, true, true, true, true, true, true, false, false, false] rfl rfl (any_of HT_.out (by kernel_rfl)) (fun _ _ _ h => h) (Or.inr ⟨by rfl, rfl⟩) ?_ ?_
          rotate_left
          ·simp only [Act.put, sA, sB, sC, i64_w, i32_w]
           rfl
          refine pure_ (i := 12) (N := some 32) (v := undef) (a' := ?_) #[true, true, true, true, true, true, true, true, true, true, true, true, true, false, false] rfl rfl (any_of HT_.out (by kernel_rfl)) (fun _ _ _ h => h) (Or.inr ⟨by rfl, rfl⟩) ?_ ?_
          rotate_left
          ·simp only [Act.put, sA, sB, sC, i64_w, i32_w]
           rfl
          refine pure_ (i := 13) (N := some 33) (v := undef) (a' := ?_) #[true, true, true, true, true, true, true, true, true, true, true, true, true, true, false] rfl rfl (any_of HT_.out (by kernel_rfl)) (fun _ _ _ h => h) (Or.inr ⟨by rfl, rfl⟩) ?_ ?_
          rotate_left
          ·simp only [Act.put, sA, sB, sC, i64_w, i32_w]
           rfl
          refine pure_ (i := 14) (N := some 34) (v := ?_) (a' := ?_) #[true, true, true, true, true, true, true, true, true, true, true, true, true, true, true] rfl rfl (any_of HT_.out (by kernel_rfl)) (fun _ _ _ h => h) (Or.inl ⟨by rfl, ?_⟩) ?_ ?_
          rotate_left
          ·intro w'
           go_simp
           with_reducible rfl
          rotate_left
          ·simp only [Act.put, sA, sB, sC, i64_w, i32_w]
           rfl
          refine done_ (done_of HT_.out (by kernel_rfl)) ?_
          try go_wp2
          go_meet
          case rel => exact ⟨_, (false), (by first | rfl | (simp; done) | (simp [*]; done)), H', ⟨by have := HK1.out; have := HK2.out; first | omega | exact Nat.le_refl _⟩, ⟨rX HO_3.out⟩, ⟨bX HB.out⟩⟩
        case rest =>
         clear HC9
         try clear c1
         try clear p2
         try clear q2
         try clear hx2
         try clear c4
         try clear c4b0
         try clear c5
         try clear c5b0
         try clear c6
         try clear p6
         try clear c7
         try clear c10
         try clear c10b0
         try clear c11
         try clear c11b0
         try clear c12
         try clear c12b0
         try clear c13
         try clear c13b0
         try clear c19
         try clear hx231_0
         try clear hx231_1
         try clear hx231_2
         try clear hx233_0
         try clear hx233_1
         try clear hx233_2
         try clear hx234_0
         try clear hx234_1
         try clear hx234_2
         try clear p2
         try clear p231
         try clear p233
         try clear p234
         try clear p6
         try clear q2
         try clear q231
         try clear q233
         try clear q234
         obtain ⟨kq, x34_8, rfl, HA, HJ8, HO_3, HB⟩ := hcut
         cases kq with
         | zero => exact absurd HA.out (by simp [spec_SortDominoes.j2])
         | succ kj8 =>
          have H := HA.out
          clear HA
          simp only [spec_SortDominoes.j2] at H
          by_cases c20 : x34_8 = true
          ·subst c20
           have H1 : (spec_SortDominoes.l1 kj8 l0 x3_1 x4_1 (wrap64 (x5_2 + 1))) = some r := by rw [if_pos rfl] at H; exact H
           clear H
           have H := H1
           clear H1
           have H' := Aside0.mk H
           clear H
           go_wp2
           go_roundg kj8
           case measure => have := HK1.out; have := HK2.out; have := HJ8.out; omega
           case rel => exact ⟨(wrap64 (x5_2 + 1)), (by first | rfl | (simp; done) | (simp [*]; done)), H', ⟨by have := HK1.out; have := HK2.out; have := HJ8.out; omega⟩, ⟨rX HO_3.out⟩, ⟨bX HB.out⟩⟩
          ·replace c20 := Bool.eq_false_iff.mpr c20
           subst c20
           have H1 : (if x5_2 < (x3_1.length : Int) then (if 0 ≤ x5_2 then (if 0 ≤ x4_1 then (if x4_1 < (l0.length : Int) then (spec_SortDominoes.j3 kj8 l0 x3_1 x4_1 x5_2 (((rd_T41 x3_1 x5_2).f0) == ((rd_T41 l0 x4_1).f0) && (((rd_T41 x3_1 x5_2).f1) == ((rd_T41 l0 x4_1).f1) && (((rd_T41 x3_1 x5_2).f2) == ((rd_T41 l0 x4_1).f2))))) else (none)) else (none)) else (none)) else (spec_SortDominoes.j3 kj8 l0 x3_1 x4_1 x5_2 false)) = some r := by rw [if_neg (show ¬ (false = true) by decide)] at H; exact H
           clear H
           have H := H1
           clear H1
           have HC21 := Aside0.mk H
           clear H
           go_upto_region 9 with (fail)
           go_cut [51] (fun v51 wc => ∃ (kq : Nat) (x51_20 : Bool), v51 = .bool x51_20 ∧ Aside0 (spec_SortDominoes.j3 kq l0 x3_1 x4_1 x5_2 x51_20 = some r) ∧ Aside0 (kq ≤ kj8) ∧ Aside0 (Kd.R k41 41 wc w.heap.size (fun _ => True) u3 x3_1) ∧ Aside0 (Below w.heap.size w wc))
           case first =>
            have H := HC21.out
            clear HC21
            by_cases c22 : x5_2 < (x3_1.length : Int)
            ·rw [if_pos c22] at H
             have c22b0 : decide (x5_2 < (x3_1.length : Int)) = true := decide_eq_true c22
             clear c22
             (first | rw [c22b0] | (simp only [i64_w, i32_w]; rw [c22b0]) | skip)
             by_cases c23 : 0 ≤ x5_2
             ·rw [if_pos c23] at H
              have c23b0 : decide (0 ≤ x5_2) = true := decide_eq_true c23
              clear c23
              by_cases c24 : 0 ≤ x4_1
              ·rw [if_pos c24] at H
               have c24b0 : decide (0 ≤ x4_1) = true := decide_eq_true c24
               clear c24
               by_cases c25 : x4_1 < (l0.length : Int)
               ·rw [if_pos c25] at H
                have c25b0 : decide (x4_1 < (l0.length : Int)) = true := decide_eq_true c25
                clear c25
                have H' := Aside0.mk H
                clear H
                try go_wp2
                have n0_ := Aside0.mk (Kd.R_drew HO_3.out)
                have n1_ := Aside0.mk (below_drew1 HB.out)
                clear HO_3
                clear HB
                have HO_3 := n0_
                have HB := n1_
                clear n0_ n1_
                obtain ⟨Ao27, co27, eo27⟩ := Kd.R_slice HO_3.out
                (first | subst eo27 | (injection eo27 with f1_ f2_ f3_; have f4_ := f1_.symm; have f5_ := f3_.symm; clear f1_ f2_ f3_; subst f4_; subst f5_))
                have p236 : 0 ≤ (x5_2 : Int) := of_decide_eq_true (by assumption)
                have q236 : x5_2 < (x3_1.length : Int) := of_decide_eq_true (by assumption)
                obtain ⟨ad236, e236, hx236_0, hx236_1, hx236_2⟩ := at_T41 (Kd.R_reads' HO_3.out).2.2 x5_2 p236 q236
                cases e236
                replace p236 := eq_true p236
                replace q236 := eq_true q236
                have p237 : 0 ≤ (x4_1 : Int) := of_decide_eq_true (by assumption)
                have q237 : x4_1 < (l0.length : Int) := of_decide_eq_true (by assumption)
                obtain ⟨ad237, e237, hx237_0, hx237_1, hx237_2⟩ := at_T41 HR0.out x4_1 p237 q237
                have hw237_2 := hx237_2
                have hw237_1 := hx237_1
                have hw237_0 := hx237_0
                obtain rfl : ad231 = ad237 := (by injection e237)
                replace hx237_0 := (HB.out.cell (World.block_lt_of_cell? w _ hx237_0)).trans hx237_0
                replace hx237_1 := (HB.out.cell (World.block_lt_of_cell? w _ hx237_1)).trans hx237_1
                replace hx237_2 := (HB.out.cell (World.block_lt_of_cell? w _ hx237_2)).trans hx237_2
                replace p237 := eq_true p237
                replace q237 := eq_true q237
                refine start_ (n := 15) (S := fun w' => w'.cell? (ad236.add ((x5_2).toNat * 3)) = some (.int .i64 ((rd_T41 x3_1 x5_2).f0)) ∧ w'.cell? ⟨(ad236.add ((x5_2).toNat * 3)).block, (ad236.add ((x5_2).toNat * 3)).off + 1, none⟩ = some (.int .i64 ((rd_T41 x3_1 x5_2).f1)) ∧ w'.cell? ⟨(ad236.add ((x5_2).toNat * 3)).block, (ad236.add ((x5_2).toNat * 3)).off + 2, none⟩ = some (.bool ((rd_T41 x3_1 x5_2).f2)) ∧ w'.cell? (ad231.add ((x4_1).toNat * 3)) = some (.int .i64 ((rd_T41 l0 x4_1).f0)) ∧ w'.cell? ⟨(ad231.add ((x4_1).toNat * 3)).block, (ad231.add ((x4_1).toNat * 3)).off + 1, none⟩ = some (.int .i64 ((rd_T41 l0 x4_1).f1)) ∧ w'.cell? ⟨(ad231.add ((x4_1).toNat * 3)).block, (ad231.add ((x4_1).toNat * 3)).off + 2, none⟩ = some (.bool ((rd_T41 l0 x4_1).f2))) (ds := []) #[false, false, false, false, false, false, false, false, false, false, false, false, false, false, false] (by kernel_rfl) rfl rfl ⟨hx236_0, hx236_1, hx236_2, ((HB.out.cell (World.block_lt_of_cell? w _ hw237_0)).trans hw237_0), ((HB.out.cell (World.block_lt_of_cell? w _ hw237_1)).trans hw237_1), ((HB.out.cell (World.block_lt_of_cell? w _ hw237_2)).trans hw237_2)⟩ (fun hHeld => ?_); refine with_tabW spec_SortDominoes.tab9 spec_SortDominoes.bits9 (fun HT_ HW_ => ?_)
                generalize wc.drew = w26 at HO_3 HB hx236_0 hx236_1 hx236_2 hx237_0 hx237_1 hx237_2 hHeld ⊢
                refine pure_ (i := 0) (N := some 37) (v := ?_) (a' := ?_) #[true, false, false, false, false, false, false, false, false, false, false, false, false, false, false] rfl rfl (any_of HT_.out (by kernel_rfl)) (fun _ _ _ h => h) (Or.inl ⟨by rfl, ?_⟩) ?_ ?_
                rotate_left
                ·intro w'
                 go_simp
                 with_reducible rfl
                rotate_left
                ·simp only [Act.put, sA, sB, sC, i64_w, i32_w]
                 rfl
                refine pure_ (i := 1) (N := some 38) (v := ?_) (a' := ?_) #[true, true, false, false, false, false, false, false, false, false, false, false, false, false, false] rfl rfl (any_of HT_.out (by kernel_rfl)) (fun _ _ _ h => h) (Or.inl ⟨by rfl, ?_⟩) ?_ ?_
                rotate_left
                ·intro w'
                 go_simp
                 with_reducible rfl
                rotate_left
                ·simp only [Act.put, sA, sB, sC, i64_w, i32_w]
                 rfl
                refine pure_ (i := 2) (N := some 39) (v := ?_) (a' := ?_) #[true, true, true, false, false, false, false, false, false, false, false, false, false, false, false] rfl rfl (any_of HT_.out (by kernel_rfl)) (fun _ _ _ h => h) (Or.inl ⟨by rfl, ?_⟩) ?_ ?_
                rotate_left
                ·intro w'
                 go_simp
                 with_reducible rfl
                rotate_left
                ·simp only [Act.put, sA, sB, sC, i64_w, i32_w]
                 rfl
                refine pure_ (i := 3) (N := some 40) (v := ?_) (a' := ?_) #[true, true, true, true, false, false, false, false, false, false, false, false, false, false, false] rfl rfl (any_of HT_.out (by kernel_rfl)) (fun _ _ _ h => h) (Or.inl ⟨by rfl, ?_⟩) ?_ ?_
                rotate_left
                ·intro w'
                 go_simp
                 with_reducible rfl
                rotate_left
                ·simp only [Act.put, sA, sB, sC, i64_w, i32_w]
                 rfl
                refine pure_ (i := 4) (N := some 41) (v := ?_) (a' := ?_) #[true, true, true, true, true, false, false, false, false, false, false, false, false, false, false] rfl rfl (any_of HT_.out (by kernel_rfl)) (fun _ _ _ h => h) (Or.inl ⟨by rfl, ?_⟩) ?_ ?_
                rotate_left
                ·intro w'
                 go_simp
                 with_reducible rfl
                rotate_left
                ·simp only [Act.put, sA, sB, sC, i64_w, i32_w]
                 rfl
                refine pure_ (i := 5) (N := some 42) (v := ?_) (a' := ?_) #[true, true, true, true, true, true, false, false, false, false, false, false, false, false, false] rfl rfl (any_of HT_.out (by kernel_rfl)) (fun _ _ _ h => h) (Or.inl ⟨by rfl, ?_⟩) ?_ ?_
                rotate_left
                ·intro w'
                 go_simp
                 with_reducible rfl
                rotate_left
                ·simp only [Act.put, sA, sB, sC, i64_w, i32_w]
                 rfl
                refine pure_ (i := 6) (N := some 43) (v := ?_) (a' := ?_) #[true, true, true, true, true, true, true, false, false, false, false, false, false, false, false] rfl rfl (any_of HT_.out (by kernel_rfl)) (fun _ _ _ h => h) (Or.inl ⟨by rfl, ?_⟩) ?_ ?_
                rotate_left
                ·intro w'
                 go_simp
                 with_reducible rfl
                rotate_left
                ·simp only [Act.put, sA, sB, sC, i64_w, i32_w]
                 rfl
                refine pure_ (i := 7) (N := some 44) (v := ?_) (a' := ?_) #[true, true, true, true, true, true, true, true, false, false, false, false, false, false, false] rfl rfl (any_of HT_.out (by kernel_rfl)) (fun _ _ _ h => h) (Or.inl ⟨by rfl, ?_⟩) ?_ ?_
                rotate_left
                ·intro w'
                 go_simp
                 with_reducible rfl
                rotate_left
                ·simp only [Act.put, sA, sB, sC, i64_w, i32_w]
                 rfl
                refine pure_ (i := 9) (N := some 46) (v := ?_) (a' := ?_) #[true, true, true, true, true, true, true, true, false, true, false, false, false, false, false] rfl rfl (any_of HT_.out (by kernel_rfl)) (fun _ _ _ h => h) (Or.inl ⟨by rfl, ?_⟩) ?_ ?_
                rotate_left
                ·intro w'
                 go_simp
                 with_reducible rfl
                rotate_left
                ·simp only [Act.put, sA, sB, sC, i64_w, i32_w]
                 rfl
                refine pure_ (i := 10) (N := some 47) (v := ?_) (a' := ?_) #[true, true, true, true, true, true, true, true, false, true, true, false, false, false, false] rfl rfl (any_of HT_.out (by kernel_rfl)) (fun _ _ _ h => h) (Or.inl ⟨by rfl, ?_⟩) ?_ ?_
                rotate_left
                ·intro w'
                 go_simp
                 with_reducible rfl
                rotate_left
                ·simp only [Act.put, sA, sB, sC, i64_w, i32_w]
                 rfl
                refine pure_ (i := 11) (N := some 48) (v := ?_) (a' := ?_) #[true, true, true, true, true, true, true, true, false, true, true, true, false, false, false] rfl rfl (any_of HT_.out (by kernel_rfl)) (fun _ _ _ h => h) (Or.inl ⟨by rfl, ?_⟩) ?_ ?_
                rotate_left
                ·intro w'
                 go_simp
                 with_reducible rfl
                rotate_left
                ·simp only [Act.put, sA, sB, sC, i64_w, i32_w]
                 rfl
                refine take_ (i := 8) (N := some 45) (v := ?_) (a' := ?_) #[true, true, true, true, true, true, true, true, true, true, true, true, false, false, false] rfl rfl (take_ofW HT_.out HW_.out (by kernel_rfl)) (fun _ _ _ h => h) (Or.inl ⟨by rfl, ?_⟩) hHeld ?_ ?_
                rotate_left
                ·rintro w' ⟨s0, s1, s2, s3, s4, s5⟩
                 go_simp
                 with_reducible rfl
                rotate_left
                ·simp only [Act.put, sA, sB, sC, i64_w, i32_w]
                 rfl
                refine take_ (i := 12) (N := some 49) (v := ?_) (a' := ?_) #[true, true, true, true, true, true, true, true, true, true, true, true, true, false, false] rfl rfl (take_ofW HT_.out HW_.out (by kernel_rfl)) (fun _ _ _ h => h) (Or.inl ⟨by rfl, ?_⟩) hHeld ?_ ?_
                rotate_left
                ·rintro w' ⟨s0, s1, s2, s3, s4, s5⟩
                 go_simp
                 with_reducible rfl
                rotate_left
                ·simp only [Act.put, sA, sB, sC, i64_w, i32_w]
                 rfl
                refine pure_ (i := 13) (N := some 50) (v := ?_) (a' := ?_) #[true, true, true, true, true, true, true, true, true, true, true, true, true, true, false] rfl rfl (any_of HT_.out (by kernel_rfl)) (fun _ _ _ h => h) (Or.inl ⟨by rfl, ?_⟩) ?_ ?_
                rotate_left
                ·intro w'
                 go_simp
                 with_reducible rfl
                rotate_left
                ·simp only [Act.put, sA, sB, sC, i64_w, i32_w]
                 rfl
                refine pure_ (i := 14) (N := some 51) (v := ?_) (a' := ?_) #[true, true, true, true, true, true, true, true, true, true, true, true, true, true, true] rfl rfl (any_of HT_.out (by kernel_rfl)) (fun _ _ _ h => h) (Or.inl ⟨by rfl, ?_⟩) ?_ ?_
                rotate_left
                ·intro w'
                 go_simp
                 with_reducible rfl
                rotate_left
                ·simp only [Act.put, sA, sB, sC, i64_w, i32_w]
                 rfl
                refine done_ (done_of HT_.out (by kernel_rfl)) ?_
                try go_wp2
                go_meet
                case rel => exact ⟨_, ((((rd_T41 x3_1 x5_2).f0) == ((rd_T41 l0 x4_1).f0) && (((rd_T41 x3_1 x5_2).f1) == ((rd_T41 l0 x4_1).f1) && (((rd_T41 x3_1 x5_2).f2) == ((rd_T41 l0 x4_1).f2))))), (by first | rfl | (simp; done) | (simp [*]; done)), H', ⟨by have := HK1.out; have := HK2.out; have := HJ8.out; first | omega | exact Nat.le_refl _⟩, ⟨rX HO_3.out⟩, ⟨bX HB.out⟩⟩
               ·rw [if_neg c25] at H
                exact absurd H (by simp)
              ·rw [if_neg c24] at H
               exact absurd H (by simp)
             ·rw [if_neg c23] at H
              exact absurd H (by simp)
            ·rw [if_neg c22] at H
             have c22b0 : decide (x5_2 < (x3_1.length : Int)) = false := decide_eq_false c22
             clear c22
             (first | rw [c22b0] | (simp only [i64_w, i32_w]; rw [c22b0]) | skip)
             have H' := Aside0.mk H
             clear H
             try go_wp2
             have n0_ := Aside0.mk (Kd.R_drew HO_3.out)
             have n1_ := Aside0.mk (below_drew1 HB.out)
             clear HO_3
             clear HB
             have HO_3 := n0_
             have HB := n1_
             clear n0_ n1_
             obtain ⟨Ao29, co29, eo29⟩ := Kd.R_slice HO_3.out
             (first | subst eo29 | (injection eo29 with f1_ f2_ f3_; have f4_ := f1_.symm; have f5_ := f3_.symm; clear f1_ f2_ f3_; subst f4_; subst f5_))
             refine start_ (n := 15) (S := fun w' => True) (ds := []) #[false, false, false, false, false, false, false, false, false, false, false, false, false, false, false] (by kernel_rfl) rfl rfl trivial (fun hHeld => ?_); refine with_tabW spec_SortDominoes.tab9 spec_SortDominoes.bits9 (fun HT_ HW_ => ?_)
             generalize wc.drew = w28 at HO_3 HB hHeld ⊢
             refine pure_ (i := 0) (N := some 37) (v := ?_) (a' := ?_) #[true, false, false, false, false, false, false, false, false, false, false, false, false, false, false] rfl rfl (any_of HT_.out (by kernel_rfl)) (fun _ _ _ h => h) (Or.inl ⟨by rfl, ?_⟩) ?_ ?_
             rotate_left
             ·intro w'
              go_simp
              with_reducible rfl
             rotate_left
             ·simp only [Act.put, sA, sB, sC, i64_w, i32_w]
              rfl
             refine pure_ (i := 1) (N := some 38) (v := ?_) (a' := ?_) #[true, true, false, false, false, false, false, false, false, false, false, false, false, false, false] rfl rfl (any_of HT_.out (by kernel_rfl)) (fun _ _ _ h => h) (Or.inl ⟨by rfl, ?_⟩) ?_ ?_
             rotate_left
             ·intro w'
              go_simp
              with_reducible rfl
             rotate_left
             ·simp only [Act.put, sA, sB, sC, i64_w, i32_w]
              rfl
             refine pure_ (i := 2) (N := some 39) (v := ?_) (a' := ?_) #[true, true, true, false, false, false, false, false, false, false, false, false, false, false, false] rfl rfl (any_of HT_.out (by kernel_rfl)) (fun _ _ _ h => h) (Or.inl ⟨by rfl, ?_⟩) ?_ ?_
             rotate_left
             ·intro w'
              go_simp
              with_reducible rfl
             rotate_left
             ·simp only [Act.put, sA, sB, sC, i64_w, i32_w]
              rfl
             refine pure_ (i := 3) (N := some 40) (v := ?_) (a' := ?_) #[true, true, true, true, false, false, false, false, false, false, false, false, false, false, false] rfl rfl (any_of HT_.out (by kernel_rfl)) (fun _ _ _ h => h) (Or.inl ⟨by rfl, ?_⟩) ?_ ?_
             rotate_left
             ·intro w'
              go_simp
              with_reducible rfl
             rotate_left
             ·simp only [Act.put, sA, sB, sC, i64_w, i32_w]
              rfl
             refine pure_ (i := 4) (N := some 41) (v := ?_) (a' := ?_) #[true, true, true, true, true, false, false, false, false, false, false, false, false, false, false] rfl rfl (any_of HT_.out (by kernel_rfl)) (fun _ _ _ h => h) (Or.inl ⟨by rfl, ?_⟩) ?_ ?_
             rotate_left
             ·intro w'
              go_simp
              with_reducible rfl
             rotate_left
             ·simp only [Act.put, sA, sB, sC, i64_w, i32_w]
              rfl
             refine pure_ (i := 5) (N := some 42) (v := undef) (a' := ?_) #[true, true, true, true, true, true, false, false, false, false, false, false, false, false, false] rfl rfl (any_of HT_.out (by kernel_rfl)) (fun _ _ _ h => h) (Or.inr ⟨by rfl, rfl⟩) ?_ ?_
             rotate_left
             ·simp only [Act.put, sA, sB, sC, i64_w, i32_w]
              rfl
             refine pure_ (i := 6) (N := some 43) (v := undef) (a' := ?_) #[true, true, true, true, true, true, true, false, false, false, false, false, false, false, false] rfl rfl (any_of HT_.out (by kernel_rfl)) (fun _ _ _ h => h) (Or.inr ⟨by rfl, rfl⟩) ?_ ?_
             rotate_left
             ·simp only [Act.put, sA, sB, sC, i64_w, i32_w]
              rfl
             refine pure_ (i := 7) (N := some 44) (v := undef) (a' := ?_) #[true, true, true, true, true, true, true, true, false, false, false, false, false, false, false] rfl rfl (any_of HT_.out (by kernel_rfl)) (fun _ _ _ h => h) (Or.inr ⟨by rfl, rfl⟩) ?_ ?_
             rotate_left
             ·simp only [Act.put, sA, sB, sC, i64_w, i32_w]
              rfl
             refine pure_ (i := 8) (N := some 45) (v := undef) (a' := ?_) #[true, true, true, true, true, true, true, true, true, false, false, false, false, false, false] rfl rfl (any_of HT_.out (by kernel_rfl)) (fun _ _ _ h => h) (Or.inr ⟨by rfl, rfl⟩) ?_ ?_
             rotate_left
             ·simp only [Act.put, sA, sB, sC, i64_w, i32_w]
              rfl
             refine pure_ (i := 9) (N := some 46) (v := undef) (a' := ?_) #[true, true, true, true, true, true, true, true, true, true, false, false, false, false, false] rfl rfl (any_of HT_.out (by kernel_rfl)) (fun _ _ _ h => h) (Or.inr ⟨by rfl, rfl⟩) ?_ ?_
             rotate_left
             ·simp only [Act.put, sA, sB, sC, i64_w, i32_w]
              rfl
             refine pure_ (i := 10) (N := some 47) (v := undef) (a' := ?_) #[true, true, true, true, true, true, true, true, true, true, true, false, false, false, false] rfl rfl (any_of HT_.out (by kernel_rfl)) (fun _ _ _ h => h) (Or.inr ⟨by rfl, rfl⟩) ?_ ?_
             rotate_left
             ·simp only [Act.put, sA, sB, sC, i64_w, i32_w]
              rfl
             refine pure_ (i := 11) (N := some 48) (v := undef) (a' := ?_) #[true, true, true, true, true, true, true, true, true, true, true, true, false, false, false] rfl rfl (any_of HT_.out (by kernel_rfl)) (fun _ _ _ h => h) (Or.inr ⟨by rfl, rfl⟩) ?_ ?_
             rotate_left
             ·simp only [Act.put, sA, sB, sC, i64_w, i32_w]
              rfl
             refine pure_ (i := 12) (N := some 49) (v := undef) (a' := ?_) #[true, true, true, true, true, true, true, true, true, true, true, true, true, false, false] rfl rfl (any_of HT_.out (by kernel_rfl)) (fun _ _ _ h => h) (Or.inr ⟨by rfl, rfl⟩) ?_ ?_
             rotate_left
             ·simp only [Act.put, sA, sB, sC, i64_w, i32_w]
              rfl
             refine pure_ (i := 13) (N := some 50) (v := undef) (a' := ?_) #[true, true, true, true, true, true, true, true, true, true, true, true, true, true, false] rfl rfl (any_of HT_.out (by kernel_rfl)) (fun _ _ _ h => h) (Or.inr ⟨by rfl, rfl⟩) ?_ ?_
             rotate_left
             ·simp only [Act.put, sA, sB, sC, i64_w, i32_w]
              rfl
             refine pure_ (i := 14) (N := some 51) (v := ?_) (a' := ?_) #[true, true, true, true, true, true, true, true, true, true, true, true, true, true, true] rfl rfl (any_of HT_.out (by kernel_rfl)) (fun _ _ _ h => h) (Or.inl ⟨by rfl, ?_⟩) ?_ ?_
             rotate_left
             ·intro w'
              go_simp
              with_reducible rfl
             rotate_left
             ·simp only [Act.put, sA, sB, sC, i64_w, i32_w]
              rfl
             refine done_ (done_of HT_.out (by kernel_rfl)) ?_
             try go_wp2
             go_meet
             case rel => exact ⟨_, (false), (by first | rfl | (simp; done) | (simp [*]; done)), H', ⟨by have := HK1.out; have := HK2.out; have := HJ8.out; first | omega | exact Nat.le_refl _⟩, ⟨rX HO_3.out⟩, ⟨bX HB.out⟩⟩
           case rest =>
            clear HC21
            try clear c1
            try clear c2
            try clear p2
            try clear q2
            try clear hx2
            try clear c4
            try clear c4b0
            try clear c5
            try clear c5b0
            try clear c6
            try clear p6
            try clear c7
            try clear c10
            try clear c10b0
            try clear c11
            try clear c11b0
            try clear c12
            try clear c12b0
            try clear c13
            try clear c13b0
            try clear c19
            try clear c20
            try clear c22
            try clear c22b0
            try clear c23
            try clear c23b0
            try clear p23
            try clear q23
            try clear hx23
            try clear c24
            try clear c24b0
            try clear c25
            try clear c25b0
            try clear hx231_0
            try clear hx231_1
            try clear hx231_2
            try clear hx233_0
            try clear hx233_1
            try clear hx233_2
            try clear hx234_0
            try clear hx234_1
            try clear hx234_2
            try clear hx236_0
            try clear hx236_1
            try clear hx236_2
            try clear hx237_0
            try clear hx237_1
            try clear hx237_2
            try clear p2
            try clear p231
            try clear p233
            try clear p234
            try clear p236
            try clear p237
            try clear p6
            try clear q2
            try clear q231
            try clear q233
            try clear q234
            try clear q236
            try clear q237
            obtain ⟨kq, x51_20, rfl, HA, HJ20, HO_3, HB⟩ := hcut
            cases kq with
            | zero => exact absurd HA.out (by simp [spec_SortDominoes.j3])
            | succ kj20 =>
             have H := HA.out
             clear HA
             simp only [spec_SortDominoes.j3] at H
             by_cases c30 : x51_20 = true
             ·subst c30
              have H1 : (spec_SortDominoes.l0 kj20 l0 x3_1 (wrap64 (x4_1 + 1))) = some r := by rw [if_pos rfl] at H; exact H
              clear H
              have H := H1
              clear H1
              have H' := Aside0.mk H
              clear H
              go_wp2
              go_roundg kj20
              case measure => have := HK1.out; have := HK2.out; have := HJ8.out; have := HJ20.out; omega
              case rel => exact ⟨(x3_1), (wrap64 (x4_1 + 1)), (by first | rfl | (simp; done) | (simp [*]; done)), H', ⟨by have := HK1.out; have := HK2.out; have := HJ8.out; have := HJ20.out; omega⟩, ⟨rX HO_3.out⟩, ⟨bX HB.out⟩⟩
             ·replace c30 := Bool.eq_false_iff.mpr c30
              subst c30
              have H1 : ((some (([] : List (S41)) : List (S41))).bind fun y238 => (if 0 ≤ x5_2 then (if x5_2 ≤ (x3_1.length : Int) then ((some (x3_1.take (x5_2 : Int).toNat : List (S41))).bind fun y241 => (if y238.length + y241.length < 5864062014805 then ((some (y238 ++ y241 : List (S41))).bind fun y245 => (if 0 ≤ x4_1 then (if x4_1 < (l0.length : Int) then (if y245.length < 5864062014805 then ((some (y245 ++ [(⟨(rd_T41 l0 x4_1).f0, (rd_T41 l0 x4_1).f1, (rd_T41 l0 x4_1).f2⟩ : S41)] : List (S41))).bind fun y249 => ((some (x3_1.drop (x5_2 : Int).toNat : List (S41))).bind fun y252 => (if y249.length + y252.length < 5864062014805 then (spec_SortDominoes.l0 kj20 l0 (y249 ++ y252) (wrap64 (x4_1 + 1))) else (none)))) else (none)) else (none)) else (none))) else (none))) else (none)) else (none))) = some r := by rw [if_neg (show ¬ (false = true) by decide)] at H; exact H
              clear H
              have H := H1
              clear H1
              obtain ⟨y238, hy238⟩ : ∃ y_ : List (S41), y_ = (([] : List (S41))) := ⟨_, rfl⟩
              replace H : (if 0 ≤ x5_2 then (if x5_2 ≤ (x3_1.length : Int) then ((some (x3_1.take (x5_2 : Int).toNat : List (S41))).bind fun y241 => (if y238.length + y241.length < 5864062014805 then ((some (y238 ++ y241 : List (S41))).bind fun y245 => (if 0 ≤ x4_1 then (if x4_1 < (l0.length : Int) then (if y245.length < 5864062014805 then ((some (y245 ++ [(⟨(rd_T41 l0 x4_1).f0, (rd_T41 l0 x4_1).f1, (rd_T41 l0 x4_1).f2⟩ : S41)] : List (S41))).bind fun y249 => ((some (x3_1.drop (x5_2 : Int).toNat : List (S41))).bind fun y252 => (if y249.length + y252.length < 5864062014805 then (spec_SortDominoes.l0 kj20 l0 (y249 ++ y252) (wrap64 (x4_1 + 1))) else (none)))) else (none)) else (none)) else (none))) else (none))) else (none)) else (none)) = some r := by first | (rw [hy238]; with_reducible exact H) | (have H2_ := (Option.bind_some _ _).symm.trans H; rw [hy238]; with_reducible exact H2_) | (have H2_ := (Option.bind_some _ _).symm.trans H; with_reducible exact H2_) | with_reducible exact H | (rw [hy238]; exact H) | exact H
              have Ny238 := Aside0.mk hy238
              clear hy238
              by_cases c31 : 0 ≤ x5_2
              ·rw [if_pos c31] at H
               have c31b0 := eq_true c31
               have c31b1 : decide (0 ≤ x5_2) = true := decide_eq_true c31
               clear c31
               by_cases c32 : x5_2 ≤ (x3_1.length : Int)
               ·rw [if_pos c32] at H
                have c32b0 := eq_true c32
                have c32b1 : decide (x5_2 ≤ (x3_1.length : Int)) = true := decide_eq_true c32
                clear c32
                obtain ⟨y241, hy241⟩ : ∃ y_ : List (S41), y_ = (x3_1.take (x5_2 : Int).toNat) := ⟨_, rfl⟩
                replace H : (if y238.length + y241.length < 5864062014805 then ((some (y238 ++ y241 : List (S41))).bind fun y245 => (if 0 ≤ x4_1 then (if x4_1 < (l0.length : Int) then (if y245.length < 5864062014805 then ((some (y245 ++ [(⟨(rd_T41 l0 x4_1).f0, (rd_T41 l0 x4_1).f1, (rd_T41 l0 x4_1).f2⟩ : S41)] : List (S41))).bind fun y249 => ((some (x3_1.drop (x5_2 : Int).toNat : List (S41))).bind fun y252 => (if y249.length + y252.length < 5864062014805 then (spec_SortDominoes.l0 kj20 l0 (y249 ++ y252) (wrap64 (x4_1 + 1))) else (none)))) else (none)) else (none)) else (none))) else (none)) = some r := by first | (rw [hy241]; with_reducible exact H) | (have H2_ := (Option.bind_some _ _).symm.trans H; rw [hy241]; with_reducible exact H2_) | (have H2_ := (Option.bind_some _ _).symm.trans H; with_reducible exact H2_) | with_reducible exact H | (rw [hy241]; exact H) | exact H
                have Ny241 := Aside0.mk hy241
                clear hy241
                by_cases c33 : y238.length + y241.length < 5864062014805
                ·rw [if_pos c33] at H
                 have LMc33 := Aside0.mk c33
                 clear c33
                 obtain ⟨y245, hy245⟩ : ∃ y_ : List (S41), y_ = (y238 ++ y241) := ⟨_, rfl⟩
                 replace H : (if 0 ≤ x4_1 then (if x4_1 < (l0.length : Int) then (if y245.length < 5864062014805 then ((some (y245 ++ [(⟨(rd_T41 l0 x4_1).f0, (rd_T41 l0 x4_1).f1, (rd_T41 l0 x4_1).f2⟩ : S41)] : List (S41))).bind fun y249 => ((some (x3_1.drop (x5_2 : Int).toNat : List (S41))).bind fun y252 => (if y249.length + y252.length < 5864062014805 then (spec_SortDominoes.l0 kj20 l0 (y249 ++ y252) (wrap64 (x4_1 + 1))) else (none)))) else (none)) else (none)) else (none)) = some r := by first | (rw [hy245]; with_reducible exact H) | (have H2_ := (Option.bind_some _ _).symm.trans H; rw [hy245]; with_reducible exact H2_) | (have H2_ := (Option.bind_some _ _).symm.trans H; with_reducible exact H2_) | with_reducible exact H | (rw [hy245]; exact H) | exact H
                 have Ny245 := Aside0.mk hy245
                 clear hy245
                 by_cases c34 : 0 ≤ x4_1
                 ·rw [if_pos c34] at H
                  have c34b0 : decide (0 ≤ x4_1) = true := decide_eq_true c34
                  clear c34
                  by_cases c35 : x4_1 < (l0.length : Int)
                  ·rw [if_pos c35] at H
                   have c35b0 : decide (x4_1 < (l0.length : Int)) = true := decide_eq_true c35
                   clear c35
                   by_cases c36 : y245.length < 5864062014805
                   ·rw [if_pos c36] at H
                    have LMc36 := Aside0.mk c36
                    clear c36
                    obtain ⟨y249, hy249⟩ : ∃ y_ : List (S41), y_ = (y245 ++ [(⟨(rd_T41 l0 x4_1).f0, (rd_T41 l0 x4_1).f1, (rd_T41 l0 x4_1).f2⟩ : S41)]) := ⟨_, rfl⟩
                    replace H : ((some (x3_1.drop (x5_2 : Int).toNat : List (S41))).bind fun y252 => (if y249.length + y252.length < 5864062014805 then (spec_SortDominoes.l0 kj20 l0 (y249 ++ y252) (wrap64 (x4_1 + 1))) else (none))) = some r := by first | (rw [hy249]; with_reducible exact H) | (have H2_ := (Option.bind_some _ _).symm.trans H; rw [hy249]; with_reducible exact H2_) | (have H2_ := (Option.bind_some _ _).symm.trans H; with_reducible exact H2_) | with_reducible exact H | (rw [hy249]; exact H) | exact H
                    have Ny249 := Aside0.mk hy249
                    clear hy249
                    have c37b0 := eq_true (of_decide_eq_true (by assumption) : 0 ≤ x5_2)
                    have c38b0 := eq_true (of_decide_eq_true (by assumption) : x5_2 ≤ (x3_1.length : Int))
                    obtain ⟨y252, hy252⟩ : ∃ y_ : List (S41), y_ = (x3_1.drop (x5_2 : Int).toNat) := ⟨_, rfl⟩
                    replace H : (if y249.length + y252.length < 5864062014805 then (spec_SortDominoes.l0 kj20 l0 (y249 ++ y252) (wrap64 (x4_1 + 1))) else (none)) = some r := by first | (rw [hy252]; with_reducible exact H) | (have H2_ := (Option.bind_some _ _).symm.trans H; rw [hy252]; with_reducible exact H2_) | (have H2_ := (Option.bind_some _ _).symm.trans H; with_reducible exact H2_) | with_reducible exact H | (rw [hy252]; exact H) | exact H
                    have Ny252 := Aside0.mk hy252
                    clear hy252
                    by_cases c39 : y249.length + y252.length < 5864062014805
                    ·rw [if_pos c39] at H
                     have LMc39 := Aside0.mk c39
                     clear c39
                     obtain ⟨y256, hy256⟩ : ∃ y_ : List (S41), y_ = (y249 ++ y252) := ⟨_, rfl⟩
                     replace H : (spec_SortDominoes.l0 kj20 l0 y256 (wrap64 (x4_1 + 1))) = some r := by first | (rw [hy256]; with_reducible exact H) | (have H2_ := (Option.bind_some _ _).symm.trans H; rw [hy256]; with_reducible exact H2_) | (have H2_ := (Option.bind_some _ _).symm.trans H; with_reducible exact H2_) | with_reducible exact H | (rw [hy256]; exact H) | exact H
                     have Ny256 := Aside0.mk hy256
                     clear hy256
                     have H' := Aside0.mk H
                     clear H
                     go_wp2_with (first | ((with_reducible refine gate_dst (N := 52) rfl ?_); refine Kd.R_lit k41 _ 41 ?hg (N := 52) ?hd (xs := ([] : List (S41))) (inner := []) (ok := fun _ => True) (okp := fun _ => True) ?hr ?hp (fun _ hk => hk) trivial (Below.refl _ _) (Nat.le_refl _) (by simp) ?_; (case hd => rfl); (case hg => rfl); (case hr => first | (go_simp; done) | (go_simp; rfl)); (case hp => exact (Reps.none _ _)); intro v239 w40 ho41 hb hg_ hnew_; clear hg_ hnew_; (first | rw [← Ny238.out] at ho41 | (simp only [Int.reduceToNat] at ho41; rw [← Ny238.out] at ho41)); have n0_ := Aside0.mk (Kd.R_elder' (rX HO_3.out) (Kd.R_base ho41) hb); have n1_ := Aside0.mk (Kd.R_lower (Kd.R_new' ho41 (Kd.R_lt (rX HO_3.out))) (below_size (bX HB.out))); have n2_ := Aside0.mk (below_step (bX HB.out) hb); clear HO_3; clear HB; have HO_3 := n0_; have HO240 := n1_; have HB := n2_; clear n0_ n1_ n2_; clear hb ho41; obtain ⟨Ao43, co43, eo43⟩ := Kd.R_slice HO_3.out; subst eo43; have q42 : (x5_2 : Int) ≤ ((x3_1.length : Int) : Int) := of_decide_eq_true (by assumption); obtain ⟨i042, hi042, _, hsz42, _⟩ := info_parts info41; have hroom42 : x3_1.length ≤ co43 := (Kd.R_reads' HO_3.out).2.1; have hC42 : Kd.C k41 _ Ao43 x3_1.length x3_1 := (Kd.R_reads' HO_3.out).2.2; have hcut42 := cut_to (P := Try.prog) 24 41 .i64 Try.underlying24 hi042 Ao43 x3_1.length co43 x5_2 (of_decide_eq_true (by assumption)) q42 hroom42; have hr42 := Kd.C_take (m := (x5_2 : Int).toNat) hC42 (by omega); have hy42 : y241.length = (x5_2 : Int).toNat := (by rw [Ny241.out, List.length_take]; omega); rw [← Ny241.out] at hr42; rw [← hy42] at hcut42; have HR244 := Aside0.mk hr42; have HC244 := Aside0.mk (show y241.length ≤ co43 from by omega); clear hr42 hC42 hroom42 hi042 hsz42; have KY42 := Aside0.mk hy42; clear hy42; have KL42 := Aside0.mk (show (x5_2 : Int).toNat ≤ x3_1.length from by omega); replace q42 := eq_true q42) | ((with_reducible refine gate_builtin (b := .append) (xs := #[.tmp 52, .tmp 55]) rfl ?_); at_builtin; refine Kd.R_append_rows k41 (w0 := w) w.heap.size rfl (.tmp 52) (.tmp 55) 24 41 (.agg #[(.int .i64 0), (.int .i64 0), (.bool false)]) 24 rfl Try.underlying24 info41 rfl (by decide) (by omega) v239 y238 y241 _ _ _ (fun k_ => some k_ ≠ (.slice Ao43 x3_1.length co43 : Value).ownBlock) (fun _ => False) rfl rfl ?aO ?aR (fun _ _ h => h) (fun _ h => h.elim) ?aF ?aB ?aS ?aL ?_; (case aR => repeat (first | exact (by repeat (first | (with_reducible exact HR244.out) | (with_reducible refine Kd.C_alloc ?_ _) | (with_reducible refine Kd.C_drewN ?_ _) | (with_reducible refine Kd.C_drew ?_) | exact HR244.out)) | (with_reducible refine Kd.C_alloc ?_ _) | (with_reducible refine Kd.C_drewN ?_ _) | (with_reducible refine Kd.C_drew ?_))); (case aB => exact (bX HB.out)); (case aF => exact (fun k_ hk => Kd.fresh' (Kd.R_lt (rX HO_3.out)) k_ hk)); (case aO => exact (by (with_reducible repeat (first | apply Kd.R_alloc | apply Kd.R_drewN | apply Kd.R_drew)); exact Kd.R_mono HO240.out (fun _ hk => hk.2))); (case aS => exact (below_size (bX HB.out))); (case aL => have := LMc33.out; omega); intro v246 w44 ho hb hg hat; rw [← Ny245.out] at ho; have n0_ := Aside0.mk (Kd.R_after (ok := (fun _ => True)) (rX HO_3.out) hg hat); have n1_ := Aside0.mk (hb); have n2_ := Aside0.mk ((show Kd.C k41 w44 Ao43 y241.length y241 from by rw [Ny241.out]; exact Kd.C_take (m := (x5_2 : Int).toNat) ((Kd.R_reads' (Kd.R_after (ok := (fun _ => True)) (rX HO_3.out) hg hat)).2.2) KL42.out)); have n3_ := Aside0.mk (ho); clear HO_3; clear HB; clear HR244; clear HO240; have HO_3 := n0_; have HB := n1_; have HR244 := n2_; have HO247 := n3_; clear n0_ n1_ n2_ n3_; clear ho hb hg hat; have p248 : 0 ≤ (x4_1 : Int) := of_decide_eq_true (by assumption); have q248 : x4_1 < (l0.length : Int) := of_decide_eq_true (by assumption); obtain ⟨ad248, e248, hx248_0, hx248_1, hx248_2⟩ := at_T41 HR0.out x4_1 p248 q248; obtain rfl : ad231 = ad248 := (by injection e248); replace hx248_0 := (HB.out.cell (World.block_lt_of_cell? w _ hx248_0)).trans hx248_0; replace hx248_1 := (HB.out.cell (World.block_lt_of_cell? w _ hx248_1)).trans hx248_1; replace hx248_2 := (HB.out.cell (World.block_lt_of_cell? w _ hx248_2)).trans hx248_2; replace p248 := eq_true p248; replace q248 := eq_true q248) | ((with_reducible refine gate_builtin (b := .append) (xs := #[.tmp 57, .tmp 62]) rfl ?_); at_builtin; refine Kd.R_append k41 (w0 := w) w.heap.size rfl (.tmp 57) (.tmp 62) 24 41 (.agg #[(.int .i64 0), (.int .i64 0), (.bool false)]) 24 rfl Try.underlying24 info41 rfl (by decide) (by omega) v246 y245 (⟨(rd_T41 l0 x4_1).f0, (rd_T41 l0 x4_1).f1, (rd_T41 l0 x4_1).f2⟩ : S41) [.int .i64 ((rd_T41 l0 x4_1).f0), .int .i64 ((rd_T41 l0 x4_1).f1), .bool ((rd_T41 l0 x4_1).f2)] (fun k_ => some k_ ≠ (.slice Ao43 x3_1.length co43 : Value).ownBlock) (fun _ => False) rfl rfl ?aP (fun _ hk => hk.elim) ?aF ?aO ?aB ?aS ?aL ?_; (case aP => exact k41_mkM _ _ _ (⟨(rd_T41 l0 x4_1).f0, (rd_T41 l0 x4_1).f1, (rd_T41 l0 x4_1).f2⟩ : S41)); (case aB => exact (bX HB.out)); (case aF => exact (fun k_ hk => Kd.fresh' (Kd.R_lt (rX HO_3.out)) k_ hk)); (case aO => exact (rX HO247.out)); (case aS => exact (below_size (bX HB.out))); (case aL => have := LMc36.out; omega); intro v250 w45 ho hb hg hat; rw [← Ny249.out] at ho; have n0_ := Aside0.mk (Kd.R_after (ok := (fun _ => True)) (rX HO_3.out) hg hat); have n1_ := Aside0.mk (hb); have n2_ := Aside0.mk ((show Kd.C k41 w45 Ao43 y241.length y241 from by rw [Ny241.out]; exact Kd.C_take (m := (x5_2 : Int).toNat) ((Kd.R_reads' (Kd.R_after (ok := (fun _ => True)) (rX HO_3.out) hg hat)).2.2) KL42.out)); have n3_ := Aside0.mk (ho); clear HO_3; clear HB; clear HR244; clear HO247; have HO_3 := n0_; have HB := n1_; have HR244 := n2_; have HO251 := n3_; clear n0_ n1_ n2_ n3_; clear ho hb hg hat; have q46 : (x5_2 : Int) ≤ ((x3_1.length : Int) : Int) := of_decide_eq_true (by assumption); obtain ⟨i046, hi046, _, hsz46, _⟩ := info_parts info41; have hroom46 : x3_1.length ≤ co43 := (Kd.R_reads' HO_3.out).2.1; have hC46 : Kd.C k41 _ Ao43 x3_1.length x3_1 := (Kd.R_reads' HO_3.out).2.2; have q046 : (0 : Int) ≤ (x5_2 : Int) := of_decide_eq_true (by assumption); have hcut46 := cut_from (P := Try.prog) 24 41 .i64 Try.underlying24 hi046 3 hsz46 Ao43 x3_1.length co43 x5_2 q046 q46; have hr46 := Kd.C_drop (m := (x5_2 : Int).toNat) (c := co43) hC46 (by omega) hroom46; obtain ⟨A46, hA46⟩ : ∃ A1, A1 = (if co43 = (x5_2 : Int).toNat then Ao43 else (Ao43 : Option Addr).map (·.add ((x5_2 : Int).toNat * 3))) := ⟨_, rfl⟩; obtain ⟨c46, hc46⟩ : ∃ c1, c1 = co43 - (x5_2 : Int).toNat := ⟨_, rfl⟩; have hy46 : y252.length = x3_1.length - (x5_2 : Int).toNat := (by rw [Ny252.out, List.length_drop] <;> omega); rw [show (x3_1).drop (x5_2 : Int).toNat = y252 from Ny252.out.symm] at hr46; replace hr46 : Kd.C k41 _ A46 y252.length y252 := (by rw [hA46]; exact hr46); rw [← hy46, ← hA46, ← hc46] at hcut46; have HR255 := Aside0.mk hr46; have HC255 := Aside0.mk (show y252.length ≤ c46 from by rw [hy46, hc46]; exact Nat.sub_le_sub_right hroom46 _); clear hr46 hC46 hroom46 hi046 hsz46 hc46; have KY46 := Aside0.mk hy46; have KA46 := Aside0.mk hA46; clear hy46 hA46; have KL46 := Aside0.mk (show (x5_2 : Int).toNat ≤ x3_1.length from by omega); replace q46 := eq_true q46) | ((with_reducible refine gate_builtin (b := .append) (xs := #[.tmp 64, .tmp 67]) rfl ?_); at_builtin; refine Kd.R_append_rows k41 (w0 := w) w.heap.size rfl (.tmp 64) (.tmp 67) 24 41 (.agg #[(.int .i64 0), (.int .i64 0), (.bool false)]) 24 rfl Try.underlying24 info41 rfl (by decide) (by omega) v250 y249 y252 _ _ _ (fun k_ => some k_ ≠ (.slice Ao43 x3_1.length co43 : Value).ownBlock) (fun _ => False) rfl rfl ?aO ?aR (fun _ _ h => h) (fun _ h => h.elim) ?aF ?aB ?aS ?aL ?_; (case aR => repeat (first | exact (by repeat (first | (with_reducible exact HR255.out) | (with_reducible refine Kd.C_alloc ?_ _) | (with_reducible refine Kd.C_drewN ?_ _) | (with_reducible refine Kd.C_drew ?_) | exact HR255.out)) | (with_reducible refine Kd.C_alloc ?_ _) | (with_reducible refine Kd.C_drewN ?_ _) | (with_reducible refine Kd.C_drew ?_))); (case aB => exact (bX HB.out)); (case aF => exact (fun k_ hk => Kd.fresh' (Kd.R_lt (rX HO_3.out)) k_ hk)); (case aO => exact (rX HO251.out)); (case aS => exact (below_size (bX HB.out))); (case aL => have := LMc39.out; omega); intro v257 w47 ho hb hg hat; rw [← Ny256.out] at ho; have n0_ := Aside0.mk (Kd.R_after (ok := (fun _ => True)) (rX HO_3.out) hg hat); have n1_ := Aside0.mk (hb); have n2_ := Aside0.mk ((show Kd.C k41 w47 Ao43 y241.length y241 from by rw [Ny241.out]; exact Kd.C_take (m := (x5_2 : Int).toNat) ((Kd.R_reads' (Kd.R_after (ok := (fun _ => True)) (rX HO_3.out) hg hat)).2.2) KL42.out)); have n3_ := Aside0.mk ((show Kd.C k41 w47 A46 y252.length y252 from by rw [Ny252.out, KA46.out]; exact Kd.C_drop (m := (x5_2 : Int).toNat) (c := co43) ((Kd.R_reads' (Kd.R_after (ok := (fun _ => True)) (rX HO_3.out) hg hat)).2.2) KL46.out ((Kd.R_reads' (Kd.R_after (ok := (fun _ => True)) (rX HO_3.out) hg hat)).2.1))); have n4_ := Aside0.mk (ho); clear HO_3; clear HB; clear HR244; clear HR255; clear HO251; have HO_3 := n0_; have HB := n1_; have HR244 := n2_; have HR255 := n3_; have HO258 := n4_; clear n0_ n1_ n2_ n3_ n4_; clear ho hb hg hat))
                     go_roundg kj20
                     case measure => have := HK1.out; have := HK2.out; have := HJ8.out; have := HJ20.out; omega
                     case rel => exact ⟨(y256), (wrap64 (x4_1 + 1)), (by first | rfl | (simp; done) | (simp [*]; done)), H', ⟨by have := HK1.out; have := HK2.out; have := HJ8.out; have := HJ20.out; omega⟩, ⟨by (with_reducible repeat (first | apply Kd.R_alloc | apply Kd.R_drewN | apply Kd.R_drew)); exact Kd.R_mono HO258.out (fun _ hk => trivial)⟩, ⟨bX HB.out⟩⟩
                    ·rw [if_neg c39] at H
                     exact absurd H (by simp)
                   ·rw [if_neg c36] at H
                    exact absurd H (by simp)
                  ·rw [if_neg c35] at H
                   exact absurd H (by simp)
                 ·rw [if_neg c34] at H
                  exact absurd H (by simp)
                ·rw [if_neg c33] at H
                 exact absurd H (by simp)
               ·rw [if_neg c32] at H
                exact absurd H (by simp)
              ·rw [if_neg c31] at H
               exact absurd H (by simp)
     ·replace c7 := Bool.eq_false_iff.mpr c7
      subst c7
      have H1 : (spec_SortDominoes.l0 k1 l0 x3_1 (wrap64 (x4_1 + 1))) = some r := by rw [if_neg (show ¬ (false = true) by decide)] at H; exact H
      clear H
      have H := H1
      clear H1
      have H' := Aside0.mk H
      clear H
      have p231 : 0 ≤ (x4_1 : Int) := of_decide_eq_true (by assumption)
      have q231 : x4_1 < (l0.length : Int) := of_decide_eq_true (by assumption)
      obtain ⟨ad231, e231, hx231_0, hx231_1, hx231_2⟩ := at_T41 HR0.out x4_1 p231 q231
      cases e231
      replace hx231_0 := (HB.out.cell (World.block_lt_of_cell? w _ hx231_0)).trans hx231_0
      replace hx231_1 := (HB.out.cell (World.block_lt_of_cell? w _ hx231_1)).trans hx231_1
      replace hx231_2 := (HB.out.cell (World.block_lt_of_cell? w _ hx231_2)).trans hx231_2
      replace p231 := eq_true p231
      replace q231 := eq_true q231
      go_wp2_with (first | ((with_reducible refine gate_callee (f := 68) rfl ?_); refine goesL_ (some 18) rfl rfl Try.func68 (by kernel_rfl) rfl #[.agg #[.int .i64 ((rd_T41 l0 x4_1).f0), .int .i64 ((rd_T41 l0 x4_1).f1), .bool ((rd_T41 l0 x4_1).f2)]] rfl (by (try simp only [sD, sE, sF]); first | done | rfl) ?_; (with_reducible refine (spec_DominoOk.calls ((rd_T41 l0 x4_1).f0) ((rd_T41 l0 x4_1).f1) ((rd_T41 l0 x4_1).f2) false _ A6.out).mono ?_); rintro e w48 ⟨rfl, hb⟩; refine ⟨_, rfl, ?_⟩; have n0_ := Aside0.mk (Kd.R_below (rX HO_3.out) hb); have n1_ := Aside0.mk (below_step (bX HB.out) hb); clear HO_3; clear HB; have HO_3 := n0_; have HB := n1_; clear n0_ n1_; (try clear hb); (try clear hb2); (try clear hk); (try clear hi)))
      go_roundg k1
      case measure => have := HK1.out; omega
      case rel => exact ⟨(x3_1), (wrap64 (x4_1 + 1)), (by first | rfl | (simp; done) | (simp [*]; done)), H', ⟨by have := HK1.out; omega⟩, ⟨rX HO_3.out⟩, ⟨bX HB.out⟩⟩
    ·rw [if_neg c5] at H
     exact absurd H (by simp)
   ·rw [if_neg c4] at H
    have c4b0 : decide (x4_1 < (l0.length : Int)) = false := decide_eq_false c4
    clear c4
    obtain rfl := Option.some.inj H
    go_wp2
    go_ret
    exact ⟨_, by first | rfl | (simp [*, errW_none, errW_some] <;> rfl), rX HO_3.out, bX HB.out⟩
end Go.Proofs.Ytnfnlmilmpaofaa.PFnExactTilingOfTree
namespace Go.Proofs.Ytnfnlmilmpaofaa.PFnExactTilingOfTree
open Go.RowKit Go.Proofs.YtnfnlmilmpaofaaW.PrintWords Go.Proofs.YtnfnlmilmpaofaaW.PrintLast Go.Proofs.YtnfnlmilmpaofaaW.PrintMore
attribute [local go_sem] max2_int min2_int max_two min_two max_three min_three max_four min_four   -- for this text's walks alone
set_option linter.unusedVariables false
set_option linter.unusedSimpArgs false
def spec_GridOk.f (a0 : Int) (a1 : Int) : Option (Bool) := (spec_l01In.f a0 1 4).bind fun t259 => (if t259 = true then ((spec_l01In.f a1 1 4).bind fun t260 => (some t260)) else (some false))
set_option maxHeartbeats 8000000 in
set_option maxRecDepth 100000 in
theorem spec_GridOk.calls (a0 : Int) (a1 : Int) (r : Bool) (w : World) (h : spec_GridOk.f a0 a1 = some r) :
  Calls Try.prog 87 #[.int .i64 a0, .int .i64 a1] w fun e w' => e = .returned (.bool r) ∧ Drawn0 w w' := by
 have H : ((spec_l01In.f a0 1 4).bind fun t259 => (if t259 = true then ((spec_l01In.f a1 1 4).bind fun t260 => (some t260)) else (some false))) = some r := h
 clear h
 replace H := Option.bind_eq_some_iff.mp H
 obtain ⟨t259, A30, H⟩ := H
 replace H : (if t259 = true then ((spec_l01In.f a1 1 4).bind fun t260 => (some t260)) else (some false)) = some r := H
 have A3 := Aside0.mk A30
 clear A30
 by_cases c4 : t259 = true
 ·subst c4
  have H1 : ((spec_l01In.f a1 1 4).bind fun t260 => (some t260)) = some r := by rw [if_pos rfl] at H; exact H
  clear H
  have H := H1
  clear H1
  replace H := Option.bind_eq_some_iff.mp H
  obtain ⟨t260, A50, H⟩ := H
  replace H : (some t260) = some r := H
  have A5 := Aside0.mk A50
  clear A50
  obtain rfl := Option.some.inj H
  go_enter Try.func87, Try.ntmps87
  go_wp2_with (first | ((with_reducible refine gate_callee (f := 103) rfl ?_); refine goesL_ (some 6) rfl rfl Try.func103 (by kernel_rfl) rfl #[.int .i64 a0, .int .i64 1, .int .i64 4] rfl (by (try simp only [sD, sE, sF]); first | done | rfl) ?_; (with_reducible refine (spec_l01In.calls a0 1 4 true _ A3.out).mono ?_); rintro e w' ⟨rfl, ⟨nd, rfl⟩⟩; refine ⟨_, rfl, ?_⟩) | (go_at_call 103; (with_reducible refine (spec_l01In.calls a1 1 4 t260 _ A5.out).mono ?_); rintro e w' ⟨rfl, ⟨nd, rfl⟩⟩))
  go_ret
  exact ⟨by first | rfl | (simp; done) | (simp [*]; done), by repeat (first | exact Drawn0.refl _ | apply Drawn0.step)⟩
 ·replace c4 := Bool.eq_false_iff.mpr c4
  subst c4
  have H1 : (some false) = some r := by rw [if_neg (show ¬ (false = true) by decide)] at H; exact H
  clear H
  have H := H1
  clear H1
  obtain rfl := Option.some.inj H
  go_enter Try.func87, Try.ntmps87
  go_wp2_with (first | ((with_reducible refine gate_callee (f := 103) rfl ?_); refine goesL_ (some 6) rfl rfl Try.func103 (by kernel_rfl) rfl #[.int .i64 a0, .int .i64 1, .int .i64 4] rfl (by (try simp only [sD, sE, sF]); first | done | rfl) ?_; (with_reducible refine (spec_l01In.calls a0 1 4 false _ A3.out).mono ?_); rintro e w' ⟨rfl, ⟨nd, rfl⟩⟩; refine ⟨_, rfl, ?_⟩))
  go_ret
  exact ⟨by first | rfl | (simp; done) | (simp [*]; done), by repeat (first | exact Drawn0.refl _ | apply Drawn0.step)⟩
mutual
def spec_LinksOf.l0 : Nat → Int → Int → List (S50) → Int → Option ((List (S50)))
 | 0, _, _, _, _ => none
 | k + 1, x0, x1, x5, x6 => (spec_GridOk.f x0 x1).bind fun t264 => (if t264 = true then (spec_LinksOf.j1 k x0 x1 x5 x6 (decide (x6 < (wrap64 (x0 * x1))))) else (spec_LinksOf.j1 k x0 x1 x5 x6 false))
def spec_LinksOf.j1 : Nat → Int → Int → List (S50) → Int → Bool → Option ((List (S50)))
 | 0, _, _, _, _, _ => none
 | k + 1, x0, x1, x5, x6, x19 => if x19 = true then (if x0 = 0 then (none) else (if (wrap64 ((Int.tmod x6 x0) + 1)) < x0 then (if x5.length < 5864062014805 then (spec_LinksOf.j2 k x0 x1 (x5 ++ [(⟨Int.tmod x6 x0, wrap64 (Int.tdiv x6 x0), false⟩ : S50)]) x6 (Int.tmod x6 x0) (wrap64 (Int.tdiv x6 x0))) else (none)) else (spec_LinksOf.j2 k x0 x1 x5 x6 (Int.tmod x6 x0) (wrap64 (Int.tdiv x6 x0))))) else (some x5)
def spec_LinksOf.j2 : Nat → Int → Int → List (S50) → Int → Int → Int → Option ((List (S50)))
 | 0, _, _, _, _, _, _ => none
 | k + 1, x0, x1, x5, x6, x7, x8 => if (wrap64 (x8 + 1)) < x1 then (if x5.length < 5864062014805 then (spec_LinksOf.l0 k x0 x1 (x5 ++ [(⟨x7, x8, true⟩ : S50)]) (wrap64 (x6 + 1))) else (none)) else (spec_LinksOf.l0 k x0 x1 x5 (wrap64 (x6 + 1)))
end
def spec_LinksOf.f (k : Nat) (a0 : Int) (a1 : Int) : Option ((List (S50))) := spec_LinksOf.l0 k a0 a1 (([] : List (S50))) 0
theorem spec_LinksOf.mono_l : ∀ k, (∀ y0 y1 y2 y3, LeO (spec_LinksOf.l0 k y0 y1 y2 y3) (spec_LinksOf.l0 (k + 1) y0 y1 y2 y3)) ∧ (∀ y0 y1 y2 y3 y4, LeO (spec_LinksOf.j1 k y0 y1 y2 y3 y4) (spec_LinksOf.j1 (k + 1) y0 y1 y2 y3 y4)) ∧ (∀ y0 y1 y2 y3 y4 y5, LeO (spec_LinksOf.j2 k y0 y1 y2 y3 y4 y5) (spec_LinksOf.j2 (k + 1) y0 y1 y2 y3 y4 y5))
 | 0 => ⟨fun _ _ _ _ r h => by simp [spec_LinksOf.l0] at h, fun _ _ _ _ _ r h => by simp [spec_LinksOf.j1] at h, fun _ _ _ _ _ _ r h => by simp [spec_LinksOf.j2] at h⟩
 | k + 1 => by
  obtain ⟨ih0, ih1, ih2⟩ := spec_LinksOf.mono_l k
  refine ⟨?_, ?_, ?_⟩
  ·intro y0 y1 y2 y3
   unfold spec_LinksOf.l0
   repeat' with_reducible first
   | exact ih0 _ _ _ _
   | exact ih1 _ _ _ _ _
   | exact ih2 _ _ _ _ _ _
   | exact LeO.refl _
   | exact LeO.none _
   | refine LeO.ite ?_ ?_
   | refine LeO.bind ?_ (fun _ => ?_)
  ·intro y0 y1 y2 y3 y4
   unfold spec_LinksOf.j1
   repeat' with_reducible first
   | exact ih0 _ _ _ _
   | exact ih1 _ _ _ _ _
   | exact ih2 _ _ _ _ _ _
   | exact LeO.refl _
   | exact LeO.none _
   | refine LeO.ite ?_ ?_
   | refine LeO.bind ?_ (fun _ => ?_)
  ·intro y0 y1 y2 y3 y4 y5
   unfold spec_LinksOf.j2
   repeat' with_reducible first
   | exact ih0 _ _ _ _
   | exact ih1 _ _ _ _ _
   | exact ih2 _ _ _ _ _ _
   | exact LeO.refl _
   | exact LeO.none _
   | refine LeO.ite ?_ ?_
   | refine LeO.bind ?_ (fun _ => ?_)
theorem spec_LinksOf.mono : ∀ a0 a1 k, LeO (spec_LinksOf.f k a0 a1) (spec_LinksOf.f (k + 1) a0 a1) := by
 intro a0 a1 k
 obtain ⟨ih0, ih1, ih2⟩ := spec_LinksOf.mono_l k
 unfold spec_LinksOf.f
 repeat' first
   | (with_reducible exact ih0 _ _ _ _)
   | (with_reducible exact ih1 _ _ _ _ _)
   | (with_reducible exact ih2 _ _ _ _ _ _)
   | (with_reducible exact LeO.refl _)
   | (with_reducible exact LeO.none _)
   | (with_reducible refine LeO.ite ?_ ?_)
   | (with_reducible refine LeO.bind ?_ (fun _ => ?_))
   | exact ih0 _ _ _ _
   | exact ih1 _ _ _ _ _
   | exact ih2 _ _ _ _ _ _
   | exact LeO.none _
   | refine LeO.ite ?_ ?_
   | refine LeO.bind ?_ (fun _ => ?_)
set_option maxHeartbeats 8000000 in
set_option maxRecDepth 100000 in
theorem spec_LinksOf.calls (k : Nat) (a0 : Int) (a1 : Int) (r : List (S50)) (w : World) (h : spec_LinksOf.f k a0 a1 = some r) :
  Calls Try.prog 88 #[.int .i64 a0, .int .i64 a1] w fun e w' => ∃ v0_ : Value, e = .returned (v0_) ∧ Kd.R k50 50 w' w.heap.size (fun _ => True) v0_ r ∧ Below w.heap.size w w' := by
 have hu50 := Try.underlying50
 have HB := Aside0.mk (Below.refl w.heap.size w)
 have H : (spec_LinksOf.l0 k a0 a1 (([] : List (S50))) 0) = some r := h
 clear h
 obtain ⟨y261, hy261⟩ : ∃ y_ : List (S50), y_ = (([] : List (S50))) := ⟨_, rfl⟩
 replace H : (spec_LinksOf.l0 k a0 a1 y261 0) = some r := by first | (rw [hy261]; with_reducible exact H) | (have H2_ := (Option.bind_some _ _).symm.trans H; rw [hy261]; with_reducible exact H2_) | (have H2_ := (Option.bind_some _ _).symm.trans H; with_reducible exact H2_) | with_reducible exact H | (rw [hy261]; exact H) | exact H
 have Ny261 := Aside0.mk hy261
 clear hy261
 have H' := Aside0.mk H
 clear H
 go_enter Try.func88, Try.ntmps88
 go_wp2_with (first | ((with_reducible refine gate_dst (N := 9) rfl ?_); refine Kd.R_lit k50 _ 50 ?hg (N := 9) ?hd (xs := ([] : List (S50))) (inner := []) (ok := fun _ => True) (okp := fun _ => True) ?hr ?hp (fun _ hk => hk) trivial (Below.refl _ _) (Nat.le_refl _) (by simp) ?_; (case hd => rfl); (case hg => rfl); (case hr => first | (go_simp; done) | (go_simp; rfl)); (case hp => exact (Reps.none _ _)); intro v262 w3 ho4 hb hg_ hnew_; clear hg_ hnew_; (first | rw [← Ny261.out] at ho4 | (simp only [Int.reduceToNat] at ho4; rw [← Ny261.out] at ho4)); have n0_ := Aside0.mk (Kd.R_lower ho4 (below_size (bX HB.out))); have n1_ := Aside0.mk (below_step (bX HB.out) hb); clear HB; have HO263 := n0_; have HB := n1_; clear n0_ n1_; clear hb ho4))
 go_loopg [5, 6] k (fun kq v5 v6 w' => ∃ (x5_1 : List (S50)) (x6_1 : Int), v6 = .int .i64 x6_1 ∧ Aside0 (spec_LinksOf.l0 kq a0 a1 x5_1 x6_1 = some r) ∧ Aside0 (kq ≤ k) ∧ Aside0 (Kd.R k50 50 w' w.heap.size (fun _ => True) v5 x5_1) ∧ Aside0 (Below w.heap.size w w'))
 case atStart => exact ⟨(y261), (0), (by first | rfl | (simp; done) | (simp [*]; done)), H', ⟨Nat.le_refl _⟩, ⟨rX HO263.out⟩, ⟨bX HB.out⟩⟩
 case round =>
  clear H'
  try clear p2
  obtain ⟨x5_1, x6_1, rfl, HA, HK1, HO_5, HB⟩ := hrel
  cases gk with
  | zero => exact absurd HA.out (by simp [spec_LinksOf.l0])
  | succ k1 =>
   have H := HA.out
   clear HA
   simp only [spec_LinksOf.l0] at H
   have HC5 := Aside0.mk H
   clear H
   go_upto_region 3 with (fail)
   go_cut [19] (fun v19 wc => ∃ (kq : Nat) (x19_4 : Bool), v19 = .bool x19_4 ∧ Aside0 (spec_LinksOf.j1 kq a0 a1 x5_1 x6_1 x19_4 = some r) ∧ Aside0 (kq ≤ k1) ∧ Aside0 (Kd.R k50 50 wc w.heap.size (fun _ => True) u5 x5_1) ∧ Aside0 (Below w.heap.size w wc))
   case first =>
    have H := HC5.out
    clear HC5
    replace H := Option.bind_eq_some_iff.mp H
    obtain ⟨t264, A60, H⟩ := H
    replace H : (if t264 = true then (spec_LinksOf.j1 k1 a0 a1 x5_1 x6_1 (decide (x6_1 < (wrap64 (a0 * a1))))) else (spec_LinksOf.j1 k1 a0 a1 x5_1 x6_1 false)) = some r := H
    have A6 := Aside0.mk A60
    clear A60
    by_cases c7 : t264 = true
    ·subst c7
     have H1 : (spec_LinksOf.j1 k1 a0 a1 x5_1 x6_1 (decide (x6_1 < (wrap64 (a0 * a1))))) = some r := by rw [if_pos rfl] at H; exact H
     clear H
     have H := H1
     clear H1
     have H' := Aside0.mk H
     clear H
     go_wp2_with (first | ((with_reducible refine gate_callee (f := 87) rfl ?_); refine goesL_ (some 12) rfl rfl Try.func87 (by kernel_rfl) rfl #[.int .i64 a0, .int .i64 a1] rfl (by (try simp only [sD, sE, sF]); first | done | rfl) ?_; (with_reducible refine (spec_GridOk.calls a0 a1 true _ A6.out).mono ?_); rintro e w' ⟨rfl, ⟨nd, rfl⟩⟩; refine ⟨_, rfl, ?_⟩))
     go_meet
     case rel => exact ⟨_, (decide (x6_1 < (wrap64 (a0 * a1)))), (by first | rfl | (simp; done) | (simp [*]; done)), H', ⟨by have := HK1.out; first | omega | exact Nat.le_refl _⟩, ⟨rX HO_5.out⟩, ⟨bX HB.out⟩⟩
    ·replace c7 := Bool.eq_false_iff.mpr c7
     subst c7
     have H1 : (spec_LinksOf.j1 k1 a0 a1 x5_1 x6_1 false) = some r := by rw [if_neg (show ¬ (false = true) by decide)] at H; exact H
     clear H
     have H := H1
     clear H1
     have H' := Aside0.mk H
     clear H
     go_wp2_with (first | ((with_reducible refine gate_callee (f := 87) rfl ?_); refine goesL_ (some 12) rfl rfl Try.func87 (by kernel_rfl) rfl #[.int .i64 a0, .int .i64 a1] rfl (by (try simp only [sD, sE, sF]); first | done | rfl) ?_; (with_reducible refine (spec_GridOk.calls a0 a1 false _ A6.out).mono ?_); rintro e w' ⟨rfl, ⟨nd, rfl⟩⟩; refine ⟨_, rfl, ?_⟩))
     go_meet
     case rel => exact ⟨_, (false), (by first | rfl | (simp; done) | (simp [*]; done)), H', ⟨by have := HK1.out; first | omega | exact Nat.le_refl _⟩, ⟨rX HO_5.out⟩, ⟨bX HB.out⟩⟩
   case rest =>
    clear HC5
    try clear p2
    try clear p6
    try clear c7
    try clear p2
    obtain ⟨kq, x19_4, rfl, HA, HJ4, HO_5, HB⟩ := hcut
    cases kq with
    | zero => exact absurd HA.out (by simp [spec_LinksOf.j1])
    | succ kj4 =>
     have H := HA.out
     clear HA
     simp only [spec_LinksOf.j1] at H
     by_cases c8 : x19_4 = true
     ·subst c8
      have H1 : (if a0 = 0 then (none) else (if (wrap64 ((Int.tmod x6_1 a0) + 1)) < a0 then (if x5_1.length < 5864062014805 then (spec_LinksOf.j2 kj4 a0 a1 (x5_1 ++ [(⟨Int.tmod x6_1 a0, wrap64 (Int.tdiv x6_1 a0), false⟩ : S50)]) x6_1 (Int.tmod x6_1 a0) (wrap64 (Int.tdiv x6_1 a0))) else (none)) else (spec_LinksOf.j2 kj4 a0 a1 x5_1 x6_1 (Int.tmod x6_1 a0) (wrap64 (Int.tdiv x6_1 a0))))) = some r := by rw [if_pos rfl] at H; exact H
      clear H
      have H := H1
      clear H1
      by_cases c9 : a0 = 0
      ·rw [if_pos c9] at H
       exact absurd H (by simp)
      ·rw [if_neg c9] at H
       have c9b0 : (a0 == 0) = false := beq_eq_false_iff_ne.mpr c9
       have c9b1 : (a0 != 0) = true := bne_iff_ne.mpr c9
       have HC10 := Aside0.mk H
       clear H
       go_upto_if 31 with (fail)
       go_cut [5] (fun v5 wc => ∃ (kq : Nat) (x5_9 : List (S50)), Aside0 (spec_LinksOf.j2 kq a0 a1 x5_9 x6_1 (Int.tmod x6_1 a0) (wrap64 (Int.tdiv x6_1 a0)) = some r) ∧ Aside0 (kq ≤ kj4) ∧ Aside0 (Kd.R k50 50 wc w.heap.size (fun _ => True) v5 x5_9) ∧ Aside0 (Below w.heap.size w wc))
       case first =>
        have H := HC10.out
        clear HC10
        by_cases c11 : (wrap64 ((Int.tmod x6_1 a0) + 1)) < a0
        ·rw [if_pos c11] at H
         have c11b0 : decide ((wrap64 ((Int.tmod x6_1 a0) + 1)) < a0) = true := decide_eq_true c11
         clear c11
         (first | rw [c11b0] | (simp only [i64_w, i32_w]; rw [c11b0]) | skip)
         by_cases c12 : x5_1.length < 5864062014805
         ·rw [if_pos c12] at H
          have LMc12 := Aside0.mk c12
          clear c12
          obtain ⟨y265, hy265⟩ : ∃ y_ : List (S50), y_ = (x5_1 ++ [(⟨Int.tmod x6_1 a0, wrap64 (Int.tdiv x6_1 a0), false⟩ : S50)]) := ⟨_, rfl⟩
          replace H : (spec_LinksOf.j2 kj4 a0 a1 y265 x6_1 (Int.tmod x6_1 a0) (wrap64 (Int.tdiv x6_1 a0))) = some r := by first | (rw [hy265]; with_reducible exact H) | (have H2_ := (Option.bind_some _ _).symm.trans H; rw [hy265]; with_reducible exact H2_) | (have H2_ := (Option.bind_some _ _).symm.trans H; with_reducible exact H2_) | with_reducible exact H | (rw [hy265]; exact H) | exact H
          have Ny265 := Aside0.mk hy265
          clear hy265
          have H' := Aside0.mk H
          clear H
          go_wp2_with (first | ((with_reducible refine gate_builtin (b := .append) (xs := #[.tmp 32, .tmp 36]) rfl ?_); at_builtin; refine Kd.R_append k50 (w0 := w) w.heap.size rfl (.tmp 32) (.tmp 36) 44 50 (.agg #[(.int .i64 0), (.int .i64 0), (.bool false)]) 24 rfl Try.underlying44 info50 rfl (by decide) (by omega) u5 x5_1 (⟨Int.tmod x6_1 a0, wrap64 (Int.tdiv x6_1 a0), false⟩ : S50) [.int .i64 (Int.tmod x6_1 a0), .int .i64 (wrap64 (Int.tdiv x6_1 a0)), .bool false] (fun _ => True) (fun _ => False) rfl rfl ?aP (fun _ hk => hk.elim) ?aF ?aO ?aB ?aS ?aL ?_; (case aP => exact k50_mkM _ _ _ (⟨Int.tmod x6_1 a0, wrap64 (Int.tdiv x6_1 a0), false⟩ : S50)); (case aB => exact (bX HB.out)); (case aF => exact (fun _ _ => trivial)); (case aO => exact (rX HO_5.out)); (case aS => exact (below_size (bX HB.out))); (case aL => have := LMc12.out; omega); intro v266 w13 ho hb hg hat; rw [← Ny265.out] at ho; have n0_ := Aside0.mk (hb); have n1_ := Aside0.mk (ho); clear HB; clear HO_5; have HB := n0_; have HO267 := n1_; clear n0_ n1_; clear ho hb hg hat))
          go_meet
          case rel => exact ⟨_, (y265), H', ⟨by have := HK1.out; have := HJ4.out; first | omega | exact Nat.le_refl _⟩, ⟨rX HO267.out⟩, ⟨bX HB.out⟩⟩
         ·rw [if_neg c12] at H
          exact absurd H (by simp)
        ·rw [if_neg c11] at H
         have c11b0 : decide ((wrap64 ((Int.tmod x6_1 a0) + 1)) < a0) = false := decide_eq_false c11
         clear c11
         (first | rw [c11b0] | (simp only [i64_w, i32_w]; rw [c11b0]) | skip)
         have H' := Aside0.mk H
         clear H
         go_wp2
         go_meet
         case rel => exact ⟨_, (x5_1), H', ⟨by have := HK1.out; have := HJ4.out; first | omega | exact Nat.le_refl _⟩, ⟨rX HO_5.out⟩, ⟨bX HB.out⟩⟩
       case rest =>
        clear HC10
        try clear c1
        try clear p2
        try clear p6
        try clear c7
        try clear c8
        try clear c9
        try clear c9b0
        try clear c9b1
        try clear c11
        try clear c11b0
        try clear c12
        try clear p2
        try clear p6
        obtain ⟨kq, x5_9, HA, HJ9, HO_5, HB⟩ := hcut
        cases kq with
        | zero => exact absurd HA.out (by simp [spec_LinksOf.j2])
        | succ kj9 =>
         have H := HA.out
         clear HA
         simp only [spec_LinksOf.j2] at H
         by_cases c14 : (wrap64 ((wrap64 (Int.tdiv x6_1 a0)) + 1)) < a1
         ·rw [if_pos c14] at H
          have c14b0 : decide ((wrap64 ((wrap64 (Int.tdiv x6_1 a0)) + 1)) < a1) = true := decide_eq_true c14
          clear c14
          by_cases c15 : x5_9.length < 5864062014805
          ·rw [if_pos c15] at H
           have LMc15 := Aside0.mk c15
           clear c15
           obtain ⟨y268, hy268⟩ : ∃ y_ : List (S50), y_ = (x5_9 ++ [(⟨(Int.tmod x6_1 a0), (wrap64 (Int.tdiv x6_1 a0)), true⟩ : S50)]) := ⟨_, rfl⟩
           replace H : (spec_LinksOf.l0 kj9 a0 a1 y268 (wrap64 (x6_1 + 1))) = some r := by first | (rw [hy268]; with_reducible exact H) | (have H2_ := (Option.bind_some _ _).symm.trans H; rw [hy268]; with_reducible exact H2_) | (have H2_ := (Option.bind_some _ _).symm.trans H; with_reducible exact H2_) | with_reducible exact H | (rw [hy268]; exact H) | exact H
           have Ny268 := Aside0.mk hy268
           clear hy268
           have H' := Aside0.mk H
           clear H
           go_wp2_with (first | ((with_reducible refine gate_builtin (b := .append) (xs := #[.tmp 42, .tmp 46]) rfl ?_); at_builtin; refine Kd.R_append k50 (w0 := w) w.heap.size rfl (.tmp 42) (.tmp 46) 44 50 (.agg #[(.int .i64 0), (.int .i64 0), (.bool false)]) 24 rfl Try.underlying44 info50 rfl (by decide) (by omega) u5 x5_9 (⟨(Int.tmod x6_1 a0), (wrap64 (Int.tdiv x6_1 a0)), true⟩ : S50) [.int .i64 (Int.tmod x6_1 a0), .int .i64 (wrap64 (Int.tdiv x6_1 a0)), .bool true] (fun _ => True) (fun _ => False) rfl rfl ?aP (fun _ hk => hk.elim) ?aF ?aO ?aB ?aS ?aL ?_; (case aP => exact k50_mkM _ _ _ (⟨(Int.tmod x6_1 a0), (wrap64 (Int.tdiv x6_1 a0)), true⟩ : S50)); (case aB => exact (bX HB.out)); (case aF => exact (fun _ _ => trivial)); (case aO => exact (rX HO_5.out)); (case aS => exact (below_size (bX HB.out))); (case aL => have := LMc15.out; omega); intro v269 w16 ho hb hg hat; rw [← Ny268.out] at ho; have n0_ := Aside0.mk (hb); have n1_ := Aside0.mk (ho); clear HB; clear HO_5; have HB := n0_; have HO270 := n1_; clear n0_ n1_; clear ho hb hg hat))
           go_roundg kj9
           case measure => have := HK1.out; have := HJ4.out; have := HJ9.out; omega
           case rel => exact ⟨(y268), (wrap64 (x6_1 + 1)), (by first | rfl | (simp; done) | (simp [*]; done)), H', ⟨by have := HK1.out; have := HJ4.out; have := HJ9.out; omega⟩, ⟨rX HO270.out⟩, ⟨bX HB.out⟩⟩
          ·rw [if_neg c15] at H
           exact absurd H (by simp)
         ·rw [if_neg c14] at H
          have c14b0 : decide ((wrap64 ((wrap64 (Int.tdiv x6_1 a0)) + 1)) < a1) = false := decide_eq_false c14
          clear c14
          have H' := Aside0.mk H
          clear H
          go_wp2
          go_roundg kj9
          case measure => have := HK1.out; have := HJ4.out; have := HJ9.out; omega
          case rel => exact ⟨(x5_9), (wrap64 (x6_1 + 1)), (by first | rfl | (simp; done) | (simp [*]; done)), H', ⟨by have := HK1.out; have := HJ4.out; have := HJ9.out; omega⟩, ⟨rX HO_5.out⟩, ⟨bX HB.out⟩⟩
     ·replace c8 := Bool.eq_false_iff.mpr c8
      subst c8
      have H1 : (some x5_1) = some r := by rw [if_neg (show ¬ (false = true) by decide)] at H; exact H
      clear H
      have H := H1
      clear H1
      obtain rfl := Option.some.inj H
      go_wp2
      go_ret
      exact ⟨_, by first | rfl | (simp [*, errW_none, errW_some] <;> rfl), rX HO_5.out, bX HB.out⟩
def spec_l23Groups.l0 : Nat → Int → List Int → Int → Option (List Int)
 | 0, _, _, _ => none
 | k + 1, x0, x3, x4 => if x4 < x0 then (if x3.length < 17592186044416 then (spec_l23Groups.l0 k x0 (x3 ++ [x4]) (wrap64 (x4 + 1))) else (none)) else (some x3)
def spec_l23Groups.f (k : Nat) (a0 : Int) : Option (List Int) := spec_l23Groups.l0 k a0 (([] : List Int)) 0
theorem spec_l23Groups.mono_l : ∀ k, (∀ y0 y1 y2, LeO (spec_l23Groups.l0 k y0 y1 y2) (spec_l23Groups.l0 (k + 1) y0 y1 y2))
 | 0 => fun _ _ _ r h => by simp [spec_l23Groups.l0] at h
 | k + 1 => by
  have ih0 := spec_l23Groups.mono_l k
  ·intro y0 y1 y2
   unfold spec_l23Groups.l0
   repeat' with_reducible first
   | exact ih0 _ _ _
   | exact LeO.refl _
   | exact LeO.none _
   | refine LeO.ite ?_ ?_
   | refine LeO.bind ?_ (fun _ => ?_)
theorem spec_l23Groups.mono : ∀ a0 k, LeO (spec_l23Groups.f k a0) (spec_l23Groups.f (k + 1) a0) := by
 intro a0 k
 have ih0 := spec_l23Groups.mono_l k
 unfold spec_l23Groups.f
 repeat' first
   | (with_reducible exact ih0 _ _ _)
   | (with_reducible exact LeO.refl _)
   | (with_reducible exact LeO.none _)
   | (with_reducible refine LeO.ite ?_ ?_)
   | (with_reducible refine LeO.bind ?_ (fun _ => ?_))
   | exact ih0 _ _ _
   | exact LeO.none _
   | refine LeO.ite ?_ ?_
   | refine LeO.bind ?_ (fun _ => ?_)
set_option maxHeartbeats 8000000 in
set_option maxRecDepth 100000 in
theorem spec_l23Groups.calls (k : Nat) (a0 : Int) (r : List Int) (w : World) (h : spec_l23Groups.f k a0 = some r) :
  Calls Try.prog 89 #[.int .i64 a0] w fun e w' => ∃ v0_ : Value, e = .returned (v0_) ∧ Kd.R (Kd.int .i64) 3 w' w.heap.size (fun _ => True) v0_ r ∧ Below w.heap.size w w' := by
 have HB := Aside0.mk (Below.refl w.heap.size w)
 have H : (spec_l23Groups.l0 k a0 (([] : List Int)) 0) = some r := h
 clear h
 obtain ⟨y271, hy271⟩ : ∃ y_ : List Int, y_ = (([] : List Int)) := ⟨_, rfl⟩
 replace H : (spec_l23Groups.l0 k a0 y271 0) = some r := by first | (rw [hy271]; with_reducible exact H) | (have H2_ := (Option.bind_some _ _).symm.trans H; rw [hy271]; with_reducible exact H2_) | (have H2_ := (Option.bind_some _ _).symm.trans H; with_reducible exact H2_) | with_reducible exact H | (rw [hy271]; exact H) | exact H
 have Ny271 := Aside0.mk hy271
 clear hy271
 have H' := Aside0.mk H
 clear H
 go_enter Try.func89, Try.ntmps89
 go_wp2_with (first | ((with_reducible refine gate_dst (N := 5) rfl ?_); refine Kd.R_lit (Kd.int .i64) _ 3 ?hg (N := 5) ?hd (xs := ([] : List Int)) (inner := []) (ok := fun _ => True) (okp := fun _ => True) ?hr ?hp (fun _ hk => hk) trivial (Below.refl _ _) (Nat.le_refl _) (by simp) ?_; (case hd => rfl); (case hg => rfl); (case hr => first | (go_simp; done) | (go_simp; rfl)); (case hp => exact (Reps.none _ _)); intro v272 w2 ho3 hb hg_ hnew_; clear hg_ hnew_; (first | rw [← Ny271.out] at ho3 | (simp only [Int.reduceToNat] at ho3; rw [← Ny271.out] at ho3)); have n0_ := Aside0.mk (Kd.R_lower ho3 (below_size (bX HB.out))); have n1_ := Aside0.mk (below_step (bX HB.out) hb); clear HB; have HO273 := n0_; have HB := n1_; clear n0_ n1_; clear hb ho3))
 go_loopg [3, 4] k (fun kq v3 v4 w' => ∃ (x3_1 : List Int) (x4_1 : Int), v4 = .int .i64 x4_1 ∧ Aside0 (spec_l23Groups.l0 kq a0 x3_1 x4_1 = some r) ∧ Aside0 (kq ≤ k) ∧ Aside0 (Kd.R (Kd.int .i64) 3 w' w.heap.size (fun _ => True) v3 x3_1) ∧ Aside0 (Below w.heap.size w w'))
 case atStart => exact ⟨(y271), (0), (by first | rfl | (simp; done) | (simp [*]; done)), H', ⟨Nat.le_refl _⟩, ⟨rX HO273.out⟩, ⟨bX HB.out⟩⟩
 case round =>
  clear H'
  try clear p2
  obtain ⟨x3_1, x4_1, rfl, HA, HK1, HO_3, HB⟩ := hrel
  cases gk with
  | zero => exact absurd HA.out (by simp [spec_l23Groups.l0])
  | succ k1 =>
   have H := HA.out
   clear HA
   simp only [spec_l23Groups.l0] at H
   by_cases c4 : x4_1 < a0
   ·rw [if_pos c4] at H
    have c4b0 : decide (x4_1 < a0) = true := decide_eq_true c4
    clear c4
    by_cases c5 : x3_1.length < 17592186044416
    ·rw [if_pos c5] at H
     have LMc5 := Aside0.mk c5
     clear c5
     obtain ⟨y274, hy274⟩ : ∃ y_ : List Int, y_ = (x3_1 ++ [x4_1]) := ⟨_, rfl⟩
     replace H : (spec_l23Groups.l0 k1 a0 y274 (wrap64 (x4_1 + 1))) = some r := by first | (rw [hy274]; with_reducible exact H) | (have H2_ := (Option.bind_some _ _).symm.trans H; rw [hy274]; with_reducible exact H2_) | (have H2_ := (Option.bind_some _ _).symm.trans H; with_reducible exact H2_) | with_reducible exact H | (rw [hy274]; exact H) | exact H
     have Ny274 := Aside0.mk hy274
     clear hy274
     have H' := Aside0.mk H
     clear H
     go_wp2_with (first | ((with_reducible refine gate_builtin (b := .append) (xs := #[.tmp 11, .tmp 13]) rfl ?_); at_builtin; refine Kd.R_append (Kd.int .i64) (w0 := w) w.heap.size rfl (.tmp 11) (.tmp 13) 31 3 (.int .i64 0) 8 rfl Try.underlying31 info3 rfl (by decide) (by omega) u3 x3_1 x4_1 [.int .i64 x4_1] (fun _ => True) (fun _ => False) rfl rfl ?aP (fun _ hk => hk.elim) ?aF ?aO ?aB ?aS ?aL ?_; (case aP => exact rfl); (case aB => exact (bX HB.out)); (case aF => exact (fun _ _ => trivial)); (case aO => exact (rX HO_3.out)); (case aS => exact (below_size (bX HB.out))); (case aL => have := LMc5.out; omega); intro v275 w6 ho hb hg hat; rw [← Ny274.out] at ho; have n0_ := Aside0.mk (hb); have n1_ := Aside0.mk (ho); clear HB; clear HO_3; have HB := n0_; have HO276 := n1_; clear n0_ n1_; clear ho hb hg hat))
     go_roundg k1
     case measure => have := HK1.out; omega
     case rel => exact ⟨(y274), (wrap64 (x4_1 + 1)), (by first | rfl | (simp; done) | (simp [*]; done)), H', ⟨by have := HK1.out; omega⟩, ⟨rX HO276.out⟩, ⟨bX HB.out⟩⟩
    ·rw [if_neg c5] at H
     exact absurd H (by simp)
   ·rw [if_neg c4] at H
    have c4b0 : decide (x4_1 < a0) = false := decide_eq_false c4
    clear c4
    obtain rfl := Option.some.inj H
    go_wp2
    go_ret
    exact ⟨_, by first | rfl | (simp [*, errW_none, errW_some] <;> rfl), rX HO_3.out, bX HB.out⟩
def spec_l23Ends.f (a0 : Int) (a1_0 : Int) (a1_1 : Int) (a1_2 : Bool) : Option (Int × Int) := if a1_2 = true then (some (wrap64 ((wrap64 (a1_1 * a0)) + a1_0), wrap64 ((wrap64 ((wrap64 (a1_1 * a0)) + a1_0)) + a0))) else (some (wrap64 ((wrap64 (a1_1 * a0)) + a1_0), wrap64 ((wrap64 ((wrap64 (a1_1 * a0)) + a1_0)) + 1)))
set_option maxHeartbeats 8000000 in
set_option maxRecDepth 100000 in
theorem spec_l23Ends.calls (a0 : Int) (a1_0 : Int) (a1_1 : Int) (a1_2 : Bool) (r1 : Int) (r2 : Int) (w : World) (h : spec_l23Ends.f a0 a1_0 a1_1 a1_2 = some (r1, r2)) :
  Calls Try.prog 90 #[.int .i64 a0, .agg #[.int .i64 a1_0, .int .i64 a1_1, .bool a1_2]] w fun e w' => e = .returned (.tuple #[.int .i64 r1, .int .i64 r2]) ∧ Below w.heap.size w w' := by
 have hu50 := Try.underlying50
 have HB := Aside0.mk (Below.refl w.heap.size w)
 have H : (if a1_2 = true then (some (wrap64 ((wrap64 (a1_1 * a0)) + a1_0), wrap64 ((wrap64 ((wrap64 (a1_1 * a0)) + a1_0)) + a0))) else (some (wrap64 ((wrap64 (a1_1 * a0)) + a1_0), wrap64 ((wrap64 ((wrap64 (a1_1 * a0)) + a1_0)) + 1)))) = some (r1, r2) := h
 clear h
 by_cases c3 : a1_2 = true
 ·subst c3
  have H1 : (some (wrap64 ((wrap64 (a1_1 * a0)) + a1_0), wrap64 ((wrap64 ((wrap64 (a1_1 * a0)) + a1_0)) + a0))) = some (r1, r2) := by rw [if_pos rfl] at H; exact H
  clear H
  have H := H1
  clear H1
  simp only [Option.some.injEq, Prod.mk.injEq] at H
  obtain ⟨rfl, rfl⟩ := H
  go_enter Try.func90, Try.ntmps90
  go_wp2_with (first | ((with_reducible refine gate_dst (N := 3) rfl ?_); refine box_event ?hg (N := 3) ?hd (cs := #[.int .i64 a1_0, .int .i64 a1_1, .bool true]) (t := 50) ?hr ?_; (case hd => rfl); (case hg => rfl); (case hr => first | (go_simp; done) | (go_simp; rfl)); intro gb277 hg w4 hbox hb; have n0_ := Aside0.mk (below_step (bX HB.out) hb); have n1_ := Aside0.mk (hbox); have n2_ := Aside0.mk ((by rw [hg]; exact (below_size (bX HB.out)) : w.heap.size ≤ gb277)); have n3_ := Aside0.mk ((by rw [hg]; exact (below_size (bX HB.out)) : w.heap.size ≤ gb277)); clear HB; have HB := n0_; have BK277 := n1_; have GW277 := n2_; have GE277 := n3_; clear n0_ n1_ n2_ n3_; clear hb hbox hg; have hcz5_0 : w4.cell? ⟨gb277, 0, none⟩ = some (.int .i64 a1_0) := (blk_cell BK277.out 0).trans rfl; have hcz5_1 : w4.cell? ⟨gb277, 1, none⟩ = some (.int .i64 a1_1) := (blk_cell BK277.out 1).trans rfl; have hcz5_2 : w4.cell? ⟨gb277, 2, none⟩ = some (.bool true) := (blk_cell BK277.out 2).trans rfl; have hfz5_0 := blk_frozen BK277.out 0; have hfz5_1 := blk_frozen BK277.out 1; have hfz5_2 := blk_frozen BK277.out 2))
  go_ret2
  exact ⟨by first | rfl | (simp [*, errW_none, errW_some] <;> rfl), by repeat (with_reducible first | exact HB.out | apply below_alloc | apply pw_below_drewN | apply below_drew1 | refine below_set ?_ GE277.out)⟩
 ·replace c3 := Bool.eq_false_iff.mpr c3
  subst c3
  have H1 : (some (wrap64 ((wrap64 (a1_1 * a0)) + a1_0), wrap64 ((wrap64 ((wrap64 (a1_1 * a0)) + a1_0)) + 1))) = some (r1, r2) := by rw [if_neg (show ¬ (false = true) by decide)] at H; exact H
  clear H
  have H := H1
  clear H1
  simp only [Option.some.injEq, Prod.mk.injEq] at H
  obtain ⟨rfl, rfl⟩ := H
  go_enter Try.func90, Try.ntmps90
  go_wp2_with (first | ((with_reducible refine gate_dst (N := 3) rfl ?_); refine box_event ?hg (N := 3) ?hd (cs := #[.int .i64 a1_0, .int .i64 a1_1, .bool false]) (t := 50) ?hr ?_; (case hd => rfl); (case hg => rfl); (case hr => first | (go_simp; done) | (go_simp; rfl)); intro gb277 hg w6 hbox hb; have n0_ := Aside0.mk (below_step (bX HB.out) hb); have n1_ := Aside0.mk (hbox); have n2_ := Aside0.mk ((by rw [hg]; exact (below_size (bX HB.out)) : w.heap.size ≤ gb277)); have n3_ := Aside0.mk ((by rw [hg]; exact (below_size (bX HB.out)) : w.heap.size ≤ gb277)); clear HB; have HB := n0_; have BK277 := n1_; have GW277 := n2_; have GE277 := n3_; clear n0_ n1_ n2_ n3_; clear hb hbox hg; have hcz7_0 : w6.cell? ⟨gb277, 0, none⟩ = some (.int .i64 a1_0) := (blk_cell BK277.out 0).trans rfl; have hcz7_1 : w6.cell? ⟨gb277, 1, none⟩ = some (.int .i64 a1_1) := (blk_cell BK277.out 1).trans rfl; have hcz7_2 : w6.cell? ⟨gb277, 2, none⟩ = some (.bool false) := (blk_cell BK277.out 2).trans rfl; have hfz7_0 := blk_frozen BK277.out 0; have hfz7_1 := blk_frozen BK277.out 1; have hfz7_2 := blk_frozen BK277.out 2))
  go_ret2
  exact ⟨by first | rfl | (simp [*, errW_none, errW_some] <;> rfl), by repeat (with_reducible first | exact HB.out | apply below_alloc | apply pw_below_drewN | apply below_drew1 | refine below_set ?_ GE277.out)⟩
mutual
def spec_l23Join.l0 : Nat → List Int → Int → Int → Int → Option (Bool × List Int)
 | 0, _, _, _, _ => none
 | k + 1, x0, x7, x8, x9 => if x9 < (x0.length : Int) then (spec_l23Join.j1 k x0 x7 x8 x9 (x7 != x8)) else (spec_l23Join.j1 k x0 x7 x8 x9 false)
def spec_l23Join.j1 : Nat → List Int → Int → Int → Int → Bool → Option (Bool × List Int)
 | 0, _, _, _, _, _ => none
 | k + 1, x0, x7, x8, x9, x26 => if x26 = true then (if 0 ≤ x9 then (if x9 < (x0.length : Int) then (if (rd x0 x9) = x8 then (spec_l23Join.l0 k (x0.set (x9 : Int).toNat x7) x7 x8 (wrap64 (x9 + 1))) else (spec_l23Join.l0 k x0 x7 x8 (wrap64 (x9 + 1)))) else (none)) else (none)) else (some ((x7 != x8), x0))
end
def spec_l23Join.f (k : Nat) (l0 : List Int) (a1 : Int) (a2 : Int) : Option (Bool × List Int) := if 0 ≤ a1 then (if a1 < (l0.length : Int) then (if 0 ≤ a2 then (if a2 < (l0.length : Int) then (spec_l23Join.l0 k l0 (rd l0 a1) (rd l0 a2) 0) else (none)) else (none)) else (none)) else (none)
theorem spec_l23Join.mono_l : ∀ k, (∀ y0 y1 y2 y3, LeO (spec_l23Join.l0 k y0 y1 y2 y3) (spec_l23Join.l0 (k + 1) y0 y1 y2 y3)) ∧ (∀ y0 y1 y2 y3 y4, LeO (spec_l23Join.j1 k y0 y1 y2 y3 y4) (spec_l23Join.j1 (k + 1) y0 y1 y2 y3 y4))
 | 0 => ⟨fun _ _ _ _ r h => by simp [spec_l23Join.l0] at h, fun _ _ _ _ _ r h => by simp [spec_l23Join.j1] at h⟩
 | k + 1 => by
  obtain ⟨ih0, ih1⟩ := spec_l23Join.mono_l k
  refine ⟨?_, ?_⟩
  ·intro y0 y1 y2 y3
   unfold spec_l23Join.l0
   repeat' with_reducible first
   | exact ih0 _ _ _ _
   | exact ih1 _ _ _ _ _
   | exact LeO.refl _
   | exact LeO.none _
   | refine LeO.ite ?_ ?_
   | refine LeO.bind ?_ (fun _ => ?_)
  ·intro y0 y1 y2 y3 y4
   unfold spec_l23Join.j1
   repeat' with_reducible first
   | exact ih0 _ _ _ _
   | exact ih1 _ _ _ _ _
   | exact LeO.refl _
   | exact LeO.none _
   | refine LeO.ite ?_ ?_
   | refine LeO.bind ?_ (fun _ => ?_)
theorem spec_l23Join.mono : ∀ a0 a1 a2 k, LeO (spec_l23Join.f k a0 a1 a2) (spec_l23Join.f (k + 1) a0 a1 a2) := by
 intro a0 a1 a2 k
 obtain ⟨ih0, ih1⟩ := spec_l23Join.mono_l k
 unfold spec_l23Join.f
 repeat' first
   | (with_reducible exact ih0 _ _ _ _)
   | (with_reducible exact ih1 _ _ _ _ _)
   | (with_reducible exact LeO.refl _)
   | (with_reducible exact LeO.none _)
   | (with_reducible refine LeO.ite ?_ ?_)
   | (with_reducible refine LeO.bind ?_ (fun _ => ?_))
   | exact ih0 _ _ _ _
   | exact ih1 _ _ _ _ _
   | exact LeO.none _
   | refine LeO.ite ?_ ?_
   | refine LeO.bind ?_ (fun _ => ?_)
set_option maxHeartbeats 8000000 in
set_option maxRecDepth 100000 in
theorem spec_l23Join.calls (k : Nat) (P0_ : Nat → Prop) (u9000_ : Value) (l0 : List Int) (a1 : Int) (a2 : Int) (r1 : Bool) (r2 : List Int) (w0 w : World) (hB : Below w0.heap.size w0 w) (ho0 : Kd.R (Kd.int .i64) 3 w w0.heap.size P0_ u9000_ l0) (h : spec_l23Join.f k l0 a1 a2 = some (r1, r2)) :
  Calls Try.prog 91 #[u9000_, .int .i64 a1, .int .i64 a2] w fun e w' => e = .returned (.bool r1) ∧ Kd.R (Kd.int .i64) 3 w' w0.heap.size (fun k_ => (P0_ k_ ∨ w.heap.size ≤ k_)) u9000_ r2 ∧ Below w0.heap.size w0 w' ∧ Kept w w' (fun k_ => P0_ k_) := by
 have HO0 := Aside0.mk (show Kd.R (Kd.int .i64) 3 w w0.heap.size (fun k_ => (P0_ k_ ∨ w.heap.size ≤ k_)) u9000_ l0 from Kd.R_mono ho0 (fun k_ hk => (.inl hk)))
 have HK := Aside0.mk (Kept.refl w (fun k_ => P0_ k_))
 have HW0 := Aside0.mk hB.size
 have HB := Aside0.mk hB
 clear hB
 have H : (if 0 ≤ a1 then (if a1 < (l0.length : Int) then (if 0 ≤ a2 then (if a2 < (l0.length : Int) then (spec_l23Join.l0 k l0 (rd l0 a1) (rd l0 a2) 0) else (none)) else (none)) else (none)) else (none)) = some (r1, r2) := h
 clear h
 by_cases c4 : 0 ≤ a1
 ·rw [if_pos c4] at H
  have c4b0 : decide (0 ≤ a1) = true := decide_eq_true c4
  clear c4
  by_cases c5 : a1 < (l0.length : Int)
  ·rw [if_pos c5] at H
   have c5b0 : decide (a1 < (l0.length : Int)) = true := decide_eq_true c5
   clear c5
   by_cases c6 : 0 ≤ a2
   ·rw [if_pos c6] at H
    have c6b0 : decide (0 ≤ a2) = true := decide_eq_true c6
    clear c6
    by_cases c7 : a2 < (l0.length : Int)
    ·rw [if_pos c7] at H
     have c7b0 : decide (a2 < (l0.length : Int)) = true := decide_eq_true c7
     clear c7
     have H' := Aside0.mk H
     clear H
     obtain ⟨gq8, co8, eo8, -⟩ := Kd.R_form HO0.out (by have h1 := of_decide_eq_true c4b0; have h2 := of_decide_eq_true c5b0; omega)
     subst eo8
     have p278 : 0 ≤ (a1 : Int) := of_decide_eq_true (by assumption)
     have q278 : a1 < (l0.length : Int) := of_decide_eq_true (by assumption)
     obtain ⟨ad278, e278, hx278_0⟩ := Kd.at_int (Kd.R_reads' HO0.out).2.2 a1 p278 q278
     cases e278
     replace p278 := eq_true p278
     replace q278 := eq_true q278
     have p279 : 0 ≤ (a2 : Int) := of_decide_eq_true (by assumption)
     have q279 : a2 < (l0.length : Int) := of_decide_eq_true (by assumption)
     obtain ⟨ad279, e279, hx279_0⟩ := Kd.at_int (Kd.R_reads' HO0.out).2.2 a2 p279 q279
     cases e279
     simp only [add_plain] at hx278_0 hx279_0
     replace p279 := eq_true p279
     replace q279 := eq_true q279
     go_enter Try.func91, Try.ntmps91
     go_wp2
     go_loopg [9] k (fun kq v9 w' => ∃ (x0_1 : List Int) (x9_1 : Int), v9 = .int .i64 x9_1 ∧ Aside0 (spec_l23Join.l0 kq x0_1 (rd l0 a1) (rd l0 a2) x9_1 = some (r1, r2)) ∧ Aside0 (kq ≤ k) ∧ Aside0 (Kd.R (Kd.int .i64) 3 w' w0.heap.size (fun k_ => (P0_ k_ ∨ w.heap.size ≤ k_)) (.slice (some (⟨gq8, 0, none⟩ : Addr)) l0.length co8) x0_1) ∧ Aside0 (Kept w w' (fun k_ => P0_ k_)) ∧ Aside0 (Below w0.heap.size w0 w'))
     case atStart => exact ⟨(l0), (0), (by first | rfl | (simp; done) | (simp [*]; done)), H', ⟨Nat.le_refl _⟩, ⟨rX HO0.out⟩, ⟨by repeat (first | (with_reducible first | exact HK.out | apply Kept.alloc | apply Kept.drewN | apply Kept.drew) | exact HK.out)⟩, ⟨bX HB.out⟩⟩
     case round =>
      clear H'
      try clear p2
      try clear q2
      try clear hx2
      try clear c4
      try clear c4b0
      try clear c5
      try clear c5b0
      try clear c6
      try clear c6b0
      try clear c7
      try clear c7b0
      try clear hx278_0
      try clear hx279_0
      try clear p278
      try clear p279
      try clear q278
      try clear q279
      obtain ⟨x0_1, x9_1, rfl, HA, HK1, HO_0, HK, HB⟩ := hrel
      have hl0_1 := (Kd.R_reads' HO_0.out).1
      rw [hl0_1] at HO_0
      (try simp only [hl0_1])
      cases gk with
      | zero => exact absurd HA.out (by simp [spec_l23Join.l0])
      | succ k1 =>
       have H := HA.out
       clear HA
       simp only [spec_l23Join.l0] at H
       have HC9 := Aside0.mk H
       clear H
       go_upto_region 4 with (fail)
       go_cut [26] (fun v26 wc => ∃ (kq : Nat) (x26_8 : Bool), v26 = .bool x26_8 ∧ Aside0 (spec_l23Join.j1 kq x0_1 (rd l0 a1) (rd l0 a2) x9_1 x26_8 = some (r1, r2)) ∧ Aside0 (kq ≤ k1) ∧ Aside0 (Kd.R (Kd.int .i64) 3 wc w0.heap.size (fun k_ => (P0_ k_ ∨ w.heap.size ≤ k_)) (.slice (some (⟨gq8, 0, none⟩ : Addr)) x0_1.length co8) x0_1) ∧ Aside0 (Kept w wc (fun k_ => P0_ k_)) ∧ Aside0 (Below w0.heap.size w0 wc))
       case first =>
        have H := HC9.out
        clear HC9
        by_cases c10 : x9_1 < (x0_1.length : Int)
        ·rw [if_pos c10] at H
         have c10b0 : decide (x9_1 < (x0_1.length : Int)) = true := decide_eq_true c10
         clear c10
         (first | rw [c10b0] | (simp only [i64_w, i32_w]; rw [c10b0]) | skip)
         have H' := Aside0.mk H
         clear H
         go_wp2
         go_meet
         case rel => exact ⟨_, (((rd l0 a1) != (rd l0 a2))), (by first | rfl | (simp; done) | (simp [*]; done)), H', ⟨by have := HK1.out; first | omega | exact Nat.le_refl _⟩, ⟨by (try simp only [hl0_1]); (with_reducible repeat (first | apply Kd.R_alloc | apply Kd.R_drewN | apply Kd.R_drew)); exact HO_0.out⟩, ⟨by repeat (first | (with_reducible first | exact HK.out | apply Kept.alloc | apply Kept.drewN | apply Kept.drew) | exact HK.out)⟩, ⟨bX HB.out⟩⟩
        ·rw [if_neg c10] at H
         have c10b0 : decide (x9_1 < (x0_1.length : Int)) = false := decide_eq_false c10
         clear c10
         (first | rw [c10b0] | (simp only [i64_w, i32_w]; rw [c10b0]) | skip)
         have H' := Aside0.mk H
         clear H
         go_wp2
         go_meet
         case rel => exact ⟨_, (false), (by first | rfl | (simp; done) | (simp [*]; done)), H', ⟨by have := HK1.out; first | omega | exact Nat.le_refl _⟩, ⟨by (try simp only [hl0_1]); (with_reducible repeat (first | apply Kd.R_alloc | apply Kd.R_drewN | apply Kd.R_drew)); exact HO_0.out⟩, ⟨by repeat (first | (with_reducible first | exact HK.out | apply Kept.alloc | apply Kept.drewN | apply Kept.drew) | exact HK.out)⟩, ⟨bX HB.out⟩⟩
       case rest =>
        clear HC9
        try clear c1
        try clear p2
        try clear q2
        try clear hx2
        try clear c4
        try clear c4b0
        try clear c5
        try clear c5b0
        try clear c6
        try clear c6b0
        try clear c7
        try clear c7b0
        try clear c9
        try clear c10
        try clear c10b0
        try clear hx278_0
        try clear hx279_0
        try clear p2
        try clear p278
        try clear p279
        try clear q2
        try clear q278
        try clear q279
        obtain ⟨kq, x26_8, rfl, HA, HJ8, HO_0, HK, HB⟩ := hcut
        cases kq with
        | zero => exact absurd HA.out (by simp [spec_l23Join.j1])
        | succ kj8 =>
         have H := HA.out
         clear HA
         simp only [spec_l23Join.j1] at H
         by_cases c11 : x26_8 = true
         ·subst c11
          have H1 : (if 0 ≤ x9_1 then (if x9_1 < (x0_1.length : Int) then (if (rd x0_1 x9_1) = (rd l0 a2) then (spec_l23Join.l0 kj8 (x0_1.set (x9_1 : Int).toNat (rd l0 a1)) (rd l0 a1) (rd l0 a2) (wrap64 (x9_1 + 1))) else (spec_l23Join.l0 kj8 x0_1 (rd l0 a1) (rd l0 a2) (wrap64 (x9_1 + 1)))) else (none)) else (none)) = some (r1, r2) := by rw [if_pos rfl] at H; exact H
          clear H
          have H := H1
          clear H1
          by_cases c12 : 0 ≤ x9_1
          ·rw [if_pos c12] at H
           have c12b0 : decide (0 ≤ x9_1) = true := decide_eq_true c12
           clear c12
           by_cases c13 : x9_1 < (x0_1.length : Int)
           ·rw [if_pos c13] at H
            have c13b0 : decide (x9_1 < (x0_1.length : Int)) = true := decide_eq_true c13
            clear c13
            by_cases c14 : (rd x0_1 x9_1) = (rd l0 a2)
            ·rw [if_pos c14] at H
             have c14b0 : ((rd x0_1 x9_1) == (rd l0 a2)) = true := beq_iff_eq.mpr c14
             have c14b1 : ((rd x0_1 x9_1) != (rd l0 a2)) = false := bne_eq_false_iff_eq.mpr c14
             clear c14
             obtain ⟨y281, hy281⟩ : ∃ y_ : List Int, y_ = (x0_1.set (x9_1 : Int).toNat (rd l0 a1)) := ⟨_, rfl⟩
             replace H : (spec_l23Join.l0 kj8 y281 (rd l0 a1) (rd l0 a2) (wrap64 (x9_1 + 1))) = some (r1, r2) := by first | (rw [hy281]; with_reducible exact H) | (have H2_ := (Option.bind_some _ _).symm.trans H; rw [hy281]; with_reducible exact H2_) | (have H2_ := (Option.bind_some _ _).symm.trans H; with_reducible exact H2_) | with_reducible exact H | (rw [hy281]; exact H) | exact H
             have Ny281 := Aside0.mk hy281
             clear hy281
             have H' := Aside0.mk H
             clear H
             have p280 : 0 ≤ (x9_1 : Int) := of_decide_eq_true (by assumption)
             have q280 : x9_1 < (x0_1.length : Int) := of_decide_eq_true (by assumption)
             obtain ⟨ad280, e280, hx280_0⟩ := Kd.at_int (Kd.R_reads' HO_0.out).2.2 x9_1 p280 q280
             obtain rfl : (⟨gq8, 0, none⟩ : Addr) = ad280 := (by injection e280); simp only [add_plain] at hx280_0
             replace p280 := eq_true p280
             replace q280 := eq_true q280
             have p15 : 0 ≤ (x9_1 : Int) := of_decide_eq_true (by assumption)
             have q15 : (x9_1 : Int) < ((x0_1.length : Int) : Int) := of_decide_eq_true (by assumption)
             obtain ⟨go15, co15, eo15, gb15, gl15, cl15, HG15⟩ := Kd.R_form HO_0.out (by omega)
             (first | cases eo15 | (injection eo15 with ea_ en_ ec_; (first | subst ea_ | (injection ea_ with ea_; subst ea_)); subst ec_; clear en_))
             have GB15 := Aside0.mk gb15
             have GG15 := Aside0.mk HG15
             clear gb15 gl15 HG15
             have HMgq8 := Aside0.mk (show (P0_ gq8 ∨ w.heap.size ≤ gq8) from (HO_0.out.1 _ rfl))
             (first | simp only [add_plain] at hx278_0 | skip)
             (first | simp only [add_plain] at hx279_0 | skip)
             (first | simp only [add_plain] at hx280_0 | skip)
             obtain ⟨hx15_0, hf15_0⟩ := Kd.R_celln 0 HO_0.out (x9_1 : Int) p15 q15
             replace p15 := eq_true p15
             replace q15 := eq_true q15
             have HP16 := Kd.R_putg HO_0.out (x9_1 : Int) (rd l0 a1)
             go_wp2_with (first | ((with_reducible refine gate_store (t := 3) (p := 38) rfl ?_); refine store_event (t := 3) (p := 38) (v := ?vo_w17) (w1 := (wc.setCell ⟨gq8, (x9_1 : Int).toNat, none⟩ (.int .i64 (rd l0 a1)))) ?hg ?ho ?hn ?hr ?_; (case ho => rfl); (case hg => rfl); (case hn => rfl); (case hr => first | (go_simp; done) | (go_simp; rfl)); intro w17 hw; have hg : wc.grownBy w17 (some gq8) := (by rw [hw]; exact HP16.2); have hp_ : Kd.R (Kd.int .i64) 3 w17 w0.heap.size (fun k_ => (P0_ k_ ∨ w.heap.size ≤ k_)) (.slice (some ⟨gq8, 0, none⟩) x0_1.length co8) y281 := (by rw [hw, Ny281.out]; exact HP16.1); clear HP16; have n0_ := Aside0.mk (hp_); have n1_ := Aside0.mk ((by rw [hw]; exact below_set (HB.out) GB15.out : Below w0.heap.size w0 w17)); have n2_ := Aside0.mk (Kept.of_grown (S := (fun k_ => P0_ k_)) hg (by repeat (first | (with_reducible first | exact HK.out | apply Kept.alloc | apply Kept.drewN | apply Kept.drew) | exact HK.out)) (fun k_ e_ => (HO_0.out.1 k_ e_))); clear HO_0; clear HB; clear HK; have HO_0 := n0_; have HB := n1_; have HK := n2_; clear n0_ n1_ n2_; clear hg hw hp_))
             (try simp only [← hl0_1])
             go_roundg kj8
             case measure => have := HK1.out; have := HJ8.out; omega
             case rel => exact ⟨(y281), (wrap64 (x9_1 + 1)), (by first | rfl | (simp; done) | (simp [*]; done)), H', ⟨by have := HK1.out; have := HJ8.out; omega⟩, ⟨by (try simp only [hl0_1]); (with_reducible repeat (first | apply Kd.R_alloc | apply Kd.R_drewN | apply Kd.R_drew)); exact HO_0.out⟩, ⟨by repeat (first | (with_reducible first | exact HK.out | apply Kept.alloc | apply Kept.drewN | apply Kept.drew) | exact HK.out)⟩, ⟨bX HB.out⟩⟩
            ·rw [if_neg c14] at H
             have c14b0 : ((rd x0_1 x9_1) == (rd l0 a2)) = false := beq_eq_false_iff_ne.mpr c14
             have c14b1 : ((rd x0_1 x9_1) != (rd l0 a2)) = true := bne_iff_ne.mpr c14
             have H' := Aside0.mk H
             clear H
             have p280 : 0 ≤ (x9_1 : Int) := of_decide_eq_true (by assumption)
             have q280 : x9_1 < (x0_1.length : Int) := of_decide_eq_true (by assumption)
             obtain ⟨ad280, e280, hx280_0⟩ := Kd.at_int (Kd.R_reads' HO_0.out).2.2 x9_1 p280 q280
             obtain rfl : (⟨gq8, 0, none⟩ : Addr) = ad280 := (by injection e280); simp only [add_plain] at hx280_0
             replace p280 := eq_true p280
             replace q280 := eq_true q280
             go_wp2
             (try simp only [← hl0_1])
             go_roundg kj8
             case measure => have := HK1.out; have := HJ8.out; omega
             case rel => exact ⟨(x0_1), (wrap64 (x9_1 + 1)), (by first | rfl | (simp; done) | (simp [*]; done)), H', ⟨by have := HK1.out; have := HJ8.out; omega⟩, ⟨by (try simp only [hl0_1]); (with_reducible repeat (first | apply Kd.R_alloc | apply Kd.R_drewN | apply Kd.R_drew)); exact HO_0.out⟩, ⟨by repeat (first | (with_reducible first | exact HK.out | apply Kept.alloc | apply Kept.drewN | apply Kept.drew) | exact HK.out)⟩, ⟨bX HB.out⟩⟩
           ·rw [if_neg c13] at H
            exact absurd H (by simp)
          ·rw [if_neg c12] at H
           exact absurd H (by simp)
         ·replace c11 := Bool.eq_false_iff.mpr c11
          subst c11
          have H1 : (some (((rd l0 a1) != (rd l0 a2)), x0_1)) = some (r1, r2) := by rw [if_neg (show ¬ (false = true) by decide)] at H; exact H
          clear H
          have H := H1
          clear H1
          simp only [Option.some.injEq, Prod.mk.injEq] at H
          obtain ⟨rfl, rfl⟩ := H
          go_wp2
          go_ret
          exact ⟨by first | rfl | (simp [*, errW_none, errW_some] <;> rfl), (by first | exact (rX HO_0.out) | (simp only [hl0_1]; exact (rX HO_0.out))), bX HB.out, by repeat (first | (with_reducible first | exact HK.out | apply Kept.alloc | apply Kept.drewN | apply Kept.drew) | exact HK.out)⟩
    ·rw [if_neg c7] at H
     exact absurd H (by simp)
   ·rw [if_neg c6] at H
    exact absurd H (by simp)
  ·rw [if_neg c5] at H
   exact absurd H (by simp)
 ·rw [if_neg c4] at H
  exact absurd H (by simp)
end Go.Proofs.Ytnfnlmilmpaofaa.PFnExactTilingOfTree
namespace Go.Proofs.Ytnfnlmilmpaofaa.PFnExactTilingOfTree
open Go.RowKit Go.Proofs.YtnfnlmilmpaofaaW.PrintWords Go.Proofs.YtnfnlmilmpaofaaW.PrintLast Go.Proofs.YtnfnlmilmpaofaaW.PrintMore
attribute [local go_sem] max2_int min2_int max_two min_two max_three min_three max_four min_four   -- for this text's walks alone
set_option linter.unusedVariables false
set_option linter.unusedSimpArgs false
attribute [local go_sem high] eqA50
mutual
def spec_IsTree.j0 : Nat → Int → Int → List (S50) → Bool → Option (Bool)
 | 0, _, _, _, _ => none
 | k + 1, x0, x1, x2, x26 => if x26 = true then (some false) else ((spec_LinksOf.f k x0 x1).bind fun t283 => ((spec_l23Groups.f k (wrap64 (x0 * x1))).bind fun t286 => (spec_IsTree.l0 k x0 x2 t283 t286 0)))
def spec_IsTree.l0 : Nat → Int → List (S50) → List (S50) → List Int → Int → Option (Bool)
 | 0, _, _, _, _, _ => none
 | k + 1, x0, x2, x7, x8, x9 => if x9 < (x2.length : Int) then (spec_IsTree.l1 k x0 x2 x7 x8 x9 false 0) else (some true)
def spec_IsTree.l1 : Nat → Int → List (S50) → List (S50) → List Int → Int → Bool → Int → Option (Bool)
 | 0, _, _, _, _, _, _, _ => none
 | k + 1, x0, x2, x7, x8, x9, x10, x11 => if x11 < (x7.length : Int) then (if x10 = true then (spec_IsTree.l1 k x0 x2 x7 x8 x9 true (wrap64 (x11 + 1))) else (if 0 ≤ x11 then (if 0 ≤ x9 then (if x9 < (x2.length : Int) then (spec_IsTree.l1 k x0 x2 x7 x8 x9 (((rd_T50 x7 x11).f0) == ((rd_T50 x2 x9).f0) && (((rd_T50 x7 x11).f1) == ((rd_T50 x2 x9).f1) && (((rd_T50 x7 x11).f2) == ((rd_T50 x2 x9).f2)))) (wrap64 (x11 + 1))) else (none)) else (none)) else (none))) else (if x10 = true then (if 0 ≤ x9 then (if x9 < (x2.length : Int) then ((spec_l23Ends.f x0 ((rd_T50 x2 x9).f0) ((rd_T50 x2 x9).f1) ((rd_T50 x2 x9).f2)).bind fun bt292 => ((spec_l23Join.f k x8 bt292.1 bt292.2).bind fun bt294 => (if bt294.1 = true then (spec_IsTree.l0 k x0 x2 x7 bt294.2 (wrap64 (x9 + 1))) else (some false)))) else (none)) else (none)) else (some false))
end
def spec_IsTree.f (k : Nat) (a0 : Int) (a1 : Int) (l2 : List (S50)) : Option (Bool) := (spec_GridOk.f a0 a1).bind fun t282 => (if t282 = true then (spec_IsTree.j0 k a0 a1 l2 ((l2.length : Int) != (wrap64 ((wrap64 (a0 * a1)) - 1)))) else (spec_IsTree.j0 k a0 a1 l2 true))
theorem spec_IsTree.mono_l : ∀ k, (∀ y0 y1 y2 y3, LeO (spec_IsTree.j0 k y0 y1 y2 y3) (spec_IsTree.j0 (k + 1) y0 y1 y2 y3)) ∧ (∀ y0 y1 y2 y3 y4, LeO (spec_IsTree.l0 k y0 y1 y2 y3 y4) (spec_IsTree.l0 (k + 1) y0 y1 y2 y3 y4)) ∧ (∀ y0 y1 y2 y3 y4 y5 y6, LeO (spec_IsTree.l1 k y0 y1 y2 y3 y4 y5 y6) (spec_IsTree.l1 (k + 1) y0 y1 y2 y3 y4 y5 y6))
 | 0 => ⟨fun _ _ _ _ r h => by simp [spec_IsTree.j0] at h, fun _ _ _ _ _ r h => by simp [spec_IsTree.l0] at h, fun _ _ _ _ _ _ _ r h => by simp [spec_IsTree.l1] at h⟩
 | k + 1 => by
  obtain ⟨ih0, ih1, ih2⟩ := spec_IsTree.mono_l k
  refine ⟨?_, ?_, ?_⟩
  ·intro y0 y1 y2 y3
   unfold spec_IsTree.j0
   repeat' with_reducible first
   | exact ih0 _ _ _ _
   | exact ih1 _ _ _ _ _
   | exact ih2 _ _ _ _ _ _ _
   | exact spec_LinksOf.mono _ _ _
   | exact spec_l23Groups.mono _ _
   | exact spec_l23Join.mono _ _ _ _
   | exact LeO.refl _
   | exact LeO.none _
   | refine LeO.ite ?_ ?_
   | refine LeO.bind ?_ (fun _ => ?_)
  ·intro y0 y1 y2 y3 y4
   unfold spec_IsTree.l0
   repeat' with_reducible first
   | exact ih0 _ _ _ _
   | exact ih1 _ _ _ _ _
   | exact ih2 _ _ _ _ _ _ _
   | exact spec_LinksOf.mono _ _ _
   | exact spec_l23Groups.mono _ _
   | exact spec_l23Join.mono _ _ _ _
   | exact LeO.refl _
   | exact LeO.none _
   | refine LeO.ite ?_ ?_
   | refine LeO.bind ?_ (fun _ => ?_)
  ·intro y0 y1 y2 y3 y4 y5 y6
   unfold spec_IsTree.l1
   repeat' with_reducible first
   | exact ih0 _ _ _ _
   | exact ih1 _ _ _ _ _
   | exact ih2 _ _ _ _ _ _ _
   | exact spec_LinksOf.mono _ _ _
   | exact spec_l23Groups.mono _ _
   | exact spec_l23Join.mono _ _ _ _
   | exact LeO.refl _
   | exact LeO.none _
   | refine LeO.ite ?_ ?_
   | refine LeO.bind ?_ (fun _ => ?_)
theorem spec_IsTree.mono : ∀ a0 a1 a2 k, LeO (spec_IsTree.f k a0 a1 a2) (spec_IsTree.f (k + 1) a0 a1 a2) := by
 intro a0 a1 a2 k
 obtain ⟨ih0, ih1, ih2⟩ := spec_IsTree.mono_l k
 unfold spec_IsTree.f
 repeat' first
   | (with_reducible exact ih0 _ _ _ _)
   | (with_reducible exact ih1 _ _ _ _ _)
   | (with_reducible exact ih2 _ _ _ _ _ _ _)
   | (with_reducible exact spec_LinksOf.mono _ _ _)
   | (with_reducible exact spec_l23Groups.mono _ _)
   | (with_reducible exact spec_l23Join.mono _ _ _ _)
   | (with_reducible exact LeO.refl _)
   | (with_reducible exact LeO.none _)
   | (with_reducible refine LeO.ite ?_ ?_)
   | (with_reducible refine LeO.bind ?_ (fun _ => ?_))
   | exact ih0 _ _ _ _
   | exact ih1 _ _ _ _ _
   | exact ih2 _ _ _ _ _ _ _
   | exact spec_LinksOf.mono _ _ _
   | exact spec_l23Groups.mono _ _
   | exact spec_l23Join.mono _ _ _ _
   | exact LeO.none _
   | refine LeO.ite ?_ ?_
   | refine LeO.bind ?_ (fun _ => ?_)
set_option maxHeartbeats 8000000 in
set_option maxRecDepth 100000 in
theorem spec_IsTree.calls (k : Nat) (a0 : Int) (a1 : Int) (A2 : Option Addr) (c2 : Nat) (l2 : List (S50)) (r : Bool) (w : World) (hr2 : Kd.C k50 w A2 l2.length l2) (hc2 : l2.length ≤ c2) (h : spec_IsTree.f k a0 a1 l2 = some r) :
  Calls Try.prog 27 #[.int .i64 a0, .int .i64 a1, .slice A2 l2.length c2] w fun e w' => e = .returned (.bool r) ∧ Below w.heap.size w w' := by
 have hu50 := Try.underlying50
 have HR2 := Aside0.mk hr2
 have HC2 := Aside0.mk hc2
 clear hr2 hc2
 have HB := Aside0.mk (Below.refl w.heap.size w)
 have H : ((spec_GridOk.f a0 a1).bind fun t282 => (if t282 = true then (spec_IsTree.j0 k a0 a1 l2 ((l2.length : Int) != (wrap64 ((wrap64 (a0 * a1)) - 1)))) else (spec_IsTree.j0 k a0 a1 l2 true))) = some r := h
 clear h
 have HC4 := Aside0.mk H
 clear H
 go_enter Try.func27, Try.ntmps27
 go_upto_region 1 with (fail)
 repeat (go_quiet (fail); go_upto_region 1 with (fail))
 go_cut [26] (fun v26 wc => ∃ (kq : Nat) (x26_3 : Bool), v26 = .bool x26_3 ∧ Aside0 (spec_IsTree.j0 kq a0 a1 l2 x26_3 = some r) ∧ Aside0 (kq ≤ k) ∧ Aside0 (Below w.heap.size w wc))
 case first =>
  have H := HC4.out
  clear HC4
  replace H := Option.bind_eq_some_iff.mp H
  obtain ⟨t282, A50, H⟩ := H
  replace H : (if t282 = true then (spec_IsTree.j0 k a0 a1 l2 ((l2.length : Int) != (wrap64 ((wrap64 (a0 * a1)) - 1)))) else (spec_IsTree.j0 k a0 a1 l2 true)) = some r := H
  have A5 := Aside0.mk A50
  clear A50
  by_cases c6 : t282 = true
  ·subst c6
   have H1 : (spec_IsTree.j0 k a0 a1 l2 ((l2.length : Int) != (wrap64 ((wrap64 (a0 * a1)) - 1)))) = some r := by rw [if_pos rfl] at H; exact H
   clear H
   have H := H1
   clear H1
   have H' := Aside0.mk H
   clear H
   go_wp2_with (first | (go_at_call 87; (with_reducible refine (spec_GridOk.calls a0 a1 true _ A5.out).mono ?_); rintro e w' ⟨rfl, ⟨nd, rfl⟩⟩; (try first | exact ⟨rfl, _, World.drewN_drewN _ _ _⟩ | exact ⟨rfl, _, Eq.trans (World.drewN_drewN _ _ _) (congrArg (World.drewN _) (Nat.add_assoc _ _ _))⟩)))
   repeat (go_quiet (first | (go_at_call 87; (with_reducible refine (spec_GridOk.calls a0 a1 true _ A5.out).mono ?_); rintro e w' ⟨rfl, ⟨nd, rfl⟩⟩; (try first | exact ⟨rfl, _, World.drewN_drewN _ _ _⟩ | exact ⟨rfl, _, Eq.trans (World.drewN_drewN _ _ _) (congrArg (World.drewN _) (Nat.add_assoc _ _ _))⟩))); try go_wp2_with (first | (go_at_call 87; (with_reducible refine (spec_GridOk.calls a0 a1 true _ A5.out).mono ?_); rintro e w' ⟨rfl, ⟨nd, rfl⟩⟩; (try first | exact ⟨rfl, _, World.drewN_drewN _ _ _⟩ | exact ⟨rfl, _, Eq.trans (World.drewN_drewN _ _ _) (congrArg (World.drewN _) (Nat.add_assoc _ _ _))⟩))))
   go_meet
   case rel => exact ⟨_, (((l2.length : Int) != (wrap64 ((wrap64 (a0 * a1)) - 1)))), (by first | rfl | (simp; done) | (simp [*]; done)), H', ⟨by first | omega | exact Nat.le_refl _⟩, ⟨bX HB.out⟩⟩
  ·replace c6 := Bool.eq_false_iff.mpr c6
   subst c6
   have H1 : (spec_IsTree.j0 k a0 a1 l2 true) = some r := by rw [if_neg (show ¬ (false = true) by decide)] at H; exact H
   clear H
   have H := H1
   clear H1
   have H' := Aside0.mk H
   clear H
   go_wp2_with (first | (go_at_call 87; (with_reducible refine (spec_GridOk.calls a0 a1 false _ A5.out).mono ?_); rintro e w' ⟨rfl, ⟨nd, rfl⟩⟩; (try first | exact ⟨rfl, _, World.drewN_drewN _ _ _⟩ | exact ⟨rfl, _, Eq.trans (World.drewN_drewN _ _ _) (congrArg (World.drewN _) (Nat.add_assoc _ _ _))⟩)))
   repeat (go_quiet (first | (go_at_call 87; (with_reducible refine (spec_GridOk.calls a0 a1 false _ A5.out).mono ?_); rintro e w' ⟨rfl, ⟨nd, rfl⟩⟩; (try first | exact ⟨rfl, _, World.drewN_drewN _ _ _⟩ | exact ⟨rfl, _, Eq.trans (World.drewN_drewN _ _ _) (congrArg (World.drewN _) (Nat.add_assoc _ _ _))⟩))); try go_wp2_with (first | (go_at_call 87; (with_reducible refine (spec_GridOk.calls a0 a1 false _ A5.out).mono ?_); rintro e w' ⟨rfl, ⟨nd, rfl⟩⟩; (try first | exact ⟨rfl, _, World.drewN_drewN _ _ _⟩ | exact ⟨rfl, _, Eq.trans (World.drewN_drewN _ _ _) (congrArg (World.drewN _) (Nat.add_assoc _ _ _))⟩))))
   go_meet
   case rel => exact ⟨_, (true), (by first | rfl | (simp; done) | (simp [*]; done)), H', ⟨by first | omega | exact Nat.le_refl _⟩, ⟨bX HB.out⟩⟩
 case rest =>
  clear HC4
  try clear c2
  try clear p2
  try clear c6
  try clear p6
  obtain ⟨kq, x26_3, rfl, HA, HJ3, HB⟩ := hcut
  cases kq with
  | zero => exact absurd HA.out (by simp [spec_IsTree.j0])
  | succ kj3 =>
   have H := HA.out
   clear HA
   simp only [spec_IsTree.j0] at H
   by_cases c7 : x26_3 = true
   ·subst c7
    have H1 : (some false) = some r := by rw [if_pos rfl] at H; exact H
    clear H
    have H := H1
    clear H1
    obtain rfl := Option.some.inj H
    go_wp2
    repeat (go_quiet (fail); try go_wp2)
    go_ret
    exact ⟨by first | rfl | (simp [*, errW_none, errW_some] <;> rfl), bX HB.out⟩
   ·replace c7 := Bool.eq_false_iff.mpr c7
    subst c7
    have H1 : ((spec_LinksOf.f kj3 a0 a1).bind fun t283 => ((spec_l23Groups.f kj3 (wrap64 (a0 * a1))).bind fun t286 => (spec_IsTree.l0 kj3 a0 l2 t283 t286 0))) = some r := by rw [if_neg (show ¬ (false = true) by decide)] at H; exact H
    clear H
    have H := H1
    clear H1
    replace H := Option.bind_eq_some_iff.mp H
    obtain ⟨t283, A80, H⟩ := H
    replace H : ((spec_l23Groups.f kj3 (wrap64 (a0 * a1))).bind fun t286 => (spec_IsTree.l0 kj3 a0 l2 t283 t286 0)) = some r := H
    have A8 := Aside0.mk A80
    clear A80
    replace H := Option.bind_eq_some_iff.mp H
    obtain ⟨t286, A90, H⟩ := H
    replace H : (spec_IsTree.l0 kj3 a0 l2 t283 t286 0) = some r := H
    have A9 := Aside0.mk A90
    clear A90
    have H' := Aside0.mk H
    clear H
    go_wp2_with (first | (go_at_call 88; (with_reducible refine (spec_LinksOf.calls kj3 a0 a1 t283 _ A8.out).mono ?_); rintro e w10 ⟨v284, rfl, ho0, hb⟩; have n0_ := Aside0.mk (Kd.R_lower ho0 (below_size (bX HB.out))); have n1_ := Aside0.mk (below_step (bX HB.out) hb); clear HB; have HO285 := n0_; have HB := n1_; clear n0_ n1_; (try clear hb); (try clear hb2); (try clear hk); (try clear hi); (try clear ho0)) | (go_at_call 89; (with_reducible refine (spec_l23Groups.calls kj3 (wrap64 (a0 * a1)) t286 _ A9.out).mono ?_); rintro e w11 ⟨v287, rfl, ho0, hb⟩; have n0_ := Aside0.mk (Kd.R_below (rX HO285.out) hb); have n1_ := Aside0.mk (Kd.R_lower ho0 (below_size (bX HB.out))); have n2_ := Aside0.mk (below_step (bX HB.out) hb); clear HO285; clear HB; have HO285 := n0_; have HO288 := n1_; have HB := n2_; clear n0_ n1_ n2_; (try clear hb); (try clear hb2); (try clear hk); (try clear hi); (try clear ho0)))
    repeat (go_quiet (first | (go_at_call 88; (with_reducible refine (spec_LinksOf.calls kj3 a0 a1 t283 _ A8.out).mono ?_); rintro e w10 ⟨v284, rfl, ho0, hb⟩; have n0_ := Aside0.mk (Kd.R_lower ho0 (below_size (bX HB.out))); have n1_ := Aside0.mk (below_step (bX HB.out) hb); clear HB; have HO285 := n0_; have HB := n1_; clear n0_ n1_; (try clear hb); (try clear hb2); (try clear hk); (try clear hi); (try clear ho0)) | (go_at_call 89; (with_reducible refine (spec_l23Groups.calls kj3 (wrap64 (a0 * a1)) t286 _ A9.out).mono ?_); rintro e w11 ⟨v287, rfl, ho0, hb⟩; have n0_ := Aside0.mk (Kd.R_below (rX HO285.out) hb); have n1_ := Aside0.mk (Kd.R_lower ho0 (below_size (bX HB.out))); have n2_ := Aside0.mk (below_step (bX HB.out) hb); clear HO285; clear HB; have HO285 := n0_; have HO288 := n1_; have HB := n2_; clear n0_ n1_ n2_; (try clear hb); (try clear hb2); (try clear hk); (try clear hi); (try clear ho0))); try go_wp2_with (first | (go_at_call 88; (with_reducible refine (spec_LinksOf.calls kj3 a0 a1 t283 _ A8.out).mono ?_); rintro e w10 ⟨v284, rfl, ho0, hb⟩; have n0_ := Aside0.mk (Kd.R_lower ho0 (below_size (bX HB.out))); have n1_ := Aside0.mk (below_step (bX HB.out) hb); clear HB; have HO285 := n0_; have HB := n1_; clear n0_ n1_; (try clear hb); (try clear hb2); (try clear hk); (try clear hi); (try clear ho0)) | (go_at_call 89; (with_reducible refine (spec_l23Groups.calls kj3 (wrap64 (a0 * a1)) t286 _ A9.out).mono ?_); rintro e w11 ⟨v287, rfl, ho0, hb⟩; have n0_ := Aside0.mk (Kd.R_below (rX HO285.out) hb); have n1_ := Aside0.mk (Kd.R_lower ho0 (below_size (bX HB.out))); have n2_ := Aside0.mk (below_step (bX HB.out) hb); clear HO285; clear HB; have HO285 := n0_; have HO288 := n1_; have HB := n2_; clear n0_ n1_ n2_; (try clear hb); (try clear hb2); (try clear hk); (try clear hi); (try clear ho0))))
    go_loopg [9] kj3 (fun kq v9 w' => ∃ (x8_2 : List Int) (x9_2 : Int), v9 = .int .i64 x9_2 ∧ Aside0 (spec_IsTree.l0 kq a0 l2 t283 x8_2 x9_2 = some r) ∧ Aside0 (kq ≤ kj3) ∧ Aside0 (Kd.R k50 50 w' w.heap.size (fun _ => True) v284 t283) ∧ Aside0 (Kd.R (Kd.int .i64) 3 w' w.heap.size (fun _ => True) v287 x8_2) ∧ Aside0 (Below w.heap.size w w'))
    case atStart => exact ⟨(t286), (0), (by first | rfl | (simp; done) | (simp [*]; done)), H', ⟨Nat.le_refl _⟩, ⟨rX HO285.out⟩, ⟨rX HO288.out⟩, ⟨bX HB.out⟩⟩
    case round =>
     clear H'
     try clear c2
     try clear p2
     try clear c6
     try clear p6
     try clear c7
     try clear p2
     try clear p6
     obtain ⟨x8_2, x9_2, rfl, HA, HK2, HO_7, HO_8, HB⟩ := hrel
     cases gk with
     | zero => exact absurd HA.out (by simp [spec_IsTree.l0])
     | succ k2 =>
      have H := HA.out
      clear HA
      simp only [spec_IsTree.l0] at H
      by_cases c12 : x9_2 < (l2.length : Int)
      ·rw [if_pos c12] at H
       have c12b0 : decide (x9_2 < (l2.length : Int)) = true := decide_eq_true c12
       clear c12
       have H' := Aside0.mk H
       clear H
       go_wp2
       repeat (go_quiet (fail); try go_wp2)
       go_loopg [10, 11] k2 (fun kq v10 v11 w' => ∃ (x10_3 : Bool) (x11_3 : Int), v10 = .bool x10_3 ∧ v11 = .int .i64 x11_3 ∧ Aside0 (spec_IsTree.l1 kq a0 l2 t283 x8_2 x9_2 x10_3 x11_3 = some r) ∧ Aside0 (kq ≤ k2) ∧ Aside0 (Kd.R k50 50 w' w.heap.size (fun _ => True) v284 t283) ∧ Aside0 (Kd.R (Kd.int .i64) 3 w' w.heap.size (fun _ => True) v287 x8_2) ∧ Aside0 (Below w.heap.size w w'))
       case atStart => exact ⟨(false), (0), (by first | rfl | (simp; done) | (simp [*]; done)), (by first | rfl | (simp; done) | (simp [*]; done)), H', ⟨Nat.le_refl _⟩, ⟨rX HO_7.out⟩, ⟨rX HO_8.out⟩, ⟨bX HB.out⟩⟩
       case round =>
        clear H'
        try clear c1
        try clear c2
        try clear p2
        try clear c6
        try clear p6
        try clear c7
        try clear c12
        try clear c12b0
        try clear p2
        try clear p6
        obtain ⟨x10_3, x11_3, rfl, rfl, HA, HK3, HO_7, HO_8, HB⟩ := hrel
        cases gk with
        | zero => exact absurd HA.out (by simp [spec_IsTree.l1])
        | succ k3 =>
         have H := HA.out
         clear HA
         simp only [spec_IsTree.l1] at H
         by_cases c13 : x11_3 < (t283.length : Int)
         ·rw [if_pos c13] at H
          have c13b0 : decide (x11_3 < (t283.length : Int)) = true := decide_eq_true c13
          clear c13
          by_cases c14 : x10_3 = true
          ·subst c14
           have H1 : (spec_IsTree.l1 k3 a0 l2 t283 x8_2 x9_2 true (wrap64 (x11_3 + 1))) = some r := by rw [if_pos rfl] at H; exact H
           clear H
           have H := H1
           clear H1
           have H' := Aside0.mk H
           clear H
           obtain ⟨Ao15, co15, eo15⟩ := Kd.R_slice HO_7.out
           subst eo15
           go_wp2
           repeat (go_quiet (fail); try go_wp2)
           go_roundg k3
           case measure => have := HJ3.out; have := HK2.out; have := HK3.out; omega
           case rel => exact ⟨(true), (wrap64 (x11_3 + 1)), (by first | rfl | (simp; done) | (simp [*]; done)), (by first | rfl | (simp; done) | (simp [*]; done)), H', ⟨by have := HJ3.out; have := HK2.out; have := HK3.out; omega⟩, ⟨rX HO_7.out⟩, ⟨rX HO_8.out⟩, ⟨bX HB.out⟩⟩
          ·replace c14 := Bool.eq_false_iff.mpr c14
           subst c14
           have H1 : (if 0 ≤ x11_3 then (if 0 ≤ x9_2 then (if x9_2 < (l2.length : Int) then (spec_IsTree.l1 k3 a0 l2 t283 x8_2 x9_2 (((rd_T50 t283 x11_3).f0) == ((rd_T50 l2 x9_2).f0) && (((rd_T50 t283 x11_3).f1) == ((rd_T50 l2 x9_2).f1) && (((rd_T50 t283 x11_3).f2) == ((rd_T50 l2 x9_2).f2)))) (wrap64 (x11_3 + 1))) else (none)) else (none)) else (none)) = some r := by rw [if_neg (show ¬ (false = true) by decide)] at H; exact H
           clear H
           have H := H1
           clear H1
           by_cases c16 : 0 ≤ x11_3
           ·rw [if_pos c16] at H
            have c16b0 : decide (0 ≤ x11_3) = true := decide_eq_true c16
            clear c16
            by_cases c17 : 0 ≤ x9_2
            ·rw [if_pos c17] at H
             have c17b0 : decide (0 ≤ x9_2) = true := decide_eq_true c17
             clear c17
             by_cases c18 : x9_2 < (l2.length : Int)
             ·rw [if_pos c18] at H
              have c18b0 : decide (x9_2 < (l2.length : Int)) = true := decide_eq_true c18
              clear c18
              have H' := Aside0.mk H
              clear H
              obtain ⟨Ao19, co19, eo19⟩ := Kd.R_slice HO_7.out
              subst eo19
              have p289 : 0 ≤ (x11_3 : Int) := of_decide_eq_true (by assumption)
              have q289 : x11_3 < (t283.length : Int) := of_decide_eq_true (by assumption)
              obtain ⟨ad289, e289, hx289_0, hx289_1, hx289_2⟩ := at_T50 (Kd.R_reads' HO_7.out).2.2 x11_3 p289 q289
              cases e289
              replace p289 := eq_true p289
              replace q289 := eq_true q289
              have p290 : 0 ≤ (x9_2 : Int) := of_decide_eq_true (by assumption)
              have q290 : x9_2 < (l2.length : Int) := of_decide_eq_true (by assumption)
              obtain ⟨ad290, e290, hx290_0, hx290_1, hx290_2⟩ := at_T50 HR2.out x9_2 p290 q290
              cases e290
              replace hx290_0 := (HB.out.cell (World.block_lt_of_cell? w _ hx290_0)).trans hx290_0
              replace hx290_1 := (HB.out.cell (World.block_lt_of_cell? w _ hx290_1)).trans hx290_1
              replace hx290_2 := (HB.out.cell (World.block_lt_of_cell? w _ hx290_2)).trans hx290_2
              replace p290 := eq_true p290
              replace q290 := eq_true q290
              go_wp2
              repeat (go_quiet (fail); try go_wp2)
              go_roundg k3
              case measure => have := HJ3.out; have := HK2.out; have := HK3.out; omega
              case rel => exact ⟨((((rd_T50 t283 x11_3).f0) == ((rd_T50 l2 x9_2).f0) && (((rd_T50 t283 x11_3).f1) == ((rd_T50 l2 x9_2).f1) && (((rd_T50 t283 x11_3).f2) == ((rd_T50 l2 x9_2).f2))))), (wrap64 (x11_3 + 1)), (by first | rfl | (simp; done) | (simp [*]; done)), (by first | rfl | (simp; done) | (simp [*]; done)), H', ⟨by have := HJ3.out; have := HK2.out; have := HK3.out; omega⟩, ⟨rX HO_7.out⟩, ⟨rX HO_8.out⟩, ⟨bX HB.out⟩⟩
             ·rw [if_neg c18] at H
              exact absurd H (by simp)
            ·rw [if_neg c17] at H
             exact absurd H (by simp)
           ·rw [if_neg c16] at H
            exact absurd H (by simp)
         ·rw [if_neg c13] at H
          have c13b0 : decide (x11_3 < (t283.length : Int)) = false := decide_eq_false c13
          clear c13
          by_cases c20 : x10_3 = true
          ·subst c20
           have H1 : (if 0 ≤ x9_2 then (if x9_2 < (l2.length : Int) then ((spec_l23Ends.f a0 ((rd_T50 l2 x9_2).f0) ((rd_T50 l2 x9_2).f1) ((rd_T50 l2 x9_2).f2)).bind fun bt292 => ((spec_l23Join.f k3 x8_2 bt292.1 bt292.2).bind fun bt294 => (if bt294.1 = true then (spec_IsTree.l0 k3 a0 l2 t283 bt294.2 (wrap64 (x9_2 + 1))) else (some false)))) else (none)) else (none)) = some r := by rw [if_pos rfl] at H; exact H
           clear H
           have H := H1
           clear H1
           by_cases c21 : 0 ≤ x9_2
           ·rw [if_pos c21] at H
            have c21b0 : decide (0 ≤ x9_2) = true := decide_eq_true c21
            clear c21
            by_cases c22 : x9_2 < (l2.length : Int)
            ·rw [if_pos c22] at H
             have c22b0 : decide (x9_2 < (l2.length : Int)) = true := decide_eq_true c22
             clear c22
             replace H := Option.bind_eq_some_iff.mp H
             obtain ⟨⟨t292, t293⟩, A230, H⟩ := H
             replace H : ((spec_l23Join.f k3 x8_2 t292 t293).bind fun bt294 => (if bt294.1 = true then (spec_IsTree.l0 k3 a0 l2 t283 bt294.2 (wrap64 (x9_2 + 1))) else (some false))) = some r := H
             have A23 := Aside0.mk A230
             clear A230
             replace H := Option.bind_eq_some_iff.mp H
             obtain ⟨⟨t294, t295⟩, A240, H⟩ := H
             replace H : (if t294 = true then (spec_IsTree.l0 k3 a0 l2 t283 t295 (wrap64 (x9_2 + 1))) else (some false)) = some r := H
             have A24 := Aside0.mk A240
             clear A240
             by_cases c25 : t294 = true
             ·subst c25
              have H1 : (spec_IsTree.l0 k3 a0 l2 t283 t295 (wrap64 (x9_2 + 1))) = some r := by rw [if_pos rfl] at H; exact H
              clear H
              have H := H1
              clear H1
              have H' := Aside0.mk H
              clear H
              obtain ⟨Ao26, co26, eo26⟩ := Kd.R_slice HO_7.out
              subst eo26
              have p291 : 0 ≤ (x9_2 : Int) := of_decide_eq_true (by assumption)
              have q291 : x9_2 < (l2.length : Int) := of_decide_eq_true (by assumption)
              obtain ⟨ad291, e291, hx291_0, hx291_1, hx291_2⟩ := at_T50 HR2.out x9_2 p291 q291
              cases e291
              replace hx291_0 := (HB.out.cell (World.block_lt_of_cell? w _ hx291_0)).trans hx291_0
              replace hx291_1 := (HB.out.cell (World.block_lt_of_cell? w _ hx291_1)).trans hx291_1
              replace hx291_2 := (HB.out.cell (World.block_lt_of_cell? w _ hx291_2)).trans hx291_2
              replace p291 := eq_true p291
              replace q291 := eq_true q291
              go_wp2_with (first | (go_at_call 90; (with_reducible refine (spec_l23Ends.calls a0 ((rd_T50 l2 x9_2).f0) ((rd_T50 l2 x9_2).f1) ((rd_T50 l2 x9_2).f2) t292 t293 _ A23.out).mono ?_); rintro e w27 ⟨rfl, hb⟩; have n0_ := Aside0.mk (Kd.R_below (rX HO_7.out) hb); have n1_ := Aside0.mk (Kd.R_below (rX HO_8.out) hb); have n2_ := Aside0.mk (below_step (bX HB.out) hb); clear HO_7; clear HO_8; clear HB; have HO_7 := n0_; have HO_8 := n1_; have HB := n2_; clear n0_ n1_ n2_; (try clear hb); (try clear hb2); (try clear hk); (try clear hi); obtain ⟨Ao28, co28, eo28⟩ := Kd.R_slice HO_8.out; subst eo28) | (go_at_call 91; (with_reducible refine (spec_l23Join.calls k3 (fun k_ => some k_ = (.slice Ao28 x8_2.length co28 : Value).ownBlock) (.slice Ao28 x8_2.length co28) x8_2 t292 t293 true t295 w _ ?side1 ?side2 A24.out).mono ?_); (case side1 => repeat (first | (with_reducible first | exact HB.out | apply below_alloc | apply pw_below_drewN | apply below_drew1) | exact HB.out)); (case side2 => exact Kd.R_tight rfl HO_8.out); rintro e w29 ⟨rfl, hy0, hb, hkp⟩; have n0_ := Aside0.mk (Kd.R_mono (ok' := fun k_ => True) (Kd.R_keptB ((Kd.R_apart' HO_7.out (Kd.R_typed HO_8.out) (by decide))) hkp (fun k_ hk_ hs_ => (hk_.2) hs_)) (fun k_ hk_ => trivial)); have n1_ := Aside0.mk (Kd.R_reok rfl hy0 (fun k_ e_ => HO_8.out.1 k_ e_)); have n2_ := Aside0.mk (hb); clear HO_7; clear HO_8; clear HB; have HO_7 := n0_; have HO_8 := n1_; have HB := n2_; clear n0_ n1_ n2_; (try clear hb); (try clear hkp); (try clear hy0)))
              repeat (go_quiet (first | (go_at_call 90; (with_reducible refine (spec_l23Ends.calls a0 ((rd_T50 l2 x9_2).f0) ((rd_T50 l2 x9_2).f1) ((rd_T50 l2 x9_2).f2) t292 t293 _ A23.out).mono ?_); rintro e w27 ⟨rfl, hb⟩; have n0_ := Aside0.mk (Kd.R_below (rX HO_7.out) hb); have n1_ := Aside0.mk (Kd.R_below (rX HO_8.out) hb); have n2_ := Aside0.mk (below_step (bX HB.out) hb); clear HO_7; clear HO_8; clear HB; have HO_7 := n0_; have HO_8 := n1_; have HB := n2_; clear n0_ n1_ n2_; (try clear hb); (try clear hb2); (try clear hk); (try clear hi); obtain ⟨Ao28, co28, eo28⟩ := Kd.R_slice HO_8.out; subst eo28) | (go_at_call 91; (with_reducible refine (spec_l23Join.calls k3 (fun k_ => some k_ = (.slice Ao28 x8_2.length co28 : Value).ownBlock) (.slice Ao28 x8_2.length co28) x8_2 t292 t293 true t295 w _ ?side1 ?side2 A24.out).mono ?_); (case side1 => repeat (first | (with_reducible first | exact HB.out | apply below_alloc | apply pw_below_drewN | apply below_drew1) | exact HB.out)); (case side2 => exact Kd.R_tight rfl HO_8.out); rintro e w29 ⟨rfl, hy0, hb, hkp⟩; have n0_ := Aside0.mk (Kd.R_mono (ok' := fun k_ => True) (Kd.R_keptB ((Kd.R_apart' HO_7.out (Kd.R_typed HO_8.out) (by decide))) hkp (fun k_ hk_ hs_ => (hk_.2) hs_)) (fun k_ hk_ => trivial)); have n1_ := Aside0.mk (Kd.R_reok rfl hy0 (fun k_ e_ => HO_8.out.1 k_ e_)); have n2_ := Aside0.mk (hb); clear HO_7; clear HO_8; clear HB; have HO_7 := n0_; have HO_8 := n1_; have HB := n2_; clear n0_ n1_ n2_; (try clear hb); (try clear hkp); (try clear hy0))); try go_wp2_with (first | (go_at_call 90; (with_reducible refine (spec_l23Ends.calls a0 ((rd_T50 l2 x9_2).f0) ((rd_T50 l2 x9_2).f1) ((rd_T50 l2 x9_2).f2) t292 t293 _ A23.out).mono ?_); rintro e w27 ⟨rfl, hb⟩; have n0_ := Aside0.mk (Kd.R_below (rX HO_7.out) hb); have n1_ := Aside0.mk (Kd.R_below (rX HO_8.out) hb); have n2_ := Aside0.mk (below_step (bX HB.out) hb); clear HO_7; clear HO_8; clear HB; have HO_7 := n0_; have HO_8 := n1_; have HB := n2_; clear n0_ n1_ n2_; (try clear hb); (try clear hb2); (try clear hk); (try clear hi); obtain ⟨Ao28, co28, eo28⟩ := Kd.R_slice HO_8.out; subst eo28) | (go_at_call 91; (with_reducible refine (spec_l23Join.calls k3 (fun k_ => some k_ = (.slice Ao28 x8_2.length co28 : Value).ownBlock) (.slice Ao28 x8_2.length co28) x8_2 t292 t293 true t295 w _ ?side1 ?side2 A24.out).mono ?_); (case side1 => repeat (first | (with_reducible first | exact HB.out | apply below_alloc | apply pw_below_drewN | apply below_drew1) | exact HB.out)); (case side2 => exact Kd.R_tight rfl HO_8.out); rintro e w29 ⟨rfl, hy0, hb, hkp⟩; have n0_ := Aside0.mk (Kd.R_mono (ok' := fun k_ => True) (Kd.R_keptB ((Kd.R_apart' HO_7.out (Kd.R_typed HO_8.out) (by decide))) hkp (fun k_ hk_ hs_ => (hk_.2) hs_)) (fun k_ hk_ => trivial)); have n1_ := Aside0.mk (Kd.R_reok rfl hy0 (fun k_ e_ => HO_8.out.1 k_ e_)); have n2_ := Aside0.mk (hb); clear HO_7; clear HO_8; clear HB; have HO_7 := n0_; have HO_8 := n1_; have HB := n2_; clear n0_ n1_ n2_; (try clear hb); (try clear hkp); (try clear hy0))))
              go_roundg k3
              case measure => have := HJ3.out; have := HK2.out; have := HK3.out; omega
              case rel => exact ⟨(t295), (wrap64 (x9_2 + 1)), (by first | rfl | (simp; done) | (simp [*]; done)), H', ⟨by have := HJ3.out; have := HK2.out; have := HK3.out; omega⟩, ⟨rX HO_7.out⟩, ⟨rX HO_8.out⟩, ⟨bX HB.out⟩⟩
             ·replace c25 := Bool.eq_false_iff.mpr c25
              subst c25
              have H1 : (some false) = some r := by rw [if_neg (show ¬ (false = true) by decide)] at H; exact H
              clear H
              have H := H1
              clear H1
              obtain rfl := Option.some.inj H
              obtain ⟨Ao30, co30, eo30⟩ := Kd.R_slice HO_7.out
              subst eo30
              have p291 : 0 ≤ (x9_2 : Int) := of_decide_eq_true (by assumption)
              have q291 : x9_2 < (l2.length : Int) := of_decide_eq_true (by assumption)
              obtain ⟨ad291, e291, hx291_0, hx291_1, hx291_2⟩ := at_T50 HR2.out x9_2 p291 q291
              cases e291
              replace hx291_0 := (HB.out.cell (World.block_lt_of_cell? w _ hx291_0)).trans hx291_0
              replace hx291_1 := (HB.out.cell (World.block_lt_of_cell? w _ hx291_1)).trans hx291_1
              replace hx291_2 := (HB.out.cell (World.block_lt_of_cell? w _ hx291_2)).trans hx291_2
              replace p291 := eq_true p291
              replace q291 := eq_true q291
              go_wp2_with (first | (go_at_call 90; (with_reducible refine (spec_l23Ends.calls a0 ((rd_T50 l2 x9_2).f0) ((rd_T50 l2 x9_2).f1) ((rd_T50 l2 x9_2).f2) t292 t293 _ A23.out).mono ?_); rintro e w31 ⟨rfl, hb⟩; have n0_ := Aside0.mk (Kd.R_below (rX HO_7.out) hb); have n1_ := Aside0.mk (Kd.R_below (rX HO_8.out) hb); have n2_ := Aside0.mk (below_step (bX HB.out) hb); clear HO_7; clear HO_8; clear HB; have HO_7 := n0_; have HO_8 := n1_; have HB := n2_; clear n0_ n1_ n2_; (try clear hb); (try clear hb2); (try clear hk); (try clear hi); obtain ⟨Ao32, co32, eo32⟩ := Kd.R_slice HO_8.out; subst eo32) | (go_at_call 91; (with_reducible refine (spec_l23Join.calls k3 (fun k_ => some k_ = (.slice Ao32 x8_2.length co32 : Value).ownBlock) (.slice Ao32 x8_2.length co32) x8_2 t292 t293 false t295 w _ ?side1 ?side2 A24.out).mono ?_); (case side1 => repeat (first | (with_reducible first | exact HB.out | apply below_alloc | apply pw_below_drewN | apply below_drew1) | exact HB.out)); (case side2 => exact Kd.R_tight rfl HO_8.out); rintro e w33 ⟨rfl, hy0, hb, hkp⟩; have n0_ := Aside0.mk (Kd.R_mono (ok' := fun k_ => True) (Kd.R_keptB ((Kd.R_apart' HO_7.out (Kd.R_typed HO_8.out) (by decide))) hkp (fun k_ hk_ hs_ => (hk_.2) hs_)) (fun k_ hk_ => trivial)); have n1_ := Aside0.mk (Kd.R_reok rfl hy0 (fun k_ e_ => HO_8.out.1 k_ e_)); have n2_ := Aside0.mk (hb); clear HO_7; clear HO_8; clear HB; have HO_7 := n0_; have HO_8 := n1_; have HB := n2_; clear n0_ n1_ n2_; (try clear hb); (try clear hkp); (try clear hy0)))
              repeat (go_quiet (first | (go_at_call 90; (with_reducible refine (spec_l23Ends.calls a0 ((rd_T50 l2 x9_2).f0) ((rd_T50 l2 x9_2).f1) ((rd_T50 l2 x9_2).f2) t292 t293 _ A23.out).mono ?_); rintro e w31 ⟨rfl, hb⟩; have n0_ := Aside0.mk (Kd.R_below (rX HO_7.out) hb); have n1_ := Aside0.mk (Kd.R_below (rX HO_8.out) hb); have n2_ := Aside0.mk (below_step (bX HB.out) hb); clear HO_7; clear HO_8; clear HB; have HO_7 := n0_; have HO_8 := n1_; have HB := n2_; clear n0_ n1_ n2_; (try clear hb); (try clear hb2); (try clear hk); (try clear hi); obtain ⟨Ao32, co32, eo32⟩ := Kd.R_slice HO_8.out; subst eo32) | (go_at_call 91; (with_reducible refine (spec_l23Join.calls k3 (fun k_ => some k_ = (.slice Ao32 x8_2.length co32 : Value).ownBlock) (.slice Ao32 x8_2.length co32) x8_2 t292 t293 false t295 w _ ?side1 ?side2 A24.out).mono ?_); (case side1 => repeat (first | (with_reducible first | exact HB.out | apply below_alloc | apply pw_below_drewN | apply below_drew1) | exact HB.out)); (case side2 => exact Kd.R_tight rfl HO_8.out); rintro e w33 ⟨rfl, hy0, hb, hkp⟩; have n0_ := Aside0.mk (Kd.R_mono (ok' := fun k_ => True) (Kd.R_keptB ((Kd.R_apart' HO_7.out (Kd.R_typed HO_8.out) (by decide))) hkp (fun k_ hk_ hs_ => (hk_.2) hs_)) (fun k_ hk_ => trivial)); have n1_ := Aside0.mk (Kd.R_reok rfl hy0 (fun k_ e_ => HO_8.out.1 k_ e_)); have n2_ := Aside0.mk (hb); clear HO_7; clear HO_8; clear HB; have HO_7 := n0_; have HO_8 := n1_; have HB := n2_; clear n0_ n1_ n2_; (try clear hb); (try clear hkp); (try clear hy0))); try go_wp2_with (first | (go_at_call 90; (with_reducible refine (spec_l23Ends.calls a0 ((rd_T50 l2 x9_2).f0) ((rd_T50 l2 x9_2).f1) ((rd_T50 l2 x9_2).f2) t292 t293 _ A23.out).mono ?_); rintro e w31 ⟨rfl, hb⟩; have n0_ := Aside0.mk (Kd.R_below (rX HO_7.out) hb); have n1_ := Aside0.mk (Kd.R_below (rX HO_8.out) hb); have n2_ := Aside0.mk (below_step (bX HB.out) hb); clear HO_7; clear HO_8; clear HB; have HO_7 := n0_; have HO_8 := n1_; have HB := n2_; clear n0_ n1_ n2_; (try clear hb); (try clear hb2); (try clear hk); (try clear hi); obtain ⟨Ao32, co32, eo32⟩ := Kd.R_slice HO_8.out; subst eo32) | (go_at_call 91; (with_reducible refine (spec_l23Join.calls k3 (fun k_ => some k_ = (.slice Ao32 x8_2.length co32 : Value).ownBlock) (.slice Ao32 x8_2.length co32) x8_2 t292 t293 false t295 w _ ?side1 ?side2 A24.out).mono ?_); (case side1 => repeat (first | (with_reducible first | exact HB.out | apply below_alloc | apply pw_below_drewN | apply below_drew1) | exact HB.out)); (case side2 => exact Kd.R_tight rfl HO_8.out); rintro e w33 ⟨rfl, hy0, hb, hkp⟩; have n0_ := Aside0.mk (Kd.R_mono (ok' := fun k_ => True) (Kd.R_keptB ((Kd.R_apart' HO_7.out (Kd.R_typed HO_8.out) (by decide))) hkp (fun k_ hk_ hs_ => (hk_.2) hs_)) (fun k_ hk_ => trivial)); have n1_ := Aside0.mk (Kd.R_reok rfl hy0 (fun k_ e_ => HO_8.out.1 k_ e_)); have n2_ := Aside0.mk (hb); clear HO_7; clear HO_8; clear HB; have HO_7 := n0_; have HO_8 := n1_; have HB := n2_; clear n0_ n1_ n2_; (try clear hb); (try clear hkp); (try clear hy0))))
              go_ret
              exact ⟨by first | rfl | (simp [*, errW_none, errW_some] <;> rfl), bX HB.out⟩
            ·rw [if_neg c22] at H
             exact absurd H (by simp)
           ·rw [if_neg c21] at H
            exact absurd H (by simp)
          ·replace c20 := Bool.eq_false_iff.mpr c20
           subst c20
           have H1 : (some false) = some r := by rw [if_neg (show ¬ (false = true) by decide)] at H; exact H
           clear H
           have H := H1
           clear H1
           obtain rfl := Option.some.inj H
           obtain ⟨Ao34, co34, eo34⟩ := Kd.R_slice HO_7.out
           subst eo34
           go_wp2
           repeat (go_quiet (fail); try go_wp2)
           go_ret
           exact ⟨by first | rfl | (simp [*, errW_none, errW_some] <;> rfl), bX HB.out⟩
      ·rw [if_neg c12] at H
       have c12b0 : decide (x9_2 < (l2.length : Int)) = false := decide_eq_false c12
       clear c12
       obtain rfl := Option.some.inj H
       go_wp2
       repeat (go_quiet (fail); try go_wp2)
       go_ret
       exact ⟨by first | rfl | (simp [*, errW_none, errW_some] <;> rfl), bX HB.out⟩
end Go.Proofs.Ytnfnlmilmpaofaa.PFnExactTilingOfTree
namespace Go.Proofs.Ytnfnlmilmpaofaa.PFnExactTilingOfTree
open Go.RowKit Go.Proofs.YtnfnlmilmpaofaaW.PrintWords Go.Proofs.YtnfnlmilmpaofaaW.PrintLast Go.Proofs.YtnfnlmilmpaofaaW.PrintMore
attribute [local go_sem] max2_int min2_int max_two min_two max_three min_three max_four min_four   -- for this text's walks alone
set_option linter.unusedVariables false
set_option linter.unusedSimpArgs false
def spec_l24Has.l0 : Nat → List (S50) → Int → Int → Int → Option (Bool)
 | 0, _, _, _, _ => none
 | k + 1, x0, x5, x297000, x297001 => if x5 < (x0.length : Int) then (if 0 ≤ x5 then (if ((rd_T50 x0 x5).f2 = true) then (if (rd_T50 x0 x5).f2 = true then (if x297000 = (wrap64 (2 * ((rd_T50 x0 x5).f0))) then (if x297001 = (wrap64 ((wrap64 (2 * ((rd_T50 x0 x5).f1))) + 1)) then (some true) else (spec_l24Has.l0 k x0 (wrap64 (x5 + 1)) x297000 x297001)) else (spec_l24Has.l0 k x0 (wrap64 (x5 + 1)) x297000 x297001)) else (spec_l24Has.l0 k x0 (wrap64 (x5 + 1)) x297000 x297001)) else (if x297000 = (wrap64 ((wrap64 (2 * ((rd_T50 x0 x5).f0))) + 1)) then (if x297001 = (wrap64 (2 * ((rd_T50 x0 x5).f1))) then (some true) else (if (rd_T50 x0 x5).f2 = true then (if x297000 = (wrap64 (2 * ((rd_T50 x0 x5).f0))) then (if x297001 = (wrap64 ((wrap64 (2 * ((rd_T50 x0 x5).f1))) + 1)) then (some true) else (spec_l24Has.l0 k x0 (wrap64 (x5 + 1)) x297000 x297001)) else (spec_l24Has.l0 k x0 (wrap64 (x5 + 1)) x297000 x297001)) else (spec_l24Has.l0 k x0 (wrap64 (x5 + 1)) x297000 x297001))) else (if (rd_T50 x0 x5).f2 = true then (if x297000 = (wrap64 (2 * ((rd_T50 x0 x5).f0))) then (if x297001 = (wrap64 ((wrap64 (2 * ((rd_T50 x0 x5).f1))) + 1)) then (some true) else (spec_l24Has.l0 k x0 (wrap64 (x5 + 1)) x297000 x297001)) else (spec_l24Has.l0 k x0 (wrap64 (x5 + 1)) x297000 x297001)) else (spec_l24Has.l0 k x0 (wrap64 (x5 + 1)) x297000 x297001)))) else (none)) else (some false)
def spec_l24Has.f (k : Nat) (l0 : List (S50)) (a1_0 : Int) (a1_1 : Int) : Option (Bool) := spec_l24Has.l0 k l0 0 a1_0 a1_1
theorem spec_l24Has.mono_l : ∀ k, (∀ y0 y1 y2 y3, LeO (spec_l24Has.l0 k y0 y1 y2 y3) (spec_l24Has.l0 (k + 1) y0 y1 y2 y3))
 | 0 => fun _ _ _ _ r h => by simp [spec_l24Has.l0] at h
 | k + 1 => by
  have ih0 := spec_l24Has.mono_l k
  ·intro y0 y1 y2 y3
   unfold spec_l24Has.l0
   repeat' with_reducible first
   | exact ih0 _ _ _ _
   | exact LeO.refl _
   | exact LeO.none _
   | refine LeO.ite ?_ ?_
   | refine LeO.bind ?_ (fun _ => ?_)
theorem spec_l24Has.mono : ∀ a0 a1 a2 k, LeO (spec_l24Has.f k a0 a1 a2) (spec_l24Has.f (k + 1) a0 a1 a2) := by
 intro a0 a1 a2 k
 have ih0 := spec_l24Has.mono_l k
 unfold spec_l24Has.f
 repeat' first
   | (with_reducible exact ih0 _ _ _ _)
   | (with_reducible exact LeO.refl _)
   | (with_reducible exact LeO.none _)
   | (with_reducible refine LeO.ite ?_ ?_)
   | (with_reducible refine LeO.bind ?_ (fun _ => ?_))
   | exact ih0 _ _ _ _
   | exact LeO.none _
   | refine LeO.ite ?_ ?_
   | refine LeO.bind ?_ (fun _ => ?_)
set_option maxHeartbeats 8000000 in
set_option maxRecDepth 100000 in
theorem spec_l24Has.calls (k : Nat) (A0 : Option Addr) (c0 : Nat) (l0 : List (S50)) (a1_0 : Int) (a1_1 : Int) (r : Bool) (w : World) (hr0 : Kd.C k50 w A0 l0.length l0) (hc0 : l0.length ≤ c0) (h : spec_l24Has.f k l0 a1_0 a1_1 = some r) :
  Calls Try.prog 148 #[.slice A0 l0.length c0, .agg #[.int .i64 a1_0, .int .i64 a1_1]] w fun e w' => e = .returned (.bool r) ∧ Below w.heap.size w w' := by
 have hu39 := Try.underlying39
 have hu50 := Try.underlying50
 have HR0 := Aside0.mk hr0
 have HC0 := Aside0.mk hc0
 clear hr0 hc0
 have HB := Aside0.mk (Below.refl w.heap.size w)
 have H : (spec_l24Has.l0 k l0 0 a1_0 a1_1) = some r := h
 clear h
 have H' := Aside0.mk H
 clear H
 go_enter Try.func148, Try.ntmps148
 go_wp2_with (first | ((with_reducible refine gate_dst (N := 3) rfl ?_); refine box_event ?hg (N := 3) ?hd (cs := #[.int .i64 a1_0, .int .i64 a1_1]) (t := 39) ?hr ?_; (case hd => rfl); (case hg => rfl); (case hr => first | (go_simp; done) | (go_simp; rfl)); intro gb296 hg w3 hbox hb; have n0_ := Aside0.mk (below_step (bX HB.out) hb); have n1_ := Aside0.mk (hbox); have n2_ := Aside0.mk ((by rw [hg]; exact (below_size (bX HB.out)) : w.heap.size ≤ gb296)); have n3_ := Aside0.mk ((by rw [hg]; exact (below_size (bX HB.out)) : w.heap.size ≤ gb296)); clear HB; have HB := n0_; have BK296 := n1_; have GW296 := n2_; have GE296 := n3_; clear n0_ n1_ n2_ n3_; clear hb hbox hg))
 go_loopg [5] k (fun kq v5 w' => ∃ (x5_1 : Int), v5 = .int .i64 x5_1 ∧ Aside0 (spec_l24Has.l0 kq l0 x5_1 a1_0 a1_1 = some r) ∧ Aside0 (kq ≤ k) ∧ Aside0 (w'.heap[gb296]? = some (.cells #[.int .i64 a1_0, .int .i64 a1_1] 39 (0, 0))) ∧ Aside0 (Below w.heap.size w w'))
 case atStart => exact ⟨(0), (by first | rfl | (simp; done) | (simp [*]; done)), H', ⟨Nat.le_refl _⟩, ⟨kX BK296.out⟩, ⟨by repeat (with_reducible first | exact HB.out | apply below_alloc | apply pw_below_drewN | apply below_drew1 | refine below_set ?_ GE296.out)⟩⟩
 case round =>
  clear H'
  try clear c1
  try clear p2
  obtain ⟨x5_1, rfl, HA, HK1, BK296, HB⟩ := hrel
  cases gk with
  | zero => exact absurd HA.out (by simp [spec_l24Has.l0])
  | succ k1 =>
   have H := HA.out
   clear HA
   simp only [spec_l24Has.l0] at H
   by_cases c4 : x5_1 < (l0.length : Int)
   ·rw [if_pos c4] at H
    have c4b0 : decide (x5_1 < (l0.length : Int)) = true := decide_eq_true c4
    clear c4
    by_cases c5 : 0 ≤ x5_1
    ·rw [if_pos c5] at H
     have c5b0 : decide (0 ≤ x5_1) = true := decide_eq_true c5
     clear c5
     obtain ⟨bq6, hbq6⟩ : ∃ b_ : Bool, b_ = ((rd_T50 l0 x5_1).f2) := ⟨_, rfl⟩
     replace H : (if (bq6 = true) then (if bq6 = true then (if a1_0 = (wrap64 (2 * ((rd_T50 l0 x5_1).f0))) then (if a1_1 = (wrap64 ((wrap64 (2 * ((rd_T50 l0 x5_1).f1))) + 1)) then (some true) else (spec_l24Has.l0 k1 l0 (wrap64 (x5_1 + 1)) a1_0 a1_1)) else (spec_l24Has.l0 k1 l0 (wrap64 (x5_1 + 1)) a1_0 a1_1)) else (spec_l24Has.l0 k1 l0 (wrap64 (x5_1 + 1)) a1_0 a1_1)) else (if a1_0 = (wrap64 ((wrap64 (2 * ((rd_T50 l0 x5_1).f0))) + 1)) then (if a1_1 = (wrap64 (2 * ((rd_T50 l0 x5_1).f1))) then (some true) else (if bq6 = true then (if a1_0 = (wrap64 (2 * ((rd_T50 l0 x5_1).f0))) then (if a1_1 = (wrap64 ((wrap64 (2 * ((rd_T50 l0 x5_1).f1))) + 1)) then (some true) else (spec_l24Has.l0 k1 l0 (wrap64 (x5_1 + 1)) a1_0 a1_1)) else (spec_l24Has.l0 k1 l0 (wrap64 (x5_1 + 1)) a1_0 a1_1)) else (spec_l24Has.l0 k1 l0 (wrap64 (x5_1 + 1)) a1_0 a1_1))) else (if bq6 = true then (if a1_0 = (wrap64 (2 * ((rd_T50 l0 x5_1).f0))) then (if a1_1 = (wrap64 ((wrap64 (2 * ((rd_T50 l0 x5_1).f1))) + 1)) then (some true) else (spec_l24Has.l0 k1 l0 (wrap64 (x5_1 + 1)) a1_0 a1_1)) else (spec_l24Has.l0 k1 l0 (wrap64 (x5_1 + 1)) a1_0 a1_1)) else (spec_l24Has.l0 k1 l0 (wrap64 (x5_1 + 1)) a1_0 a1_1)))) = some r := by rw [← hbq6] at H; exact H
     have Nbq6 := Aside0.mk hbq6
     clear hbq6
     by_cases c7 : (bq6 = true)
     ·subst c7
      have H1 : (if true = true then (if a1_0 = (wrap64 (2 * ((rd_T50 l0 x5_1).f0))) then (if a1_1 = (wrap64 ((wrap64 (2 * ((rd_T50 l0 x5_1).f1))) + 1)) then (some true) else (spec_l24Has.l0 k1 l0 (wrap64 (x5_1 + 1)) a1_0 a1_1)) else (spec_l24Has.l0 k1 l0 (wrap64 (x5_1 + 1)) a1_0 a1_1)) else (spec_l24Has.l0 k1 l0 (wrap64 (x5_1 + 1)) a1_0 a1_1)) = some r := by rw [if_pos rfl] at H; exact H
      clear H
      have H := H1
      clear H1
      have H1 : (if a1_0 = (wrap64 (2 * ((rd_T50 l0 x5_1).f0))) then (if a1_1 = (wrap64 ((wrap64 (2 * ((rd_T50 l0 x5_1).f1))) + 1)) then (some true) else (spec_l24Has.l0 k1 l0 (wrap64 (x5_1 + 1)) a1_0 a1_1)) else (spec_l24Has.l0 k1 l0 (wrap64 (x5_1 + 1)) a1_0 a1_1)) = some r := by rw [if_pos rfl] at H; exact H
      clear H
      have H := H1
      clear H1
      by_cases c9 : a1_0 = (wrap64 (2 * ((rd_T50 l0 x5_1).f0)))
      ·rw [if_pos c9] at H
       have c9b0 : (a1_0 == (wrap64 (2 * ((rd_T50 l0 x5_1).f0)))) = true := beq_iff_eq.mpr c9
       have c9b1 : (a1_0 != (wrap64 (2 * ((rd_T50 l0 x5_1).f0)))) = false := bne_eq_false_iff_eq.mpr c9
       clear c9
       by_cases c10 : a1_1 = (wrap64 ((wrap64 (2 * ((rd_T50 l0 x5_1).f1))) + 1))
       ·rw [if_pos c10] at H
        have c10b0 : (a1_1 == (wrap64 ((wrap64 (2 * ((rd_T50 l0 x5_1).f1))) + 1))) = true := beq_iff_eq.mpr c10
        have c10b1 : (a1_1 != (wrap64 ((wrap64 (2 * ((rd_T50 l0 x5_1).f1))) + 1))) = false := bne_eq_false_iff_eq.mpr c10
        clear c10
        obtain rfl := Option.some.inj H
        have p297 : 0 ≤ (x5_1 : Int) := of_decide_eq_true (by assumption)
        have q297 : x5_1 < (l0.length : Int) := of_decide_eq_true (by assumption)
        obtain ⟨ad297, e297, hx297_0, hx297_1, hx297_2⟩ := at_T50 HR0.out x5_1 p297 q297
        (try rw [← Nbq6.out] at hx297_2)
        cases e297
        replace hx297_0 := (HB.out.cell (World.block_lt_of_cell? w _ hx297_0)).trans hx297_0
        replace hx297_1 := (HB.out.cell (World.block_lt_of_cell? w _ hx297_1)).trans hx297_1
        replace hx297_2 := (HB.out.cell (World.block_lt_of_cell? w _ hx297_2)).trans hx297_2
        replace p297 := eq_true p297
        replace q297 := eq_true q297
        go_wp2_with (first | ((with_reducible refine gate_dst (N := 6) rfl ?_); refine box_event ?hg (N := 6) ?hd (cs := #[.int .i64 0, .int .i64 0, .bool false]) (t := 50) ?hr ?_; (case hd => rfl); (case hg => rfl); (case hr => first | (go_simp; done) | (go_simp; rfl)); intro gb298 hg w11 hbox hb; have n0_ := Aside0.mk (blk_below (g := gb296) (o := .cells #[.int .i64 a1_0, .int .i64 a1_1] 39 (0, 0)) (kX BK296.out) hb); have n1_ := Aside0.mk (below_step (by repeat (with_reducible first | exact HB.out | apply below_alloc | apply pw_below_drewN | apply below_drew1 | refine below_set ?_ GE296.out)) hb); have n2_ := Aside0.mk (hbox); have n3_ := Aside0.mk ((by rw [hg]; exact (below_size (by repeat (with_reducible first | exact HB.out | apply below_alloc | apply pw_below_drewN | apply below_drew1 | refine below_set ?_ GE296.out))) : w.heap.size ≤ gb298)); have n4_ := Aside0.mk ((by rw [hg]; exact (below_size (by repeat (with_reducible first | exact HB.out | apply below_alloc | apply pw_below_drewN | apply below_drew1 | refine below_set ?_ GE296.out))) : w.heap.size ≤ gb298)); have n5_ := Aside0.mk ((by rw [hg]; exact Nat.ne_of_lt (blk_lt (g := gb296) (o := .cells #[.int .i64 a1_0, .int .i64 a1_1] 39 (0, 0)) (kX BK296.out)) : gb296 ≠ gb298)); have n6_ := Aside0.mk ((by rw [hg]; exact Nat.ne_of_gt (blk_lt (g := gb296) (o := .cells #[.int .i64 a1_0, .int .i64 a1_1] 39 (0, 0)) (kX BK296.out)) : gb298 ≠ gb296)); clear BK296; clear HB; have BK296 := n0_; have HB := n1_; have BK298 := n2_; have GW298 := n3_; have GE298 := n4_; have NB296_298 := n5_; have NB298_296 := n6_; clear n0_ n1_ n2_ n3_ n4_ n5_ n6_; clear hb hbox hg; have hnb12 := NB298_296.out; have hnc12 := NB296_298.out; have hcz13_0 : w11.cell? ⟨gb298, 0, none⟩ = some (.int .i64 0) := (blk_cell BK298.out 0).trans rfl; have hcz13_1 : w11.cell? ⟨gb298, 1, none⟩ = some (.int .i64 0) := (blk_cell BK298.out 1).trans rfl; have hcz13_2 : w11.cell? ⟨gb298, 2, none⟩ = some (.bool false) := (blk_cell BK298.out 2).trans rfl; have hfz13_0 := blk_frozen BK298.out 0; have hfz13_1 := blk_frozen BK298.out 1; have hfz13_2 := blk_frozen BK298.out 2; have hcz14_0 : w11.cell? ⟨gb296, 0, none⟩ = some (.int .i64 a1_0) := (blk_cell BK296.out 0).trans rfl; have hcz14_1 : w11.cell? ⟨gb296, 1, none⟩ = some (.int .i64 a1_1) := (blk_cell BK296.out 1).trans rfl; have hfz14_0 := blk_frozen BK296.out 0; have hfz14_1 := blk_frozen BK296.out 1))
        go_ret
        exact ⟨by first | rfl | (simp [*, errW_none, errW_some] <;> rfl), by repeat (with_reducible first | exact HB.out | apply below_alloc | apply pw_below_drewN | apply below_drew1 | refine below_set ?_ GE296.out | refine below_set ?_ GE298.out)⟩
       ·rw [if_neg c10] at H
        have c10b0 : (a1_1 == (wrap64 ((wrap64 (2 * ((rd_T50 l0 x5_1).f1))) + 1))) = false := beq_eq_false_iff_ne.mpr c10
        have c10b1 : (a1_1 != (wrap64 ((wrap64 (2 * ((rd_T50 l0 x5_1).f1))) + 1))) = true := bne_iff_ne.mpr c10
        have H' := Aside0.mk H
        clear H
        have p297 : 0 ≤ (x5_1 : Int) := of_decide_eq_true (by assumption)
        have q297 : x5_1 < (l0.length : Int) := of_decide_eq_true (by assumption)
        obtain ⟨ad297, e297, hx297_0, hx297_1, hx297_2⟩ := at_T50 HR0.out x5_1 p297 q297
        (try rw [← Nbq6.out] at hx297_2)
        cases e297
        replace hx297_0 := (HB.out.cell (World.block_lt_of_cell? w _ hx297_0)).trans hx297_0
        replace hx297_1 := (HB.out.cell (World.block_lt_of_cell? w _ hx297_1)).trans hx297_1
        replace hx297_2 := (HB.out.cell (World.block_lt_of_cell? w _ hx297_2)).trans hx297_2
        replace p297 := eq_true p297
        replace q297 := eq_true q297
        go_wp2_with (first | ((with_reducible refine gate_dst (N := 6) rfl ?_); refine box_event ?hg (N := 6) ?hd (cs := #[.int .i64 0, .int .i64 0, .bool false]) (t := 50) ?hr ?_; (case hd => rfl); (case hg => rfl); (case hr => first | (go_simp; done) | (go_simp; rfl)); intro gb298 hg w15 hbox hb; have n0_ := Aside0.mk (blk_below (g := gb296) (o := .cells #[.int .i64 a1_0, .int .i64 a1_1] 39 (0, 0)) (kX BK296.out) hb); have n1_ := Aside0.mk (below_step (by repeat (with_reducible first | exact HB.out | apply below_alloc | apply pw_below_drewN | apply below_drew1 | refine below_set ?_ GE296.out)) hb); have n2_ := Aside0.mk (hbox); have n3_ := Aside0.mk ((by rw [hg]; exact (below_size (by repeat (with_reducible first | exact HB.out | apply below_alloc | apply pw_below_drewN | apply below_drew1 | refine below_set ?_ GE296.out))) : w.heap.size ≤ gb298)); have n4_ := Aside0.mk ((by rw [hg]; exact (below_size (by repeat (with_reducible first | exact HB.out | apply below_alloc | apply pw_below_drewN | apply below_drew1 | refine below_set ?_ GE296.out))) : w.heap.size ≤ gb298)); have n5_ := Aside0.mk ((by rw [hg]; exact Nat.ne_of_lt (blk_lt (g := gb296) (o := .cells #[.int .i64 a1_0, .int .i64 a1_1] 39 (0, 0)) (kX BK296.out)) : gb296 ≠ gb298)); have n6_ := Aside0.mk ((by rw [hg]; exact Nat.ne_of_gt (blk_lt (g := gb296) (o := .cells #[.int .i64 a1_0, .int .i64 a1_1] 39 (0, 0)) (kX BK296.out)) : gb298 ≠ gb296)); clear BK296; clear HB; have BK296 := n0_; have HB := n1_; have BK298 := n2_; have GW298 := n3_; have GE298 := n4_; have NB296_298 := n5_; have NB298_296 := n6_; clear n0_ n1_ n2_ n3_ n4_ n5_ n6_; clear hb hbox hg; have hnb16 := NB298_296.out; have hnc16 := NB296_298.out; have hcz17_0 : w15.cell? ⟨gb298, 0, none⟩ = some (.int .i64 0) := (blk_cell BK298.out 0).trans rfl; have hcz17_1 : w15.cell? ⟨gb298, 1, none⟩ = some (.int .i64 0) := (blk_cell BK298.out 1).trans rfl; have hcz17_2 : w15.cell? ⟨gb298, 2, none⟩ = some (.bool false) := (blk_cell BK298.out 2).trans rfl; have hfz17_0 := blk_frozen BK298.out 0; have hfz17_1 := blk_frozen BK298.out 1; have hfz17_2 := blk_frozen BK298.out 2; have hcz18_0 : w15.cell? ⟨gb296, 0, none⟩ = some (.int .i64 a1_0) := (blk_cell BK296.out 0).trans rfl; have hcz18_1 : w15.cell? ⟨gb296, 1, none⟩ = some (.int .i64 a1_1) := (blk_cell BK296.out 1).trans rfl; have hfz18_0 := blk_frozen BK296.out 0; have hfz18_1 := blk_frozen BK296.out 1))
        go_roundg k1
        case measure => have := HK1.out; omega
        case rel => exact ⟨(wrap64 (x5_1 + 1)), (by first | rfl | (simp; done) | (simp [*]; done)), H', ⟨by have := HK1.out; omega⟩, ⟨by (with_reducible repeat (first | refine blk_drewN ?_ _ | refine blk_drew ?_ | refine blk_alloc ?_ _)); refine blk_far ?_ NB296_298.out _; (with_reducible repeat (first | refine blk_drewN ?_ _ | refine blk_drew ?_ | refine blk_alloc ?_ _)); refine blk_far ?_ NB296_298.out _; (with_reducible repeat (first | refine blk_drewN ?_ _ | refine blk_drew ?_ | refine blk_alloc ?_ _)); refine blk_far ?_ NB296_298.out _; (with_reducible repeat (first | refine blk_drewN ?_ _ | refine blk_drew ?_ | refine blk_alloc ?_ _)); exact BK296.out⟩, ⟨by repeat (with_reducible first | exact HB.out | apply below_alloc | apply pw_below_drewN | apply below_drew1 | refine below_set ?_ GE296.out | refine below_set ?_ GE298.out)⟩⟩
      ·rw [if_neg c9] at H
       have c9b0 : (a1_0 == (wrap64 (2 * ((rd_T50 l0 x5_1).f0)))) = false := beq_eq_false_iff_ne.mpr c9
       have c9b1 : (a1_0 != (wrap64 (2 * ((rd_T50 l0 x5_1).f0)))) = true := bne_iff_ne.mpr c9
       have H' := Aside0.mk H
       clear H
       have p297 : 0 ≤ (x5_1 : Int) := of_decide_eq_true (by assumption)
       have q297 : x5_1 < (l0.length : Int) := of_decide_eq_true (by assumption)
       obtain ⟨ad297, e297, hx297_0, hx297_1, hx297_2⟩ := at_T50 HR0.out x5_1 p297 q297
       (try rw [← Nbq6.out] at hx297_2)
       cases e297
       replace hx297_0 := (HB.out.cell (World.block_lt_of_cell? w _ hx297_0)).trans hx297_0
       replace hx297_1 := (HB.out.cell (World.block_lt_of_cell? w _ hx297_1)).trans hx297_1
       replace hx297_2 := (HB.out.cell (World.block_lt_of_cell? w _ hx297_2)).trans hx297_2
       replace p297 := eq_true p297
       replace q297 := eq_true q297
       go_wp2_with (first | ((with_reducible refine gate_dst (N := 6) rfl ?_); refine box_event ?hg (N := 6) ?hd (cs := #[.int .i64 0, .int .i64 0, .bool false]) (t := 50) ?hr ?_; (case hd => rfl); (case hg => rfl); (case hr => first | (go_simp; done) | (go_simp; rfl)); intro gb298 hg w19 hbox hb; have n0_ := Aside0.mk (blk_below (g := gb296) (o := .cells #[.int .i64 a1_0, .int .i64 a1_1] 39 (0, 0)) (kX BK296.out) hb); have n1_ := Aside0.mk (below_step (by repeat (with_reducible first | exact HB.out | apply below_alloc | apply pw_below_drewN | apply below_drew1 | refine below_set ?_ GE296.out)) hb); have n2_ := Aside0.mk (hbox); have n3_ := Aside0.mk ((by rw [hg]; exact (below_size (by repeat (with_reducible first | exact HB.out | apply below_alloc | apply pw_below_drewN | apply below_drew1 | refine below_set ?_ GE296.out))) : w.heap.size ≤ gb298)); have n4_ := Aside0.mk ((by rw [hg]; exact (below_size (by repeat (with_reducible first | exact HB.out | apply below_alloc | apply pw_below_drewN | apply below_drew1 | refine below_set ?_ GE296.out))) : w.heap.size ≤ gb298)); have n5_ := Aside0.mk ((by rw [hg]; exact Nat.ne_of_lt (blk_lt (g := gb296) (o := .cells #[.int .i64 a1_0, .int .i64 a1_1] 39 (0, 0)) (kX BK296.out)) : gb296 ≠ gb298)); have n6_ := Aside0.mk ((by rw [hg]; exact Nat.ne_of_gt (blk_lt (g := gb296) (o := .cells #[.int .i64 a1_0, .int .i64 a1_1] 39 (0, 0)) (kX BK296.out)) : gb298 ≠ gb296)); clear BK296; clear HB; have BK296 := n0_; have HB := n1_; have BK298 := n2_; have GW298 := n3_; have GE298 := n4_; have NB296_298 := n5_; have NB298_296 := n6_; clear n0_ n1_ n2_ n3_ n4_ n5_ n6_; clear hb hbox hg; have hnb20 := NB298_296.out; have hnc20 := NB296_298.out; have hcz21_0 : w19.cell? ⟨gb298, 0, none⟩ = some (.int .i64 0) := (blk_cell BK298.out 0).trans rfl; have hcz21_1 : w19.cell? ⟨gb298, 1, none⟩ = some (.int .i64 0) := (blk_cell BK298.out 1).trans rfl; have hcz21_2 : w19.cell? ⟨gb298, 2, none⟩ = some (.bool false) := (blk_cell BK298.out 2).trans rfl; have hfz21_0 := blk_frozen BK298.out 0; have hfz21_1 := blk_frozen BK298.out 1; have hfz21_2 := blk_frozen BK298.out 2; have hcz22_0 : w19.cell? ⟨gb296, 0, none⟩ = some (.int .i64 a1_0) := (blk_cell BK296.out 0).trans rfl; have hcz22_1 : w19.cell? ⟨gb296, 1, none⟩ = some (.int .i64 a1_1) := (blk_cell BK296.out 1).trans rfl; have hfz22_0 := blk_frozen BK296.out 0; have hfz22_1 := blk_frozen BK296.out 1))
       go_roundg k1
       case measure => have := HK1.out; omega
       case rel => exact ⟨(wrap64 (x5_1 + 1)), (by first | rfl | (simp; done) | (simp [*]; done)), H', ⟨by have := HK1.out; omega⟩, ⟨by (with_reducible repeat (first | refine blk_drewN ?_ _ | refine blk_drew ?_ | refine blk_alloc ?_ _)); refine blk_far ?_ NB296_298.out _; (with_reducible repeat (first | refine blk_drewN ?_ _ | refine blk_drew ?_ | refine blk_alloc ?_ _)); refine blk_far ?_ NB296_298.out _; (with_reducible repeat (first | refine blk_drewN ?_ _ | refine blk_drew ?_ | refine blk_alloc ?_ _)); refine blk_far ?_ NB296_298.out _; (with_reducible repeat (first | refine blk_drewN ?_ _ | refine blk_drew ?_ | refine blk_alloc ?_ _)); exact BK296.out⟩, ⟨by repeat (with_reducible first | exact HB.out | apply below_alloc | apply pw_below_drewN | apply below_drew1 | refine below_set ?_ GE296.out | refine below_set ?_ GE298.out)⟩⟩
     ·replace c7 := Bool.eq_false_iff.mpr c7
      subst c7
      have H1 : (if a1_0 = (wrap64 ((wrap64 (2 * ((rd_T50 l0 x5_1).f0))) + 1)) then (if a1_1 = (wrap64 (2 * ((rd_T50 l0 x5_1).f1))) then (some true) else (if false = true then (if a1_0 = (wrap64 (2 * ((rd_T50 l0 x5_1).f0))) then (if a1_1 = (wrap64 ((wrap64 (2 * ((rd_T50 l0 x5_1).f1))) + 1)) then (some true) else (spec_l24Has.l0 k1 l0 (wrap64 (x5_1 + 1)) a1_0 a1_1)) else (spec_l24Has.l0 k1 l0 (wrap64 (x5_1 + 1)) a1_0 a1_1)) else (spec_l24Has.l0 k1 l0 (wrap64 (x5_1 + 1)) a1_0 a1_1))) else (if false = true then (if a1_0 = (wrap64 (2 * ((rd_T50 l0 x5_1).f0))) then (if a1_1 = (wrap64 ((wrap64 (2 * ((rd_T50 l0 x5_1).f1))) + 1)) then (some true) else (spec_l24Has.l0 k1 l0 (wrap64 (x5_1 + 1)) a1_0 a1_1)) else (spec_l24Has.l0 k1 l0 (wrap64 (x5_1 + 1)) a1_0 a1_1)) else (spec_l24Has.l0 k1 l0 (wrap64 (x5_1 + 1)) a1_0 a1_1))) = some r := by rw [if_neg (show ¬ (false = true) by decide)] at H; exact H
      clear H
      have H := H1
      clear H1
      by_cases c26 : a1_0 = (wrap64 ((wrap64 (2 * ((rd_T50 l0 x5_1).f0))) + 1))
      ·rw [if_pos c26] at H
       have c26b0 : (a1_0 == (wrap64 ((wrap64 (2 * ((rd_T50 l0 x5_1).f0))) + 1))) = true := beq_iff_eq.mpr c26
       have c26b1 : (a1_0 != (wrap64 ((wrap64 (2 * ((rd_T50 l0 x5_1).f0))) + 1))) = false := bne_eq_false_iff_eq.mpr c26
       clear c26
       by_cases c27 : a1_1 = (wrap64 (2 * ((rd_T50 l0 x5_1).f1)))
       ·rw [if_pos c27] at H
        have c27b0 : (a1_1 == (wrap64 (2 * ((rd_T50 l0 x5_1).f1)))) = true := beq_iff_eq.mpr c27
        have c27b1 : (a1_1 != (wrap64 (2 * ((rd_T50 l0 x5_1).f1)))) = false := bne_eq_false_iff_eq.mpr c27
        clear c27
        obtain rfl := Option.some.inj H
        have p297 : 0 ≤ (x5_1 : Int) := of_decide_eq_true (by assumption)
        have q297 : x5_1 < (l0.length : Int) := of_decide_eq_true (by assumption)
        obtain ⟨ad297, e297, hx297_0, hx297_1, hx297_2⟩ := at_T50 HR0.out x5_1 p297 q297
        (try rw [← Nbq6.out] at hx297_2)
        cases e297
        replace hx297_0 := (HB.out.cell (World.block_lt_of_cell? w _ hx297_0)).trans hx297_0
        replace hx297_1 := (HB.out.cell (World.block_lt_of_cell? w _ hx297_1)).trans hx297_1
        replace hx297_2 := (HB.out.cell (World.block_lt_of_cell? w _ hx297_2)).trans hx297_2
        replace p297 := eq_true p297
        replace q297 := eq_true q297
        go_wp2_with (first | ((with_reducible refine gate_dst (N := 6) rfl ?_); refine box_event ?hg (N := 6) ?hd (cs := #[.int .i64 0, .int .i64 0, .bool false]) (t := 50) ?hr ?_; (case hd => rfl); (case hg => rfl); (case hr => first | (go_simp; done) | (go_simp; rfl)); intro gb298 hg w28 hbox hb; have n0_ := Aside0.mk (blk_below (g := gb296) (o := .cells #[.int .i64 a1_0, .int .i64 a1_1] 39 (0, 0)) (kX BK296.out) hb); have n1_ := Aside0.mk (below_step (by repeat (with_reducible first | exact HB.out | apply below_alloc | apply pw_below_drewN | apply below_drew1 | refine below_set ?_ GE296.out)) hb); have n2_ := Aside0.mk (hbox); have n3_ := Aside0.mk ((by rw [hg]; exact (below_size (by repeat (with_reducible first | exact HB.out | apply below_alloc | apply pw_below_drewN | apply below_drew1 | refine below_set ?_ GE296.out))) : w.heap.size ≤ gb298)); have n4_ := Aside0.mk ((by rw [hg]; exact (below_size (by repeat (with_reducible first | exact HB.out | apply below_alloc | apply pw_below_drewN | apply below_drew1 | refine below_set ?_ GE296.out))) : w.heap.size ≤ gb298)); have n5_ := Aside0.mk ((by rw [hg]; exact Nat.ne_of_lt (blk_lt (g := gb296) (o := .cells #[.int .i64 a1_0, .int .i64 a1_1] 39 (0, 0)) (kX BK296.out)) : gb296 ≠ gb298)); have n6_ := Aside0.mk ((by rw [hg]; exact Nat.ne_of_gt (blk_lt (g := gb296) (o := .cells #[.int .i64 a1_0, .int .i64 a1_1] 39 (0, 0)) (kX BK296.out)) : gb298 ≠ gb296)); clear BK296; clear HB; have BK296 := n0_; have HB := n1_; have BK298 := n2_; have GW298 := n3_; have GE298 := n4_; have NB296_298 := n5_; have NB298_296 := n6_; clear n0_ n1_ n2_ n3_ n4_ n5_ n6_; clear hb hbox hg; have hnb29 := NB298_296.out; have hnc29 := NB296_298.out; have hcz30_0 : w28.cell? ⟨gb298, 0, none⟩ = some (.int .i64 0) := (blk_cell BK298.out 0).trans rfl; have hcz30_1 : w28.cell? ⟨gb298, 1, none⟩ = some (.int .i64 0) := (blk_cell BK298.out 1).trans rfl; have hcz30_2 : w28.cell? ⟨gb298, 2, none⟩ = some (.bool false) := (blk_cell BK298.out 2).trans rfl; have hfz30_0 := blk_frozen BK298.out 0; have hfz30_1 := blk_frozen BK298.out 1; have hfz30_2 := blk_frozen BK298.out 2; have hcz31_0 : w28.cell? ⟨gb296, 0, none⟩ = some (.int .i64 a1_0) := (blk_cell BK296.out 0).trans rfl; have hcz31_1 : w28.cell? ⟨gb296, 1, none⟩ = some (.int .i64 a1_1) := (blk_cell BK296.out 1).trans rfl; have hfz31_0 := blk_frozen BK296.out 0; have hfz31_1 := blk_frozen BK296.out 1))
        go_ret
        exact ⟨by first | rfl | (simp [*, errW_none, errW_some] <;> rfl), by repeat (with_reducible first | exact HB.out | apply below_alloc | apply pw_below_drewN | apply below_drew1 | refine below_set ?_ GE296.out | refine below_set ?_ GE298.out)⟩
       ·rw [if_neg c27] at H
        have c27b0 : (a1_1 == (wrap64 (2 * ((rd_T50 l0 x5_1).f1)))) = false := beq_eq_false_iff_ne.mpr c27
        have c27b1 : (a1_1 != (wrap64 (2 * ((rd_T50 l0 x5_1).f1)))) = true := bne_iff_ne.mpr c27
        have H1 : (spec_l24Has.l0 k1 l0 (wrap64 (x5_1 + 1)) a1_0 a1_1) = some r := by rw [if_neg (show ¬ (false = true) by decide)] at H; exact H
        clear H
        have H := H1
        clear H1
        have H' := Aside0.mk H
        clear H
        have p297 : 0 ≤ (x5_1 : Int) := of_decide_eq_true (by assumption)
        have q297 : x5_1 < (l0.length : Int) := of_decide_eq_true (by assumption)
        obtain ⟨ad297, e297, hx297_0, hx297_1, hx297_2⟩ := at_T50 HR0.out x5_1 p297 q297
        (try rw [← Nbq6.out] at hx297_2)
        cases e297
        replace hx297_0 := (HB.out.cell (World.block_lt_of_cell? w _ hx297_0)).trans hx297_0
        replace hx297_1 := (HB.out.cell (World.block_lt_of_cell? w _ hx297_1)).trans hx297_1
        replace hx297_2 := (HB.out.cell (World.block_lt_of_cell? w _ hx297_2)).trans hx297_2
        replace p297 := eq_true p297
        replace q297 := eq_true q297
        go_wp2_with (first | ((with_reducible refine gate_dst (N := 6) rfl ?_); refine box_event ?hg (N := 6) ?hd (cs := #[.int .i64 0, .int .i64 0, .bool false]) (t := 50) ?hr ?_; (case hd => rfl); (case hg => rfl); (case hr => first | (go_simp; done) | (go_simp; rfl)); intro gb298 hg w47 hbox hb; have n0_ := Aside0.mk (blk_below (g := gb296) (o := .cells #[.int .i64 a1_0, .int .i64 a1_1] 39 (0, 0)) (kX BK296.out) hb); have n1_ := Aside0.mk (below_step (by repeat (with_reducible first | exact HB.out | apply below_alloc | apply pw_below_drewN | apply below_drew1 | refine below_set ?_ GE296.out)) hb); have n2_ := Aside0.mk (hbox); have n3_ := Aside0.mk ((by rw [hg]; exact (below_size (by repeat (with_reducible first | exact HB.out | apply below_alloc | apply pw_below_drewN | apply below_drew1 | refine below_set ?_ GE296.out))) : w.heap.size ≤ gb298)); have n4_ := Aside0.mk ((by rw [hg]; exact (below_size (by repeat (with_reducible first | exact HB.out | apply below_alloc | apply pw_below_drewN | apply below_drew1 | refine below_set ?_ GE296.out))) : w.heap.size ≤ gb298)); have n5_ := Aside0.mk ((by rw [hg]; exact Nat.ne_of_lt (blk_lt (g := gb296) (o := .cells #[.int .i64 a1_0, .int .i64 a1_1] 39 (0, 0)) (kX BK296.out)) : gb296 ≠ gb298)); have n6_ := Aside0.mk ((by rw [hg]; exact Nat.ne_of_gt (blk_lt (g := gb296) (o := .cells #[.int .i64 a1_0, .int .i64 a1_1] 39 (0, 0)) (kX BK296.out)) : gb298 ≠ gb296)); clear BK296; clear HB; have BK296 := n0_; have HB := n1_; have BK298 := n2_; have GW298 := n3_; have GE298 := n4_; have NB296_298 := n5_; have NB298_296 := n6_; clear n0_ n1_ n2_ n3_ n4_ n5_ n6_; clear hb hbox hg; have hnb48 := NB298_296.out; have hnc48 := NB296_298.out; have hcz49_0 : w47.cell? ⟨gb298, 0, none⟩ = some (.int .i64 0) := (blk_cell BK298.out 0).trans rfl; have hcz49_1 : w47.cell? ⟨gb298, 1, none⟩ = some (.int .i64 0) := (blk_cell BK298.out 1).trans rfl; have hcz49_2 : w47.cell? ⟨gb298, 2, none⟩ = some (.bool false) := (blk_cell BK298.out 2).trans rfl; have hfz49_0 := blk_frozen BK298.out 0; have hfz49_1 := blk_frozen BK298.out 1; have hfz49_2 := blk_frozen BK298.out 2; have hcz50_0 : w47.cell? ⟨gb296, 0, none⟩ = some (.int .i64 a1_0) := (blk_cell BK296.out 0).trans rfl; have hcz50_1 : w47.cell? ⟨gb296, 1, none⟩ = some (.int .i64 a1_1) := (blk_cell BK296.out 1).trans rfl; have hfz50_0 := blk_frozen BK296.out 0; have hfz50_1 := blk_frozen BK296.out 1))
        go_roundg k1
        case measure => have := HK1.out; omega
        case rel => exact ⟨(wrap64 (x5_1 + 1)), (by first | rfl | (simp; done) | (simp [*]; done)), H', ⟨by have := HK1.out; omega⟩, ⟨by (with_reducible repeat (first | refine blk_drewN ?_ _ | refine blk_drew ?_ | refine blk_alloc ?_ _)); refine blk_far ?_ NB296_298.out _; (with_reducible repeat (first | refine blk_drewN ?_ _ | refine blk_drew ?_ | refine blk_alloc ?_ _)); refine blk_far ?_ NB296_298.out _; (with_reducible repeat (first | refine blk_drewN ?_ _ | refine blk_drew ?_ | refine blk_alloc ?_ _)); refine blk_far ?_ NB296_298.out _; (with_reducible repeat (first | refine blk_drewN ?_ _ | refine blk_drew ?_ | refine blk_alloc ?_ _)); exact BK296.out⟩, ⟨by repeat (with_reducible first | exact HB.out | apply below_alloc | apply pw_below_drewN | apply below_drew1 | refine below_set ?_ GE296.out | refine below_set ?_ GE298.out)⟩⟩
      ·rw [if_neg c26] at H
       have c26b0 : (a1_0 == (wrap64 ((wrap64 (2 * ((rd_T50 l0 x5_1).f0))) + 1))) = false := beq_eq_false_iff_ne.mpr c26
       have c26b1 : (a1_0 != (wrap64 ((wrap64 (2 * ((rd_T50 l0 x5_1).f0))) + 1))) = true := bne_iff_ne.mpr c26
       have H1 : (spec_l24Has.l0 k1 l0 (wrap64 (x5_1 + 1)) a1_0 a1_1) = some r := by rw [if_neg (show ¬ (false = true) by decide)] at H; exact H
       clear H
       have H := H1
       clear H1
       have H' := Aside0.mk H
       clear H
       have p297 : 0 ≤ (x5_1 : Int) := of_decide_eq_true (by assumption)
       have q297 : x5_1 < (l0.length : Int) := of_decide_eq_true (by assumption)
       obtain ⟨ad297, e297, hx297_0, hx297_1, hx297_2⟩ := at_T50 HR0.out x5_1 p297 q297
       (try rw [← Nbq6.out] at hx297_2)
       cases e297
       replace hx297_0 := (HB.out.cell (World.block_lt_of_cell? w _ hx297_0)).trans hx297_0
       replace hx297_1 := (HB.out.cell (World.block_lt_of_cell? w _ hx297_1)).trans hx297_1
       replace hx297_2 := (HB.out.cell (World.block_lt_of_cell? w _ hx297_2)).trans hx297_2
       replace p297 := eq_true p297
       replace q297 := eq_true q297
       go_wp2_with (first | ((with_reducible refine gate_dst (N := 6) rfl ?_); refine box_event ?hg (N := 6) ?hd (cs := #[.int .i64 0, .int .i64 0, .bool false]) (t := 50) ?hr ?_; (case hd => rfl); (case hg => rfl); (case hr => first | (go_simp; done) | (go_simp; rfl)); intro gb298 hg w66 hbox hb; have n0_ := Aside0.mk (blk_below (g := gb296) (o := .cells #[.int .i64 a1_0, .int .i64 a1_1] 39 (0, 0)) (kX BK296.out) hb); have n1_ := Aside0.mk (below_step (by repeat (with_reducible first | exact HB.out | apply below_alloc | apply pw_below_drewN | apply below_drew1 | refine below_set ?_ GE296.out)) hb); have n2_ := Aside0.mk (hbox); have n3_ := Aside0.mk ((by rw [hg]; exact (below_size (by repeat (with_reducible first | exact HB.out | apply below_alloc | apply pw_below_drewN | apply below_drew1 | refine below_set ?_ GE296.out))) : w.heap.size ≤ gb298)); have n4_ := Aside0.mk ((by rw [hg]; exact (below_size (by repeat (with_reducible first | exact HB.out | apply below_alloc | apply pw_below_drewN | apply below_drew1 | refine below_set ?_ GE296.out))) : w.heap.size ≤ gb298)); have n5_ := Aside0.mk ((by rw [hg]; exact Nat.ne_of_lt (blk_lt (g := gb296) (o := .cells #[.int .i64 a1_0, .int .i64 a1_1] 39 (0, 0)) (kX BK296.out)) : gb296 ≠ gb298)); have n6_ := Aside0.mk ((by rw [hg]; exact Nat.ne_of_gt (blk_lt (g := gb296) (o := .cells #[.int .i64 a1_0, .int .i64 a1_1] 39 (0, 0)) (kX BK296.out)) : gb298 ≠ gb296)); clear BK296; clear HB; have BK296 := n0_; have HB := n1_; have BK298 := n2_; have GW298 := n3_; have GE298 := n4_; have NB296_298 := n5_; have NB298_296 := n6_; clear n0_ n1_ n2_ n3_ n4_ n5_ n6_; clear hb hbox hg; have hnb67 := NB298_296.out; have hnc67 := NB296_298.out; have hcz68_0 : w66.cell? ⟨gb298, 0, none⟩ = some (.int .i64 0) := (blk_cell BK298.out 0).trans rfl; have hcz68_1 : w66.cell? ⟨gb298, 1, none⟩ = some (.int .i64 0) := (blk_cell BK298.out 1).trans rfl; have hcz68_2 : w66.cell? ⟨gb298, 2, none⟩ = some (.bool false) := (blk_cell BK298.out 2).trans rfl; have hfz68_0 := blk_frozen BK298.out 0; have hfz68_1 := blk_frozen BK298.out 1; have hfz68_2 := blk_frozen BK298.out 2; have hcz69_0 : w66.cell? ⟨gb296, 0, none⟩ = some (.int .i64 a1_0) := (blk_cell BK296.out 0).trans rfl; have hcz69_1 : w66.cell? ⟨gb296, 1, none⟩ = some (.int .i64 a1_1) := (blk_cell BK296.out 1).trans rfl; have hfz69_0 := blk_frozen BK296.out 0; have hfz69_1 := blk_frozen BK296.out 1))
       go_roundg k1
       case measure => have := HK1.out; omega
       case rel => exact ⟨(wrap64 (x5_1 + 1)), (by first | rfl | (simp; done) | (simp [*]; done)), H', ⟨by have := HK1.out; omega⟩, ⟨by (with_reducible repeat (first | refine blk_drewN ?_ _ | refine blk_drew ?_ | refine blk_alloc ?_ _)); refine blk_far ?_ NB296_298.out _; (with_reducible repeat (first | refine blk_drewN ?_ _ | refine blk_drew ?_ | refine blk_alloc ?_ _)); refine blk_far ?_ NB296_298.out _; (with_reducible repeat (first | refine blk_drewN ?_ _ | refine blk_drew ?_ | refine blk_alloc ?_ _)); refine blk_far ?_ NB296_298.out _; (with_reducible repeat (first | refine blk_drewN ?_ _ | refine blk_drew ?_ | refine blk_alloc ?_ _)); exact BK296.out⟩, ⟨by repeat (with_reducible first | exact HB.out | apply below_alloc | apply pw_below_drewN | apply below_drew1 | refine below_set ?_ GE296.out | refine below_set ?_ GE298.out)⟩⟩
    ·rw [if_neg c5] at H
     exact absurd H (by simp)
   ·rw [if_neg c4] at H
    have c4b0 : decide (x5_1 < (l0.length : Int)) = false := decide_eq_false c4
    clear c4
    obtain rfl := Option.some.inj H
    go_wp2
    go_ret
    exact ⟨by first | rfl | (simp [*, errW_none, errW_some] <;> rfl), by repeat (with_reducible first | exact HB.out | apply below_alloc | apply pw_below_drewN | apply below_drew1 | refine below_set ?_ GE296.out)⟩
def spec_AreNeighbors.j0 : Nat → Bool → Int → Int → Int → Int → Option (Bool)
 | 0, _, _, _, _, _ => none
 | k + 1, x14, x300000, x300001, x301000, x301001 => if x14 = true then (some false) else (some ((wrap64 ((wrap64 ((wrap64 (x300000 - x301000)) * (wrap64 (x300000 - x301000)))) + (wrap64 ((wrap64 (x300001 - x301001)) * (wrap64 (x300001 - x301001)))))) == 1))
def spec_AreNeighbors.f (k : Nat) (a0_0 : Int) (a0_1 : Int) (a1_0 : Int) (a1_1 : Int) : Option (Bool) := (spec_CellOk.f a0_0 a0_1).bind fun t301 => (if t301 = true then ((spec_CellOk.f a1_0 a1_1).bind fun t302 => (spec_AreNeighbors.j0 k (!t302) a0_0 a0_1 a1_0 a1_1)) else (spec_AreNeighbors.j0 k true a0_0 a0_1 a1_0 a1_1))
theorem spec_AreNeighbors.mono_l : ∀ k, (∀ y0 y1 y2 y3 y4, LeO (spec_AreNeighbors.j0 k y0 y1 y2 y3 y4) (spec_AreNeighbors.j0 (k + 1) y0 y1 y2 y3 y4))
 | 0 => fun _ _ _ _ _ r h => by simp [spec_AreNeighbors.j0] at h
 | k + 1 => by
  have ih0 := spec_AreNeighbors.mono_l k
  ·intro y0 y1 y2 y3 y4
   unfold spec_AreNeighbors.j0
   repeat' with_reducible first
   | exact ih0 _ _ _ _ _
   | exact LeO.refl _
   | exact LeO.none _
   | refine LeO.ite ?_ ?_
   | refine LeO.bind ?_ (fun _ => ?_)
theorem spec_AreNeighbors.mono : ∀ a0 a1 a2 a3 k, LeO (spec_AreNeighbors.f k a0 a1 a2 a3) (spec_AreNeighbors.f (k + 1) a0 a1 a2 a3) := by
 intro a0 a1 a2 a3 k
 have ih0 := spec_AreNeighbors.mono_l k
 unfold spec_AreNeighbors.f
 repeat' first
   | (with_reducible exact ih0 _ _ _ _ _)
   | (with_reducible exact LeO.refl _)
   | (with_reducible exact LeO.none _)
   | (with_reducible refine LeO.ite ?_ ?_)
   | (with_reducible refine LeO.bind ?_ (fun _ => ?_))
   | exact ih0 _ _ _ _ _
   | exact LeO.none _
   | refine LeO.ite ?_ ?_
   | refine LeO.bind ?_ (fun _ => ?_)
set_option maxHeartbeats 8000000 in
set_option maxRecDepth 100000 in
theorem spec_AreNeighbors.calls (k : Nat) (a0_0 : Int) (a0_1 : Int) (a1_0 : Int) (a1_1 : Int) (r : Bool) (w : World) (h : spec_AreNeighbors.f k a0_0 a0_1 a1_0 a1_1 = some r) :
  Calls Try.prog 171 #[.agg #[.int .i64 a0_0, .int .i64 a0_1], .agg #[.int .i64 a1_0, .int .i64 a1_1]] w fun e w' => e = .returned (.bool r) ∧ Below w.heap.size w w' := by
 have hu39 := Try.underlying39
 have HB := Aside0.mk (Below.refl w.heap.size w)
 have H : ((spec_CellOk.f a0_0 a0_1).bind fun t301 => (if t301 = true then ((spec_CellOk.f a1_0 a1_1).bind fun t302 => (spec_AreNeighbors.j0 k (!t302) a0_0 a0_1 a1_0 a1_1)) else (spec_AreNeighbors.j0 k true a0_0 a0_1 a1_0 a1_1))) = some r := h
 clear h
 have HC3 := Aside0.mk H
 clear H
 go_enter Try.func171, Try.ntmps171
 go_upto_region 1 with (first | ((with_reducible refine gate_dst (N := 2) rfl ?_); refine box_event ?hg (N := 2) ?hd (cs := #[.int .i64 a0_0, .int .i64 a0_1]) (t := 39) ?hr ?_; (case hd => rfl); (case hg => rfl); (case hr => first | (go_simp; done) | (go_simp; rfl)); intro gb299 hg w4 hbox hb; have n0_ := Aside0.mk (below_step (bX HB.out) hb); have n1_ := Aside0.mk (hbox); have n2_ := Aside0.mk ((by rw [hg]; exact (below_size (bX HB.out)) : w.heap.size ≤ gb299)); have n3_ := Aside0.mk ((by rw [hg]; exact (below_size (bX HB.out)) : w.heap.size ≤ gb299)); clear HB; have HB := n0_; have BK299 := n1_; have GW299 := n2_; have GE299 := n3_; clear n0_ n1_ n2_ n3_; clear hb hbox hg) | ((with_reducible refine gate_dst (N := 3) rfl ?_); refine box_event ?hg (N := 3) ?hd (cs := #[.int .i64 a1_0, .int .i64 a1_1]) (t := 39) ?hr ?_; (case hd => rfl); (case hg => rfl); (case hr => first | (go_simp; done) | (go_simp; rfl)); intro gb300 hg w5 hbox hb; have n0_ := Aside0.mk (blk_below (g := gb299) (o := .cells #[.int .i64 a0_0, .int .i64 a0_1] 39 (0, 0)) (kX BK299.out) hb); have n1_ := Aside0.mk (below_step (by repeat (with_reducible first | exact HB.out | apply below_alloc | apply pw_below_drewN | apply below_drew1 | refine below_set ?_ GE299.out)) hb); have n2_ := Aside0.mk (hbox); have n3_ := Aside0.mk ((by rw [hg]; exact (below_size (by repeat (with_reducible first | exact HB.out | apply below_alloc | apply pw_below_drewN | apply below_drew1 | refine below_set ?_ GE299.out))) : w.heap.size ≤ gb300)); have n4_ := Aside0.mk ((by rw [hg]; exact (below_size (by repeat (with_reducible first | exact HB.out | apply below_alloc | apply pw_below_drewN | apply below_drew1 | refine below_set ?_ GE299.out))) : w.heap.size ≤ gb300)); have n5_ := Aside0.mk ((by rw [hg]; exact Nat.ne_of_lt (blk_lt (g := gb299) (o := .cells #[.int .i64 a0_0, .int .i64 a0_1] 39 (0, 0)) (kX BK299.out)) : gb299 ≠ gb300)); have n6_ := Aside0.mk ((by rw [hg]; exact Nat.ne_of_gt (blk_lt (g := gb299) (o := .cells #[.int .i64 a0_0, .int .i64 a0_1] 39 (0, 0)) (kX BK299.out)) : gb300 ≠ gb299)); clear BK299; clear HB; have BK299 := n0_; have HB := n1_; have BK300 := n2_; have GW300 := n3_; have GE300 := n4_; have NB299_300 := n5_; have NB300_299 := n6_; clear n0_ n1_ n2_ n3_ n4_ n5_ n6_; clear hb hbox hg))
 (try simp only [Act.put, List.setIfInBounds_toArray, List.set_cons_zero, List.set_cons_succ])
 go_cut [14] (fun v14 wc => ∃ (kq : Nat) (x14_2 : Bool), v14 = .bool x14_2 ∧ Aside0 (spec_AreNeighbors.j0 kq x14_2 a0_0 a0_1 a1_0 a1_1 = some r) ∧ Aside0 (kq ≤ k) ∧ Aside0 (wc.heap[gb299]? = some (.cells #[.int .i64 a0_0, .int .i64 a0_1] 39 (0, 0))) ∧ Aside0 (wc.heap[gb300]? = some (.cells #[.int .i64 a1_0, .int .i64 a1_1] 39 (0, 0))) ∧ Aside0 (Below w.heap.size w wc))
 case first =>
  have H := HC3.out
  clear HC3
  replace H := Option.bind_eq_some_iff.mp H
  obtain ⟨t301, A60, H⟩ := H
  replace H : (if t301 = true then ((spec_CellOk.f a1_0 a1_1).bind fun t302 => (spec_AreNeighbors.j0 k (!t302) a0_0 a0_1 a1_0 a1_1)) else (spec_AreNeighbors.j0 k true a0_0 a0_1 a1_0 a1_1)) = some r := H
  have A6 := Aside0.mk A60
  clear A60
  by_cases c7 : t301 = true
  ·subst c7
   have H1 : ((spec_CellOk.f a1_0 a1_1).bind fun t302 => (spec_AreNeighbors.j0 k (!t302) a0_0 a0_1 a1_0 a1_1)) = some r := by rw [if_pos rfl] at H; exact H
   clear H
   have H := H1
   clear H1
   replace H := Option.bind_eq_some_iff.mp H
   obtain ⟨t302, A80, H⟩ := H
   replace H : (spec_AreNeighbors.j0 k (!t302) a0_0 a0_1 a1_0 a1_1) = some r := H
   have A8 := Aside0.mk A80
   clear A80
   have H' := Aside0.mk H
   clear H
   have hnb9 := NB299_300.out
   have hnc9 := NB300_299.out
   have hcz10_0 : w5.cell? ⟨gb299, 0, none⟩ = some (.int .i64 a0_0) := (blk_cell BK299.out 0).trans rfl
   have hcz10_1 : w5.cell? ⟨gb299, 1, none⟩ = some (.int .i64 a0_1) := (blk_cell BK299.out 1).trans rfl
   have hfz10_0 := blk_frozen BK299.out 0
   have hfz10_1 := blk_frozen BK299.out 1
   go_wp2_with (first | ((with_reducible refine gate_callee (f := 132) rfl ?_); refine goesL_ (some 8) rfl rfl Try.func132 (by kernel_rfl) rfl #[.agg #[.int .i64 a0_0, .int .i64 a0_1]] rfl (by (try simp only [sD, sE, sF]); first | done | rfl) ?_; (with_reducible refine (spec_CellOk.calls a0_0 a0_1 true _ A6.out).mono ?_); rintro e w11 ⟨rfl, hb⟩; refine ⟨_, rfl, ?_⟩; have n0_ := Aside0.mk (blk_below (g := gb299) (o := .cells #[.int .i64 a0_0, .int .i64 a0_1] 39 (0, 0)) (kX BK299.out) hb); have n1_ := Aside0.mk (blk_below (g := gb300) (o := .cells #[.int .i64 a1_0, .int .i64 a1_1] 39 (0, 0)) (kX BK300.out) hb); have n2_ := Aside0.mk (below_step (by repeat (with_reducible first | exact HB.out | apply below_alloc | apply pw_below_drewN | apply below_drew1 | refine below_set ?_ GE299.out | refine below_set ?_ GE300.out)) hb); clear BK299; clear BK300; clear HB; have BK299 := n0_; have BK300 := n1_; have HB := n2_; clear n0_ n1_ n2_; (try clear hb); (try clear hb2); (try clear hk); (try clear hi); have hcz12_0 : w11.cell? ⟨gb300, 0, none⟩ = some (.int .i64 a1_0) := (blk_cell BK300.out 0).trans rfl; have hcz12_1 : w11.cell? ⟨gb300, 1, none⟩ = some (.int .i64 a1_1) := (blk_cell BK300.out 1).trans rfl; have hfz12_0 := blk_frozen BK300.out 0; have hfz12_1 := blk_frozen BK300.out 1) | (go_at_call 132; (with_reducible refine (spec_CellOk.calls a1_0 a1_1 t302 _ A8.out).mono ?_); rintro e w13 ⟨rfl, hb⟩; have n0_ := Aside0.mk (blk_below (g := gb299) (o := .cells #[.int .i64 a0_0, .int .i64 a0_1] 39 (0, 0)) (kX BK299.out) hb); have n1_ := Aside0.mk (blk_below (g := gb300) (o := .cells #[.int .i64 a1_0, .int .i64 a1_1] 39 (0, 0)) (kX BK300.out) hb); have n2_ := Aside0.mk (below_step (by repeat (with_reducible first | exact HB.out | apply below_alloc | apply pw_below_drewN | apply below_drew1 | refine below_set ?_ GE299.out | refine below_set ?_ GE300.out)) hb); clear BK299; clear BK300; clear HB; have BK299 := n0_; have BK300 := n1_; have HB := n2_; clear n0_ n1_ n2_; (try clear hb); (try clear hb2); (try clear hk); (try clear hi)))
   go_meet
   case rel => exact ⟨_, (!t302), (by first | rfl | (simp; done) | (simp [*]; done)), H', ⟨by first | omega | exact Nat.le_refl _⟩, ⟨kX BK299.out⟩, ⟨kX BK300.out⟩, ⟨by repeat (with_reducible first | exact HB.out | apply below_alloc | apply pw_below_drewN | apply below_drew1 | refine below_set ?_ GE299.out | refine below_set ?_ GE300.out)⟩⟩
  ·replace c7 := Bool.eq_false_iff.mpr c7
   subst c7
   have H1 : (spec_AreNeighbors.j0 k true a0_0 a0_1 a1_0 a1_1) = some r := by rw [if_neg (show ¬ (false = true) by decide)] at H; exact H
   clear H
   have H := H1
   clear H1
   have H' := Aside0.mk H
   clear H
   have hnb14 := NB299_300.out
   have hnc14 := NB300_299.out
   have hcz15_0 : w5.cell? ⟨gb299, 0, none⟩ = some (.int .i64 a0_0) := (blk_cell BK299.out 0).trans rfl
   have hcz15_1 : w5.cell? ⟨gb299, 1, none⟩ = some (.int .i64 a0_1) := (blk_cell BK299.out 1).trans rfl
   have hfz15_0 := blk_frozen BK299.out 0
   have hfz15_1 := blk_frozen BK299.out 1
   go_wp2_with (first | ((with_reducible refine gate_callee (f := 132) rfl ?_); refine goesL_ (some 8) rfl rfl Try.func132 (by kernel_rfl) rfl #[.agg #[.int .i64 a0_0, .int .i64 a0_1]] rfl (by (try simp only [sD, sE, sF]); first | done | rfl) ?_; (with_reducible refine (spec_CellOk.calls a0_0 a0_1 false _ A6.out).mono ?_); rintro e w16 ⟨rfl, hb⟩; refine ⟨_, rfl, ?_⟩; have n0_ := Aside0.mk (blk_below (g := gb299) (o := .cells #[.int .i64 a0_0, .int .i64 a0_1] 39 (0, 0)) (kX BK299.out) hb); have n1_ := Aside0.mk (blk_below (g := gb300) (o := .cells #[.int .i64 a1_0, .int .i64 a1_1] 39 (0, 0)) (kX BK300.out) hb); have n2_ := Aside0.mk (below_step (by repeat (with_reducible first | exact HB.out | apply below_alloc | apply pw_below_drewN | apply below_drew1 | refine below_set ?_ GE299.out | refine below_set ?_ GE300.out)) hb); clear BK299; clear BK300; clear HB; have BK299 := n0_; have BK300 := n1_; have HB := n2_; clear n0_ n1_ n2_; (try clear hb); (try clear hb2); (try clear hk); (try clear hi)))
   go_meet
   case rel => exact ⟨_, (true), (by first | rfl | (simp; done) | (simp [*]; done)), H', ⟨by first | omega | exact Nat.le_refl _⟩, ⟨kX BK299.out⟩, ⟨kX BK300.out⟩, ⟨by repeat (with_reducible first | exact HB.out | apply below_alloc | apply pw_below_drewN | apply below_drew1 | refine below_set ?_ GE299.out | refine below_set ?_ GE300.out)⟩⟩
 case rest =>
  clear HC3
  try clear c1
  try clear p2
  try clear c7
  try clear c9
  try clear c13
  try clear c14
  try clear hcz10_0
  try clear hcz10_1
  try clear hcz12_0
  try clear hcz12_1
  try clear hcz15_0
  try clear hcz15_1
  try clear hfz10_0
  try clear hfz10_1
  try clear hfz12_0
  try clear hfz12_1
  try clear hfz15_0
  try clear hfz15_1
  obtain ⟨kq, x14_2, rfl, HA, HJ2, BK299, BK300, HB⟩ := hcut
  cases kq with
  | zero => exact absurd HA.out (by simp [spec_AreNeighbors.j0])
  | succ kj2 =>
   have H := HA.out
   clear HA
   simp only [spec_AreNeighbors.j0] at H
   by_cases c17 : x14_2 = true
   ·subst c17
    have H1 : (some false) = some r := by rw [if_pos rfl] at H; exact H
    clear H
    have H := H1
    clear H1
    obtain rfl := Option.some.inj H
    go_wp2
    go_ret
    exact ⟨by first | rfl | (simp [*, errW_none, errW_some] <;> rfl), by repeat (with_reducible first | exact HB.out | apply below_alloc | apply pw_below_drewN | apply below_drew1 | refine below_set ?_ GE299.out | refine below_set ?_ GE300.out)⟩
   ·replace c17 := Bool.eq_false_iff.mpr c17
    subst c17
    have H1 : (some ((wrap64 ((wrap64 ((wrap64 (a0_0 - a1_0)) * (wrap64 (a0_0 - a1_0)))) + (wrap64 ((wrap64 (a0_1 - a1_1)) * (wrap64 (a0_1 - a1_1)))))) == 1)) = some r := by rw [if_neg (show ¬ (false = true) by decide)] at H; exact H
    clear H
    have H := H1
    clear H1
    obtain rfl := Option.some.inj H
    have hnb18 := NB299_300.out
    have hnc18 := NB300_299.out
    have hcz19_0 : wc.cell? ⟨gb299, 0, none⟩ = some (.int .i64 a0_0) := (blk_cell BK299.out 0).trans rfl
    have hcz19_1 : wc.cell? ⟨gb299, 1, none⟩ = some (.int .i64 a0_1) := (blk_cell BK299.out 1).trans rfl
    have hfz19_0 := blk_frozen BK299.out 0
    have hfz19_1 := blk_frozen BK299.out 1
    have hcz20_0 : wc.cell? ⟨gb300, 0, none⟩ = some (.int .i64 a1_0) := (blk_cell BK300.out 0).trans rfl
    have hcz20_1 : wc.cell? ⟨gb300, 1, none⟩ = some (.int .i64 a1_1) := (blk_cell BK300.out 1).trans rfl
    have hfz20_0 := blk_frozen BK300.out 0
    have hfz20_1 := blk_frozen BK300.out 1
    go_wp2
    go_ret
    exact ⟨by first | rfl | (simp [*, errW_none, errW_some] <;> rfl), by repeat (with_reducible first | exact HB.out | apply below_alloc | apply pw_below_drewN | apply below_drew1 | refine below_set ?_ GE299.out | refine below_set ?_ GE300.out)⟩
def spec_DominoOver.f (k : Nat) (a0_0 : Int) (a0_1 : Int) (a1_0 : Int) (a1_1 : Int) : Option (Int × Int × Bool × Bool) := (spec_AreNeighbors.f k a0_0 a0_1 a1_0 a1_1).bind fun t306 => (if t306 = true then (some (mn a0_0 a1_0, mn a0_1 a1_1, (a0_0 == a1_0), true)) else (some (0, 0, false, false)))
theorem spec_DominoOver.mono : ∀ a0 a1 a2 a3 k, LeO (spec_DominoOver.f k a0 a1 a2 a3) (spec_DominoOver.f (k + 1) a0 a1 a2 a3) := by
 intro a0 a1 a2 a3 k
 unfold spec_DominoOver.f
 repeat' first
   | (with_reducible exact spec_AreNeighbors.mono _ _ _ _ _)
   | (with_reducible exact LeO.refl _)
   | (with_reducible exact LeO.none _)
   | (with_reducible refine LeO.ite ?_ ?_)
   | (with_reducible refine LeO.bind ?_ (fun _ => ?_))
   | exact spec_AreNeighbors.mono _ _ _ _ _
   | exact LeO.none _
   | refine LeO.ite ?_ ?_
   | refine LeO.bind ?_ (fun _ => ?_)
set_option maxHeartbeats 8000000 in
set_option maxRecDepth 100000 in
theorem spec_DominoOver.calls (k : Nat) (a0_0 : Int) (a0_1 : Int) (a1_0 : Int) (a1_1 : Int) (r1 : Int) (r2 : Int) (r3 : Bool) (r4 : Bool) (w : World) (h : spec_DominoOver.f k a0_0 a0_1 a1_0 a1_1 = some (r1, r2, r3, r4)) :
  Calls Try.prog 149 #[.agg #[.int .i64 a0_0, .int .i64 a0_1], .agg #[.int .i64 a1_0, .int .i64 a1_1]] w fun e w' => e = .returned (.tuple #[.agg #[.int .i64 r1, .int .i64 r2, .bool r3], .bool r4]) ∧ Below w.heap.size w w' := by
 have hu39 := Try.underlying39
 have hu41 := Try.underlying41
 have HB := Aside0.mk (Below.refl w.heap.size w)
 have H : ((spec_AreNeighbors.f k a0_0 a0_1 a1_0 a1_1).bind fun t306 => (if t306 = true then (some (mn a0_0 a1_0, mn a0_1 a1_1, (a0_0 == a1_0), true)) else (some (0, 0, false, false)))) = some (r1, r2, r3, r4) := h
 clear h
 replace H := Option.bind_eq_some_iff.mp H
 obtain ⟨t306, A30, H⟩ := H
 replace H : (if t306 = true then (some (mn a0_0 a1_0, mn a0_1 a1_1, (a0_0 == a1_0), true)) else (some (0, 0, false, false))) = some (r1, r2, r3, r4) := H
 have A3 := Aside0.mk A30
 clear A30
 by_cases c4 : t306 = true
 ·subst c4
  have H1 : (some (mn a0_0 a1_0, mn a0_1 a1_1, (a0_0 == a1_0), true)) = some (r1, r2, r3, r4) := by rw [if_pos rfl] at H; exact H
  clear H
  have H := H1
  clear H1
  obtain ⟨ji5, hji5⟩ : ∃ j_ : Int, (mn a0_0 a1_0) = j_ := ⟨_, rfl⟩
  replace H : (some (ji5, mn a0_1 a1_1, (a0_0 == a1_0), true)) = some (r1, r2, r3, r4) := by first | (rw [hji5] at H; exact H) | (simp only [hji5] at H ⊢; exact H)
  (try rw [hji5] at A3)
  have hji5_ : (if a1_0 < a0_0 then a1_0 else a0_0) = ji5 := hji5
  obtain ⟨ji6, hji6⟩ : ∃ j_ : Int, (mn a0_1 a1_1) = j_ := ⟨_, rfl⟩
  replace H : (some (ji5, ji6, (a0_0 == a1_0), true)) = some (r1, r2, r3, r4) := by first | (rw [hji6] at H; exact H) | (simp only [hji6] at H ⊢; exact H)
  (try rw [hji6] at A3)
  have hji6_ : (if a1_1 < a0_1 then a1_1 else a0_1) = ji6 := hji6
  simp only [Option.some.injEq, Prod.mk.injEq] at H
  obtain ⟨rfl, rfl, rfl, rfl⟩ := H
  go_enter Try.func149, Try.ntmps149
  go_wp2_with (first | ((with_reducible refine gate_dst (N := 2) rfl ?_); refine box_event ?hg (N := 2) ?hd (cs := #[.int .i64 a0_0, .int .i64 a0_1]) (t := 39) ?hr ?_; (case hd => rfl); (case hg => rfl); (case hr => first | (go_simp; done) | (go_simp; rfl)); intro gb303 hg w7 hbox hb; have n0_ := Aside0.mk (below_step (bX HB.out) hb); have n1_ := Aside0.mk (hbox); have n2_ := Aside0.mk ((by rw [hg]; exact (below_size (bX HB.out)) : w.heap.size ≤ gb303)); have n3_ := Aside0.mk ((by rw [hg]; exact (below_size (bX HB.out)) : w.heap.size ≤ gb303)); clear HB; have HB := n0_; have BK303 := n1_; have GW303 := n2_; have GE303 := n3_; clear n0_ n1_ n2_ n3_; clear hb hbox hg) | ((with_reducible refine gate_dst (N := 3) rfl ?_); refine box_event ?hg (N := 3) ?hd (cs := #[.int .i64 a1_0, .int .i64 a1_1]) (t := 39) ?hr ?_; (case hd => rfl); (case hg => rfl); (case hr => first | (go_simp; done) | (go_simp; rfl)); intro gb304 hg w8 hbox hb; have n0_ := Aside0.mk (blk_below (g := gb303) (o := .cells #[.int .i64 a0_0, .int .i64 a0_1] 39 (0, 0)) (kX BK303.out) hb); have n1_ := Aside0.mk (below_step (by repeat (with_reducible first | exact HB.out | apply below_alloc | apply pw_below_drewN | apply below_drew1 | refine below_set ?_ GE303.out)) hb); have n2_ := Aside0.mk (hbox); have n3_ := Aside0.mk ((by rw [hg]; exact (below_size (by repeat (with_reducible first | exact HB.out | apply below_alloc | apply pw_below_drewN | apply below_drew1 | refine below_set ?_ GE303.out))) : w.heap.size ≤ gb304)); have n4_ := Aside0.mk ((by rw [hg]; exact (below_size (by repeat (with_reducible first | exact HB.out | apply below_alloc | apply pw_below_drewN | apply below_drew1 | refine below_set ?_ GE303.out))) : w.heap.size ≤ gb304)); have n5_ := Aside0.mk ((by rw [hg]; exact Nat.ne_of_lt (blk_lt (g := gb303) (o := .cells #[.int .i64 a0_0, .int .i64 a0_1] 39 (0, 0)) (kX BK303.out)) : gb303 ≠ gb304)); have n6_ := Aside0.mk ((by rw [hg]; exact Nat.ne_of_gt (blk_lt (g := gb303) (o := .cells #[.int .i64 a0_0, .int .i64 a0_1] 39 (0, 0)) (kX BK303.out)) : gb304 ≠ gb303)); clear BK303; clear HB; have BK303 := n0_; have HB := n1_; have BK304 := n2_; have GW304 := n3_; have GE304 := n4_; have NB303_304 := n5_; have NB304_303 := n6_; clear n0_ n1_ n2_ n3_ n4_ n5_ n6_; clear hb hbox hg) | ((with_reducible refine gate_dst (N := 4) rfl ?_); refine box_event ?hg (N := 4) ?hd (cs := #[.int .i64 0, .int .i64 0, .bool false]) (t := 41) ?hr ?_; (case hd => rfl); (case hg => rfl); (case hr => first | (go_simp; done) | (go_simp; rfl)); intro gb305 hg w9 hbox hb; have n0_ := Aside0.mk (blk_below (g := gb303) (o := .cells #[.int .i64 a0_0, .int .i64 a0_1] 39 (0, 0)) (kX BK303.out) hb); have n1_ := Aside0.mk (blk_below (g := gb304) (o := .cells #[.int .i64 a1_0, .int .i64 a1_1] 39 (0, 0)) (kX BK304.out) hb); have n2_ := Aside0.mk (below_step (by repeat (with_reducible first | exact HB.out | apply below_alloc | apply pw_below_drewN | apply below_drew1 | refine below_set ?_ GE303.out | refine below_set ?_ GE304.out)) hb); have n3_ := Aside0.mk (hbox); have n4_ := Aside0.mk ((by rw [hg]; exact (below_size (by repeat (with_reducible first | exact HB.out | apply below_alloc | apply pw_below_drewN | apply below_drew1 | refine below_set ?_ GE303.out | refine below_set ?_ GE304.out))) : w.heap.size ≤ gb305)); have n5_ := Aside0.mk ((by rw [hg]; exact (below_size (by repeat (with_reducible first | exact HB.out | apply below_alloc | apply pw_below_drewN | apply below_drew1 | refine below_set ?_ GE303.out | refine below_set ?_ GE304.out))) : w.heap.size ≤ gb305)); have n6_ := Aside0.mk ((by rw [hg]; exact Nat.ne_of_lt (blk_lt (g := gb303) (o := .cells #[.int .i64 a0_0, .int .i64 a0_1] 39 (0, 0)) (kX BK303.out)) : gb303 ≠ gb305)); have n7_ := Aside0.mk ((by rw [hg]; exact Nat.ne_of_gt (blk_lt (g := gb303) (o := .cells #[.int .i64 a0_0, .int .i64 a0_1] 39 (0, 0)) (kX BK303.out)) : gb305 ≠ gb303)); have n8_ := Aside0.mk ((by rw [hg]; exact Nat.ne_of_lt (blk_lt (g := gb304) (o := .cells #[.int .i64 a1_0, .int .i64 a1_1] 39 (0, 0)) (kX BK304.out)) : gb304 ≠ gb305)); have n9_ := Aside0.mk ((by rw [hg]; exact Nat.ne_of_gt (blk_lt (g := gb304) (o := .cells #[.int .i64 a1_0, .int .i64 a1_1] 39 (0, 0)) (kX BK304.out)) : gb305 ≠ gb304)); clear BK303; clear BK304; clear HB; have BK303 := n0_; have BK304 := n1_; have HB := n2_; have BK305 := n3_; have GW305 := n4_; have GE305 := n5_; have NB303_305 := n6_; have NB305_303 := n7_; have NB304_305 := n8_; have NB305_304 := n9_; clear n0_ n1_ n2_ n3_ n4_ n5_ n6_ n7_ n8_ n9_; clear hb hbox hg; have hnb10 := NB303_304.out; have hnc10 := NB304_303.out; have hnb11 := NB303_305.out; have hnc11 := NB305_303.out; have hcz12_0 : w9.cell? ⟨gb303, 0, none⟩ = some (.int .i64 a0_0) := (blk_cell BK303.out 0).trans rfl; have hcz12_1 : w9.cell? ⟨gb303, 1, none⟩ = some (.int .i64 a0_1) := (blk_cell BK303.out 1).trans rfl; have hfz12_0 := blk_frozen BK303.out 0; have hfz12_1 := blk_frozen BK303.out 1; have hnb13 := NB304_305.out; have hnc13 := NB305_304.out; have hcz14_0 : w9.cell? ⟨gb304, 0, none⟩ = some (.int .i64 a1_0) := (blk_cell BK304.out 0).trans rfl; have hcz14_1 : w9.cell? ⟨gb304, 1, none⟩ = some (.int .i64 a1_1) := (blk_cell BK304.out 1).trans rfl; have hfz14_0 := blk_frozen BK304.out 0; have hfz14_1 := blk_frozen BK304.out 1) | ((with_reducible refine gate_callee (f := 171) rfl ?_); refine goesL_ (some 8) rfl rfl Try.func171 (by kernel_rfl) rfl #[.agg #[.int .i64 a0_0, .int .i64 a0_1], .agg #[.int .i64 a1_0, .int .i64 a1_1]] rfl (by (try simp only [sD, sE, sF]); first | done | rfl) ?_; (with_reducible refine (spec_AreNeighbors.calls k a0_0 a0_1 a1_0 a1_1 true _ A3.out).mono ?_); rintro e w15 ⟨rfl, hb⟩; refine ⟨_, rfl, ?_⟩; have n0_ := Aside0.mk (blk_below (g := gb303) (o := .cells #[.int .i64 a0_0, .int .i64 a0_1] 39 (0, 0)) (kX BK303.out) hb); have n1_ := Aside0.mk (blk_below (g := gb304) (o := .cells #[.int .i64 a1_0, .int .i64 a1_1] 39 (0, 0)) (kX BK304.out) hb); have n2_ := Aside0.mk (blk_below (g := gb305) (o := .cells #[.int .i64 0, .int .i64 0, .bool false] 41 (0, 0)) (kX BK305.out) hb); have n3_ := Aside0.mk (below_step (by repeat (with_reducible first | exact HB.out | apply below_alloc | apply pw_below_drewN | apply below_drew1 | refine below_set ?_ GE303.out | refine below_set ?_ GE304.out | refine below_set ?_ GE305.out)) hb); clear BK303; clear BK304; clear BK305; clear HB; have BK303 := n0_; have BK304 := n1_; have BK305 := n2_; have HB := n3_; clear n0_ n1_ n2_ n3_; (try clear hb); (try clear hb2); (try clear hk); (try clear hi); have hcz16_0 : w15.cell? ⟨gb303, 0, none⟩ = some (.int .i64 a0_0) := (blk_cell BK303.out 0).trans rfl; have hcz16_1 : w15.cell? ⟨gb303, 1, none⟩ = some (.int .i64 a0_1) := (blk_cell BK303.out 1).trans rfl; have hfz16_0 := blk_frozen BK303.out 0; have hfz16_1 := blk_frozen BK303.out 1; have hcz17_0 : w15.cell? ⟨gb304, 0, none⟩ = some (.int .i64 a1_0) := (blk_cell BK304.out 0).trans rfl; have hcz17_1 : w15.cell? ⟨gb304, 1, none⟩ = some (.int .i64 a1_1) := (blk_cell BK304.out 1).trans rfl; have hfz17_0 := blk_frozen BK304.out 0; have hfz17_1 := blk_frozen BK304.out 1; have hcz18_0 : w15.cell? ⟨gb305, 0, none⟩ = some (.int .i64 0) := (blk_cell BK305.out 0).trans rfl; have hcz18_1 : w15.cell? ⟨gb305, 1, none⟩ = some (.int .i64 0) := (blk_cell BK305.out 1).trans rfl; have hcz18_2 : w15.cell? ⟨gb305, 2, none⟩ = some (.bool false) := (blk_cell BK305.out 2).trans rfl; have hfz18_0 := blk_frozen BK305.out 0; have hfz18_1 := blk_frozen BK305.out 1; have hfz18_2 := blk_frozen BK305.out 2))
  refine bodyPost_ret (results_ct rfl _ _ gb305 41 #[.int .i64 ji5, .int .i64 ji6, .bool (a0_0 == a1_0)] (0, 0) _ rfl (by (with_reducible repeat (first | refine blk_drewN ?_ _ | refine blk_drew ?_ | refine blk_alloc ?_ _)); refine blk_put (cs := #[.int .i64 ji5, .int .i64 ji6, .bool false]) ?_ 2 _ rfl; (with_reducible repeat (first | refine blk_drewN ?_ _ | refine blk_drew ?_ | refine blk_alloc ?_ _)); refine blk_put (cs := #[.int .i64 ji5, .int .i64 0, .bool false]) ?_ 1 _ rfl; (with_reducible repeat (first | refine blk_drewN ?_ _ | refine blk_drew ?_ | refine blk_alloc ?_ _)); refine blk_put (cs := #[.int .i64 0, .int .i64 0, .bool false]) ?_ 0 _ rfl; (with_reducible repeat (first | refine blk_drewN ?_ _ | refine blk_drew ?_ | refine blk_alloc ?_ _)); exact BK305.out) Try.underlying41 rfl (by kernel_rfl)) rfl ?_
  exact ⟨by first | rfl | (simp [errW_none, errW_some] <;> rfl) | (simp only [← hji5, ← hji6]; first | rfl | (simp [errW_none, errW_some] <;> rfl)) | (simp [*, errW_none, errW_some] <;> rfl), by repeat (with_reducible first | exact HB.out | apply below_alloc | apply pw_below_drewN | apply below_drew1 | refine below_set ?_ GE303.out | refine below_set ?_ GE304.out | refine below_set ?_ GE305.out)⟩
 ·replace c4 := Bool.eq_false_iff.mpr c4
  subst c4
  have H1 : (some (0, 0, false, false)) = some (r1, r2, r3, r4) := by rw [if_neg (show ¬ (false = true) by decide)] at H; exact H
  clear H
  have H := H1
  clear H1
  simp only [Option.some.injEq, Prod.mk.injEq] at H
  obtain ⟨rfl, rfl, rfl, rfl⟩ := H
  go_enter Try.func149, Try.ntmps149
  go_wp2_with (first | ((with_reducible refine gate_dst (N := 2) rfl ?_); refine box_event ?hg (N := 2) ?hd (cs := #[.int .i64 a0_0, .int .i64 a0_1]) (t := 39) ?hr ?_; (case hd => rfl); (case hg => rfl); (case hr => first | (go_simp; done) | (go_simp; rfl)); intro gb303 hg w19 hbox hb; have n0_ := Aside0.mk (below_step (bX HB.out) hb); have n1_ := Aside0.mk (hbox); have n2_ := Aside0.mk ((by rw [hg]; exact (below_size (bX HB.out)) : w.heap.size ≤ gb303)); have n3_ := Aside0.mk ((by rw [hg]; exact (below_size (bX HB.out)) : w.heap.size ≤ gb303)); clear HB; have HB := n0_; have BK303 := n1_; have GW303 := n2_; have GE303 := n3_; clear n0_ n1_ n2_ n3_; clear hb hbox hg) | ((with_reducible refine gate_dst (N := 3) rfl ?_); refine box_event ?hg (N := 3) ?hd (cs := #[.int .i64 a1_0, .int .i64 a1_1]) (t := 39) ?hr ?_; (case hd => rfl); (case hg => rfl); (case hr => first | (go_simp; done) | (go_simp; rfl)); intro gb304 hg w20 hbox hb; have n0_ := Aside0.mk (blk_below (g := gb303) (o := .cells #[.int .i64 a0_0, .int .i64 a0_1] 39 (0, 0)) (kX BK303.out) hb); have n1_ := Aside0.mk (below_step (by repeat (with_reducible first | exact HB.out | apply below_alloc | apply pw_below_drewN | apply below_drew1 | refine below_set ?_ GE303.out)) hb); have n2_ := Aside0.mk (hbox); have n3_ := Aside0.mk ((by rw [hg]; exact (below_size (by repeat (with_reducible first | exact HB.out | apply below_alloc | apply pw_below_drewN | apply below_drew1 | refine below_set ?_ GE303.out))) : w.heap.size ≤ gb304)); have n4_ := Aside0.mk ((by rw [hg]; exact (below_size (by repeat (with_reducible first | exact HB.out | apply below_alloc | apply pw_below_drewN | apply below_drew1 | refine below_set ?_ GE303.out))) : w.heap.size ≤ gb304)); have n5_ := Aside0.mk ((by rw [hg]; exact Nat.ne_of_lt (blk_lt (g := gb303) (o := .cells #[.int .i64 a0_0, .int .i64 a0_1] 39 (0, 0)) (kX BK303.out)) : gb303 ≠ gb304)); have n6_ := Aside0.mk ((by rw [hg]; exact Nat.ne_of_gt (blk_lt (g := gb303) (o := .cells #[.int .i64 a0_0, .int .i64 a0_1] 39 (0, 0)) (kX BK303.out)) : gb304 ≠ gb303)); clear BK303; clear HB; have BK303 := n0_; have HB := n1_; have BK304 := n2_; have GW304 := n3_; have GE304 := n4_; have NB303_304 := n5_; have NB304_303 := n6_; clear n0_ n1_ n2_ n3_ n4_ n5_ n6_; clear hb hbox hg) | ((with_reducible refine gate_dst (N := 4) rfl ?_); refine box_event ?hg (N := 4) ?hd (cs := #[.int .i64 0, .int .i64 0, .bool false]) (t := 41) ?hr ?_; (case hd => rfl); (case hg => rfl); (case hr => first | (go_simp; done) | (go_simp; rfl)); intro gb305 hg w21 hbox hb; have n0_ := Aside0.mk (blk_below (g := gb303) (o := .cells #[.int .i64 a0_0, .int .i64 a0_1] 39 (0, 0)) (kX BK303.out) hb); have n1_ := Aside0.mk (blk_below (g := gb304) (o := .cells #[.int .i64 a1_0, .int .i64 a1_1] 39 (0, 0)) (kX BK304.out) hb); have n2_ := Aside0.mk (below_step (by repeat (with_reducible first | exact HB.out | apply below_alloc | apply pw_below_drewN | apply below_drew1 | refine below_set ?_ GE303.out | refine below_set ?_ GE304.out)) hb); have n3_ := Aside0.mk (hbox); have n4_ := Aside0.mk ((by rw [hg]; exact (below_size (by repeat (with_reducible first | exact HB.out | apply below_alloc | apply pw_below_drewN | apply below_drew1 | refine below_set ?_ GE303.out | refine below_set ?_ GE304.out))) : w.heap.size ≤ gb305)); have n5_ := Aside0.mk ((by rw [hg]; exact (below_size (by repeat (with_reducible first | exact HB.out | apply below_alloc | apply pw_below_drewN | apply below_drew1 | refine below_set ?_ GE303.out | refine below_set ?_ GE304.out))) : w.heap.size ≤ gb305)); have n6_ := Aside0.mk ((by rw [hg]; exact Nat.ne_of_lt (blk_lt (g := gb303) (o := .cells #[.int .i64 a0_0, .int .i64 a0_1] 39 (0, 0)) (kX BK303.out)) : gb303 ≠ gb305)); have n7_ := Aside0.mk ((by rw [hg]; exact Nat.ne_of_gt (blk_lt (g := gb303) (o := .cells #[.int .i64 a0_0, .int .i64 a0_1] 39 (0, 0)) (kX BK303.out)) : gb305 ≠ gb303)); have n8_ := Aside0.mk ((by rw [hg]; exact Nat.ne_of_lt (blk_lt (g := gb304) (o := .cells #[.int .i64 a1_0, .int .i64 a1_1] 39 (0, 0)) (kX BK304.out)) : gb304 ≠ gb305)); have n9_ := Aside0.mk ((by rw [hg]; exact Nat.ne_of_gt (blk_lt (g := gb304) (o := .cells #[.int .i64 a1_0, .int .i64 a1_1] 39 (0, 0)) (kX BK304.out)) : gb305 ≠ gb304)); clear BK303; clear BK304; clear HB; have BK303 := n0_; have BK304 := n1_; have HB := n2_; have BK305 := n3_; have GW305 := n4_; have GE305 := n5_; have NB303_305 := n6_; have NB305_303 := n7_; have NB304_305 := n8_; have NB305_304 := n9_; clear n0_ n1_ n2_ n3_ n4_ n5_ n6_ n7_ n8_ n9_; clear hb hbox hg; have hnb22 := NB303_304.out; have hnc22 := NB304_303.out; have hnb23 := NB303_305.out; have hnc23 := NB305_303.out; have hcz24_0 : w21.cell? ⟨gb303, 0, none⟩ = some (.int .i64 a0_0) := (blk_cell BK303.out 0).trans rfl; have hcz24_1 : w21.cell? ⟨gb303, 1, none⟩ = some (.int .i64 a0_1) := (blk_cell BK303.out 1).trans rfl; have hfz24_0 := blk_frozen BK303.out 0; have hfz24_1 := blk_frozen BK303.out 1; have hnb25 := NB304_305.out; have hnc25 := NB305_304.out; have hcz26_0 : w21.cell? ⟨gb304, 0, none⟩ = some (.int .i64 a1_0) := (blk_cell BK304.out 0).trans rfl; have hcz26_1 : w21.cell? ⟨gb304, 1, none⟩ = some (.int .i64 a1_1) := (blk_cell BK304.out 1).trans rfl; have hfz26_0 := blk_frozen BK304.out 0; have hfz26_1 := blk_frozen BK304.out 1) | ((with_reducible refine gate_callee (f := 171) rfl ?_); refine goesL_ (some 8) rfl rfl Try.func171 (by kernel_rfl) rfl #[.agg #[.int .i64 a0_0, .int .i64 a0_1], .agg #[.int .i64 a1_0, .int .i64 a1_1]] rfl (by (try simp only [sD, sE, sF]); first | done | rfl) ?_; (with_reducible refine (spec_AreNeighbors.calls k a0_0 a0_1 a1_0 a1_1 false _ A3.out).mono ?_); rintro e w27 ⟨rfl, hb⟩; refine ⟨_, rfl, ?_⟩; have n0_ := Aside0.mk (blk_below (g := gb303) (o := .cells #[.int .i64 a0_0, .int .i64 a0_1] 39 (0, 0)) (kX BK303.out) hb); have n1_ := Aside0.mk (blk_below (g := gb304) (o := .cells #[.int .i64 a1_0, .int .i64 a1_1] 39 (0, 0)) (kX BK304.out) hb); have n2_ := Aside0.mk (blk_below (g := gb305) (o := .cells #[.int .i64 0, .int .i64 0, .bool false] 41 (0, 0)) (kX BK305.out) hb); have n3_ := Aside0.mk (below_step (by repeat (with_reducible first | exact HB.out | apply below_alloc | apply pw_below_drewN | apply below_drew1 | refine below_set ?_ GE303.out | refine below_set ?_ GE304.out | refine below_set ?_ GE305.out)) hb); clear BK303; clear BK304; clear BK305; clear HB; have BK303 := n0_; have BK304 := n1_; have BK305 := n2_; have HB := n3_; clear n0_ n1_ n2_ n3_; (try clear hb); (try clear hb2); (try clear hk); (try clear hi); have hcz28_0 : w27.cell? ⟨gb305, 0, none⟩ = some (.int .i64 0) := (blk_cell BK305.out 0).trans rfl; have hcz28_1 : w27.cell? ⟨gb305, 1, none⟩ = some (.int .i64 0) := (blk_cell BK305.out 1).trans rfl; have hcz28_2 : w27.cell? ⟨gb305, 2, none⟩ = some (.bool false) := (blk_cell BK305.out 2).trans rfl; have hfz28_0 := blk_frozen BK305.out 0; have hfz28_1 := blk_frozen BK305.out 1; have hfz28_2 := blk_frozen BK305.out 2))
  refine bodyPost_ret (results_ct rfl _ _ gb305 41 #[.int .i64 0, .int .i64 0, .bool false] (0, 0) _ rfl (by (with_reducible repeat (first | refine blk_drewN ?_ _ | refine blk_drew ?_ | refine blk_alloc ?_ _)); refine blk_put (cs := #[.int .i64 0, .int .i64 0, .bool false]) ?_ 2 _ rfl; (with_reducible repeat (first | refine blk_drewN ?_ _ | refine blk_drew ?_ | refine blk_alloc ?_ _)); refine blk_put (cs := #[.int .i64 0, .int .i64 0, .bool false]) ?_ 1 _ rfl; (with_reducible repeat (first | refine blk_drewN ?_ _ | refine blk_drew ?_ | refine blk_alloc ?_ _)); refine blk_put (cs := #[.int .i64 0, .int .i64 0, .bool false]) ?_ 0 _ rfl; (with_reducible repeat (first | refine blk_drewN ?_ _ | refine blk_drew ?_ | refine blk_alloc ?_ _)); exact BK305.out) Try.underlying41 rfl (by kernel_rfl)) rfl ?_
  exact ⟨by first | rfl | (simp [*, errW_none, errW_some] <;> rfl), by repeat (with_reducible first | exact HB.out | apply below_alloc | apply pw_below_drewN | apply below_drew1 | refine below_set ?_ GE303.out | refine below_set ?_ GE304.out | refine below_set ?_ GE305.out)⟩
end Go.Proofs.Ytnfnlmilmpaofaa.PFnExactTilingOfTree
