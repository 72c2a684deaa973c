/- Printed twins and contracts of functions, part 2; l24Steps, outward and SortDominoes are walked by hand. Nothing is assumed. -/
import Derived.Test.YtnfnlmilmpaofaaA1
import Derived.Test.YtnfnlmilmpaofaaB1
namespace Go.Proofs.Ytnfnlmilmpaofaa.PFnExactTilingOfTree
open Go.RowKit Go.Proofs.YtnfnlmilmpaofaaW.PrintWords Go.Proofs.YtnfnlmilmpaofaaW.PrintLast Go.Proofs.YtnfnlmilmpaofaaW.PrintMore
attribute [local go_sem] max2_int min2_int max_two min_two max_three min_three max_four min_four   -- for this text's walks alone
set_option linter.unusedVariables false
set_option linter.unusedSimpArgs false
mutual
def impl_IsTree.j0 : Nat → Int → Int → List (S50) → Bool → Option (Bool)
 | 0, _, _, _, _ => none
 | k + 1, x0, x1, x2, x22 => if x22 = true then (some false) else ((impl_LinksOf.f k x0 x1).bind fun t161 => (impl_IsTree.l0 k x0 x1 x2 t161 x2 (x2.length : Int) 0))
def impl_IsTree.l0 : Nat → Int → Int → List (S50) → List (S50) → List (S50) → Int → Int → Option (Bool)
 | 0, _, _, _, _, _, _, _ => none
 | k + 1, x0, x1, x2, x7, x26, x27, x28 => if x28 < x27 then (if 0 ≤ x28 then (if x28 < (x26.length : Int) then ((impl_linkIndex.f k x7 ((rd_T50 x26 x28).f0) ((rd_T50 x26 x28).f1) ((rd_T50 x26 x28).f2)).bind fun t166 => (if t166 < 0 then (impl_IsTree.j2 k x0 x1 x2 x7 x26 x27 x28 true) else ((impl_linkIndex.f k x2 ((rd_T50 x26 x28).f0) ((rd_T50 x26 x28).f1) ((rd_T50 x26 x28).f2)).bind fun t167 => (impl_IsTree.j2 k x0 x1 x2 x7 x26 x27 x28 (t167 != x28))))) else (none)) else (none)) else ((impl_rooted.f k x0 x1 x2).bind fun t168 => ((impl_indexOf.f k t168 (-1)).bind fun t171 => (some (decide (t171 < 0)))))
def impl_IsTree.j2 : Nat → Int → Int → List (S50) → List (S50) → List (S50) → Int → Int → Bool → Option (Bool)
 | 0, _, _, _, _, _, _, _, _ => none
 | k + 1, x0, x1, x2, x7, x26, x27, x28, x43 => if x43 = true then (some false) else (impl_IsTree.l0 k x0 x1 x2 x7 x26 x27 (wrap64 (x28 + 1)))
end
def impl_IsTree.f (k : Nat) (a0 : Int) (a1 : Int) (l2 : List (S50)) : Option (Bool) := (impl_GridOk.f a0 a1).bind fun t160 => (if t160 = true then (impl_IsTree.j0 k a0 a1 l2 ((l2.length : Int) != (wrap64 ((wrap64 (a0 * a1)) - 1)))) else (impl_IsTree.j0 k a0 a1 l2 true))
theorem impl_IsTree.mono_l : ∀ k, (∀ y0 y1 y2 y3, LeO (impl_IsTree.j0 k y0 y1 y2 y3) (impl_IsTree.j0 (k + 1) y0 y1 y2 y3)) ∧ (∀ y0 y1 y2 y3 y4 y5 y6, LeO (impl_IsTree.l0 k y0 y1 y2 y3 y4 y5 y6) (impl_IsTree.l0 (k + 1) y0 y1 y2 y3 y4 y5 y6)) ∧ (∀ y0 y1 y2 y3 y4 y5 y6 y7, LeO (impl_IsTree.j2 k y0 y1 y2 y3 y4 y5 y6 y7) (impl_IsTree.j2 (k + 1) y0 y1 y2 y3 y4 y5 y6 y7))
 | 0 => ⟨fun _ _ _ _ r h => by simp [impl_IsTree.j0] at h, fun _ _ _ _ _ _ _ r h => by simp [impl_IsTree.l0] at h, fun _ _ _ _ _ _ _ _ r h => by simp [impl_IsTree.j2] at h⟩
 | k + 1 => by
  obtain ⟨ih0, ih1, ih2⟩ := impl_IsTree.mono_l k
  refine ⟨?_, ?_, ?_⟩
  ·intro y0 y1 y2 y3
   unfold impl_IsTree.j0
   repeat' with_reducible first
   | exact ih0 _ _ _ _
   | exact ih1 _ _ _ _ _ _ _
   | exact ih2 _ _ _ _ _ _ _ _
   | exact impl_LinksOf.mono _ _ _
   | exact impl_indexOf.mono _ _ _
   | exact impl_linkIndex.mono _ _ _ _ _
   | exact impl_rooted.mono _ _ _ _
   | exact LeO.refl _
   | exact LeO.none _
   | refine LeO.ite ?_ ?_
   | refine LeO.bind ?_ (fun _ => ?_)
  ·intro y0 y1 y2 y3 y4 y5 y6
   unfold impl_IsTree.l0
   repeat' with_reducible first
   | exact ih0 _ _ _ _
   | exact ih1 _ _ _ _ _ _ _
   | exact ih2 _ _ _ _ _ _ _ _
   | exact impl_LinksOf.mono _ _ _
   | exact impl_indexOf.mono _ _ _
   | exact impl_linkIndex.mono _ _ _ _ _
   | exact impl_rooted.mono _ _ _ _
   | exact LeO.refl _
   | exact LeO.none _
   | refine LeO.ite ?_ ?_
   | refine LeO.bind ?_ (fun _ => ?_)
  ·intro y0 y1 y2 y3 y4 y5 y6 y7
   unfold impl_IsTree.j2
   repeat' with_reducible first
   | exact ih0 _ _ _ _
   | exact ih1 _ _ _ _ _ _ _
   | exact ih2 _ _ _ _ _ _ _ _
   | exact impl_LinksOf.mono _ _ _
   | exact impl_indexOf.mono _ _ _
   | exact impl_linkIndex.mono _ _ _ _ _
   | exact impl_rooted.mono _ _ _ _
   | exact LeO.refl _
   | exact LeO.none _
   | refine LeO.ite ?_ ?_
   | refine LeO.bind ?_ (fun _ => ?_)
theorem impl_IsTree.mono : ∀ a0 a1 a2 k, LeO (impl_IsTree.f k a0 a1 a2) (impl_IsTree.f (k + 1) a0 a1 a2) := by
 intro a0 a1 a2 k
 obtain ⟨ih0, ih1, ih2⟩ := impl_IsTree.mono_l k
 unfold impl_IsTree.f
 repeat' first
   | (with_reducible exact ih0 _ _ _ _)
   | (with_reducible exact ih1 _ _ _ _ _ _ _)
   | (with_reducible exact ih2 _ _ _ _ _ _ _ _)
   | (with_reducible exact impl_LinksOf.mono _ _ _)
   | (with_reducible exact impl_indexOf.mono _ _ _)
   | (with_reducible exact impl_linkIndex.mono _ _ _ _ _)
   | (with_reducible exact impl_rooted.mono _ _ _ _)
   | (with_reducible exact LeO.refl _)
   | (with_reducible exact LeO.none _)
   | (with_reducible refine LeO.ite ?_ ?_)
   | (with_reducible refine LeO.bind ?_ (fun _ => ?_))
   | exact ih0 _ _ _ _
   | exact ih1 _ _ _ _ _ _ _
   | exact ih2 _ _ _ _ _ _ _ _
   | exact impl_LinksOf.mono _ _ _
   | exact impl_indexOf.mono _ _ _
   | exact impl_linkIndex.mono _ _ _ _ _
   | exact impl_rooted.mono _ _ _ _
   | exact LeO.none _
   | refine LeO.ite ?_ ?_
   | refine LeO.bind ?_ (fun _ => ?_)
set_option maxHeartbeats 8000000 in
set_option maxRecDepth 100000 in
theorem impl_IsTree.calls (k : Nat) (a0 : Int) (a1 : Int) (A2 : Option Addr) (c2 : Nat) (l2 : List (S50)) (r : Bool) (w : World) (hr2 : Kd.C k50 w A2 l2.length l2) (hc2 : l2.length ≤ c2) (h : impl_IsTree.f k a0 a1 l2 = some r) :
  Calls Try.prog 77 #[.int .i64 a0, .int .i64 a1, .slice A2 l2.length c2] w fun e w' => e = .returned (.bool r) ∧ Below w.heap.size w w' := by
 have hu50 := Try.underlying50
 have HR2 := Aside0.mk hr2
 have HC2 := Aside0.mk hc2
 clear hr2 hc2
 have HB := Aside0.mk (Below.refl w.heap.size w)
 have H : ((impl_GridOk.f a0 a1).bind fun t160 => (if t160 = true then (impl_IsTree.j0 k a0 a1 l2 ((l2.length : Int) != (wrap64 ((wrap64 (a0 * a1)) - 1)))) else (impl_IsTree.j0 k a0 a1 l2 true))) = some r := h
 clear h
 have HC4 := Aside0.mk H
 clear H
 go_enter Try.func77, Try.ntmps77
 go_upto_region 1 with (fail)
 go_cut [22] (fun v22 wc => ∃ (kq : Nat) (x22_3 : Bool), v22 = .bool x22_3 ∧ Aside0 (impl_IsTree.j0 kq a0 a1 l2 x22_3 = some r) ∧ Aside0 (kq ≤ k) ∧ Aside0 (Below w.heap.size w wc))
 case first =>
  have H := HC4.out
  clear HC4
  replace H := Option.bind_eq_some_iff.mp H
  obtain ⟨t160, A50, H⟩ := H
  replace H : (if t160 = true then (impl_IsTree.j0 k a0 a1 l2 ((l2.length : Int) != (wrap64 ((wrap64 (a0 * a1)) - 1)))) else (impl_IsTree.j0 k a0 a1 l2 true)) = some r := H
  have A5 := Aside0.mk A50
  clear A50
  by_cases c6 : t160 = true
  ·subst c6
   have H1 : (impl_IsTree.j0 k a0 a1 l2 ((l2.length : Int) != (wrap64 ((wrap64 (a0 * a1)) - 1)))) = some r := by rw [if_pos rfl] at H; exact H
   clear H
   have H := H1
   clear H1
   have H' := Aside0.mk H
   clear H
   go_wp2_with (first | ((with_reducible refine gate_callee (f := 81) rfl ?_); refine goesL_ (some 12) rfl rfl Try.func81 (by kernel_rfl) rfl #[.int .i64 a0, .int .i64 a1] rfl (by (try simp only [sD, sE, sF]); first | done | rfl) ?_; (with_reducible refine (impl_GridOk.calls a0 a1 true _ A5.out).mono ?_); rintro e w' ⟨rfl, ⟨nd, rfl⟩⟩; refine ⟨_, rfl, ?_⟩))
   go_meet
   case rel => exact ⟨_, (((l2.length : Int) != (wrap64 ((wrap64 (a0 * a1)) - 1)))), (by first | rfl | (simp; done) | (simp [*]; done)), H', ⟨by first | omega | exact Nat.le_refl _⟩, ⟨bX HB.out⟩⟩
  ·replace c6 := Bool.eq_false_iff.mpr c6
   subst c6
   have H1 : (impl_IsTree.j0 k a0 a1 l2 true) = some r := by rw [if_neg (show ¬ (false = true) by decide)] at H; exact H
   clear H
   have H := H1
   clear H1
   have H' := Aside0.mk H
   clear H
   go_wp2_with (first | ((with_reducible refine gate_callee (f := 81) rfl ?_); refine goesL_ (some 12) rfl rfl Try.func81 (by kernel_rfl) rfl #[.int .i64 a0, .int .i64 a1] rfl (by (try simp only [sD, sE, sF]); first | done | rfl) ?_; (with_reducible refine (impl_GridOk.calls a0 a1 false _ A5.out).mono ?_); rintro e w' ⟨rfl, ⟨nd, rfl⟩⟩; refine ⟨_, rfl, ?_⟩))
   go_meet
   case rel => exact ⟨_, (true), (by first | rfl | (simp; done) | (simp [*]; done)), H', ⟨by first | omega | exact Nat.le_refl _⟩, ⟨bX HB.out⟩⟩
 case rest =>
  clear HC4
  try clear c2
  try clear p2
  try clear c6
  try clear p6
  obtain ⟨kq, x22_3, rfl, HA, HJ3, HB⟩ := hcut
  cases kq with
  | zero => exact absurd HA.out (by simp [impl_IsTree.j0])
  | succ kj3 =>
   have H := HA.out
   clear HA
   simp only [impl_IsTree.j0] at H
   by_cases c7 : x22_3 = true
   ·subst c7
    have H1 : (some false) = some r := by rw [if_pos rfl] at H; exact H
    clear H
    have H := H1
    clear H1
    obtain rfl := Option.some.inj H
    go_wp2
    go_ret
    exact ⟨by first | rfl | (simp [*, errW_none, errW_some] <;> rfl), bX HB.out⟩
   ·replace c7 := Bool.eq_false_iff.mpr c7
    subst c7
    have H1 : ((impl_LinksOf.f kj3 a0 a1).bind fun t161 => (impl_IsTree.l0 kj3 a0 a1 l2 t161 l2 (l2.length : Int) 0)) = some r := by rw [if_neg (show ¬ (false = true) by decide)] at H; exact H
    clear H
    have H := H1
    clear H1
    replace H := Option.bind_eq_some_iff.mp H
    obtain ⟨t161, A80, H⟩ := H
    replace H : (impl_IsTree.l0 kj3 a0 a1 l2 t161 l2 (l2.length : Int) 0) = some r := H
    have A8 := Aside0.mk A80
    clear A80
    have H' := Aside0.mk H
    clear H
    go_wp2_with (first | ((with_reducible refine gate_callee (f := 82) rfl ?_); refine goesL_ (some 25) rfl rfl Try.func82 (by kernel_rfl) rfl #[.int .i64 a0, .int .i64 a1] rfl (by (try simp only [sD, sE, sF]); first | done | rfl) ?_; (with_reducible refine (impl_LinksOf.calls kj3 a0 a1 t161 _ A8.out).mono ?_); rintro e w9 ⟨v162, rfl, ho0, hb⟩; refine ⟨_, rfl, ?_⟩; have n0_ := Aside0.mk (Kd.R_lower ho0 (below_size (bX HB.out))); have n1_ := Aside0.mk (below_step (bX HB.out) hb); clear HB; have HO163 := n0_; have HB := n1_; clear n0_ n1_; (try clear hb); (try clear hb2); (try clear hk); (try clear hi); (try clear ho0)))
    go_loopg [28] kj3 (fun kq v28 w' => ∃ (x28_2 : Int), v28 = .int .i64 x28_2 ∧ Aside0 (impl_IsTree.l0 kq a0 a1 l2 t161 l2 (l2.length : Int) x28_2 = some r) ∧ Aside0 (kq ≤ kj3) ∧ Aside0 (Kd.R k50 50 w' w.heap.size (fun _ => True) v162 t161) ∧ Aside0 (Below w.heap.size w w'))
    case atStart => exact ⟨(0), (by first | rfl | (simp; done) | (simp [*]; done)), H', ⟨Nat.le_refl _⟩, ⟨rX HO163.out⟩, ⟨bX HB.out⟩⟩
    case round =>
     clear H'
     try clear c2
     try clear p2
     try clear c6
     try clear p6
     try clear c7
     try clear c8
     try clear p2
     try clear p6
     obtain ⟨x28_2, rfl, HA, HK2, HO_7, HB⟩ := hrel
     cases gk with
     | zero => exact absurd HA.out (by simp [impl_IsTree.l0])
     | succ k2 =>
      have H := HA.out
      clear HA
      simp only [impl_IsTree.l0] at H
      by_cases c10 : x28_2 < (l2.length : Int)
      ·rw [if_pos c10] at H
       have c10b0 : decide (x28_2 < (l2.length : Int)) = true := decide_eq_true c10
       clear c10
       by_cases c11 : 0 ≤ x28_2
       ·rw [if_pos c11] at H
        have c11b0 : decide (0 ≤ x28_2) = true := decide_eq_true c11
        clear c11
        by_cases c12 : x28_2 < (l2.length : Int)
        ·rw [if_pos c12] at H
         have c12b0 : decide (x28_2 < (l2.length : Int)) = true := decide_eq_true c12
         clear c12
         have HC13 := Aside0.mk H
         clear H
         have p164 : 0 ≤ (x28_2 : Int) := of_decide_eq_true (by assumption)
         have q164 : x28_2 < (l2.length : Int) := of_decide_eq_true (by assumption)
         obtain ⟨ad164, e164, hx164_0, hx164_1, hx164_2⟩ := at_T50 HR2.out x28_2 p164 q164
         cases e164
         replace hx164_0 := (HB.out.cell (World.block_lt_of_cell? w _ hx164_0)).trans hx164_0
         replace hx164_1 := (HB.out.cell (World.block_lt_of_cell? w _ hx164_1)).trans hx164_1
         replace hx164_2 := (HB.out.cell (World.block_lt_of_cell? w _ hx164_2)).trans hx164_2
         replace p164 := eq_true p164
         replace q164 := eq_true q164
         go_upto_region 7 with (first | ((with_reducible refine gate_dst (N := 9) rfl ?_); (try (refine gate_guard (by rfl) ?_; dsimp only)); refine box_event ?hg (N := 9) ?hd (cs := #[.int .i64 0, .int .i64 0, .bool false]) (t := 50) ?hr ?_; (case hd => rfl); (case hg => rfl); (case hr => first | (go_simp; done) | (go_simp; rfl)); intro gb165 hg w14 hbox hb; have n0_ := Aside0.mk (Kd.R_below (Kd.R_elderB (rX HO_7.out) gb165 (Nat.le_of_eq hg.symm)) hb); have n1_ := Aside0.mk (below_step (bX HB.out) hb); have n2_ := Aside0.mk (hbox); have n3_ := Aside0.mk ((by rw [hg]; exact (below_size (bX HB.out)) : w.heap.size ≤ gb165)); have n4_ := Aside0.mk ((by rw [hg]; exact (below_size (bX HB.out)) : w.heap.size ≤ gb165)); clear HO_7; clear HB; have HO_7 := n0_; have HB := n1_; have BK165 := n2_; have GW165 := n3_; have GE165 := n4_; clear n0_ n1_ n2_ n3_ n4_; clear hb hbox hg; have hcz15_0 : w14.cell? ⟨gb165, 0, none⟩ = some (.int .i64 0) := (blk_cell BK165.out 0).trans rfl; have hcz15_1 : w14.cell? ⟨gb165, 1, none⟩ = some (.int .i64 0) := (blk_cell BK165.out 1).trans rfl; have hcz15_2 : w14.cell? ⟨gb165, 2, none⟩ = some (.bool false) := (blk_cell BK165.out 2).trans rfl; have hfz15_0 := blk_frozen BK165.out 0; have hfz15_1 := blk_frozen BK165.out 1; have hfz15_2 := blk_frozen BK165.out 2))
         (try simp only [Act.put, List.setIfInBounds_toArray, List.set_cons_zero, List.set_cons_succ])
         go_cut [43] (fun v43 wc => ∃ (kq : Nat) (x43_12 : Bool), v43 = .bool x43_12 ∧ Aside0 (impl_IsTree.j2 kq a0 a1 l2 t161 l2 (l2.length : Int) x28_2 x43_12 = some r) ∧ Aside0 (kq ≤ k2) ∧ Aside0 (Kd.R k50 50 wc w.heap.size (fun k_ => k_ ≠ gb165) v162 t161) ∧ Aside0 (wc.heap[gb165]? = some (.cells #[.int .i64 ((rd_T50 l2 x28_2).f0), .int .i64 ((rd_T50 l2 x28_2).f1), .bool ((rd_T50 l2 x28_2).f2)] 50 (0, 0))) ∧ Aside0 (Below w.heap.size w wc))
         case first =>
          have H := HC13.out
          clear HC13
          replace H := Option.bind_eq_some_iff.mp H
          obtain ⟨t166, A160, H⟩ := H
          replace H : (if t166 < 0 then (impl_IsTree.j2 k2 a0 a1 l2 t161 l2 (l2.length : Int) x28_2 true) else ((impl_linkIndex.f k2 l2 ((rd_T50 l2 x28_2).f0) ((rd_T50 l2 x28_2).f1) ((rd_T50 l2 x28_2).f2)).bind fun t167 => (impl_IsTree.j2 k2 a0 a1 l2 t161 l2 (l2.length : Int) x28_2 (t167 != x28_2)))) = some r := H
          have A16 := Aside0.mk A160
          clear A160
          by_cases c17 : t166 < 0
          ·rw [if_pos c17] at H
           have c17b0 : decide (t166 < 0) = true := decide_eq_true c17
           clear c17
           (first | rw [c17b0] | (simp only [i64_w, i32_w]; rw [c17b0]) | skip)
           have H' := Aside0.mk H
           clear H
           have hcz18_0 : w14.cell? ⟨gb165, 0, none⟩ = some (.int .i64 0) := (blk_cell BK165.out 0).trans rfl
           have hcz18_1 : w14.cell? ⟨gb165, 1, none⟩ = some (.int .i64 0) := (blk_cell BK165.out 1).trans rfl
           have hcz18_2 : w14.cell? ⟨gb165, 2, none⟩ = some (.bool false) := (blk_cell BK165.out 2).trans rfl
           have hfz18_0 := blk_frozen BK165.out 0
           have hfz18_1 := blk_frozen BK165.out 1
           have hfz18_2 := blk_frozen BK165.out 2
           obtain ⟨Ao19, co19, eo19⟩ := Kd.R_slice HO_7.out
           subst eo19
           go_wp2_with (first | ((with_reducible refine gate_callee (f := 135) rfl ?_); refine goesL_ (some 35) rfl rfl Try.func135 (by kernel_rfl) rfl #[.slice Ao19 t161.length co19, .agg #[.int .i64 ((rd_T50 l2 x28_2).f0), .int .i64 ((rd_T50 l2 x28_2).f1), .bool ((rd_T50 l2 x28_2).f2)]] rfl (by (try simp only [sD, sE, sF]); first | done | rfl) ?_; (with_reducible refine (impl_linkIndex.calls k2 _ _ t161 ((rd_T50 l2 x28_2).f0) ((rd_T50 l2 x28_2).f1) ((rd_T50 l2 x28_2).f2) t166 _ ?side1 ?side2 A16.out).mono ?_); (case side1 => refine (Kd.R_reads' (e := 50) (base := w.heap.size) (ok := fun k_ => (True ∧ k_ ≠ gb165)) (n := t161.length) (c := co19) ?_).2.2; exact (by (with_reducible repeat (first | apply Kd.R_alloc | apply Kd.R_drewN | apply Kd.R_drew)); exact (Kd.R_mono (Kd.R_far (p := ⟨gb165, 2, none⟩) (Kd.R_far (p := ⟨gb165, 1, none⟩) (Kd.R_far (p := ⟨gb165, 0, none⟩) (Kd.R_mono HO_7.out (fun k_ hk => (⟨hk, hk.2⟩ : _ ∧ k_ ≠ gb165))) (fun _ hk => hk.2) (.int .i64 ((rd_T50 l2 x28_2).f0))) (fun _ hk => hk.2) (.int .i64 ((rd_T50 l2 x28_2).f1))) (fun _ hk => hk.2) (.bool ((rd_T50 l2 x28_2).f2))) (fun _ h_ => h_.1)))); (case side2 => exact (Kd.R_reads' HO_7.out).2.1); rintro e w20 ⟨rfl, hb⟩; refine ⟨_, rfl, ?_⟩; have n0_ := Aside0.mk (Kd.R_below (by (with_reducible repeat (first | apply Kd.R_alloc | apply Kd.R_drewN | apply Kd.R_drew)); exact (Kd.R_mono (Kd.R_far (p := ⟨gb165, 2, none⟩) (Kd.R_far (p := ⟨gb165, 1, none⟩) (Kd.R_far (p := ⟨gb165, 0, none⟩) (Kd.R_mono HO_7.out (fun k_ hk => (⟨hk, hk.2⟩ : _ ∧ k_ ≠ gb165))) (fun _ hk => hk.2) (.int .i64 ((rd_T50 l2 x28_2).f0))) (fun _ hk => hk.2) (.int .i64 ((rd_T50 l2 x28_2).f1))) (fun _ hk => hk.2) (.bool ((rd_T50 l2 x28_2).f2))) (fun _ h_ => h_.1))) hb); have n1_ := Aside0.mk (blk_below (g := gb165) (o := .cells #[.int .i64 ((rd_T50 l2 x28_2).f0), .int .i64 ((rd_T50 l2 x28_2).f1), .bool ((rd_T50 l2 x28_2).f2)] 50 (0, 0)) (by (with_reducible repeat (first | refine blk_drewN ?_ _ | refine blk_drew ?_ | refine blk_alloc ?_ _)); refine blk_put (cs := #[.int .i64 ((rd_T50 l2 x28_2).f0), .int .i64 ((rd_T50 l2 x28_2).f1), .bool false]) ?_ 2 _ rfl; (with_reducible repeat (first | refine blk_drewN ?_ _ | refine blk_drew ?_ | refine blk_alloc ?_ _)); refine blk_put (cs := #[.int .i64 ((rd_T50 l2 x28_2).f0), .int .i64 0, .bool false]) ?_ 1 _ rfl; (with_reducible repeat (first | refine blk_drewN ?_ _ | refine blk_drew ?_ | refine blk_alloc ?_ _)); refine blk_put (cs := #[.int .i64 0, .int .i64 0, .bool false]) ?_ 0 _ rfl; (with_reducible repeat (first | refine blk_drewN ?_ _ | refine blk_drew ?_ | refine blk_alloc ?_ _)); exact BK165.out) hb); have n2_ := Aside0.mk (below_step (by repeat (with_reducible first | exact HB.out | apply below_alloc | apply pw_below_drewN | apply below_drew1 | refine below_set ?_ GE165.out)) hb); clear HO_7; clear BK165; clear HB; have HO_7 := n0_; have BK165 := n1_; have HB := n2_; clear n0_ n1_ n2_; (try clear hb); (try clear hb2); (try clear hk); (try clear hi)))
           go_meet
           case rel => exact ⟨_, (true), (by first | rfl | (simp; done) | (simp [*]; done)), H', ⟨by have := HJ3.out; have := HK2.out; first | omega | exact Nat.le_refl _⟩, ⟨by (with_reducible repeat (first | apply Kd.R_alloc | apply Kd.R_drewN | apply Kd.R_drew)); exact Kd.R_mono HO_7.out (fun _ hk => hk.2)⟩, ⟨kX BK165.out⟩, ⟨by repeat (with_reducible first | exact HB.out | apply below_alloc | apply pw_below_drewN | apply below_drew1 | refine below_set ?_ GE165.out)⟩⟩
          ·rw [if_neg c17] at H
           have c17b0 : decide (t166 < 0) = false := decide_eq_false c17
           clear c17
           (first | rw [c17b0] | (simp only [i64_w, i32_w]; rw [c17b0]) | skip)
           replace H := Option.bind_eq_some_iff.mp H
           obtain ⟨t167, A210, H⟩ := H
           replace H : (impl_IsTree.j2 k2 a0 a1 l2 t161 l2 (l2.length : Int) x28_2 (t167 != x28_2)) = some r := H
           have A21 := Aside0.mk A210
           clear A210
           have H' := Aside0.mk H
           clear H
           have hcz22_0 : w14.cell? ⟨gb165, 0, none⟩ = some (.int .i64 0) := (blk_cell BK165.out 0).trans rfl
           have hcz22_1 : w14.cell? ⟨gb165, 1, none⟩ = some (.int .i64 0) := (blk_cell BK165.out 1).trans rfl
           have hcz22_2 : w14.cell? ⟨gb165, 2, none⟩ = some (.bool false) := (blk_cell BK165.out 2).trans rfl
           have hfz22_0 := blk_frozen BK165.out 0
           have hfz22_1 := blk_frozen BK165.out 1
           have hfz22_2 := blk_frozen BK165.out 2
           obtain ⟨Ao23, co23, eo23⟩ := Kd.R_slice HO_7.out
           subst eo23
           go_wp2_with (first | ((with_reducible refine gate_callee (f := 135) rfl ?_); refine goesL_ (some 35) rfl rfl Try.func135 (by kernel_rfl) rfl #[.slice Ao23 t161.length co23, .agg #[.int .i64 ((rd_T50 l2 x28_2).f0), .int .i64 ((rd_T50 l2 x28_2).f1), .bool ((rd_T50 l2 x28_2).f2)]] rfl (by (try simp only [sD, sE, sF]); first | done | rfl) ?_; (with_reducible refine (impl_linkIndex.calls k2 _ _ t161 ((rd_T50 l2 x28_2).f0) ((rd_T50 l2 x28_2).f1) ((rd_T50 l2 x28_2).f2) t166 _ ?side1 ?side2 A16.out).mono ?_); (case side1 => refine (Kd.R_reads' (e := 50) (base := w.heap.size) (ok := fun k_ => (True ∧ k_ ≠ gb165)) (n := t161.length) (c := co23) ?_).2.2; exact (by (with_reducible repeat (first | apply Kd.R_alloc | apply Kd.R_drewN | apply Kd.R_drew)); exact (Kd.R_mono (Kd.R_far (p := ⟨gb165, 2, none⟩) (Kd.R_far (p := ⟨gb165, 1, none⟩) (Kd.R_far (p := ⟨gb165, 0, none⟩) (Kd.R_mono HO_7.out (fun k_ hk => (⟨hk, hk.2⟩ : _ ∧ k_ ≠ gb165))) (fun _ hk => hk.2) (.int .i64 ((rd_T50 l2 x28_2).f0))) (fun _ hk => hk.2) (.int .i64 ((rd_T50 l2 x28_2).f1))) (fun _ hk => hk.2) (.bool ((rd_T50 l2 x28_2).f2))) (fun _ h_ => h_.1)))); (case side2 => exact (Kd.R_reads' HO_7.out).2.1); rintro e w24 ⟨rfl, hb⟩; refine ⟨_, rfl, ?_⟩; have n0_ := Aside0.mk (Kd.R_below (by (with_reducible repeat (first | apply Kd.R_alloc | apply Kd.R_drewN | apply Kd.R_drew)); exact (Kd.R_mono (Kd.R_far (p := ⟨gb165, 2, none⟩) (Kd.R_far (p := ⟨gb165, 1, none⟩) (Kd.R_far (p := ⟨gb165, 0, none⟩) (Kd.R_mono HO_7.out (fun k_ hk => (⟨hk, hk.2⟩ : _ ∧ k_ ≠ gb165))) (fun _ hk => hk.2) (.int .i64 ((rd_T50 l2 x28_2).f0))) (fun _ hk => hk.2) (.int .i64 ((rd_T50 l2 x28_2).f1))) (fun _ hk => hk.2) (.bool ((rd_T50 l2 x28_2).f2))) (fun _ h_ => h_.1))) hb); have n1_ := Aside0.mk (blk_below (g := gb165) (o := .cells #[.int .i64 ((rd_T50 l2 x28_2).f0), .int .i64 ((rd_T50 l2 x28_2).f1), .bool ((rd_T50 l2 x28_2).f2)] 50 (0, 0)) (by (with_reducible repeat (first | refine blk_drewN ?_ _ | refine blk_drew ?_ | refine blk_alloc ?_ _)); refine blk_put (cs := #[.int .i64 ((rd_T50 l2 x28_2).f0), .int .i64 ((rd_T50 l2 x28_2).f1), .bool false]) ?_ 2 _ rfl; (with_reducible repeat (first | refine blk_drewN ?_ _ | refine blk_drew ?_ | refine blk_alloc ?_ _)); refine blk_put (cs := #[.int .i64 ((rd_T50 l2 x28_2).f0), .int .i64 0, .bool false]) ?_ 1 _ rfl; (with_reducible repeat (first | refine blk_drewN ?_ _ | refine blk_drew ?_ | refine blk_alloc ?_ _)); refine blk_put (cs := #[.int .i64 0, .int .i64 0, .bool false]) ?_ 0 _ rfl; (with_reducible repeat (first | refine blk_drewN ?_ _ | refine blk_drew ?_ | refine blk_alloc ?_ _)); exact BK165.out) hb); have n2_ := Aside0.mk (below_step (by repeat (with_reducible first | exact HB.out | apply below_alloc | apply pw_below_drewN | apply below_drew1 | refine below_set ?_ GE165.out)) hb); clear HO_7; clear BK165; clear HB; have HO_7 := n0_; have BK165 := n1_; have HB := n2_; clear n0_ n1_ n2_; (try clear hb); (try clear hb2); (try clear hk); (try clear hi); have hcz25_0 : w24.cell? ⟨gb165, 0, none⟩ = some (.int .i64 ((rd_T50 l2 x28_2).f0)) := (blk_cell BK165.out 0).trans rfl; have hcz25_1 : w24.cell? ⟨gb165, 1, none⟩ = some (.int .i64 ((rd_T50 l2 x28_2).f1)) := (blk_cell BK165.out 1).trans rfl; have hcz25_2 : w24.cell? ⟨gb165, 2, none⟩ = some (.bool ((rd_T50 l2 x28_2).f2)) := (blk_cell BK165.out 2).trans rfl; have hfz25_0 := blk_frozen BK165.out 0; have hfz25_1 := blk_frozen BK165.out 1; have hfz25_2 := blk_frozen BK165.out 2) | (go_at_call 135; (with_reducible refine (impl_linkIndex.calls k2 _ _ l2 ((rd_T50 l2 x28_2).f0) ((rd_T50 l2 x28_2).f1) ((rd_T50 l2 x28_2).f2) t167 _ ?side1 ?side2 A21.out).mono ?_); (case side1 => repeat (first | exact (Kd.C_below HR2.out HB.out) | (with_reducible refine Kd.C_alloc ?_ _) | (with_reducible refine Kd.C_drewN ?_ _) | (with_reducible refine Kd.C_drew ?_))); (case side2 => exact HC2.out); rintro e w26 ⟨rfl, hb⟩; have n0_ := Aside0.mk (Kd.R_below (rX HO_7.out) hb); have n1_ := Aside0.mk (blk_below (g := gb165) (o := .cells #[.int .i64 ((rd_T50 l2 x28_2).f0), .int .i64 ((rd_T50 l2 x28_2).f1), .bool ((rd_T50 l2 x28_2).f2)] 50 (0, 0)) (kX BK165.out) hb); have n2_ := Aside0.mk (below_step (by repeat (with_reducible first | exact HB.out | apply below_alloc | apply pw_below_drewN | apply below_drew1 | refine below_set ?_ GE165.out)) hb); clear HO_7; clear BK165; clear HB; have HO_7 := n0_; have BK165 := n1_; have HB := n2_; clear n0_ n1_ n2_; (try clear hb); (try clear hb2); (try clear hk); (try clear hi)))
           go_meet
           case rel => exact ⟨_, ((t167 != x28_2)), (by first | rfl | (simp; done) | (simp [*]; done)), H', ⟨by have := HJ3.out; have := HK2.out; first | omega | exact Nat.le_refl _⟩, ⟨by (with_reducible repeat (first | apply Kd.R_alloc | apply Kd.R_drewN | apply Kd.R_drew)); exact Kd.R_mono HO_7.out (fun _ hk => hk.2)⟩, ⟨kX BK165.out⟩, ⟨by repeat (with_reducible first | exact HB.out | apply below_alloc | apply pw_below_drewN | apply below_drew1 | refine below_set ?_ GE165.out)⟩⟩
         case rest =>
          clear HC13
          try clear c1
          try clear p1
          try clear q1
          try clear hx1
          try clear c2
          try clear p2
          try clear c6
          try clear p6
          try clear c7
          try clear c8
          try clear c10
          try clear c10b0
          try clear c11
          try clear c11b0
          try clear c12
          try clear c12b0
          try clear c13
          try clear p16
          try clear q16
          try clear hx16
          try clear c17
          try clear c17b0
          try clear hcz15_0
          try clear hcz15_1
          try clear hcz15_2
          try clear hcz18_0
          try clear hcz18_1
          try clear hcz18_2
          try clear hcz22_0
          try clear hcz22_1
          try clear hcz22_2
          try clear hcz25_0
          try clear hcz25_1
          try clear hcz25_2
          try clear hfz15_0
          try clear hfz15_1
          try clear hfz15_2
          try clear hfz18_0
          try clear hfz18_1
          try clear hfz18_2
          try clear hfz22_0
          try clear hfz22_1
          try clear hfz22_2
          try clear hfz25_0
          try clear hfz25_1
          try clear hfz25_2
          try clear hx164_0
          try clear hx164_1
          try clear hx164_2
          try clear p164
          try clear p2
          try clear p6
          try clear q164
          obtain ⟨kq, x43_12, rfl, HA, HJ12, HO_7, BK165, HB⟩ := hcut
          cases kq with
          | zero => exact absurd HA.out (by simp [impl_IsTree.j2])
          | succ kj12 =>
           have H := HA.out
           clear HA
           simp only [impl_IsTree.j2] at H
           by_cases c27 : x43_12 = true
           ·subst c27
            have H1 : (some false) = some r := by rw [if_pos rfl] at H; exact H
            clear H
            have H := H1
            clear H1
            obtain rfl := Option.some.inj H
            go_wp2
            go_ret
            exact ⟨by first | rfl | (simp [*, errW_none, errW_some] <;> rfl), by repeat (with_reducible first | exact HB.out | apply below_alloc | apply pw_below_drewN | apply below_drew1 | refine below_set ?_ GE165.out)⟩
           ·replace c27 := Bool.eq_false_iff.mpr c27
            subst c27
            have H1 : (impl_IsTree.l0 kj12 a0 a1 l2 t161 l2 (l2.length : Int) (wrap64 (x28_2 + 1))) = some r := by rw [if_neg (show ¬ (false = true) by decide)] at H; exact H
            clear H
            have H := H1
            clear H1
            have H' := Aside0.mk H
            clear H
            go_wp2
            go_roundg kj12
            case measure => have := HJ3.out; have := HK2.out; have := HJ12.out; omega
            case rel => exact ⟨(wrap64 (x28_2 + 1)), (by first | rfl | (simp; done) | (simp [*]; done)), H', ⟨by have := HJ3.out; have := HK2.out; have := HJ12.out; omega⟩, ⟨by (with_reducible repeat (first | apply Kd.R_alloc | apply Kd.R_drewN | apply Kd.R_drew)); exact Kd.R_mono HO_7.out (fun _ hk => trivial)⟩, ⟨by repeat (with_reducible first | exact HB.out | apply below_alloc | apply pw_below_drewN | apply below_drew1 | refine below_set ?_ GE165.out)⟩⟩
        ·rw [if_neg c12] at H
         exact absurd H (by simp)
       ·rw [if_neg c11] at H
        exact absurd H (by simp)
      ·rw [if_neg c10] at H
       have c10b0 : decide (x28_2 < (l2.length : Int)) = false := decide_eq_false c10
       clear c10
       replace H := Option.bind_eq_some_iff.mp H
       obtain ⟨t168, A280, H⟩ := H
       replace H : ((impl_indexOf.f k2 t168 (-1)).bind fun t171 => (some (decide (t171 < 0)))) = some r := H
       have A28 := Aside0.mk A280
       clear A280
       replace H := Option.bind_eq_some_iff.mp H
       obtain ⟨t171, A290, H⟩ := H
       replace H : (some (decide (t171 < 0))) = some r := H
       have A29 := Aside0.mk A290
       clear A290
       obtain rfl := Option.some.inj H
       go_wp2_with (first | ((with_reducible refine gate_callee (f := 78) rfl ?_); refine goesL_ (some 48) rfl rfl Try.func78 (by kernel_rfl) rfl #[.int .i64 a0, .int .i64 a1, .slice A2 l2.length c2] rfl (by (try simp only [sD, sE, sF]); first | done | rfl) ?_; (with_reducible refine (impl_rooted.calls k2 a0 a1 _ _ l2 t168 _ ?side1 ?side2 A28.out).mono ?_); (case side1 => repeat (first | exact (Kd.C_below HR2.out HB.out) | (with_reducible refine Kd.C_alloc ?_ _) | (with_reducible refine Kd.C_drewN ?_ _) | (with_reducible refine Kd.C_drew ?_))); (case side2 => exact HC2.out); rintro e w30 ⟨v169, rfl, ho0, hb⟩; refine ⟨_, rfl, ?_⟩; have n0_ := Aside0.mk (Kd.R_below (rX HO_7.out) hb); have n1_ := Aside0.mk (Kd.R_lower ho0 (below_size (bX HB.out))); have n2_ := Aside0.mk (below_step (bX HB.out) hb); clear HO_7; clear HB; have HO_7 := n0_; have HO170 := n1_; have HB := n2_; clear n0_ n1_ n2_; (try clear hb); (try clear hb2); (try clear hk); (try clear hi); (try clear ho0); obtain ⟨Ao31, co31, eo31⟩ := Kd.R_slice HO170.out; subst eo31) | ((with_reducible refine gate_callee (f := 136) rfl ?_); refine goesL_ (some 49) rfl rfl Try.func136 (by kernel_rfl) rfl #[.slice Ao31 t168.length co31, .int .i64 (-1)] rfl (by (try simp only [sD, sE, sF]); first | done | rfl) ?_; (with_reducible refine (impl_indexOf.calls k2 _ _ t168 (-1) t171 _ ?side1 ?side2 A29.out).mono ?_); (case side1 => repeat (first | exact (Kd.R_reads' HO170.out).2.2 | (with_reducible refine Kd.C_alloc ?_ _) | (with_reducible refine Kd.C_drewN ?_ _) | (with_reducible refine Kd.C_drew ?_))); (case side2 => exact (Kd.R_reads' HO170.out).2.1); rintro e w' ⟨rfl, ⟨nd, rfl⟩⟩; refine ⟨_, rfl, ?_⟩))
       go_ret
       exact ⟨by first | rfl | (simp [*, errW_none, errW_some] <;> rfl), bX HB.out⟩
def impl_size.f (a0 : Int) : Option (Int) := some (mx a0 (wrap64 (-a0)))
set_option maxHeartbeats 8000000 in
set_option maxRecDepth 100000 in
theorem impl_size.calls (a0 : Int) (r : Int) (w : World) (h : impl_size.f a0 = some r) :
  Calls Try.prog 162 #[.int .i64 a0] w fun e w' => e = .returned (.int .i64 r) ∧ Below w.heap.size w w' := by
 have HB := Aside0.mk (Below.refl w.heap.size w)
 have H : (some (mx a0 (wrap64 (-a0)))) = some r := h
 clear h
 obtain ⟨ji2, hji2⟩ : ∃ j_ : Int, (mx a0 (wrap64 (-a0))) = j_ := ⟨_, rfl⟩
 replace H : (some ji2) = some r := by first | (rw [hji2] at H; exact H) | (simp only [hji2] at H ⊢; exact H)
 have hji2_ : (if a0 < (wrap64 (-a0)) then (wrap64 (-a0)) else a0) = ji2 := hji2
 obtain rfl := Option.some.inj H
 go_enter Try.func162, Try.ntmps162
 go_wp2
 go_ret
 exact ⟨by first | rfl | (simp [errW_none, errW_some] <;> rfl) | (simp only [← hji2]; first | rfl | (simp [errW_none, errW_some] <;> rfl)) | (simp [*, errW_none, errW_some] <;> rfl), bX HB.out⟩
def impl_AreNeighbors.f (a0_0 : Int) (a0_1 : Int) (a1_0 : Int) (a1_1 : Int) : Option (Bool) := (impl_CellOk.f a0_0 a0_1).bind fun t174 => (if t174 = true then ((impl_CellOk.f a1_0 a1_1).bind fun t175 => (if t175 = true then ((impl_size.f (wrap64 (a0_0 - a1_0))).bind fun t176 => ((impl_size.f (wrap64 (a0_1 - a1_1))).bind fun t177 => (some ((wrap64 (t176 + t177)) == 1)))) else (some false))) else (some false))
def impl_AreNeighbors.T1 : Bool × List (List Nat × List Nat) := (true, [([], []), ([0], [0]), ([1, 1], [1]), ([2], [2]), ([3, 2, 2], [2, 3]), ([2, 4], [2, 4]), ([5, 4], [5]), ([6], [6]), ([7, 6], [6, 7]), ([6], [6]), ([9, 6], [6, 9]), ([8, 10, 6], [6, 8, 10]), ([11, 6, 6], [6, 11]), ([6], [6]), ([13, 6], [6, 13]), ([6], [6]), ([15, 6], [6, 15]), ([14, 16, 6], [6, 14, 16]), ([17, 12, 6], [6, 17]), ([12, 18, 6], [6, 12, 18]), ([19, 6], [6, 19]), ([6, 20], [6, 20]), ([21, 18, 0, 1, 2, 3, 4, 5, 6, 7, 8, 9, 10, 11, 12, 13, 14, 15, 16, 17, 18, 19, 20, 21], [21])])
def impl_AreNeighbors.B1 : List Nat := [0, 1, 3, 7, 15, 31, 63, 127, 255, 127, 639, 2047, 4095, 127, 8319, 127, 32895, 123007, 262143, 524287, 1048575, 2097151, 4194303]
theorem impl_AreNeighbors.tab1 : rtab .any (opsOf Try.f138 1) = impl_AreNeighbors.T1 := by kernel_rfl
theorem impl_AreNeighbors.bits1 : waitsOk impl_AreNeighbors.T1.2 impl_AreNeighbors.B1 = true := by kernel_rfl
set_option maxHeartbeats 8000000 in
set_option maxRecDepth 100000 in
theorem impl_AreNeighbors.calls (a0_0 : Int) (a0_1 : Int) (a1_0 : Int) (a1_1 : Int) (r : Bool) (w : World) (h : impl_AreNeighbors.f a0_0 a0_1 a1_0 a1_1 = some r) :
  Calls Try.prog 138 #[.agg #[.int .i64 a0_0, .int .i64 a0_1], .agg #[.int .i64 a1_0, .int .i64 a1_1]] w fun e w' => e = .returned (.bool r) ∧ Below w.heap.size w w' := by
 have hu39 := Try.underlying39
 have HB := Aside0.mk (Below.refl w.heap.size w)
 have H : ((impl_CellOk.f a0_0 a0_1).bind fun t174 => (if t174 = true then ((impl_CellOk.f a1_0 a1_1).bind fun t175 => (if t175 = true then ((impl_size.f (wrap64 (a0_0 - a1_0))).bind fun t176 => ((impl_size.f (wrap64 (a0_1 - a1_1))).bind fun t177 => (some ((wrap64 (t176 + t177)) == 1)))) else (some false))) else (some false))) = some r := h
 clear h
 replace H := Option.bind_eq_some_iff.mp H
 obtain ⟨t174, A30, H⟩ := H
 replace H : (if t174 = true then ((impl_CellOk.f a1_0 a1_1).bind fun t175 => (if t175 = true then ((impl_size.f (wrap64 (a0_0 - a1_0))).bind fun t176 => ((impl_size.f (wrap64 (a0_1 - a1_1))).bind fun t177 => (some ((wrap64 (t176 + t177)) == 1)))) else (some false))) else (some false)) = some r := H
 have A3 := Aside0.mk A30
 clear A30
 by_cases c4 : t174 = true
 ·subst c4
  have H1 : ((impl_CellOk.f a1_0 a1_1).bind fun t175 => (if t175 = true then ((impl_size.f (wrap64 (a0_0 - a1_0))).bind fun t176 => ((impl_size.f (wrap64 (a0_1 - a1_1))).bind fun t177 => (some ((wrap64 (t176 + t177)) == 1)))) else (some false))) = some r := by rw [if_pos rfl] at H; exact H
  clear H
  have H := H1
  clear H1
  replace H := Option.bind_eq_some_iff.mp H
  obtain ⟨t175, A50, H⟩ := H
  replace H : (if t175 = true then ((impl_size.f (wrap64 (a0_0 - a1_0))).bind fun t176 => ((impl_size.f (wrap64 (a0_1 - a1_1))).bind fun t177 => (some ((wrap64 (t176 + t177)) == 1)))) else (some false)) = some r := H
  have A5 := Aside0.mk A50
  clear A50
  by_cases c6 : t175 = true
  ·subst c6
   have H1 : ((impl_size.f (wrap64 (a0_0 - a1_0))).bind fun t176 => ((impl_size.f (wrap64 (a0_1 - a1_1))).bind fun t177 => (some ((wrap64 (t176 + t177)) == 1)))) = some r := by rw [if_pos rfl] at H; exact H
   clear H
   have H := H1
   clear H1
   replace H := Option.bind_eq_some_iff.mp H
   obtain ⟨t176, A70, H⟩ := H
   replace H : ((impl_size.f (wrap64 (a0_1 - a1_1))).bind fun t177 => (some ((wrap64 (t176 + t177)) == 1))) = some r := H
   have A7 := Aside0.mk A70
   clear A70
   replace H := Option.bind_eq_some_iff.mp H
   obtain ⟨t177, A80, H⟩ := H
   replace H : (some ((wrap64 (t176 + t177)) == 1)) = some r := H
   have A8 := Aside0.mk A80
   clear A80
   obtain rfl := Option.some.inj H
   go_enter Try.func138, Try.ntmps138
   try go_wp2_with (first | ((with_reducible refine gate_dst (N := 2) rfl ?_); refine box_event ?hg (N := 2) ?hd (cs := #[.int .i64 a0_0, .int .i64 a0_1]) (t := 39) ?hr ?_; (case hd => rfl); (case hg => rfl); (case hr => first | (go_simp; done) | (go_simp; rfl)); intro gb172 hg w9 hbox hb; have n0_ := Aside0.mk (below_step (bX HB.out) hb); have n1_ := Aside0.mk (hbox); have n2_ := Aside0.mk ((by rw [hg]; exact (below_size (bX HB.out)) : w.heap.size ≤ gb172)); have n3_ := Aside0.mk ((by rw [hg]; exact (below_size (bX HB.out)) : w.heap.size ≤ gb172)); clear HB; have HB := n0_; have BK172 := n1_; have GW172 := n2_; have GE172 := n3_; clear n0_ n1_ n2_ n3_; clear hb hbox hg) | ((with_reducible refine gate_dst (N := 3) rfl ?_); refine box_event ?hg (N := 3) ?hd (cs := #[.int .i64 a1_0, .int .i64 a1_1]) (t := 39) ?hr ?_; (case hd => rfl); (case hg => rfl); (case hr => first | (go_simp; done) | (go_simp; rfl)); intro gb173 hg w10 hbox hb; have n0_ := Aside0.mk (blk_below (g := gb172) (o := .cells #[.int .i64 a0_0, .int .i64 a0_1] 39 (0, 0)) (kX BK172.out) hb); have n1_ := Aside0.mk (below_step (by repeat (with_reducible first | exact HB.out | apply below_alloc | apply pw_below_drewN | apply below_drew1 | refine below_set ?_ GE172.out)) hb); have n2_ := Aside0.mk (hbox); have n3_ := Aside0.mk ((by rw [hg]; exact (below_size (by repeat (with_reducible first | exact HB.out | apply below_alloc | apply pw_below_drewN | apply below_drew1 | refine below_set ?_ GE172.out))) : w.heap.size ≤ gb173)); have n4_ := Aside0.mk ((by rw [hg]; exact (below_size (by repeat (with_reducible first | exact HB.out | apply below_alloc | apply pw_below_drewN | apply below_drew1 | refine below_set ?_ GE172.out))) : w.heap.size ≤ gb173)); have n5_ := Aside0.mk ((by rw [hg]; exact Nat.ne_of_lt (blk_lt (g := gb172) (o := .cells #[.int .i64 a0_0, .int .i64 a0_1] 39 (0, 0)) (kX BK172.out)) : gb172 ≠ gb173)); have n6_ := Aside0.mk ((by rw [hg]; exact Nat.ne_of_gt (blk_lt (g := gb172) (o := .cells #[.int .i64 a0_0, .int .i64 a0_1] 39 (0, 0)) (kX BK172.out)) : gb173 ≠ gb172)); clear BK172; clear HB; have BK172 := n0_; have HB := n1_; have BK173 := n2_; have GW173 := n3_; have GE173 := n4_; have NB172_173 := n5_; have NB173_172 := n6_; clear n0_ n1_ n2_ n3_ n4_ n5_ n6_; clear hb hbox hg))
   have n0_ := Aside0.mk (blk_drew BK172.out)
   have n1_ := Aside0.mk (blk_drew BK173.out)
   have n2_ := Aside0.mk (below_drew1 HB.out)
   clear BK172
   clear BK173
   clear HB
   have BK172 := n0_
   have BK173 := n1_
   have HB := n2_
   clear n0_ n1_ n2_
   refine start_ (n := 23) (S := fun w' => w'.cell? ⟨gb172, 0, none⟩ = some (.int .i64 a0_0) ∧ w'.cell? ⟨gb172, 1, none⟩ = some (.int .i64 a0_1) ∧ w'.cell? ⟨gb173, 0, none⟩ = some (.int .i64 a1_0) ∧ w'.cell? ⟨gb173, 1, none⟩ = some (.int .i64 a1_1)) (ds := []) #[false, false, false, false, false, false, false, false, false, false, false, false, false, false, false, false, false, false, false, false, false, false, false] (by kernel_rfl) rfl rfl ⟨(blk_cell BK172.out 0).trans rfl, (blk_cell BK172.out 1).trans rfl, (blk_cell BK173.out 0).trans rfl, (blk_cell BK173.out 1).trans rfl⟩ (fun hHeld => ?_); refine with_tabW impl_AreNeighbors.tab1 impl_AreNeighbors.bits1 (fun HT_ HW_ => ?_)
   generalize w10.drew = w11 at BK172 BK173 HB hHeld ⊢
   refine take_ (i := 0) (N := some 5) (v := ?_) (a' := ?_) #[true, false, false, false, false, false, false, false, false, false, false, false, false, false, false, false, false, false, false, false, false, false, false] rfl rfl (take_ofW HT_.out HW_.out (by kernel_rfl)) (fun _ _ _ h => h) (Or.inl ⟨by rfl, ?_⟩) hHeld ?_ ?_
   rotate_left
   ·rintro w' ⟨s0, s1, s2, s3⟩
    go_simp
    with_reducible rfl
   rotate_left
   ·simp only [Act.put, sA, sB, sC, i64_w, i32_w]
    rfl
   refine one_ (i := 1) (N := some 6) #[true, true, false, false, false, false, false, false, false, false, false, false, false, false, false, false, false, false, false, false, false, false, false] rfl rfl (one_of HT_.out (by kernel_rfl)) (by decide) (fun K hK => ?_)
   refine goes_ Try.func130 (by kernel_rfl) rfl #[.agg #[.int .i64 a0_0, .int .i64 a0_1]] (by rfl) rfl rfl (by (try simp only [sD, sE, sF]); first | done | rfl) ?_
   with_reducible refine (impl_CellOk.calls a0_0 a0_1 true _ A3.out).mono ?_
   rintro e w12 ⟨rfl, hb⟩
   refine ⟨_, rfl, ?_⟩
   have n0_ := Aside0.mk (blk_below (g := gb172) (o := .cells #[.int .i64 a0_0, .int .i64 a0_1] 39 (0, 0)) (kX BK172.out) hb)
   have n1_ := Aside0.mk (blk_below (g := gb173) (o := .cells #[.int .i64 a1_0, .int .i64 a1_1] 39 (0, 0)) (kX BK173.out) hb)
   have n2_ := Aside0.mk (below_step (by repeat (with_reducible first | exact HB.out | apply below_alloc | apply pw_below_drewN | apply below_drew1 | refine below_set ?_ GE172.out | refine below_set ?_ GE173.out)) hb)
   clear BK172
   clear BK173
   clear HB
   have BK172 := n0_
   have BK173 := n1_
   have HB := n2_
   clear n0_ n1_ n2_
   (try clear hb)
   (try clear hb2)
   (try clear hk)
   (try clear hi)
   refine hK.out _ _ ⟨(blk_cell BK172.out 0).trans rfl, (blk_cell BK172.out 1).trans rfl, (blk_cell BK173.out 0).trans rfl, (blk_cell BK173.out 1).trans rfl⟩ (fun hHeld => ?_)
   clear hK K
   refine norm_ (a' := ?_) ?_ ?_
   rotate_left
   ·show Act.put _ (some 6) _ = _
    simp only [Act.put, sA, sB, sC, i64_w, i32_w]
    rfl
   refine pure_ (i := 2) (N := some 7) (v := ?_) (a' := ?_) #[true, true, true, false, false, false, false, false, false, false, false, false, false, false, false, false, false, false, false, false, false, false, false] rfl rfl (any_of HT_.out (by kernel_rfl)) (fun _ _ _ h => h) (Or.inl ⟨by rfl, ?_⟩) ?_ ?_
   rotate_left
   ·intro w'
    go_simp
    with_reducible rfl
   rotate_left
   ·simp only [Act.put, sA, sB, sC, i64_w, i32_w]
    rfl
   refine take_ (i := 3) (N := some 8) (v := ?_) (a' := ?_) #[true, true, true, true, false, false, false, false, false, false, false, false, false, false, false, false, false, false, false, false, false, false, false] rfl rfl (take_ofW HT_.out HW_.out (by kernel_rfl)) (fun _ _ _ h => h) (Or.inl ⟨by rfl, ?_⟩) hHeld ?_ ?_
   rotate_left
   ·rintro w' ⟨s0, s1, s2, s3⟩
    go_simp
    with_reducible rfl
   rotate_left
   ·simp only [Act.put, sA, sB, sC, i64_w, i32_w]
    rfl
   refine one_ (i := 4) (N := some 9) #[true, true, true, true, true, false, false, false, false, false, false, false, false, false, false, false, false, false, false, false, false, false, false] rfl rfl (one_of HT_.out (by kernel_rfl)) (by decide) (fun K hK => ?_)
   refine goes_ Try.func130 (by kernel_rfl) rfl #[.agg #[.int .i64 a1_0, .int .i64 a1_1]] (by rfl) rfl rfl (by (try simp only [sD, sE, sF]); first | done | rfl) ?_
   with_reducible refine (impl_CellOk.calls a1_0 a1_1 true _ A5.out).mono ?_
   rintro e w13 ⟨rfl, hb⟩
   refine ⟨_, rfl, ?_⟩
   have n0_ := Aside0.mk (blk_below (g := gb172) (o := .cells #[.int .i64 a0_0, .int .i64 a0_1] 39 (0, 0)) (kX BK172.out) hb)
   have n1_ := Aside0.mk (blk_below (g := gb173) (o := .cells #[.int .i64 a1_0, .int .i64 a1_1] 39 (0, 0)) (kX BK173.out) hb)
   have n2_ := Aside0.mk (below_step (by repeat (with_reducible first | exact HB.out | apply below_alloc | apply pw_below_drewN | apply below_drew1 | refine below_set ?_ GE172.out | refine below_set ?_ GE173.out)) hb)
   clear BK172
   clear BK173
   clear HB
   have BK172 := n0_
   have BK173 := n1_
   have HB := n2_
   clear n0_ n1_ n2_
   (try clear hb)
   (try clear hb2)
   (try clear hk)
   (try clear hi)
   refine hK.out _ _ ⟨(blk_cell BK172.out 0).trans rfl, (blk_cell BK172.out 1).trans rfl, (blk_cell BK173.out 0).trans rfl, (blk_cell BK173.out 1).trans rfl⟩ (fun hHeld => ?_)
   clear hK K
   refine norm_ (a' := ?_) ?_ ?_
   rotate_left
   ·show Act.put _ (some 9) _ = _
    simp only [Act.put, sA, sB, sC, i64_w, i32_w]
    rfl
   refine pure_ (i := 5) (N := some 10) (v := ?_) (a' := ?_) #[true, true, true, true, true, true, false, false, false, false, false, false, false, false, false, false, false, false, false, false, false, false, false] rfl rfl (any_of HT_.out (by kernel_rfl)) (fun _ _ _ h => h) (Or.inl ⟨by rfl, ?_⟩) ?_ ?_
   rotate_left
   ·intro w'
    go_simp
    with_reducible rfl
   rotate_left
   ·simp only [Act.put, sA, sB, sC, i64_w, i32_w]
    rfl
   refine pure_ (i := 6) (N := some 11) (v := ?_) (a' := ?_) #[true, true, true, true, true, true, true, false, false, false, false, false, false, false, false, false, false, false, false, false, false, false, false] rfl rfl (any_of HT_.out (by kernel_rfl)) (fun _ _ _ h => h) (Or.inl ⟨by rfl, ?_⟩) ?_ ?_
   rotate_left
   ·intro w'
    go_simp
    with_reducible rfl
   rotate_left
   ·simp only [Act.put, sA, sB, sC, i64_w, i32_w]
    rfl
   refine pure_ (i := 7) (N := some 12) (v := ?_) (a' := ?_) #[true, true, true, true, true, true, true, true, false, false, false, false, false, false, false, false, false, false, false, false, false, false, false] rfl rfl (any_of HT_.out (by kernel_rfl)) (fun _ _ _ h => h) (Or.inl ⟨by rfl, ?_⟩) ?_ ?_
   rotate_left
   ·intro w'
    go_simp
    with_reducible rfl
   rotate_left
   ·simp only [Act.put, sA, sB, sC, i64_w, i32_w]
    rfl
   refine pure_ (i := 9) (N := some 14) (v := ?_) (a' := ?_) #[true, true, true, true, true, true, true, true, false, true, false, false, false, false, false, false, false, false, false, false, false, false, false] rfl rfl (any_of HT_.out (by kernel_rfl)) (fun _ _ _ h => h) (Or.inl ⟨by rfl, ?_⟩) ?_ ?_
   rotate_left
   ·intro w'
    go_simp
    with_reducible rfl
   rotate_left
   ·simp only [Act.put, sA, sB, sC, i64_w, i32_w]
    rfl
   refine pure_ (i := 13) (N := some 18) (v := ?_) (a' := ?_) #[true, true, true, true, true, true, true, true, false, true, false, false, false, true, false, false, false, false, false, false, false, false, false] rfl rfl (any_of HT_.out (by kernel_rfl)) (fun _ _ _ h => h) (Or.inl ⟨by rfl, ?_⟩) ?_ ?_
   rotate_left
   ·intro w'
    go_simp
    with_reducible rfl
   rotate_left
   ·simp only [Act.put, sA, sB, sC, i64_w, i32_w]
    rfl
   refine pure_ (i := 15) (N := some 20) (v := ?_) (a' := ?_) #[true, true, true, true, true, true, true, true, false, true, false, false, false, true, false, true, false, false, false, false, false, false, false] rfl rfl (any_of HT_.out (by kernel_rfl)) (fun _ _ _ h => h) (Or.inl ⟨by rfl, ?_⟩) ?_ ?_
   rotate_left
   ·intro w'
    go_simp
    with_reducible rfl
   rotate_left
   ·simp only [Act.put, sA, sB, sC, i64_w, i32_w]
    rfl
   refine take_ (i := 8) (N := some 13) (v := ?_) (a' := ?_) #[true, true, true, true, true, true, true, true, true, true, false, false, false, true, false, true, false, false, false, false, false, false, false] rfl rfl (take_ofW HT_.out HW_.out (by kernel_rfl)) (fun _ _ _ h => h) (Or.inl ⟨by rfl, ?_⟩) hHeld ?_ ?_
   rotate_left
   ·rintro w' ⟨s0, s1, s2, s3⟩
    go_simp
    with_reducible rfl
   rotate_left
   ·simp only [Act.put, sA, sB, sC, i64_w, i32_w]
    rfl
   refine take_ (i := 10) (N := some 15) (v := ?_) (a' := ?_) #[true, true, true, true, true, true, true, true, true, true, true, false, false, true, false, true, false, false, false, false, false, false, false] rfl rfl (take_ofW HT_.out HW_.out (by kernel_rfl)) (fun _ _ _ h => h) (Or.inl ⟨by rfl, ?_⟩) hHeld ?_ ?_
   rotate_left
   ·rintro w' ⟨s0, s1, s2, s3⟩
    go_simp
    with_reducible rfl
   rotate_left
   ·simp only [Act.put, sA, sB, sC, i64_w, i32_w]
    rfl
   refine pure_ (i := 11) (N := some 16) (v := ?_) (a' := ?_) #[true, true, true, true, true, true, true, true, true, true, true, true, false, true, false, true, false, false, false, false, false, false, false] rfl rfl (any_of HT_.out (by kernel_rfl)) (fun _ _ _ h => h) (Or.inl ⟨by rfl, ?_⟩) ?_ ?_
   rotate_left
   ·intro w'
    go_simp
    with_reducible rfl
   rotate_left
   ·simp only [Act.put, sA, sB, sC, i64_w, i32_w]
    rfl
   refine take_ (i := 14) (N := some 19) (v := ?_) (a' := ?_) #[true, true, true, true, true, true, true, true, true, true, true, true, false, true, true, true, false, false, false, false, false, false, false] rfl rfl (take_ofW HT_.out HW_.out (by kernel_rfl)) (fun _ _ _ h => h) (Or.inl ⟨by rfl, ?_⟩) hHeld ?_ ?_
   rotate_left
   ·rintro w' ⟨s0, s1, s2, s3⟩
    go_simp
    with_reducible rfl
   rotate_left
   ·simp only [Act.put, sA, sB, sC, i64_w, i32_w]
    rfl
   refine take_ (i := 16) (N := some 21) (v := ?_) (a' := ?_) #[true, true, true, true, true, true, true, true, true, true, true, true, false, true, true, true, true, false, false, false, false, false, false] rfl rfl (take_ofW HT_.out HW_.out (by kernel_rfl)) (fun _ _ _ h => h) (Or.inl ⟨by rfl, ?_⟩) hHeld ?_ ?_
   rotate_left
   ·rintro w' ⟨s0, s1, s2, s3⟩
    go_simp
    with_reducible rfl
   rotate_left
   ·simp only [Act.put, sA, sB, sC, i64_w, i32_w]
    rfl
   refine pure_ (i := 17) (N := some 22) (v := ?_) (a' := ?_) #[true, true, true, true, true, true, true, true, true, true, true, true, false, true, true, true, true, true, false, false, false, false, false] rfl rfl (any_of HT_.out (by kernel_rfl)) (fun _ _ _ h => h) (Or.inl ⟨by rfl, ?_⟩) ?_ ?_
   rotate_left
   ·intro w'
    go_simp
    with_reducible rfl
   rotate_left
   ·simp only [Act.put, sA, sB, sC, i64_w, i32_w]
    rfl
   refine one_ (i := 12) (N := some 17) #[true, true, true, true, true, true, true, true, true, true, true, true, true, true, true, true, true, true, false, false, false, false, false] rfl rfl (one_of HT_.out (by kernel_rfl)) (by decide) (fun K hK => ?_)
   refine goes_ Try.func162 (by kernel_rfl) rfl #[.int .i64 (wrap64 (a0_0 - a1_0))] (by rfl) rfl rfl (by (try simp only [sD, sE, sF]); first | done | rfl) ?_
   with_reducible refine (impl_size.calls (wrap64 (a0_0 - a1_0)) t176 _ A7.out).mono ?_
   rintro e w14 ⟨rfl, hb⟩
   refine ⟨_, rfl, ?_⟩
   have n0_ := Aside0.mk (blk_below (g := gb172) (o := .cells #[.int .i64 a0_0, .int .i64 a0_1] 39 (0, 0)) (kX BK172.out) hb)
   have n1_ := Aside0.mk (blk_below (g := gb173) (o := .cells #[.int .i64 a1_0, .int .i64 a1_1] 39 (0, 0)) (kX BK173.out) hb)
   have n2_ := Aside0.mk (below_step (by repeat (with_reducible first | exact HB.out | apply below_alloc | apply pw_below_drewN | apply below_drew1 | refine below_set ?_ GE172.out | refine below_set ?_ GE173.out)) hb)
   clear BK172
   clear BK173
   clear HB
   have BK172 := n0_
   have BK173 := n1_
   have HB := n2_
   clear n0_ n1_ n2_
   (try clear hb)
   (try clear hb2)
   (try clear hk)
   (try clear hi)
   refine hK.out _ _ ⟨(blk_cell BK172.out 0).trans rfl, (blk_cell BK172.out 1).trans rfl, (blk_cell BK173.out 0).trans rfl, (blk_cell BK173.out 1).trans rfl⟩ (fun hHeld => ?_)
   clear hK K
   refine norm_ (a' := ?_) ?_ ?_
   rotate_left
   ·show Act.put _ (some 17) _ = _
    simp only [Act.put, sA, sB, sC, i64_w, i32_w]
    rfl
   refine one_ (i := 18) (N := some 23) #[true, true, true, true, true, true, true, true, true, true, true, true, true, true, true, true, true, true, true, false, false, false, false] rfl rfl (one_of HT_.out (by kernel_rfl)) (by decide) (fun K hK => ?_)
   refine goes_ Try.func162 (by kernel_rfl) rfl #[.int .i64 (wrap64 (a0_1 - a1_1))] (by rfl) rfl rfl (by (try simp only [sD, sE, sF]); first | done | rfl) ?_
   with_reducible refine (impl_size.calls (wrap64 (a0_1 - a1_1)) t177 _ A8.out).mono ?_
   rintro e w15 ⟨rfl, hb⟩
   refine ⟨_, rfl, ?_⟩
   have n0_ := Aside0.mk (blk_below (g := gb172) (o := .cells #[.int .i64 a0_0, .int .i64 a0_1] 39 (0, 0)) (kX BK172.out) hb)
   have n1_ := Aside0.mk (blk_below (g := gb173) (o := .cells #[.int .i64 a1_0, .int .i64 a1_1] 39 (0, 0)) (kX BK173.out) hb)
   have n2_ := Aside0.mk (below_step (by repeat (with_reducible first | exact HB.out | apply below_alloc | apply pw_below_drewN | apply below_drew1 | refine below_set ?_ GE172.out | refine below_set ?_ GE173.out)) hb)
   clear BK172
   clear BK173
   clear HB
   have BK172 := n0_
   have BK173 := n1_
   have HB := n2_
   clear n0_ n1_ n2_
   (try clear hb)
   (try clear hb2)
   (try clear hk)
   (try clear hi)
   refine hK.out _ _ ⟨(blk_cell BK172.out 0).trans rfl, (blk_cell BK172.out 1).trans rfl, (blk_cell BK173.out 0).trans rfl, (blk_cell BK173.out 1).trans rfl⟩ (fun hHeld => ?_)
   clear hK K
   refine norm_ (a' := ?_) ?_ ?_
   rotate_left
   ·show Act.put _ (some 23) _ = _
    simp only [Act.put, sA, sB, sC, i64_w, i32_w]
    rfl
   refine pure_ (i := 19) (N := some 24) (v := ?_) (a' := ?_) #[true, true, true, true, true, true, true, true, true, true, true, true, true, true, true, true, true, true, true, true, false, false, false] rfl rfl (any_of HT_.out (by kernel_rfl)) (fun _ _ _ h => h) (Or.inl ⟨by rfl, ?_⟩) ?_ ?_
   rotate_left
   ·intro w'
    go_simp
    with_reducible rfl
   rotate_left
   ·simp only [Act.put, sA, sB, sC, i64_w, i32_w]
    rfl
   refine pure_ (i := 20) (N := some 25) (v := ?_) (a' := ?_) #[true, true, true, true, true, true, true, true, true, true, true, true, true, true, true, true, true, true, true, true, true, false, false] rfl rfl (any_of HT_.out (by kernel_rfl)) (fun _ _ _ h => h) (Or.inl ⟨by rfl, ?_⟩) ?_ ?_
   rotate_left
   ·intro w'
    go_simp
    with_reducible rfl
   rotate_left
   ·simp only [Act.put, sA, sB, sC, i64_w, i32_w]
    rfl
   refine pure_ (i := 21) (N := some 26) (v := ?_) (a' := ?_) #[true, true, true, true, true, true, true, true, true, true, true, true, true, true, true, true, true, true, true, true, true, true, false] rfl rfl (any_of HT_.out (by kernel_rfl)) (fun _ _ _ h => h) (Or.inl ⟨by rfl, ?_⟩) ?_ ?_
   rotate_left
   ·intro w'
    go_simp
    with_reducible rfl
   rotate_left
   ·simp only [Act.put, sA, sB, sC, i64_w, i32_w]
    rfl
   refine pure_ (i := 22) (N := some 4) (v := ?_) (a' := ?_) #[true, true, true, true, true, true, true, true, true, true, true, true, true, true, true, true, true, true, true, true, true, true, true] rfl rfl (any_of HT_.out (by kernel_rfl)) (fun _ _ _ h => h) (Or.inl ⟨by rfl, ?_⟩) ?_ ?_
   rotate_left
   ·intro w'
    go_simp
    with_reducible rfl
   rotate_left
   ·simp only [Act.put, sA, sB, sC, i64_w, i32_w]
    rfl
   refine done_ (done_of HT_.out (by kernel_rfl)) ?_
   try go_wp2
   go_ret
   exact ⟨by first | rfl | (simp [*, errW_none, errW_some] <;> rfl), by repeat (with_reducible first | exact HB.out | apply below_alloc | apply pw_below_drewN | apply below_drew1 | refine below_set ?_ GE172.out | refine below_set ?_ GE173.out)⟩
  ·replace c6 := Bool.eq_false_iff.mpr c6
   subst c6
   have H1 : (some false) = some r := by rw [if_neg (show ¬ (false = true) by decide)] at H; exact H
   clear H
   have H := H1
   clear H1
   obtain rfl := Option.some.inj H
   go_enter Try.func138, Try.ntmps138
   try go_wp2_with (first | ((with_reducible refine gate_dst (N := 2) rfl ?_); refine box_event ?hg (N := 2) ?hd (cs := #[.int .i64 a0_0, .int .i64 a0_1]) (t := 39) ?hr ?_; (case hd => rfl); (case hg => rfl); (case hr => first | (go_simp; done) | (go_simp; rfl)); intro gb172 hg w16 hbox hb; have n0_ := Aside0.mk (below_step (bX HB.out) hb); have n1_ := Aside0.mk (hbox); have n2_ := Aside0.mk ((by rw [hg]; exact (below_size (bX HB.out)) : w.heap.size ≤ gb172)); have n3_ := Aside0.mk ((by rw [hg]; exact (below_size (bX HB.out)) : w.heap.size ≤ gb172)); clear HB; have HB := n0_; have BK172 := n1_; have GW172 := n2_; have GE172 := n3_; clear n0_ n1_ n2_ n3_; clear hb hbox hg) | ((with_reducible refine gate_dst (N := 3) rfl ?_); refine box_event ?hg (N := 3) ?hd (cs := #[.int .i64 a1_0, .int .i64 a1_1]) (t := 39) ?hr ?_; (case hd => rfl); (case hg => rfl); (case hr => first | (go_simp; done) | (go_simp; rfl)); intro gb173 hg w17 hbox hb; have n0_ := Aside0.mk (blk_below (g := gb172) (o := .cells #[.int .i64 a0_0, .int .i64 a0_1] 39 (0, 0)) (kX BK172.out) hb); have n1_ := Aside0.mk (below_step (by repeat (with_reducible first | exact HB.out | apply below_alloc | apply pw_below_drewN | apply below_drew1 | refine below_set ?_ GE172.out)) hb); have n2_ := Aside0.mk (hbox); have n3_ := Aside0.mk ((by rw [hg]; exact (below_size (by repeat (with_reducible first | exact HB.out | apply below_alloc | apply pw_below_drewN | apply below_drew1 | refine below_set ?_ GE172.out))) : w.heap.size ≤ gb173)); have n4_ := Aside0.mk ((by rw [hg]; exact (below_size (by repeat (with_reducible first | exact HB.out | apply below_alloc | apply pw_below_drewN | apply below_drew1 | refine below_set ?_ GE172.out))) : w.heap.size ≤ gb173)); have n5_ := Aside0.mk ((by rw [hg]; exact Nat.ne_of_lt (blk_lt (g := gb172) (o := .cells #[.int .i64 a0_0, .int .i64 a0_1] 39 (0, 0)) (kX BK172.out)) : gb172 ≠ gb173)); have n6_ := Aside0.mk ((by rw [hg]; exact Nat.ne_of_gt (blk_lt (g := gb172) (o := .cells #[.int .i64 a0_0, .int .i64 a0_1] 39 (0, 0)) (kX BK172.out)) : gb173 ≠ gb172)); clear BK172; clear HB; have BK172 := n0_; have HB := n1_; have BK173 := n2_; have GW173 := n3_; have GE173 := n4_; have NB172_173 := n5_; have NB173_172 := n6_; clear n0_ n1_ n2_ n3_ n4_ n5_ n6_; clear hb hbox hg))
   have n0_ := Aside0.mk (blk_drew BK172.out)
   have n1_ := Aside0.mk (blk_drew BK173.out)
   have n2_ := Aside0.mk (below_drew1 HB.out)
   clear BK172
   clear BK173
   clear HB
   have BK172 := n0_
   have BK173 := n1_
   have HB := n2_
   clear n0_ n1_ n2_
   refine start_ (n := 23) (S := fun w' => w'.cell? ⟨gb172, 0, none⟩ = some (.int .i64 a0_0) ∧ w'.cell? ⟨gb172, 1, none⟩ = some (.int .i64 a0_1) ∧ w'.cell? ⟨gb173, 0, none⟩ = some (.int .i64 a1_0) ∧ w'.cell? ⟨gb173, 1, none⟩ = some (.int .i64 a1_1)) (ds := []) #[false, false, false, false, false, false, false, false, false, false, false, false, false, false, false, false, false, false, false, false, false, false, false] (by kernel_rfl) rfl rfl ⟨(blk_cell BK172.out 0).trans rfl, (blk_cell BK172.out 1).trans rfl, (blk_cell BK173.out 0).trans rfl, (blk_cell BK173.out 1).trans rfl⟩ (fun hHeld => ?_); refine with_tabW impl_AreNeighbors.tab1 impl_AreNeighbors.bits1 (fun HT_ HW_ => ?_)
   generalize w17.drew = w18 at BK172 BK173 HB hHeld ⊢
   refine take_ (i := 0) (N := some 5) (v := ?_) (a' := ?_) #[true, false, false, false, false, false, false, false, false, false, false, false, false, false, false, false, false, false, false, false, false, false, false] rfl rfl (take_ofW HT_.out HW_.out (by kernel_rfl)) (fun _ _ _ h => h) (Or.inl ⟨by rfl, ?_⟩) hHeld ?_ ?_
   rotate_left
   ·rintro w' ⟨s0, s1, s2, s3⟩
    go_simp
    with_reducible rfl
   rotate_left
   ·simp only [Act.put, sA, sB, sC, i64_w, i32_w]
    rfl
   refine one_ (i := 1) (N := some 6) #[true, true, false, false, false, false, false, false, false, false, false, false, false, false, false, false, false, false, false, false, false, false, false] rfl rfl (one_of HT_.out (by kernel_rfl)) (by decide) (fun K hK => ?_)
   refine goes_ Try.func130 (by kernel_rfl) rfl #[.agg #[.int .i64 a0_0, .int .i64 a0_1]] (by rfl) rfl rfl (by (try simp only [sD, sE, sF]); first | done | rfl) ?_
   with_reducible refine (impl_CellOk.calls a0_0 a0_1 true _ A3.out).mono ?_
   rintro e w19 ⟨rfl, hb⟩
   refine ⟨_, rfl, ?_⟩
   have n0_ := Aside0.mk (blk_below (g := gb172) (o := .cells #[.int .i64 a0_0, .int .i64 a0_1] 39 (0, 0)) (kX BK172.out) hb)
   have n1_ := Aside0.mk (blk_below (g := gb173) (o := .cells #[.int .i64 a1_0, .int .i64 a1_1] 39 (0, 0)) (kX BK173.out) hb)
   have n2_ := Aside0.mk (below_step (by repeat (with_reducible first | exact HB.out | apply below_alloc | apply pw_below_drewN | apply below_drew1 | refine below_set ?_ GE172.out | refine below_set ?_ GE173.out)) hb)
   clear BK172
   clear BK173
   clear HB
   have BK172 := n0_
   have BK173 := n1_
   have HB := n2_
   clear n0_ n1_ n2_
   (try clear hb)
   (try clear hb2)
   (try clear hk)
   (try clear hi)
   refine hK.out _ _ ⟨(blk_cell BK172.out 0).trans rfl, (blk_cell BK172.out 1).trans rfl, (blk_cell BK173.out 0).trans rfl, (blk_cell BK173.out 1).trans rfl⟩ (fun hHeld => ?_)
   clear hK K
   refine norm_ (a' := ?_) ?_ ?_
   rotate_left
   ·show Act.put _ (some 6) _ = _
    simp only [Act.put, sA, sB, sC, i64_w, i32_w]
    rfl
   refine pure_ (i := 2) (N := some 7) (v := ?_) (a' := ?_) #[true, true, true, false, false, false, false, false, false, false, false, false, false, false, false, false, false, false, false, false, false, false, false] rfl rfl (any_of HT_.out (by kernel_rfl)) (fun _ _ _ h => h) (Or.inl ⟨by rfl, ?_⟩) ?_ ?_
   rotate_left
   ·intro w'
    go_simp
    with_reducible rfl
   rotate_left
   ·simp only [Act.put, sA, sB, sC, i64_w, i32_w]
    rfl
   refine take_ (i := 3) (N := some 8) (v := ?_) (a' := ?_) #[true, true, true, true, false, false, false, false, false, false, false, false, false, false, false, false, false, false, false, false, false, false, false] rfl rfl (take_ofW HT_.out HW_.out (by kernel_rfl)) (fun _ _ _ h => h) (Or.inl ⟨by rfl, ?_⟩) hHeld ?_ ?_
   rotate_left
   ·rintro w' ⟨s0, s1, s2, s3⟩
    go_simp
    with_reducible rfl
   rotate_left
   ·simp only [Act.put, sA, sB, sC, i64_w, i32_w]
    rfl
   refine one_ (i := 4) (N := some 9) #[true, true, true, true, true, false, false, false, false, false, false, false, false, false, false, false, false, false, false, false, false, false, false] rfl rfl (one_of HT_.out (by kernel_rfl)) (by decide) (fun K hK => ?_)
   refine goes_ Try.func130 (by kernel_rfl) rfl #[.agg #[.int .i64 a1_0, .int .i64 a1_1]] (by rfl) rfl rfl (by (try simp only [sD, sE, sF]); first | done | rfl) ?_
   with_reducible refine (impl_CellOk.calls a1_0 a1_1 false _ A5.out).mono ?_
   rintro e w20 ⟨rfl, hb⟩
   refine ⟨_, rfl, ?_⟩
   have n0_ := Aside0.mk (blk_below (g := gb172) (o := .cells #[.int .i64 a0_0, .int .i64 a0_1] 39 (0, 0)) (kX BK172.out) hb)
   have n1_ := Aside0.mk (blk_below (g := gb173) (o := .cells #[.int .i64 a1_0, .int .i64 a1_1] 39 (0, 0)) (kX BK173.out) hb)
   have n2_ := Aside0.mk (below_step (by repeat (with_reducible first | exact HB.out | apply below_alloc | apply pw_below_drewN | apply below_drew1 | refine below_set ?_ GE172.out | refine below_set ?_ GE173.out)) hb)
   clear BK172
   clear BK173
   clear HB
   have BK172 := n0_
   have BK173 := n1_
   have HB := n2_
   clear n0_ n1_ n2_
   (try clear hb)
   (try clear hb2)
   (try clear hk)
   (try clear hi)
   refine hK.out _ _ ⟨(blk_cell BK172.out 0).trans rfl, (blk_cell BK172.out 1).trans rfl, (blk_cell BK173.out 0).trans rfl, (blk_cell BK173.out 1).trans rfl⟩ (fun hHeld => ?_)
   clear hK K
   refine norm_ (a' := ?_) ?_ ?_
   rotate_left
   ·show Act.put _ (some 9) _ = _
    simp only [Act.put, sA, sB, sC, i64_w, i32_w]
    rfl
   refine pure_ (i := 5) (N := some 10) (v := ?_) (a' := ?_) #[true, true, true, true, true, true, false, false, false, false, false, false, false, false, false, false, false, false, false, false, false, false, false] rfl rfl (any_of HT_.out (by kernel_rfl)) (fun _ _ _ h => h) (Or.inl ⟨by rfl, ?_⟩) ?_ ?_
   rotate_left
   ·intro w'
    go_simp
    with_reducible rfl
   rotate_left
   ·simp only [Act.put, sA, sB, sC, i64_w, i32_w]
    rfl
   refine pure_ (i := 6) (N := some 11) (v := ?_) (a' := ?_) #[true, true, true, true, true, true, true, false, false, false, false, false, false, false, false, false, false, false, false, false, false, false, false] rfl rfl (any_of HT_.out (by kernel_rfl)) (fun _ _ _ h => h) (Or.inl ⟨by rfl, ?_⟩) ?_ ?_
   rotate_left
   ·intro w'
    go_simp
    with_reducible rfl
   rotate_left
   ·simp only [Act.put, sA, sB, sC, i64_w, i32_w]
    rfl
   refine pure_ (i := 7) (N := some 12) (v := undef) (a' := ?_) #[true, true, true, true, true, true, true, true, false, false, false, false, false, false, false, false, false, false, false, false, false, false, false] rfl rfl (any_of HT_.out (by kernel_rfl)) (fun _ _ _ h => h) (Or.inr ⟨by rfl, rfl⟩) ?_ ?_
   rotate_left
   ·simp only [Act.put, sA, sB, sC, i64_w, i32_w]
    rfl
   refine pure_ (i := 8) (N := some 13) (v := undef) (a' := ?_) #[true, true, true, true, true, true, true, true, true, false, false, false, false, false, false, false, false, false, false, false, false, false, false] rfl rfl (any_of HT_.out (by kernel_rfl)) (fun _ _ _ h => h) (Or.inr ⟨by rfl, rfl⟩) ?_ ?_
   rotate_left
   ·simp only [Act.put, sA, sB, sC, i64_w, i32_w]
    rfl
   refine pure_ (i := 9) (N := some 14) (v := undef) (a' := ?_) #[true, true, true, true, true, true, true, true, true, true, false, false, false, false, false, false, false, false, false, false, false, false, false] rfl rfl (any_of HT_.out (by kernel_rfl)) (fun _ _ _ h => h) (Or.inr ⟨by rfl, rfl⟩) ?_ ?_
   rotate_left
   ·simp only [Act.put, sA, sB, sC, i64_w, i32_w]
    rfl
   refine pure_ (i := 10) (N := some 15) (v := undef) (a' := ?_) #[true, true, true, true, true, true, true, true, true, true, true, false, false, false, false, false, false, false, false, false, false, false, false] rfl rfl (any_of HT_.out (by kernel_rfl)) (fun _ _ _ h => h) (Or.inr ⟨by rfl, rfl⟩) ?_ ?_
   rotate_left
   ·simp only [Act.put, sA, sB, sC, i64_w, i32_w]
    rfl
   refine pure_ (i := 11) (N := some 16) (v := undef) (a' := ?_) #[true, true, true, true, true, true, true, true, true, true, true, true, false, false, false, false, false, false, false, false, false, false, false] rfl rfl (any_of HT_.out (by kernel_rfl)) (fun _ _ _ h => h) (Or.inr ⟨by rfl, rfl⟩) ?_ ?_
   rotate_left
   ·simp only [Act.put, sA, sB, sC, i64_w, i32_w]
    rfl
   refine pure_ (i := 12) (N := some 17) (v := undef) (a' := ?_) #[true, true, true, true, true, true, true, true, true, true, true, true, true, false, false, false, false, false, false, false, false, false, false] rfl rfl (any_of HT_.out (by kernel_rfl)) (fun _ _ _ h => h) (Or.inr ⟨by rfl, rfl⟩) ?_ ?_
   rotate_left
   ·simp only [Act.put, sA, sB, sC, i64_w, i32_w]
    rfl
   refine pure_ (i := 13) (N := some 18) (v := undef) (a' := ?_) #[true, true, true, true, true, true, true, true, true, true, true, true, true, true, false, false, false, false, false, false, false, false, false] rfl rfl (any_of HT_.out (by kernel_rfl)) (fun _ _ _ h => h) (Or.inr ⟨by rfl, rfl⟩) ?_ ?_
   rotate_left
   ·simp only [Act.put, sA, sB, sC, i64_w, i32_w]
    rfl
   refine pure_ (i := 14) (N := some 19) (v := undef) (a' := ?_) #[true, true, true, true, true, true, true, true, true, true, true, true, true, true, true, false, false, false, false, false, false, false, false] rfl rfl (any_of HT_.out (by kernel_rfl)) (fun _ _ _ h => h) (Or.inr ⟨by rfl, rfl⟩) ?_ ?_
   rotate_left
   ·simp only [Act.put, sA, sB, sC, i64_w, i32_w]
    rfl
   refine pure_ (i := 15) (N := some 20) (v := undef) (a' := ?_) #[true, true, true, true, true, true, true, true, true, true, true, true, true, true, true, true, false, false, false, false, false, false, false] rfl rfl (any_of HT_.out (by kernel_rfl)) (fun _ _ _ h => h) (Or.inr ⟨by rfl, rfl⟩) ?_ ?_
   rotate_left
   ·simp only [Act.put, sA, sB, sC, i64_w, i32_w]
    rfl
   refine pure_ (i := 16) (N := some 21) (v := undef) (a' := ?_) #[true, true, true, true, true, true, true, true, true, true, true, true, true, true, true, true, true, false, false, false, false, false, false] rfl rfl (any_of HT_.out (by kernel_rfl)) (fun _ _ _ h => h) (Or.inr ⟨by rfl, rfl⟩) ?_ ?_
   rotate_left
   ·simp only [Act.put, sA, sB, sC, i64_w, i32_w]
    rfl
   refine pure_ (i := 17) (N := some 22) (v := undef) (a' := ?_) #[true, true, true, true, true, true, true, true, true, true, true, true, true, true, true, true, true, true, false, false, false, false, false] rfl rfl (any_of HT_.out (by kernel_rfl)) (fun _ _ _ h => h) (Or.inr ⟨by rfl, rfl⟩) ?_ ?_
   rotate_left
   ·simp only [Act.put, sA, sB, sC, i64_w, i32_w]
    rfl
   refine pure_ (i := 18) (N := some 23) (v := undef) (a' := ?_) #[true, true, true, true, true, true, true, true, true, true, true, true, true, true, true, true, true, true, true, false, false, false, false] rfl rfl (any_of HT_.out (by kernel_rfl)) (fun _ _ _ h => h) (Or.inr ⟨by rfl, rfl⟩) ?_ ?_
   rotate_left
   ·simp only [Act.put, sA, sB, sC, i64_w, i32_w]
    rfl
   refine pure_ (i := 19) (N := some 24) (v := undef) (a' := ?_) #[true, true, true, true, true, true, true, true, true, true, true, true, true, true, true, true, true, true, true, true, false, false, false] rfl rfl (any_of HT_.out (by kernel_rfl)) (fun _ _ _ h => h) (Or.inr ⟨by rfl, rfl⟩) ?_ ?_
   rotate_left
   ·simp only [Act.put, sA, sB, sC, i64_w, i32_w]
    rfl
   refine pure_ (i := 20) (N := some 25) (v := undef) (a' := ?_) #[true, true, true, true, true, true, true, true, true, true, true, true, true, true, true, true, true, true, true, true, true, false, false] rfl rfl (any_of HT_.out (by kernel_rfl)) (fun _ _ _ h => h) (Or.inr ⟨by rfl, rfl⟩) ?_ ?_
   rotate_left
   ·simp only [Act.put, sA, sB, sC, i64_w, i32_w]
    rfl
   refine pure_ (i := 21) (N := some 26) (v := ?_) (a' := ?_) #[true, true, true, true, true, true, true, true, true, true, true, true, true, true, true, true, true, true, true, true, true, true, false] rfl rfl (any_of HT_.out (by kernel_rfl)) (fun _ _ _ h => h) (Or.inl ⟨by rfl, ?_⟩) ?_ ?_
   rotate_left
   ·intro w'
    go_simp
    with_reducible rfl
   rotate_left
   ·simp only [Act.put, sA, sB, sC, i64_w, i32_w]
    rfl
   refine pure_ (i := 22) (N := some 4) (v := ?_) (a' := ?_) #[true, true, true, true, true, true, true, true, true, true, true, true, true, true, true, true, true, true, true, true, true, true, true] rfl rfl (any_of HT_.out (by kernel_rfl)) (fun _ _ _ h => h) (Or.inl ⟨by rfl, ?_⟩) ?_ ?_
   rotate_left
   ·intro w'
    go_simp
    with_reducible rfl
   rotate_left
   ·simp only [Act.put, sA, sB, sC, i64_w, i32_w]
    rfl
   refine done_ (done_of HT_.out (by kernel_rfl)) ?_
   try go_wp2
   go_ret
   exact ⟨by first | rfl | (simp [*, errW_none, errW_some] <;> rfl), by repeat (with_reducible first | exact HB.out | apply below_alloc | apply pw_below_drewN | apply below_drew1 | refine below_set ?_ GE172.out | refine below_set ?_ GE173.out)⟩
 ·replace c4 := Bool.eq_false_iff.mpr c4
  subst c4
  have H1 : (some false) = some r := by rw [if_neg (show ¬ (false = true) by decide)] at H; exact H
  clear H
  have H := H1
  clear H1
  obtain rfl := Option.some.inj H
  go_enter Try.func138, Try.ntmps138
  try go_wp2_with (first | ((with_reducible refine gate_dst (N := 2) rfl ?_); refine box_event ?hg (N := 2) ?hd (cs := #[.int .i64 a0_0, .int .i64 a0_1]) (t := 39) ?hr ?_; (case hd => rfl); (case hg => rfl); (case hr => first | (go_simp; done) | (go_simp; rfl)); intro gb172 hg w21 hbox hb; have n0_ := Aside0.mk (below_step (bX HB.out) hb); have n1_ := Aside0.mk (hbox); have n2_ := Aside0.mk ((by rw [hg]; exact (below_size (bX HB.out)) : w.heap.size ≤ gb172)); have n3_ := Aside0.mk ((by rw [hg]; exact (below_size (bX HB.out)) : w.heap.size ≤ gb172)); clear HB; have HB := n0_; have BK172 := n1_; have GW172 := n2_; have GE172 := n3_; clear n0_ n1_ n2_ n3_; clear hb hbox hg) | ((with_reducible refine gate_dst (N := 3) rfl ?_); refine box_event ?hg (N := 3) ?hd (cs := #[.int .i64 a1_0, .int .i64 a1_1]) (t := 39) ?hr ?_; (case hd => rfl); (case hg => rfl); (case hr => first | (go_simp; done) | (go_simp; rfl)); intro gb173 hg w22 hbox hb; have n0_ := Aside0.mk (blk_below (g := gb172) (o := .cells #[.int .i64 a0_0, .int .i64 a0_1] 39 (0, 0)) (kX BK172.out) hb); have n1_ := Aside0.mk (below_step (by repeat (with_reducible first | exact HB.out | apply below_alloc | apply pw_below_drewN | apply below_drew1 | refine below_set ?_ GE172.out)) hb); have n2_ := Aside0.mk (hbox); have n3_ := Aside0.mk ((by rw [hg]; exact (below_size (by repeat (with_reducible first | exact HB.out | apply below_alloc | apply pw_below_drewN | apply below_drew1 | refine below_set ?_ GE172.out))) : w.heap.size ≤ gb173)); have n4_ := Aside0.mk ((by rw [hg]; exact (below_size (by repeat (with_reducible first | exact HB.out | apply below_alloc | apply pw_below_drewN | apply below_drew1 | refine below_set ?_ GE172.out))) : w.heap.size ≤ gb173)); have n5_ := Aside0.mk ((by rw [hg]; exact Nat.ne_of_lt (blk_lt (g := gb172) (o := .cells #[.int .i64 a0_0, .int .i64 a0_1] 39 (0, 0)) (kX BK172.out)) : gb172 ≠ gb173)); have n6_ := Aside0.mk ((by rw [hg]; exact Nat.ne_of_gt (blk_lt (g := gb172) (o := .cells #[.int .i64 a0_0, .int .i64 a0_1] 39 (0, 0)) (kX BK172.out)) : gb173 ≠ gb172)); clear BK172; clear HB; have BK172 := n0_; have HB := n1_; have BK173 := n2_; have GW173 := n3_; have GE173 := n4_; have NB172_173 := n5_; have NB173_172 := n6_; clear n0_ n1_ n2_ n3_ n4_ n5_ n6_; clear hb hbox hg))
  have n0_ := Aside0.mk (blk_drew BK172.out)
  have n1_ := Aside0.mk (blk_drew BK173.out)
  have n2_ := Aside0.mk (below_drew1 HB.out)
  clear BK172
  clear BK173
  clear HB
  have BK172 := n0_
  have BK173 := n1_
  have HB := n2_
  clear n0_ n1_ n2_
  refine start_ (n := 23) (S := fun w' => w'.cell? ⟨gb172, 0, none⟩ = some (.int .i64 a0_0) ∧ w'.cell? ⟨gb172, 1, none⟩ = some (.int .i64 a0_1)) (ds := []) #[false, false, false, false, false, false, false, false, false, false, false, false, false, false, false, false, false, false, false, false, false, false, false] (by kernel_rfl) rfl rfl ⟨(blk_cell BK172.out 0).trans rfl, (blk_cell BK172.out 1).trans rfl⟩ (fun hHeld => ?_); refine with_tabW impl_AreNeighbors.tab1 impl_AreNeighbors.bits1 (fun HT_ HW_ => ?_)
  generalize w22.drew = w23 at BK172 BK173 HB hHeld ⊢
  refine take_ (i := 0) (N := some 5) (v := ?_) (a' := ?_) #[true, false, false, false, false, false, false, false, false, false, false, false, false, false, false, false, false, false, false, false, false, false, false] rfl rfl (take_ofW HT_.out HW_.out (by kernel_rfl)) (fun _ _ _ h => h) (Or.inl ⟨by rfl, ?_⟩) hHeld ?_ ?_
  rotate_left
  ·rintro w' ⟨s0, s1⟩
   go_simp
   with_reducible rfl
  rotate_left
  ·simp only [Act.put, sA, sB, sC, i64_w, i32_w]
   rfl
  refine one_ (i := 1) (N := some 6) #[true, true, false, false, false, false, false, false, false, false, false, false, false, false, false, false, false, false, false, false, false, false, false] rfl rfl (one_of HT_.out (by kernel_rfl)) (by decide) (fun K hK => ?_)
  refine goes_ Try.func130 (by kernel_rfl) rfl #[.agg #[.int .i64 a0_0, .int .i64 a0_1]] (by rfl) rfl rfl (by (try simp only [sD, sE, sF]); first | done | rfl) ?_
  with_reducible refine (impl_CellOk.calls a0_0 a0_1 false _ A3.out).mono ?_
  rintro e w24 ⟨rfl, hb⟩
  refine ⟨_, rfl, ?_⟩
  have n0_ := Aside0.mk (blk_below (g := gb172) (o := .cells #[.int .i64 a0_0, .int .i64 a0_1] 39 (0, 0)) (kX BK172.out) hb)
  have n1_ := Aside0.mk (blk_below (g := gb173) (o := .cells #[.int .i64 a1_0, .int .i64 a1_1] 39 (0, 0)) (kX BK173.out) hb)
  have n2_ := Aside0.mk (below_step (by repeat (with_reducible first | exact HB.out | apply below_alloc | apply pw_below_drewN | apply below_drew1 | refine below_set ?_ GE172.out | refine below_set ?_ GE173.out)) hb)
  clear BK172
  clear BK173
  clear HB
  have BK172 := n0_
  have BK173 := n1_
  have HB := n2_
  clear n0_ n1_ n2_
  (try clear hb)
  (try clear hb2)
  (try clear hk)
  (try clear hi)
  refine hK.out _ _ ⟨(blk_cell BK172.out 0).trans rfl, (blk_cell BK172.out 1).trans rfl⟩ (fun hHeld => ?_)
  clear hK K
  refine norm_ (a' := ?_) ?_ ?_
  rotate_left
  ·show Act.put _ (some 6) _ = _
   simp only [Act.put, sA, sB, sC, i64_w, i32_w]
   rfl
  refine pure_ (i := 2) (N := some 7) (v := ?_) (a' := ?_) #[true, true, true, false, false, false, false, false, false, false, false, false, false, false, false, false, false, false, false, false, false, false, false] rfl rfl (any_of HT_.out (by kernel_rfl)) (fun _ _ _ h => h) (Or.inl ⟨by rfl, ?_⟩) ?_ ?_
  rotate_left
  ·intro w'
   go_simp
   with_reducible rfl
  rotate_left
  ·simp only [Act.put, sA, sB, sC, i64_w, i32_w]
   rfl
  refine pure_ (i := 3) (N := some 8) (v := undef) (a' := ?_) #[true, true, true, true, false, false, false, false, false, false, false, false, false, false, false, false, false, false, false, false, false, false, false] rfl rfl (any_of HT_.out (by kernel_rfl)) (fun _ _ _ h => h) (Or.inr ⟨by rfl, rfl⟩) ?_ ?_
  rotate_left
  ·simp only [Act.put, sA, sB, sC, i64_w, i32_w]
   rfl
  refine pure_ (i := 4) (N := some 9) (v := undef) (a' := ?_) #[true, true, true, true, true, false, false, false, false, false, false, false, false, false, false, false, false, false, false, false, false, false, false] rfl rfl (any_of HT_.out (by kernel_rfl)) (fun _ _ _ h => h) (Or.inr ⟨by rfl, rfl⟩) ?_ ?_
  rotate_left
  ·simp only [Act.put, sA, sB, sC, i64_w, i32_w]
   rfl
  refine pure_ (i := 5) (N := some 10) (v := ?_) (a' := ?_) #[true, true, true, true, true, true, false, false, false, false, false, false, false, false, false, false, false, false, false, false, false, false, false] rfl rfl (any_of HT_.out (by kernel_rfl)) (fun _ _ _ h => h) (Or.inl ⟨by rfl, ?_⟩) ?_ ?_
  rotate_left
  ·intro w'
   go_simp
   with_reducible rfl
  rotate_left
  ·simp only [Act.put, sA, sB, sC, i64_w, i32_w]
   rfl
  refine pure_ (i := 6) (N := some 11) (v := ?_) (a' := ?_) #[true, true, true, true, true, true, true, false, false, false, false, false, false, false, false, false, false, false, false, false, false, false, false] rfl rfl (any_of HT_.out (by kernel_rfl)) (fun _ _ _ h => h) (Or.inl ⟨by rfl, ?_⟩) ?_ ?_
  rotate_left
  ·intro w'
   go_simp
   with_reducible rfl
  rotate_left
  ·simp only [Act.put, sA, sB, sC, i64_w, i32_w]
   rfl
  refine pure_ (i := 7) (N := some 12) (v := undef) (a' := ?_) #[true, true, true, true, true, true, true, true, false, false, false, false, false, false, false, false, false, false, false, false, false, false, false] rfl rfl (any_of HT_.out (by kernel_rfl)) (fun _ _ _ h => h) (Or.inr ⟨by rfl, rfl⟩) ?_ ?_
  rotate_left
  ·simp only [Act.put, sA, sB, sC, i64_w, i32_w]
   rfl
  refine pure_ (i := 8) (N := some 13) (v := undef) (a' := ?_) #[true, true, true, true, true, true, true, true, true, false, false, false, false, false, false, false, false, false, false, false, false, false, false] rfl rfl (any_of HT_.out (by kernel_rfl)) (fun _ _ _ h => h) (Or.inr ⟨by rfl, rfl⟩) ?_ ?_
  rotate_left
  ·simp only [Act.put, sA, sB, sC, i64_w, i32_w]
   rfl
  refine pure_ (i := 9) (N := some 14) (v := undef) (a' := ?_) #[true, true, true, true, true, true, true, true, true, true, false, false, false, false, false, false, false, false, false, false, false, false, false] rfl rfl (any_of HT_.out (by kernel_rfl)) (fun _ _ _ h => h) (Or.inr ⟨by rfl, rfl⟩) ?_ ?_
  rotate_left
  ·simp only [Act.put, sA, sB, sC, i64_w, i32_w]
   rfl
  refine pure_ (i := 10) (N := some 15) (v := undef) (a' := ?_) #[true, true, true, true, true, true, true, true, true, true, true, false, false, false, false, false, false, false, false, false, false, false, false] rfl rfl (any_of HT_.out (by kernel_rfl)) (fun _ _ _ h => h) (Or.inr ⟨by rfl, rfl⟩) ?_ ?_
  rotate_left
  ·simp only [Act.put, sA, sB, sC, i64_w, i32_w]
   rfl
  refine pure_ (i := 11) (N := some 16) (v := undef) (a' := ?_) #[true, true, true, true, true, true, true, true, true, true, true, true, false, false, false, false, false, false, false, false, false, false, false] rfl rfl (any_of HT_.out (by kernel_rfl)) (fun _ _ _ h => h) (Or.inr ⟨by rfl, rfl⟩) ?_ ?_
  rotate_left
  ·simp only [Act.put, sA, sB, sC, i64_w, i32_w]
   rfl
  refine pure_ (i := 12) (N := some 17) (v := undef) (a' := ?_) #[true, true, true, true, true, true, true, true, true, true, true, true, true, false, false, false, false, false, false, false, false, false, false] rfl rfl (any_of HT_.out (by kernel_rfl)) (fun _ _ _ h => h) (Or.inr ⟨by rfl, rfl⟩) ?_ ?_
  rotate_left
  ·simp only [Act.put, sA, sB, sC, i64_w, i32_w]
   rfl
  refine pure_ (i := 13) (N := some 18) (v := undef) (a' := ?_) #[true, true, true, true, true, true, true, true, true, true, true, true, true, true, false, false, false, false, false, false, false, false, false] rfl rfl (any_of HT_.out (by kernel_rfl)) (fun _ _ _ h => h) (Or.inr ⟨by rfl, rfl⟩) ?_ ?_
  rotate_left
  ·simp only [Act.put, sA, sB, sC, i64_w, i32_w]
   rfl
  refine pure_ (i := 14) (N := some 19) (v := undef) (a' := ?_) #[true, true, true, true, true, true, true, true, true, true, true, true, true, true, true, false, false, false, false, false, false, false, false] rfl rfl (any_of HT_.out (by kernel_rfl)) (fun _ _ _ h => h) (Or.inr ⟨by rfl, rfl⟩) ?_ ?_
  rotate_left
  ·simp only [Act.put, sA, sB, sC, i64_w, i32_w]
   rfl
  refine pure_ (i := 15) (N := some 20) (v := undef) (a' := ?_) #[true, true, true, true, true, true, true, true, true, true, true, true, true, true, true, true, false, false, false, false, false, false, false] rfl rfl (any_of HT_.out (by kernel_rfl)) (fun _ _ _ h => h) (Or.inr ⟨by rfl, rfl⟩) ?_ ?_
  rotate_left
  ·simp only [Act.put, sA, sB, sC, i64_w, i32_w]
   rfl
  refine pure_ (i := 16) (N := some 21) (v := undef) (a' := ?_) #[true, true, true, true, true, true, true, true, true, true, true, true, true, true, true, true, true, false, false, false, false, false, false] rfl rfl (any_of HT_.out (by kernel_rfl)) (fun _ _ _ h => h) (Or.inr ⟨by rfl, rfl⟩) ?_ ?_
  rotate_left
  ·simp only [Act.put, sA, sB, sC, i64_w, i32_w]
   rfl
  refine pure_ (i := 17) (N := some 22) (v := undef) (a' := ?_) #[true, true, true, true, true, true, true, true, true, true, true, true, true, true, true, true, true, true, false, false, false, false, false] rfl rfl (any_of HT_.out (by kernel_rfl)) (fun _ _ _ h => h) (Or.inr ⟨by rfl, rfl⟩) ?_ ?_
  rotate_left
  ·simp only [Act.put, sA, sB, sC, i64_w, i32_w]
   rfl
  refine pure_ (i := 18) (N := some 23) (v := undef) (a' := ?_) #[true, true, true, true, true, true, true, true, true, true, true, true, true, true, true, true, true, true, true, false, false, false, false] rfl rfl (any_of HT_.out (by kernel_rfl)) (fun _ _ _ h => h) (Or.inr ⟨by rfl, rfl⟩) ?_ ?_
  rotate_left
  ·simp only [Act.put, sA, sB, sC, i64_w, i32_w]
   rfl
  refine pure_ (i := 19) (N := some 24) (v := undef) (a' := ?_) #[true, true, true, true, true, true, true, true, true, true, true, true, true, true, true, true, true, true, true, true, false, false, false] rfl rfl (any_of HT_.out (by kernel_rfl)) (fun _ _ _ h => h) (Or.inr ⟨by rfl, rfl⟩) ?_ ?_
  rotate_left
  ·simp only [Act.put, sA, sB, sC, i64_w, i32_w]
   rfl
  refine pure_ (i := 20) (N := some 25) (v := undef) (a' := ?_) #[true, true, true, true, true, true, true, true, true, true, true, true, true, true, true, true, true, true, true, true, true, false, false] rfl rfl (any_of HT_.out (by kernel_rfl)) (fun _ _ _ h => h) (Or.inr ⟨by rfl, rfl⟩) ?_ ?_
  rotate_left
  ·simp only [Act.put, sA, sB, sC, i64_w, i32_w]
   rfl
  refine pure_ (i := 21) (N := some 26) (v := ?_) (a' := ?_) #[true, true, true, true, true, true, true, true, true, true, true, true, true, true, true, true, true, true, true, true, true, true, false] rfl rfl (any_of HT_.out (by kernel_rfl)) (fun _ _ _ h => h) (Or.inl ⟨by rfl, ?_⟩) ?_ ?_
  rotate_left
  ·intro w'
   go_simp
   with_reducible rfl
  rotate_left
  ·simp only [Act.put, sA, sB, sC, i64_w, i32_w]
   rfl
  refine pure_ (i := 22) (N := some 4) (v := ?_) (a' := ?_) #[true, true, true, true, true, true, true, true, true, true, true, true, true, true, true, true, true, true, true, true, true, true, true] rfl rfl (any_of HT_.out (by kernel_rfl)) (fun _ _ _ h => h) (Or.inl ⟨by rfl, ?_⟩) ?_ ?_
  rotate_left
  ·intro w'
   go_simp
   with_reducible rfl
  rotate_left
  ·simp only [Act.put, sA, sB, sC, i64_w, i32_w]
   rfl
  refine done_ (done_of HT_.out (by kernel_rfl)) ?_
  try go_wp2
  go_ret
  exact ⟨by first | rfl | (simp [*, errW_none, errW_some] <;> rfl), by repeat (with_reducible first | exact HB.out | apply below_alloc | apply pw_below_drewN | apply below_drew1 | refine below_set ?_ GE172.out | refine below_set ?_ GE173.out)⟩
def impl_DominoOver.f (a0_0 : Int) (a0_1 : Int) (a1_0 : Int) (a1_1 : Int) : Option (Int × Int × Bool × Bool) := (impl_AreNeighbors.f a0_0 a0_1 a1_0 a1_1).bind fun t181 => (if t181 = true then (some (mn a0_0 a1_0, mn a0_1 a1_1, (a0_0 == a1_0), true)) else (some (0, 0, false, false)))
set_option maxHeartbeats 8000000 in
set_option maxRecDepth 100000 in
theorem impl_DominoOver.calls (a0_0 : Int) (a0_1 : Int) (a1_0 : Int) (a1_1 : Int) (r1 : Int) (r2 : Int) (r3 : Bool) (r4 : Bool) (w : World) (h : impl_DominoOver.f a0_0 a0_1 a1_0 a1_1 = some (r1, r2, r3, r4)) :
  Calls Try.prog 79 #[.agg #[.int .i64 a0_0, .int .i64 a0_1], .agg #[.int .i64 a1_0, .int .i64 a1_1]] w fun e w' => e = .returned (.tuple #[.agg #[.int .i64 r1, .int .i64 r2, .bool r3], .bool r4]) ∧ Below w.heap.size w w' := by
 have hu39 := Try.underlying39
 have hu41 := Try.underlying41
 have HB := Aside0.mk (Below.refl w.heap.size w)
 have H : ((impl_AreNeighbors.f a0_0 a0_1 a1_0 a1_1).bind fun t181 => (if t181 = true then (some (mn a0_0 a1_0, mn a0_1 a1_1, (a0_0 == a1_0), true)) else (some (0, 0, false, false)))) = some (r1, r2, r3, r4) := h
 clear h
 replace H := Option.bind_eq_some_iff.mp H
 obtain ⟨t181, A30, H⟩ := H
 replace H : (if t181 = true then (some (mn a0_0 a1_0, mn a0_1 a1_1, (a0_0 == a1_0), true)) else (some (0, 0, false, false))) = some (r1, r2, r3, r4) := H
 have A3 := Aside0.mk A30
 clear A30
 by_cases c4 : t181 = true
 ·subst c4
  have H1 : (some (mn a0_0 a1_0, mn a0_1 a1_1, (a0_0 == a1_0), true)) = some (r1, r2, r3, r4) := by rw [if_pos rfl] at H; exact H
  clear H
  have H := H1
  clear H1
  obtain ⟨ji5, hji5⟩ : ∃ j_ : Int, (mn a0_0 a1_0) = j_ := ⟨_, rfl⟩
  replace H : (some (ji5, mn a0_1 a1_1, (a0_0 == a1_0), true)) = some (r1, r2, r3, r4) := by first | (rw [hji5] at H; exact H) | (simp only [hji5] at H ⊢; exact H)
  (try rw [hji5] at A3)
  have hji5_ : (if a1_0 < a0_0 then a1_0 else a0_0) = ji5 := hji5
  obtain ⟨ji6, hji6⟩ : ∃ j_ : Int, (mn a0_1 a1_1) = j_ := ⟨_, rfl⟩
  replace H : (some (ji5, ji6, (a0_0 == a1_0), true)) = some (r1, r2, r3, r4) := by first | (rw [hji6] at H; exact H) | (simp only [hji6] at H ⊢; exact H)
  (try rw [hji6] at A3)
  have hji6_ : (if a1_1 < a0_1 then a1_1 else a0_1) = ji6 := hji6
  simp only [Option.some.injEq, Prod.mk.injEq] at H
  obtain ⟨rfl, rfl, rfl, rfl⟩ := H
  go_enter Try.func79, Try.ntmps79
  go_wp2_with (first | ((with_reducible refine gate_dst (N := 2) rfl ?_); refine box_event ?hg (N := 2) ?hd (cs := #[.int .i64 a0_0, .int .i64 a0_1]) (t := 39) ?hr ?_; (case hd => rfl); (case hg => rfl); (case hr => first | (go_simp; done) | (go_simp; rfl)); intro gb178 hg w7 hbox hb; have n0_ := Aside0.mk (below_step (bX HB.out) hb); have n1_ := Aside0.mk (hbox); have n2_ := Aside0.mk ((by rw [hg]; exact (below_size (bX HB.out)) : w.heap.size ≤ gb178)); have n3_ := Aside0.mk ((by rw [hg]; exact (below_size (bX HB.out)) : w.heap.size ≤ gb178)); clear HB; have HB := n0_; have BK178 := n1_; have GW178 := n2_; have GE178 := n3_; clear n0_ n1_ n2_ n3_; clear hb hbox hg) | ((with_reducible refine gate_dst (N := 3) rfl ?_); refine box_event ?hg (N := 3) ?hd (cs := #[.int .i64 a1_0, .int .i64 a1_1]) (t := 39) ?hr ?_; (case hd => rfl); (case hg => rfl); (case hr => first | (go_simp; done) | (go_simp; rfl)); intro gb179 hg w8 hbox hb; have n0_ := Aside0.mk (blk_below (g := gb178) (o := .cells #[.int .i64 a0_0, .int .i64 a0_1] 39 (0, 0)) (kX BK178.out) hb); have n1_ := Aside0.mk (below_step (by repeat (with_reducible first | exact HB.out | apply below_alloc | apply pw_below_drewN | apply below_drew1 | refine below_set ?_ GE178.out)) hb); have n2_ := Aside0.mk (hbox); have n3_ := Aside0.mk ((by rw [hg]; exact (below_size (by repeat (with_reducible first | exact HB.out | apply below_alloc | apply pw_below_drewN | apply below_drew1 | refine below_set ?_ GE178.out))) : w.heap.size ≤ gb179)); have n4_ := Aside0.mk ((by rw [hg]; exact (below_size (by repeat (with_reducible first | exact HB.out | apply below_alloc | apply pw_below_drewN | apply below_drew1 | refine below_set ?_ GE178.out))) : w.heap.size ≤ gb179)); have n5_ := Aside0.mk ((by rw [hg]; exact Nat.ne_of_lt (blk_lt (g := gb178) (o := .cells #[.int .i64 a0_0, .int .i64 a0_1] 39 (0, 0)) (kX BK178.out)) : gb178 ≠ gb179)); have n6_ := Aside0.mk ((by rw [hg]; exact Nat.ne_of_gt (blk_lt (g := gb178) (o := .cells #[.int .i64 a0_0, .int .i64 a0_1] 39 (0, 0)) (kX BK178.out)) : gb179 ≠ gb178)); clear BK178; clear HB; have BK178 := n0_; have HB := n1_; have BK179 := n2_; have GW179 := n3_; have GE179 := n4_; have NB178_179 := n5_; have NB179_178 := n6_; clear n0_ n1_ n2_ n3_ n4_ n5_ n6_; clear hb hbox hg) | ((with_reducible refine gate_dst (N := 4) rfl ?_); refine box_event ?hg (N := 4) ?hd (cs := #[.int .i64 0, .int .i64 0, .bool false]) (t := 41) ?hr ?_; (case hd => rfl); (case hg => rfl); (case hr => first | (go_simp; done) | (go_simp; rfl)); intro gb180 hg w9 hbox hb; have n0_ := Aside0.mk (blk_below (g := gb178) (o := .cells #[.int .i64 a0_0, .int .i64 a0_1] 39 (0, 0)) (kX BK178.out) hb); have n1_ := Aside0.mk (blk_below (g := gb179) (o := .cells #[.int .i64 a1_0, .int .i64 a1_1] 39 (0, 0)) (kX BK179.out) hb); have n2_ := Aside0.mk (below_step (by repeat (with_reducible first | exact HB.out | apply below_alloc | apply pw_below_drewN | apply below_drew1 | refine below_set ?_ GE178.out | refine below_set ?_ GE179.out)) hb); have n3_ := Aside0.mk (hbox); have n4_ := Aside0.mk ((by rw [hg]; exact (below_size (by repeat (with_reducible first | exact HB.out | apply below_alloc | apply pw_below_drewN | apply below_drew1 | refine below_set ?_ GE178.out | refine below_set ?_ GE179.out))) : w.heap.size ≤ gb180)); have n5_ := Aside0.mk ((by rw [hg]; exact (below_size (by repeat (with_reducible first | exact HB.out | apply below_alloc | apply pw_below_drewN | apply below_drew1 | refine below_set ?_ GE178.out | refine below_set ?_ GE179.out))) : w.heap.size ≤ gb180)); have n6_ := Aside0.mk ((by rw [hg]; exact Nat.ne_of_lt (blk_lt (g := gb178) (o := .cells #[.int .i64 a0_0, .int .i64 a0_1] 39 (0, 0)) (kX BK178.out)) : gb178 ≠ gb180)); have n7_ := Aside0.mk ((by rw [hg]; exact Nat.ne_of_gt (blk_lt (g := gb178) (o := .cells #[.int .i64 a0_0, .int .i64 a0_1] 39 (0, 0)) (kX BK178.out)) : gb180 ≠ gb178)); have n8_ := Aside0.mk ((by rw [hg]; exact Nat.ne_of_lt (blk_lt (g := gb179) (o := .cells #[.int .i64 a1_0, .int .i64 a1_1] 39 (0, 0)) (kX BK179.out)) : gb179 ≠ gb180)); have n9_ := Aside0.mk ((by rw [hg]; exact Nat.ne_of_gt (blk_lt (g := gb179) (o := .cells #[.int .i64 a1_0, .int .i64 a1_1] 39 (0, 0)) (kX BK179.out)) : gb180 ≠ gb179)); clear BK178; clear BK179; clear HB; have BK178 := n0_; have BK179 := n1_; have HB := n2_; have BK180 := n3_; have GW180 := n4_; have GE180 := n5_; have NB178_180 := n6_; have NB180_178 := n7_; have NB179_180 := n8_; have NB180_179 := n9_; clear n0_ n1_ n2_ n3_ n4_ n5_ n6_ n7_ n8_ n9_; clear hb hbox hg; have hnb10 := NB178_179.out; have hnc10 := NB179_178.out; have hnb11 := NB178_180.out; have hnc11 := NB180_178.out; have hcz12_0 : w9.cell? ⟨gb178, 0, none⟩ = some (.int .i64 a0_0) := (blk_cell BK178.out 0).trans rfl; have hcz12_1 : w9.cell? ⟨gb178, 1, none⟩ = some (.int .i64 a0_1) := (blk_cell BK178.out 1).trans rfl; have hfz12_0 := blk_frozen BK178.out 0; have hfz12_1 := blk_frozen BK178.out 1; have hnb13 := NB179_180.out; have hnc13 := NB180_179.out; have hcz14_0 : w9.cell? ⟨gb179, 0, none⟩ = some (.int .i64 a1_0) := (blk_cell BK179.out 0).trans rfl; have hcz14_1 : w9.cell? ⟨gb179, 1, none⟩ = some (.int .i64 a1_1) := (blk_cell BK179.out 1).trans rfl; have hfz14_0 := blk_frozen BK179.out 0; have hfz14_1 := blk_frozen BK179.out 1) | ((with_reducible refine gate_callee (f := 138) rfl ?_); refine goesL_ (some 8) rfl rfl Try.func138 (by kernel_rfl) rfl #[.agg #[.int .i64 a0_0, .int .i64 a0_1], .agg #[.int .i64 a1_0, .int .i64 a1_1]] rfl (by (try simp only [sD, sE, sF]); first | done | rfl) ?_; (with_reducible refine (impl_AreNeighbors.calls a0_0 a0_1 a1_0 a1_1 true _ A3.out).mono ?_); rintro e w15 ⟨rfl, hb⟩; refine ⟨_, rfl, ?_⟩; have n0_ := Aside0.mk (blk_below (g := gb178) (o := .cells #[.int .i64 a0_0, .int .i64 a0_1] 39 (0, 0)) (kX BK178.out) hb); have n1_ := Aside0.mk (blk_below (g := gb179) (o := .cells #[.int .i64 a1_0, .int .i64 a1_1] 39 (0, 0)) (kX BK179.out) hb); have n2_ := Aside0.mk (blk_below (g := gb180) (o := .cells #[.int .i64 0, .int .i64 0, .bool false] 41 (0, 0)) (kX BK180.out) hb); have n3_ := Aside0.mk (below_step (by repeat (with_reducible first | exact HB.out | apply below_alloc | apply pw_below_drewN | apply below_drew1 | refine below_set ?_ GE178.out | refine below_set ?_ GE179.out | refine below_set ?_ GE180.out)) hb); clear BK178; clear BK179; clear BK180; clear HB; have BK178 := n0_; have BK179 := n1_; have BK180 := n2_; have HB := n3_; clear n0_ n1_ n2_ n3_; (try clear hb); (try clear hb2); (try clear hk); (try clear hi); have hcz16_0 : w15.cell? ⟨gb178, 0, none⟩ = some (.int .i64 a0_0) := (blk_cell BK178.out 0).trans rfl; have hcz16_1 : w15.cell? ⟨gb178, 1, none⟩ = some (.int .i64 a0_1) := (blk_cell BK178.out 1).trans rfl; have hfz16_0 := blk_frozen BK178.out 0; have hfz16_1 := blk_frozen BK178.out 1; have hcz17_0 : w15.cell? ⟨gb179, 0, none⟩ = some (.int .i64 a1_0) := (blk_cell BK179.out 0).trans rfl; have hcz17_1 : w15.cell? ⟨gb179, 1, none⟩ = some (.int .i64 a1_1) := (blk_cell BK179.out 1).trans rfl; have hfz17_0 := blk_frozen BK179.out 0; have hfz17_1 := blk_frozen BK179.out 1; have hcz18_0 : w15.cell? ⟨gb180, 0, none⟩ = some (.int .i64 0) := (blk_cell BK180.out 0).trans rfl; have hcz18_1 : w15.cell? ⟨gb180, 1, none⟩ = some (.int .i64 0) := (blk_cell BK180.out 1).trans rfl; have hcz18_2 : w15.cell? ⟨gb180, 2, none⟩ = some (.bool false) := (blk_cell BK180.out 2).trans rfl; have hfz18_0 := blk_frozen BK180.out 0; have hfz18_1 := blk_frozen BK180.out 1; have hfz18_2 := blk_frozen BK180.out 2))
  refine bodyPost_ret (results_ct rfl _ _ gb180 41 #[.int .i64 ji5, .int .i64 ji6, .bool (a0_0 == a1_0)] (0, 0) _ rfl (by (with_reducible repeat (first | refine blk_drewN ?_ _ | refine blk_drew ?_ | refine blk_alloc ?_ _)); refine blk_put (cs := #[.int .i64 ji5, .int .i64 ji6, .bool false]) ?_ 2 _ rfl; (with_reducible repeat (first | refine blk_drewN ?_ _ | refine blk_drew ?_ | refine blk_alloc ?_ _)); refine blk_put (cs := #[.int .i64 ji5, .int .i64 0, .bool false]) ?_ 1 _ rfl; (with_reducible repeat (first | refine blk_drewN ?_ _ | refine blk_drew ?_ | refine blk_alloc ?_ _)); refine blk_put (cs := #[.int .i64 0, .int .i64 0, .bool false]) ?_ 0 _ rfl; (with_reducible repeat (first | refine blk_drewN ?_ _ | refine blk_drew ?_ | refine blk_alloc ?_ _)); exact BK180.out) Try.underlying41 rfl (by kernel_rfl)) rfl ?_
  exact ⟨by first | rfl | (simp [errW_none, errW_some] <;> rfl) | (simp only [← hji5, ← hji6]; first | rfl | (simp [errW_none, errW_some] <;> rfl)) | (simp [*, errW_none, errW_some] <;> rfl), by repeat (with_reducible first | exact HB.out | apply below_alloc | apply pw_below_drewN | apply below_drew1 | refine below_set ?_ GE178.out | refine below_set ?_ GE179.out | refine below_set ?_ GE180.out)⟩
 ·replace c4 := Bool.eq_false_iff.mpr c4
  subst c4
  have H1 : (some (0, 0, false, false)) = some (r1, r2, r3, r4) := by rw [if_neg (show ¬ (false = true) by decide)] at H; exact H
  clear H
  have H := H1
  clear H1
  simp only [Option.some.injEq, Prod.mk.injEq] at H
  obtain ⟨rfl, rfl, rfl, rfl⟩ := H
  go_enter Try.func79, Try.ntmps79
  go_wp2_with (first | ((with_reducible refine gate_dst (N := 2) rfl ?_); refine box_event ?hg (N := 2) ?hd (cs := #[.int .i64 a0_0, .int .i64 a0_1]) (t := 39) ?hr ?_; (case hd => rfl); (case hg => rfl); (case hr => first | (go_simp; done) | (go_simp; rfl)); intro gb178 hg w19 hbox hb; have n0_ := Aside0.mk (below_step (bX HB.out) hb); have n1_ := Aside0.mk (hbox); have n2_ := Aside0.mk ((by rw [hg]; exact (below_size (bX HB.out)) : w.heap.size ≤ gb178)); have n3_ := Aside0.mk ((by rw [hg]; exact (below_size (bX HB.out)) : w.heap.size ≤ gb178)); clear HB; have HB := n0_; have BK178 := n1_; have GW178 := n2_; have GE178 := n3_; clear n0_ n1_ n2_ n3_; clear hb hbox hg) | ((with_reducible refine gate_dst (N := 3) rfl ?_); refine box_event ?hg (N := 3) ?hd (cs := #[.int .i64 a1_0, .int .i64 a1_1]) (t := 39) ?hr ?_; (case hd => rfl); (case hg => rfl); (case hr => first | (go_simp; done) | (go_simp; rfl)); intro gb179 hg w20 hbox hb; have n0_ := Aside0.mk (blk_below (g := gb178) (o := .cells #[.int .i64 a0_0, .int .i64 a0_1] 39 (0, 0)) (kX BK178.out) hb); have n1_ := Aside0.mk (below_step (by repeat (with_reducible first | exact HB.out | apply below_alloc | apply pw_below_drewN | apply below_drew1 | refine below_set ?_ GE178.out)) hb); have n2_ := Aside0.mk (hbox); have n3_ := Aside0.mk ((by rw [hg]; exact (below_size (by repeat (with_reducible first | exact HB.out | apply below_alloc | apply pw_below_drewN | apply below_drew1 | refine below_set ?_ GE178.out))) : w.heap.size ≤ gb179)); have n4_ := Aside0.mk ((by rw [hg]; exact (below_size (by repeat (with_reducible first | exact HB.out | apply below_alloc | apply pw_below_drewN | apply below_drew1 | refine below_set ?_ GE178.out))) : w.heap.size ≤ gb179)); have n5_ := Aside0.mk ((by rw [hg]; exact Nat.ne_of_lt (blk_lt (g := gb178) (o := .cells #[.int .i64 a0_0, .int .i64 a0_1] 39 (0, 0)) (kX BK178.out)) : gb178 ≠ gb179)); have n6_ := Aside0.mk ((by rw [hg]; exact Nat.ne_of_gt (blk_lt (g := gb178) (o := .cells #[.int .i64 a0_0, .int .i64 a0_1] 39 (0, 0)) (kX BK178.out)) : gb179 ≠ gb178)); clear BK178; clear HB; have BK178 := n0_; have HB := n1_; have BK179 := n2_; have GW179 := n3_; have GE179 := n4_; have NB178_179 := n5_; have NB179_178 := n6_; clear n0_ n1_ n2_ n3_ n4_ n5_ n6_; clear hb hbox hg) | ((with_reducible refine gate_dst (N := 4) rfl ?_); refine box_event ?hg (N := 4) ?hd (cs := #[.int .i64 0, .int .i64 0, .bool false]) (t := 41) ?hr ?_; (case hd => rfl); (case hg => rfl); (case hr => first | (go_simp; done) | (go_simp; rfl)); intro gb180 hg w21 hbox hb; have n0_ := Aside0.mk (blk_below (g := gb178) (o := .cells #[.int .i64 a0_0, .int .i64 a0_1] 39 (0, 0)) (kX BK178.out) hb); have n1_ := Aside0.mk (blk_below (g := gb179) (o := .cells #[.int .i64 a1_0, .int .i64 a1_1] 39 (0, 0)) (kX BK179.out) hb); have n2_ := Aside0.mk (below_step (by repeat (with_reducible first | exact HB.out | apply below_alloc | apply pw_below_drewN | apply below_drew1 | refine below_set ?_ GE178.out | refine below_set ?_ GE179.out)) hb); have n3_ := Aside0.mk (hbox); have n4_ := Aside0.mk ((by rw [hg]; exact (below_size (by repeat (with_reducible first | exact HB.out | apply below_alloc | apply pw_below_drewN | apply below_drew1 | refine below_set ?_ GE178.out | refine below_set ?_ GE179.out))) : w.heap.size ≤ gb180)); have n5_ := Aside0.mk ((by rw [hg]; exact (below_size (by repeat (with_reducible first | exact HB.out | apply below_alloc | apply pw_below_drewN | apply below_drew1 | refine below_set ?_ GE178.out | refine below_set ?_ GE179.out))) : w.heap.size ≤ gb180)); have n6_ := Aside0.mk ((by rw [hg]; exact Nat.ne_of_lt (blk_lt (g := gb178) (o := .cells #[.int .i64 a0_0, .int .i64 a0_1] 39 (0, 0)) (kX BK178.out)) : gb178 ≠ gb180)); have n7_ := Aside0.mk ((by rw [hg]; exact Nat.ne_of_gt (blk_lt (g := gb178) (o := .cells #[.int .i64 a0_0, .int .i64 a0_1] 39 (0, 0)) (kX BK178.out)) : gb180 ≠ gb178)); have n8_ := Aside0.mk ((by rw [hg]; exact Nat.ne_of_lt (blk_lt (g := gb179) (o := .cells #[.int .i64 a1_0, .int .i64 a1_1] 39 (0, 0)) (kX BK179.out)) : gb179 ≠ gb180)); have n9_ := Aside0.mk ((by rw [hg]; exact Nat.ne_of_gt (blk_lt (g := gb179) (o := .cells #[.int .i64 a1_0, .int .i64 a1_1] 39 (0, 0)) (kX BK179.out)) : gb180 ≠ gb179)); clear BK178; clear BK179; clear HB; have BK178 := n0_; have BK179 := n1_; have HB := n2_; have BK180 := n3_; have GW180 := n4_; have GE180 := n5_; have NB178_180 := n6_; have NB180_178 := n7_; have NB179_180 := n8_; have NB180_179 := n9_; clear n0_ n1_ n2_ n3_ n4_ n5_ n6_ n7_ n8_ n9_; clear hb hbox hg; have hnb22 := NB178_179.out; have hnc22 := NB179_178.out; have hnb23 := NB178_180.out; have hnc23 := NB180_178.out; have hcz24_0 : w21.cell? ⟨gb178, 0, none⟩ = some (.int .i64 a0_0) := (blk_cell BK178.out 0).trans rfl; have hcz24_1 : w21.cell? ⟨gb178, 1, none⟩ = some (.int .i64 a0_1) := (blk_cell BK178.out 1).trans rfl; have hfz24_0 := blk_frozen BK178.out 0; have hfz24_1 := blk_frozen BK178.out 1; have hnb25 := NB179_180.out; have hnc25 := NB180_179.out; have hcz26_0 : w21.cell? ⟨gb179, 0, none⟩ = some (.int .i64 a1_0) := (blk_cell BK179.out 0).trans rfl; have hcz26_1 : w21.cell? ⟨gb179, 1, none⟩ = some (.int .i64 a1_1) := (blk_cell BK179.out 1).trans rfl; have hfz26_0 := blk_frozen BK179.out 0; have hfz26_1 := blk_frozen BK179.out 1) | ((with_reducible refine gate_callee (f := 138) rfl ?_); refine goesL_ (some 8) rfl rfl Try.func138 (by kernel_rfl) rfl #[.agg #[.int .i64 a0_0, .int .i64 a0_1], .agg #[.int .i64 a1_0, .int .i64 a1_1]] rfl (by (try simp only [sD, sE, sF]); first | done | rfl) ?_; (with_reducible refine (impl_AreNeighbors.calls a0_0 a0_1 a1_0 a1_1 false _ A3.out).mono ?_); rintro e w27 ⟨rfl, hb⟩; refine ⟨_, rfl, ?_⟩; have n0_ := Aside0.mk (blk_below (g := gb178) (o := .cells #[.int .i64 a0_0, .int .i64 a0_1] 39 (0, 0)) (kX BK178.out) hb); have n1_ := Aside0.mk (blk_below (g := gb179) (o := .cells #[.int .i64 a1_0, .int .i64 a1_1] 39 (0, 0)) (kX BK179.out) hb); have n2_ := Aside0.mk (blk_below (g := gb180) (o := .cells #[.int .i64 0, .int .i64 0, .bool false] 41 (0, 0)) (kX BK180.out) hb); have n3_ := Aside0.mk (below_step (by repeat (with_reducible first | exact HB.out | apply below_alloc | apply pw_below_drewN | apply below_drew1 | refine below_set ?_ GE178.out | refine below_set ?_ GE179.out | refine below_set ?_ GE180.out)) hb); clear BK178; clear BK179; clear BK180; clear HB; have BK178 := n0_; have BK179 := n1_; have BK180 := n2_; have HB := n3_; clear n0_ n1_ n2_ n3_; (try clear hb); (try clear hb2); (try clear hk); (try clear hi); have hcz28_0 : w27.cell? ⟨gb180, 0, none⟩ = some (.int .i64 0) := (blk_cell BK180.out 0).trans rfl; have hcz28_1 : w27.cell? ⟨gb180, 1, none⟩ = some (.int .i64 0) := (blk_cell BK180.out 1).trans rfl; have hcz28_2 : w27.cell? ⟨gb180, 2, none⟩ = some (.bool false) := (blk_cell BK180.out 2).trans rfl; have hfz28_0 := blk_frozen BK180.out 0; have hfz28_1 := blk_frozen BK180.out 1; have hfz28_2 := blk_frozen BK180.out 2))
  refine bodyPost_ret (results_ct rfl _ _ gb180 41 #[.int .i64 0, .int .i64 0, .bool false] (0, 0) _ rfl (by (with_reducible repeat (first | refine blk_drewN ?_ _ | refine blk_drew ?_ | refine blk_alloc ?_ _)); refine blk_put (cs := #[.int .i64 0, .int .i64 0, .bool false]) ?_ 2 _ rfl; (with_reducible repeat (first | refine blk_drewN ?_ _ | refine blk_drew ?_ | refine blk_alloc ?_ _)); refine blk_put (cs := #[.int .i64 0, .int .i64 0, .bool false]) ?_ 1 _ rfl; (with_reducible repeat (first | refine blk_drewN ?_ _ | refine blk_drew ?_ | refine blk_alloc ?_ _)); refine blk_put (cs := #[.int .i64 0, .int .i64 0, .bool false]) ?_ 0 _ rfl; (with_reducible repeat (first | refine blk_drewN ?_ _ | refine blk_drew ?_ | refine blk_alloc ?_ _)); exact BK180.out) Try.underlying41 rfl (by kernel_rfl)) rfl ?_
  exact ⟨by first | rfl | (simp [*, errW_none, errW_some] <;> rfl), by repeat (with_reducible first | exact HB.out | apply below_alloc | apply pw_below_drewN | apply below_drew1 | refine below_set ?_ GE178.out | refine below_set ?_ GE179.out | refine below_set ?_ GE180.out)⟩
def openB (ls : List S50) (x y : Int) : Bool := !(ls.any fun e => e.f0 == wrap64 (Int.tdiv x 2) && (e.f1 == wrap64 (Int.tdiv y 2) && e.f2 == (Int.tmod y 2 == 1)))
theorem lnk_l0 (ls : List S50) (a b : Int) (c : Bool) (hl : ls.length < 4611686018427387904) : ∀ m i : Nat, i + m = ls.length →
  ∃ r, impl_linkIndex.l0 (m + 1) ls (ls.length : Int) (i : Int) a b c = some r ∧ decide (r < 0) = !((ls.drop i).any fun e => e.f0 == a && (e.f1 == b && e.f2 == c))
 | 0, i, h => by
  refine ⟨-1, ?_, ?_⟩
  ·unfold impl_linkIndex.l0
   rw [if_neg (by omega)]
  ·rw [List.drop_eq_nil_of_le (by omega)]
   rfl
 | m + 1, i, h => by
  have hi : i < ls.length := by omega
  have hd : ls.drop i = rd_T50 ls (i : Int) :: ls.drop (i + 1) := by
   rw [List.drop_eq_getElem_cons hi]
   congr 1
   unfold rd_T50
   rw [Int.toNat_natCast, List.getD_eq_getElem?_getD, List.getElem?_eq_getElem hi]
   rfl
  rw [hd, List.any_cons]
  unfold impl_linkIndex.l0
  rw [if_pos (by omega), if_pos (by omega), if_pos (by omega)]
  by_cases he : ((rd_T50 ls (i : Int)).f0 == a && ((rd_T50 ls (i : Int)).f1 == b && (rd_T50 ls (i : Int)).f2 == c)) = true
  ·rw [if_pos he, he]
   refine ⟨_, rfl, ?_⟩
   simp
  ·rw [if_neg he, Bool.eq_false_iff.mpr he, Bool.false_or]
   have hw : wrap64 ((i : Int) + 1) = ((i + 1 : Nat) : Int) := by unfold wrap64; omega
   rw [hw]
   exact lnk_l0 ls a b c hl m (i + 1) (by omega)
theorem lnk_some (ls : List S50) (a b : Int) (c : Bool) (hl : ls.length < 4611686018427387904) :
  ∃ r, impl_linkIndex.f (ls.length + 1) ls a b c = some r ∧ decide (r < 0) = !(ls.any fun e => e.f0 == a && (e.f1 == b && e.f2 == c)) := by
 have h := lnk_l0 ls a b c hl ls.length 0 (by omega)
 exact h
set_option maxHeartbeats 4000000 in
set_option maxRecDepth 100000 in
theorem open_calls (x y : Int) (bL : Nat) (AL : Option Addr) (cL : Nat) (ls : List S50) (w : World) (hb : w.heap[bL]? = some (.cells #[.slice AL ls.length cL] 44 (0, 0))) (hr : Kd.C k50 w AL ls.length ls) (hc : ls.length ≤ cL) (hl : ls.length < 4611686018427387904) :
  Calls Try.prog 139 #[.agg #[.int .i64 x, .int .i64 y], .pointer (some ⟨bL, 0, none⟩)] w fun e w' => e = .returned (.bool (openB ls x y)) ∧ Below w.heap.size w w' := by
 obtain ⟨r_, hr_, hd_⟩ := lnk_some ls (wrap64 (Int.tdiv x 2)) (wrap64 (Int.tdiv y 2)) (Int.tmod y 2 == 1) hl
 have HD := Aside0.mk hd_
 have HR := Aside0.mk hr_
 have HC := Aside0.mk hr
 clear hd_ hr_ hr
 have c2_ := cell_of_one (blk_alloc (blk_alloc hb (.cells #[.int .i64 x, .int .i64 y] 39)) (.cells #[.int .i64 (wrap64 (Int.tdiv x 2)), .int .i64 (wrap64 (Int.tdiv y 2)), .bool (Int.tmod y 2 == 1)] 50))
 have HB := Aside0.mk (below_alloc (below_alloc (Below.refl w.heap.size w) (.cells #[.int .i64 x, .int .i64 y] 39)) (.cells #[.int .i64 (wrap64 (Int.tdiv x 2)), .int .i64 (wrap64 (Int.tdiv y 2)), .bool (Int.tmod y 2 == 1)] 50))
 clear hb
 go_enter Try.func139, Try.ntmps139
 go_wp2_with (go_at_call 135; refine (impl_linkIndex.calls (ls.length + 1) AL cL ls (wrap64 (Int.tdiv x 2)) (wrap64 (Int.tdiv y 2)) (Int.tmod y 2 == 1) r_ _ (Kd.C_below HC.out HB.out) hc HR.out).mono ?_; rintro e w2 ⟨rfl, hb2⟩; replace HB := Aside0.mk (below_step HB.out hb2); clear hb2)
 go_ret
 refine ⟨?_, HB.out⟩
 unfold openB
 rw [← HD.out]
 rfl
def encC (xs : List S39) : List Value := xs.flatMap fun d => [.int .i64 d.f0, .int .i64 d.f1]
theorem encC_cons (d : S39) (xs : List S39) : encC (d :: xs) = [.int .i64 d.f0, .int .i64 d.f1] ++ encC xs := by simp [encC]
theorem encC_append (xs ys : List S39) : encC (xs ++ ys) = encC xs ++ encC ys := by simp [encC]
theorem encC_length : ∀ xs : List S39, (encC xs).length = xs.length * 2
 | [] => rfl
 | d :: r => by rw [encC_cons, List.length_append, encC_length r]; simp; omega
theorem encC_set (xs : List S39) (f : Nat) (h : f < xs.length) (c : S39) : encC (xs.set f c) = (encC xs).take (f * 2) ++ [.int .i64 c.f0, .int .i64 c.f1] ++ (encC xs).drop (f * 2 + 2) := by
 have e0 : xs.set f c = xs.take f ++ c :: xs.drop (f + 1) := by rw [List.set_eq_take_append_cons_drop, if_pos h]
 have h1 : xs = xs.take f ++ xs[f] :: xs.drop (f + 1) := by
  have := (List.take_append_drop f xs).symm
  rw [List.drop_eq_getElem_cons h] at this
  exact this
 have hl : (encC (xs.take f)).length = f * 2 := by rw [encC_length, List.length_take, Nat.min_eq_left (Nat.le_of_lt h)]
 have e1 : encC xs = encC (xs.take f) ++ ([.int .i64 xs[f].f0, .int .i64 xs[f].f1] ++ encC (xs.drop (f + 1))) := by
  have := congrArg encC h1
  rw [encC_append, encC_cons] at this
  exact this
 rw [e0, encC_append, encC_cons]
 rw [e1, List.take_left' hl, ← List.append_assoc, ← List.append_assoc, List.drop_left' (by rw [List.length_append, hl]; rfl)]
theorem encC_zero : ∀ n : Nat, encC (List.replicate n ⟨0, 0⟩) = List.replicate (n * 2) (.int .i64 0)
 | 0 => rfl
 | n + 1 => by rw [List.replicate_succ, encC_cons, encC_zero n, show (n + 1) * 2 = n * 2 + 1 + 1 by omega, List.replicate_succ, List.replicate_succ]; rfl
theorem made_two (n : Nat) : madeCells #[.int .i64 0, .int .i64 0] n = (List.replicate n (Value.int .i64 0)).toArray := by
 apply Array.ext'
 apply List.ext_getElem?
 intro j
 by_cases hj : j < n
 ·have : j % 2 = 0 ∨ j % 2 = 1 := by omega
  rcases this with h | h <;> simp [madeCells, hj, h]
 ·simp [madeCells, hj]
def sidesC : Array Value := #[.int .i64 0, .int .i64 (-1), .int .i64 (-1), .int .i64 0, .int .i64 1, .int .i64 0, .int .i64 0, .int .i64 1]
def owSide : Nat → Int × Int
 | 0 => (0, -1)
 | 1 => (-1, 0)
 | 2 => (1, 0)
 | _ => (0, 1)
structure OW (w0 w : World) (bL go gk gs : Nat) (vl : Value) (out : List S39) (kn : List Bool) : Prop where
 hL : w.heap[bL]? = some (.cells #[vl] 44 (0, 0))
 ho : w.heap[go]? = some (.cells (encC out).toArray 39 (0, 0))
 hk : w.heap[gk]? = some (.cells (kn.map Value.bool).toArray 4 (0, 0))
 hs : w.heap[gs]? = some (.cells sidesC 39 (0, 0))
 hb : Below w0.heap.size w0 w
 ne : gs ≠ go
 bo : w0.heap.size ≤ go
 bk : w0.heap.size ≤ gk
section
variable {w0 w w1 : World} {bL go gk gs : Nat} {vl : Value} {out : List S39} {kn : List Bool}
theorem OW.below (h : OW w0 w bL go gk gs vl out kn) (hb : Below w.heap.size w w1) : OW w0 w1 bL go gk gs vl out kn :=
 ⟨blk_below h.hL hb, blk_below h.ho hb, blk_below h.hk hb, blk_below h.hs hb, below_step h.hb hb, h.ne, h.bo, h.bk⟩
theorem OW.alloc (h : OW w0 w bL go gk gs vl out kn) (o : Obj) : OW w0 (w.alloc o) bL go gk gs vl out kn := h.below (below_alloc (Below.refl _ _) o)
theorem OW.drew (h : OW w0 w bL go gk gs vl out kn) : OW w0 w.drew bL go gk gs vl out kn := h.below (below_drew1 (Below.refl _ _))
theorem OW.cellK (h : OW w0 w bL go gk gs vl out kn) {f : Nat} (hf : f < kn.length) : w.cell? ⟨gk, f, none⟩ = some (.bool (kn.getD f false)) := by
 rw [blk_cell h.hk f]
 simp [List.getD_eq_getElem?_getD, hf]
theorem OW.freeK (h : OW w0 w bL go gk gs vl out kn) (f : Nat) : w.frozen? ⟨gk, f, none⟩ = false := blk_frozen h.hk f
theorem OW.cellS (h : OW w0 w bL go gk gs vl out kn) {j : Nat} (hj : j < 4) : w.cell? ⟨gs, j * 2, none⟩ = some (.int .i64 (owSide j).1) ∧ w.cell? ⟨gs, j * 2 + 1, none⟩ = some (.int .i64 (owSide j).2) := by
 rw [blk_cell h.hs, blk_cell h.hs]
 match j, hj with
 | 0, _ => exact ⟨rfl, rfl⟩
 | 1, _ => exact ⟨rfl, rfl⟩
 | 2, _ => exact ⟨rfl, rfl⟩
 | 3, _ => exact ⟨rfl, rfl⟩
theorem OW.setK (h : OW w0 w bL go gk gs vl out kn) {f : Nat} (hf : f < kn.length) : OW w0 (w.setCell ⟨gk, f, none⟩ (.bool true)) bL go gk gs vl out (kn.set f true) := by
 have e := setCell_eq_setRow w gk f _ 4 (0, 0) (.bool true) h.hk
 rw [e]
 have a1 : bL ≠ gk := blk_ne h.hL h.hk (by decide)
 have a2 : go ≠ gk := blk_ne h.ho h.hk (by decide)
 have a3 : gs ≠ gk := blk_ne h.hs h.hk (by decide)
 refine ⟨(setRow_other w gk bL _ a1).trans h.hL, (setRow_other w gk go _ a2).trans h.ho, ?_, (setRow_other w gk gs _ a3).trans h.hs, ?_, h.ne, h.bo, h.bk⟩
 ·rw [setRow_heap w gk _ _ 4 (0, 0) h.hk]
  simp [List.map_set]
 ·exact h.hb.trans ⟨rfl, rfl, rfl, by simp [World.setRow], fun k hk => setRow_other w gk k _ (by have := h.bk; omega)⟩
theorem OW.setO (h : OW w0 w bL go gk gs vl out kn) {f : Nat} (hf : f < out.length) (c : S39) : OW w0 (w.setCells go (f * 2) [.int .i64 c.f0, .int .i64 c.f1]) bL go gk gs vl (out.set f c) kn := by
 obtain ⟨cur', g1, g2, g3⟩ := setCells_row [.int .i64 c.f0, .int .i64 c.f1] (f * 2) w _ h.ho (by simp [encC_length]; omega)
 have e : cur' = (encC (out.set f c)).toArray := by
  apply Array.ext'
  rw [g3, encC_set out f hf c]
  rfl
 rw [e] at g1
 have a1 : bL ≠ go := blk_ne h.hL h.ho (by decide)
 have a2 : gk ≠ go := blk_ne h.hk h.ho (by decide)
 obtain ⟨s1, s2, s3, s4⟩ := setCells_same go [.int .i64 c.f0, .int .i64 c.f1] (f * 2) w
 refine ⟨(setCells_far _ _ bL a1).trans h.hL, g1, (setCells_far _ _ gk a2).trans h.hk, (setCells_far _ _ gs h.ne).trans h.hs, ?_, h.ne, h.bo, h.bk⟩
 exact h.hb.trans ⟨s1, s2, s3, by rw [s4]; exact Nat.le_refl _, fun k hk => setCells_far _ _ k (by have := h.bo; omega)⟩
end
abbrev OSt := List S39 × List Bool × Bool
/-- One side of one face. -/
def owStep (W H : Nat) (ls : List S50) (f j : Nat) (s : OSt) : OSt :=
 if (!(s.2.1.getD f false) && (openB ls (2 * ((f % W : Nat) : Int) + 1 + (owSide j).1) (2 * ((f / W : Nat) : Int) + 1 + (owSide j).2) &&
   (decide (((f % W : Nat) : Int) + (owSide j).1 < 0) || decide (((f / W : Nat) : Int) + (owSide j).2 < 0) || decide ((W : Int) ≤ ((f % W : Nat) : Int) + (owSide j).1) || decide ((H : Int) ≤ ((f / W : Nat) : Int) + (owSide j).2) ||
    s.2.1.getD ((((f / W : Nat) : Int) + (owSide j).2) * (W : Int) + (((f % W : Nat) : Int) + (owSide j).1)).toNat false))) = true
 then (s.1.set f ⟨2 * ((f % W : Nat) : Int) + 1 + (owSide j).1, 2 * ((f / W : Nat) : Int) + 1 + (owSide j).2⟩, s.2.1.set f true, true) else s
/-- The last m sides of a face; the last m faces; passes. -/
def owSides (W H : Nat) (ls : List S50) (f : Nat) : Nat → OSt → OSt
 | 0, s => s
 | m + 1, s => owSides W H ls f m (owStep W H ls f (3 - m) s)
def owFaces (W H : Nat) (ls : List S50) : Nat → OSt → OSt
 | 0, s => s
 | m + 1, s => owFaces W H ls m (owSides W H ls (W * H - 1 - m) 4 s)
def owAll (W H : Nat) (ls : List S50) : Nat → OSt → Option (List S39)
 | 0, _ => none
 | k + 1, s => if s.2.2 = true then owAll W H ls k (owFaces W H ls (W * H) (s.1, s.2.1, false)) else some s.1
theorem owStep_len (W H : Nat) (ls : List S50) (f j : Nat) (s : OSt) : (owStep W H ls f j s).1.length = s.1.length ∧ (owStep W H ls f j s).2.1.length = s.2.1.length := by
 unfold owStep
 split <;> simp
theorem owSides_len (W H : Nat) (ls : List S50) (f : Nat) : ∀ m s, (owSides W H ls f m s).1.length = s.1.length ∧ (owSides W H ls f m s).2.1.length = s.2.1.length
 | 0, s => ⟨rfl, rfl⟩
 | m + 1, s => by
  have h := owSides_len W H ls f m (owStep W H ls f (3 - m) s)
  have h' := owStep_len W H ls f (3 - m) s
  exact ⟨h.1.trans h'.1, h.2.trans h'.2⟩
def OUt2 : Bool × List (List Nat × List Nat) := (true, [([], []), ([], []), ([0, 1], [0, 1]), ([2, 2], [2]), ([], []), ([], []), ([4, 5], [4, 5]), ([6, 6], [6]), ([3, 0, 1, 2, 3], [3]), ([7, 8, 0, 1, 2, 3, 4, 5, 6, 7, 8], [7])])
def OUb2 : List Nat := [0, 0, 3, 7, 0, 0, 48, 112, 15, 511]
theorem OUtab2 : rtab .any (opsOf Try.f80 2) = OUt2 := by kernel_rfl
theorem OUbits2 : waitsOk OUt2.2 OUb2 = true := by kernel_rfl
theorem mkC (n : Nat) (hn : n ≤ 9) : ∀ W : World, (Instr.makeSlice 29 (.int .i64 (n : Int)) (.int .i64 (n : Int))).run Try.prog W = .ok (.slice (some ⟨W.heap.size, 0, none⟩) n n) (W.alloc (.cells (madeCells #[.int .i64 0, .int .i64 0] (n * 2)) 39 (0, 0))) := by
 intro W
 obtain ⟨i, hi, hz⟩ := Option.map_eq_some_iff.1 info39
 simp only [Prod.mk.injEq] at hz
 have h := run_make (P := Try.prog) (w := W) 29 39 i _ Try.underlying29 hi hz.1 .i64 .i64 (n : Int) (n : Int) (by omega) (by omega) (by rw [hz.2.2]; omega) (by omega)
 rw [hz.2.1, Int.toNat_natCast] at h
 exact h
theorem wrap3 (x : Nat) (d : Int) (hx : x ≤ 9) (h1 : -1 ≤ d) (h2 : d ≤ 1) : wrap64 (wrap64 (wrap64 (2 * (x : Int)) + 1) + d) = 2 * (x : Int) + 1 + d := by
 have e1 : wrap64 (2 * (x : Int)) = 2 * (x : Int) := by unfold wrap64; omega
 have e2 : wrap64 (2 * (x : Int) + 1) = 2 * (x : Int) + 1 := by unfold wrap64; omega
 rw [e1, e2]
 unfold wrap64
 omega
theorem wrapS (z : Int) (h1 : -10 ≤ z) (h2 : z ≤ 10) : wrap64 z = z := by unfold wrap64; omega
theorem vw_lt {W H n g : Nat} {u v : Int} (hn : n = W * H) (h1 : ¬ u < 0) (h2 : ¬ v < 0) (h3 : ¬ (W : Int) ≤ u) (h4 : ¬ (H : Int) ≤ v) (hg : v * (W : Int) + u = (g : Int)) : g < n := by
 obtain ⟨a, rfl⟩ := Int.eq_ofNat_of_zero_le (show 0 ≤ u by omega)
 obtain ⟨b, rfl⟩ := Int.eq_ofNat_of_zero_le (show 0 ≤ v by omega)
 have h5 : b + 1 ≤ H := by omega
 have h6 : (b + 1) * W ≤ H * W := Nat.mul_le_mul_right _ h5
 have h7 : ((b * W + a : Nat) : Int) = (g : Int) := by rw [← hg]; push_cast; rfl
 have h8 : b * W + a = g := by exact_mod_cast h7
 rw [hn, Nat.mul_comm W H]
 rw [Nat.add_mul, Nat.one_mul] at h6
 omega
theorem owStep_val {W H f j x y : Nat} {ls : List S50} {out : List S39} {kn : List Bool} {ag : Bool} {dx dy u v : Int} (hx : f % W = x) (hy : f / W = y) (hdx : (owSide j).1 = dx) (hdy : (owSide j).2 = dy) (hu : u = (x : Int) + dx) (hv : v = (y : Int) + dy) :
  owStep W H ls f j (out, kn, ag) = if (!(kn.getD f false) && (openB ls (2 * (x : Int) + 1 + dx) (2 * (y : Int) + 1 + dy) && (decide (u < 0) || decide (v < 0) || decide ((W : Int) ≤ u) || decide ((H : Int) ≤ v) || kn.getD (v * (W : Int) + u).toNat false))) = true then (out.set f ⟨2 * (x : Int) + 1 + dx, 2 * (y : Int) + 1 + dy⟩, kn.set f true, true) else (out, kn, ag) := by
 subst hx; subst hy; subst hdx; subst hdy; subst hu; subst hv
 rfl
theorem cell_of_two {w : World} {b : Nat} {t : TypeId} {a c : Value} (h : w.heap[b]? = some (.cells #[a, c] t (0, 0))) : w.cell? ⟨b, 0, none⟩ = some a ∧ w.cell? ⟨b, 1, none⟩ = some c := ⟨(blk_cell h 0).trans rfl, (blk_cell h 1).trans rfl⟩
theorem owSide_bd {j : Nat} {dx dy : Int} (hx : (owSide j).1 = dx) (hy : (owSide j).2 = dy) : -1 ≤ dx ∧ dx ≤ 1 ∧ -1 ≤ dy ∧ dy ≤ 1 := by
 subst hx
 subst hy
 match j with
 | 0 => decide
 | 1 => decide
 | 2 => decide
 | k + 3 => exact (by decide : -1 ≤ (0 : Int) ∧ (0 : Int) ≤ 1 ∧ -1 ≤ (1 : Int) ∧ (1 : Int) ≤ 1)
theorem owStart {w W : World} {xo xk n : Nat} {vl : Value} (fL : W.heap[w.heap.size]? = some (.cells #[vl] 44 (0, 0))) (fB : Below w.heap.size w W)
  (fo : W.heap[xo]? = some (.cells (madeCells #[.int .i64 0, .int .i64 0] (n * 2)) 39 (0, 0)) ∧ w.heap.size ≤ xo) (fk : W.heap[xk]? = some (.cells (madeCells #[.bool false] n) 4 (0, 0)) ∧ w.heap.size ≤ xk) :
  OW w (W.alloc (.cells sidesC 39 (0, 0))) w.heap.size xo xk W.heap.size vl (List.replicate n ⟨0, 0⟩) (List.replicate n false) := by
 have e : madeCells #[.bool false] n = ((List.replicate n false).map Value.bool).toArray := by
  apply Array.ext'
  rw [toList_madeCells_one]
  simp
 refine ⟨blk_alloc fL _, ?_, ?_, blk_new W _, below_alloc fB _, ?_, fo.2, fk.2⟩
 ·rw [encC_zero, ← made_two]
  exact blk_alloc fo.1 _
 ·rw [← e]
  exact blk_alloc fk.1 _
 ·have := blk_lt fo.1
  omega
def OPost (w : World) (o : List S39) : Ending → World → Prop := fun e w' => ∃ v0_ : Value, e = .returned (v0_) ∧ Kd.R k39 39 w' w.heap.size (fun _ => True) v0_ o ∧ Below w.heap.size w w'
theorem owRow {w w1 : World} {bL go gk gs n : Nat} {vl : Value} {out : List S39} {kn : List Bool} (h : OW w w1 bL go gk gs vl out kn) (hl : out.length = n) (hn9 : n ≤ 9) : Kd.R k39 39 w1 w.heap.size (fun _ => True) (.slice (some ⟨go, 0, none⟩) n n) out := by
 subst hl
 refine ⟨fun _ _ => trivial, encC out, ⟨encC_length out, Or.inr ⟨go, out.length, _, rfl, h.bo, h.ho, Nat.le_refl _, by unfold maxLen; omega, by rw [List.size_toArray, encC_length]; rfl, ?_⟩⟩, encC_length out, fun j p hj => ?_⟩
 ·rw [List.take_of_length_le (by show (encC out).length ≤ out.length * 2; rw [encC_length]; exact Nat.le_refl _)]
 ·have hk := (List.getElem?_eq_some_iff.1 hj).1
  have hp : out[j] = p := (List.getElem?_eq_some_iff.1 hj).2
  have e0 : out = out.take j ++ out[j] :: out.drop (j + 1) := by
   have := (List.take_append_drop j out).symm
   rw [List.drop_eq_getElem_cons hk] at this
   exact this
  have e1 := congrArg encC e0
  rw [encC_append, encC_cons] at e1
  have hl : (encC (out.take j)).length = j * 2 := by rw [encC_length, List.length_take, Nat.min_eq_left (Nat.le_of_lt hk)]
  have e : ((encC out).drop (j * 2)).take 2 = [.int .i64 p.f0, .int .i64 p.f1] := by
   rw [e1, List.drop_left' hl, hp]
   rfl
  show k39.M w1 _ _ p (((encC out).drop (j * 2)).take 2)
  rw [e]
  exact k39_mkM _ _ _ p
set_option maxHeartbeats 8000000 in
set_option maxRecDepth 100000 in
theorem out_calls (a0 a1 : Int) (W H n : Nat) (hW : wrap64 (a0 - 1) = (W : Int)) (hH : wrap64 (a1 - 1) = (H : Int)) (hWH : wrap64 ((W : Int) * (H : Int)) = (n : Int)) (hn : n = W * H) (hW3 : W ≤ 3) (hH3 : H ≤ 3) (k : Nat) (A2 : Option Addr) (c2 : Nat) (ls : List S50) (r : List S39) (w : World)
  (hr2 : Kd.C k50 w A2 ls.length ls) (hc2 : ls.length ≤ c2) (hl2 : ls.length < 4611686018427387904) (h : owAll W H ls k (List.replicate n ⟨0, 0⟩, List.replicate n false, true) = some r) :
  Calls Try.prog 80 #[.int .i64 a0, .int .i64 a1, .slice A2 ls.length c2] w (OPost w r) := by
 have HA := Aside0.mk h
 have HR := Aside0.mk hr2
 have HN := Aside0.mk hn
 have HW := Aside0.mk (And.intro hW3 hH3)
 have HC := Aside0.mk hc2
 have HL := Aside0.mk hl2
 clear h hr2 hn hW3 hH3 hc2 hl2
 go_enter Try.func80, Try.ntmps80
 go_wp2_with fail
 rw [hW, hH]
 obtain ⟨W0, hW0⟩ : ∃ W0, W0 = w.alloc (.cells #[.slice A2 ls.length c2] 44) := ⟨_, rfl⟩
 have fL : Aside0 (W0.drew.heap[w.heap.size]? = some (.cells #[.slice A2 ls.length c2] 44 (0, 0))) := ⟨by rw [hW0]; exact blk_drew (blk_new w _)⟩
 have fB : Aside0 (Below w.heap.size w W0.drew) := ⟨by rw [hW0]; exact below_drew1 (below_alloc (Below.refl _ _) _)⟩
 rw [← hW0]
 clear hW0 hW hH
 have hn9 : n ≤ 9 := by rw [HN.out]; have := Nat.mul_le_mul HW.out.1 HW.out.2; omega
 refine start_ (n := 10) (S := fun w' => True) (ds := []) #[false, false, false, false, false, false, false, false, false, false] (by kernel_rfl) rfl rfl trivial (fun hHeld => ?_)
 generalize World.drew W0 = W1 at fL fB hHeld ⊢
 refine inv_at [0, 1, 2, 3, 4, 5, 6, 7, 8, 9] (fun a0_ b a w' => ∃ (xo : Nat) (xk : Nat) (m3_ : Value) (m7_ : Value) (m8_ : Value) (m9_ : Value), a = putSel a0_ b [(0, 27, .int .i64 (W : Int)), (1, 28, .int .i64 (H : Int)), (2, 29, .int .i64 (n : Int)), (3, 30, m3_), (4, 31, .int .i64 (W : Int)), (5, 32, .int .i64 (H : Int)), (6, 33, .int .i64 (n : Int)), (7, 34, m7_), (8, 9, m8_), (9, 10, m9_)] ∧ (w'.heap[w.heap.size]? = some (.cells #[.slice A2 ls.length c2] 44 (0, 0))) ∧ (Below w.heap.size w w') ∧ (b 3 = true → (w'.heap[xo]? = some (.cells (madeCells #[.int .i64 0, .int .i64 0] (n * 2)) 39 (0, 0)) ∧ w.heap.size ≤ xo)) ∧ (b 7 = true → (w'.heap[xk]? = some (.cells (madeCells #[.bool false] n) 4 (0, 0)) ∧ w.heap.size ≤ xk)) ∧ (b 3 = true → (m3_ : Value) = .slice (some ⟨xo, 0, none⟩) n n) ∧ (b 7 = true → (m7_ : Value) = .slice (some ⟨xk, 0, none⟩) n n) ∧ (b 8 = true → (m8_ : Value) = .slice (some ⟨xo, 0, none⟩) n n) ∧ (b 9 = true → (m9_ : Value) = .slice (some ⟨xk, 0, none⟩) n n)) (T := OUt2) (B := OUb2) OUtab2 OUbits2 (by kernel_rfl) (by kernel_rfl) ?_ ?_ ?_
 ·exact ⟨0, 0, .bool false, .bool false, .bool false, .bool false, by simp only [putSel, Bool.false_eq_true, if_false], fL.out, fB.out, fun h_ => absurd h_ (by decide), fun h_ => absurd h_ (by decide), fun h_ => absurd h_ (by decide), fun h_ => absurd h_ (by decide), fun h_ => absurd h_ (by decide), fun h_ => absurd h_ (by decide)⟩
 ·skip
  clear fB fL
  refine steps_cons ?_ ?_
  ·rintro b a w' ⟨xo, xk, m3_, m7_, m8_, m9_, ha, Q_fL, Q_fB, Q_fo, Q_fk, Q_X3_, Q_X7_, Q_X8_, Q_X9_⟩ hb_ hon hoff
   refine ⟨_, rfl, fun K hK => ?_⟩
   have e7 : a.tmps[7]? = some (.int .i64 (W : Int)) := by rw [ha]; exact (putSel_off rfl).trans rfl
   replace ha := Aside0.mk ha
   have fL := Aside0.mk Q_fL
   have fB := Aside0.mk Q_fB
   refine value_ (w1 := w') (v := .int .i64 (W : Int)) (by rfl) rfl ?_ ?_
   ·go_simp
    (try simp only [i64_w, hWH])
    try rfl
   refine hK.out _ _ ⟨xo, xk, m3_, m7_, m8_, m9_, (by rw [ha.out]; exact putSel_upk 0 hb_ rfl rfl rfl), Q_fL, Q_fB, fun h0_ => absurd ((hoff 3 (by kernel_rfl)).symm.trans h0_) (by decide), Q_fk, fun h0_ => absurd ((hoff 3 (by kernel_rfl)).symm.trans h0_) (by decide), Q_X7_, fun h0_ => absurd ((hoff 8 (by kernel_rfl)).symm.trans h0_) (by decide), fun h0_ => absurd ((hoff 9 (by kernel_rfl)).symm.trans h0_) (by decide)⟩
  refine steps_cons ?_ ?_
  ·rintro b a w' ⟨xo, xk, m3_, m7_, m8_, m9_, ha, Q_fL, Q_fB, Q_fo, Q_fk, Q_X3_, Q_X7_, Q_X8_, Q_X9_⟩ hb_ hon hoff
   refine ⟨_, rfl, fun K hK => ?_⟩
   have e8 : a.tmps[8]? = some (.int .i64 (H : Int)) := by rw [ha]; exact (putSel_off rfl).trans rfl
   replace ha := Aside0.mk ha
   have fL := Aside0.mk Q_fL
   have fB := Aside0.mk Q_fB
   refine value_ (w1 := w') (v := .int .i64 (H : Int)) (by rfl) rfl ?_ ?_
   ·go_simp
    (try simp only [i64_w, hWH])
    try rfl
   refine hK.out _ _ ⟨xo, xk, m3_, m7_, m8_, m9_, (by rw [ha.out]; exact putSel_upk 1 hb_ rfl rfl rfl), Q_fL, Q_fB, fun h0_ => absurd ((hoff 3 (by kernel_rfl)).symm.trans h0_) (by decide), Q_fk, fun h0_ => absurd ((hoff 3 (by kernel_rfl)).symm.trans h0_) (by decide), Q_X7_, fun h0_ => absurd ((hoff 8 (by kernel_rfl)).symm.trans h0_) (by decide), fun h0_ => absurd ((hoff 9 (by kernel_rfl)).symm.trans h0_) (by decide)⟩
  refine steps_cons ?_ ?_
  ·rintro b a w' ⟨xo, xk, m3_, m7_, m8_, m9_, ha, Q_fL, Q_fB, Q_fo, Q_fk, Q_X3_, Q_X7_, Q_X8_, Q_X9_⟩ hb_ hon hoff
   refine ⟨_, rfl, fun K hK => ?_⟩
   have e27 : a.tmps[27]? = some (.int .i64 (W : Int)) := by rw [ha]; exact putSel_on (e := (0, 27, .int .i64 (W : Int))) 0 rfl rfl (hon 0 (by kernel_rfl)) rfl
   have e28 : a.tmps[28]? = some (.int .i64 (H : Int)) := by rw [ha]; exact putSel_on (e := (1, 28, .int .i64 (H : Int))) 1 rfl rfl (hon 1 (by kernel_rfl)) rfl
   replace ha := Aside0.mk ha
   have fL := Aside0.mk Q_fL
   have fB := Aside0.mk Q_fB
   refine value_ (w1 := w') (v := .int .i64 (n : Int)) (by rfl) rfl ?_ ?_
   ·go_simp
    (try simp only [i64_w, hWH])
    try rfl
   refine hK.out _ _ ⟨xo, xk, m3_, m7_, m8_, m9_, (by rw [ha.out]; exact putSel_upk 2 hb_ rfl rfl rfl), Q_fL, Q_fB, fun h0_ => absurd ((hoff 3 (by kernel_rfl)).symm.trans h0_) (by decide), Q_fk, fun h0_ => absurd ((hoff 3 (by kernel_rfl)).symm.trans h0_) (by decide), Q_X7_, fun h0_ => absurd ((hoff 8 (by kernel_rfl)).symm.trans h0_) (by decide), fun h0_ => absurd ((hoff 9 (by kernel_rfl)).symm.trans h0_) (by decide)⟩
  refine steps_cons ?_ ?_
  ·rintro b a w' ⟨xo, xk, m3_, m7_, m8_, m9_, ha, Q_fL, Q_fB, Q_fo, Q_fk, Q_X3_, Q_X7_, Q_X8_, Q_X9_⟩ hb_ hon hoff
   refine ⟨_, rfl, fun K hK => ?_⟩
   have e29 : a.tmps[29]? = some (.int .i64 (n : Int)) := by rw [ha]; exact putSel_on (e := (2, 29, .int .i64 (n : Int))) 2 rfl rfl (hon 2 (by kernel_rfl)) rfl
   replace ha := Aside0.mk ha
   have fL := Aside0.mk Q_fL
   have fB := Aside0.mk Q_fB
   have hmk := mkC n (by omega)
   refine value_ (w1 := w'.alloc (.cells (madeCells #[.int .i64 0, .int .i64 0] (n * 2)) 39 (0, 0))) (v := .slice (some ⟨w'.heap.size, 0, none⟩) n n) (by rfl) rfl ?_ ?_
   ·go_simp
   refine hK.out _ _ ⟨w'.heap.size, xk, (.slice (some ⟨w'.heap.size, 0, none⟩) n n), m7_, m8_, m9_, (by rw [ha.out]; exact putSel_upk 3 hb_ rfl rfl rfl), blk_alloc fL.out _, below_alloc fB.out _, fun _ => ⟨blk_new w' _, below_size fB.out⟩, fun h0_ => ⟨blk_alloc (Q_fk h0_).1 _, (Q_fk h0_).2⟩, fun _ => rfl, Q_X7_, fun h0_ => absurd ((hoff 8 (by kernel_rfl)).symm.trans h0_) (by decide), fun h0_ => absurd ((hoff 9 (by kernel_rfl)).symm.trans h0_) (by decide)⟩
  refine steps_cons ?_ ?_
  ·rintro b a w' ⟨xo, xk, m3_, m7_, m8_, m9_, ha, Q_fL, Q_fB, Q_fo, Q_fk, Q_X3_, Q_X7_, Q_X8_, Q_X9_⟩ hb_ hon hoff
   refine ⟨_, rfl, fun K hK => ?_⟩
   have e7 : a.tmps[7]? = some (.int .i64 (W : Int)) := by rw [ha]; exact (putSel_off rfl).trans rfl
   replace ha := Aside0.mk ha
   have fL := Aside0.mk Q_fL
   have fB := Aside0.mk Q_fB
   refine value_ (w1 := w') (v := .int .i64 (W : Int)) (by rfl) rfl ?_ ?_
   ·go_simp
    (try simp only [i64_w, hWH])
    try rfl
   refine hK.out _ _ ⟨xo, xk, m3_, m7_, m8_, m9_, (by rw [ha.out]; exact putSel_upk 4 hb_ rfl rfl rfl), Q_fL, Q_fB, Q_fo, fun h0_ => absurd ((hoff 7 (by kernel_rfl)).symm.trans h0_) (by decide), Q_X3_, fun h0_ => absurd ((hoff 7 (by kernel_rfl)).symm.trans h0_) (by decide), Q_X8_, fun h0_ => absurd ((hoff 9 (by kernel_rfl)).symm.trans h0_) (by decide)⟩
  refine steps_cons ?_ ?_
  ·rintro b a w' ⟨xo, xk, m3_, m7_, m8_, m9_, ha, Q_fL, Q_fB, Q_fo, Q_fk, Q_X3_, Q_X7_, Q_X8_, Q_X9_⟩ hb_ hon hoff
   refine ⟨_, rfl, fun K hK => ?_⟩
   have e8 : a.tmps[8]? = some (.int .i64 (H : Int)) := by rw [ha]; exact (putSel_off rfl).trans rfl
   replace ha := Aside0.mk ha
   have fL := Aside0.mk Q_fL
   have fB := Aside0.mk Q_fB
   refine value_ (w1 := w') (v := .int .i64 (H : Int)) (by rfl) rfl ?_ ?_
   ·go_simp
    (try simp only [i64_w, hWH])
    try rfl
   refine hK.out _ _ ⟨xo, xk, m3_, m7_, m8_, m9_, (by rw [ha.out]; exact putSel_upk 5 hb_ rfl rfl rfl), Q_fL, Q_fB, Q_fo, fun h0_ => absurd ((hoff 7 (by kernel_rfl)).symm.trans h0_) (by decide), Q_X3_, fun h0_ => absurd ((hoff 7 (by kernel_rfl)).symm.trans h0_) (by decide), Q_X8_, fun h0_ => absurd ((hoff 9 (by kernel_rfl)).symm.trans h0_) (by decide)⟩
  refine steps_cons ?_ ?_
  ·rintro b a w' ⟨xo, xk, m3_, m7_, m8_, m9_, ha, Q_fL, Q_fB, Q_fo, Q_fk, Q_X3_, Q_X7_, Q_X8_, Q_X9_⟩ hb_ hon hoff
   refine ⟨_, rfl, fun K hK => ?_⟩
   have e31 : a.tmps[31]? = some (.int .i64 (W : Int)) := by rw [ha]; exact putSel_on (e := (4, 31, .int .i64 (W : Int))) 4 rfl rfl (hon 4 (by kernel_rfl)) rfl
   have e32 : a.tmps[32]? = some (.int .i64 (H : Int)) := by rw [ha]; exact putSel_on (e := (5, 32, .int .i64 (H : Int))) 5 rfl rfl (hon 5 (by kernel_rfl)) rfl
   replace ha := Aside0.mk ha
   have fL := Aside0.mk Q_fL
   have fB := Aside0.mk Q_fB
   refine value_ (w1 := w') (v := .int .i64 (n : Int)) (by rfl) rfl ?_ ?_
   ·go_simp
    (try simp only [i64_w, hWH])
    try rfl
   refine hK.out _ _ ⟨xo, xk, m3_, m7_, m8_, m9_, (by rw [ha.out]; exact putSel_upk 6 hb_ rfl rfl rfl), Q_fL, Q_fB, Q_fo, fun h0_ => absurd ((hoff 7 (by kernel_rfl)).symm.trans h0_) (by decide), Q_X3_, fun h0_ => absurd ((hoff 7 (by kernel_rfl)).symm.trans h0_) (by decide), Q_X8_, fun h0_ => absurd ((hoff 9 (by kernel_rfl)).symm.trans h0_) (by decide)⟩
  refine steps_cons ?_ ?_
  ·rintro b a w' ⟨xo, xk, m3_, m7_, m8_, m9_, ha, Q_fL, Q_fB, Q_fo, Q_fk, Q_X3_, Q_X7_, Q_X8_, Q_X9_⟩ hb_ hon hoff
   refine ⟨_, rfl, fun K hK => ?_⟩
   have e33 : a.tmps[33]? = some (.int .i64 (n : Int)) := by rw [ha]; exact putSel_on (e := (6, 33, .int .i64 (n : Int))) 6 rfl rfl (hon 6 (by kernel_rfl)) rfl
   replace ha := Aside0.mk ha
   have fL := Aside0.mk Q_fL
   have fB := Aside0.mk Q_fB
   have hmk := print_make_of (P := Try.prog) 89 4 (.bool false) 1 Try.underlying89 info4 rfl (by decide) n (by omega)
   refine value_ (w1 := w'.alloc (.cells (madeCells #[.bool false] n) 4 (0, 0))) (v := .slice (some ⟨w'.heap.size, 0, none⟩) n n) (by rfl) rfl ?_ ?_
   ·go_simp
   refine hK.out _ _ ⟨xo, w'.heap.size, m3_, (.slice (some ⟨w'.heap.size, 0, none⟩) n n), m8_, m9_, (by rw [ha.out]; exact putSel_upk 7 hb_ rfl rfl rfl), blk_alloc fL.out _, below_alloc fB.out _, fun h0_ => ⟨blk_alloc (Q_fo h0_).1 _, (Q_fo h0_).2⟩, fun _ => ⟨blk_new w' _, below_size fB.out⟩, Q_X3_, fun _ => rfl, Q_X8_, fun h0_ => absurd ((hoff 9 (by kernel_rfl)).symm.trans h0_) (by decide)⟩
  refine steps_cons ?_ ?_
  ·rintro b a w' ⟨xo, xk, m3_, m7_, m8_, m9_, ha, Q_fL, Q_fB, Q_fo, Q_fk, Q_X3_, Q_X7_, Q_X8_, Q_X9_⟩ hb_ hon hoff
   refine ⟨_, rfl, fun K hK => ?_⟩
   have e30 : a.tmps[30]? = some (m3_) := by rw [ha]; exact putSel_on (e := (3, 30, m3_)) 3 rfl rfl (hon 3 (by kernel_rfl)) rfl
   rw [Q_X3_ (hon 3 (by kernel_rfl))] at e30
   replace ha := Aside0.mk ha
   have fL := Aside0.mk Q_fL
   have fB := Aside0.mk Q_fB
   have fo := Aside0.mk (Q_fo (hon 3 (by kernel_rfl)))
   refine value_ (w1 := w') (v := .slice (some ⟨xo, 0, none⟩) n n) (by rfl) rfl ?_ ?_
   ·go_simp
    (try simp only [i64_w, hWH])
    try rfl
   refine hK.out _ _ ⟨xo, xk, m3_, m7_, (.slice (some ⟨xo, 0, none⟩) n n), m9_, (by rw [ha.out]; exact putSel_upk 8 hb_ rfl rfl rfl), Q_fL, Q_fB, Q_fo, Q_fk, Q_X3_, Q_X7_, fun _ => rfl, fun h0_ => absurd ((hoff 9 (by kernel_rfl)).symm.trans h0_) (by decide)⟩
  refine steps_cons ?_ ?_
  ·rintro b a w' ⟨xo, xk, m3_, m7_, m8_, m9_, ha, Q_fL, Q_fB, Q_fo, Q_fk, Q_X3_, Q_X7_, Q_X8_, Q_X9_⟩ hb_ hon hoff
   refine ⟨_, rfl, fun K hK => ?_⟩
   have e34 : a.tmps[34]? = some (m7_) := by rw [ha]; exact putSel_on (e := (7, 34, m7_)) 7 rfl rfl (hon 7 (by kernel_rfl)) rfl
   rw [Q_X7_ (hon 7 (by kernel_rfl))] at e34
   replace ha := Aside0.mk ha
   have fL := Aside0.mk Q_fL
   have fB := Aside0.mk Q_fB
   have fo := Aside0.mk (Q_fo (hon 3 (by kernel_rfl)))
   have fk := Aside0.mk (Q_fk (hon 7 (by kernel_rfl)))
   refine value_ (w1 := w') (v := .slice (some ⟨xk, 0, none⟩) n n) (by rfl) rfl ?_ ?_
   ·go_simp
    (try simp only [i64_w, hWH])
    try rfl
   refine hK.out _ _ ⟨xo, xk, m3_, m7_, m8_, (.slice (some ⟨xk, 0, none⟩) n n), (by rw [ha.out]; exact putSel_upk 9 hb_ rfl rfl rfl), Q_fL, Q_fB, Q_fo, Q_fk, Q_X3_, Q_X7_, Q_X8_, fun _ => rfl⟩
  exact steps_nil
 ·rintro b a w' hall ⟨xo, xk, m3_, m7_, m8_, m9_, ha, Q_fL, Q_fB, Q_fo, Q_fk, Q_X3_, Q_X7_, Q_X8_, Q_X9_⟩
  clear fB fL
  have hb0_ := hall 0 (by kernel_rfl)
  have hb1_ := hall 1 (by kernel_rfl)
  have hb2_ := hall 2 (by kernel_rfl)
  have hb3_ := hall 3 (by kernel_rfl)
  have hb4_ := hall 4 (by kernel_rfl)
  have hb5_ := hall 5 (by kernel_rfl)
  have hb6_ := hall 6 (by kernel_rfl)
  have hb7_ := hall 7 (by kernel_rfl)
  have hb8_ := hall 8 (by kernel_rfl)
  have hb9_ := hall 9 (by kernel_rfl)
  subst ha
  obtain rfl := Q_X3_ hb3_
  obtain rfl := Q_X7_ hb7_
  obtain rfl := Q_X8_ hb8_
  obtain rfl := Q_X9_ hb9_
  simp only [putSel, hb0_, hb1_, hb2_, hb3_, hb4_, hb5_, hb6_, hb7_, hb8_, hb9_, if_true, Act.put, List.setIfInBounds_toArray, List.set_cons_zero, List.set_cons_succ]
  have fL := Aside0.mk Q_fL
  clear Q_fL
  have fB := Aside0.mk Q_fB
  clear Q_fB
  have fo := Aside0.mk (Q_fo hb3_)
  clear Q_fo
  have fk := Aside0.mk (Q_fk hb7_)
  clear Q_fk
  clear hall hb0_ hb1_ hb2_ hb3_ hb4_ hb5_ hb6_ hb7_ hb8_ hb9_
  have HM0 := Aside0.mk (owStart fL.out fB.out fo.out fk.out)
  clear fL fB fo fk Q_X3_ Q_X7_ Q_X8_ Q_X9_ hHeld
  go_wp2_with fail
  obtain ⟨ws, hws⟩ : ∃ ws, w'.alloc (.cells sidesC 39 (0, 0)) = ws := ⟨_, rfl⟩
  have HM1 := HM0
  rw [hws] at HM1
  rw [show w'.alloc (.cells #[.int .i64 0, .int .i64 (-1), .int .i64 (-1), .int .i64 0, .int .i64 1, .int .i64 0, .int .i64 0, .int .i64 1] 39) = ws from hws]
  clear HM0 hws
  generalize w'.heap.size = xs at HM1 ⊢
  generalize w.heap.size = bL at HM1 ⊢
  go_loopg [13] k (fun kq v wr => ∃ (out : List S39) (kn : List Bool) (ag : Bool), v = .bool ag ∧ Aside0 (out.length = n ∧ kn.length = n) ∧ Aside0 (owAll W H ls kq (out, kn, ag) = some r) ∧ Aside0 (OW w wr bL xo xk xs (.slice A2 ls.length c2) out kn))
  case atStart => exact ⟨_, _, true, rfl, ⟨by simp, by simp⟩, HA, HM1⟩
  case round =>
   clear HM1 HA
   obtain ⟨out, kn, ag, rfl, HLn, HA, HM⟩ := hrel
   cases gk with
   | zero => exact absurd HA.out (by simp [owAll])
   | succ k1 =>
    cases ag with
    | false =>
     have e : some out = some r := HA.out
     obtain rfl := Option.some.inj e
     go_wp2
     go_ret
     exact ⟨_, rfl, owRow HM.out HLn.out.1 hn9, HM.out.hb⟩
    | true =>
     have HA1 : Aside0 (owAll W H ls k1 (owFaces W H ls n (out, kn, false)) = some r) := ⟨by rw [HN.out]; exact HA.out⟩
     clear HA
     go_wp2_with fail
     go_loopw [13, 44] (fun v13 v44 wr1 => ∃ (f m : Nat) (out1 : List S39) (kn1 : List Bool) (ag1 : Bool), v13 = .bool ag1 ∧ v44 = .int .i64 (f : Int) ∧ f + m = n ∧ Aside0 (out1.length = n ∧ kn1.length = n) ∧ Aside0 (owFaces W H ls m (out1, kn1, ag1) = owFaces W H ls n (out, kn, false)) ∧ Aside0 (OW w wr1 bL xo xk xs (.slice A2 ls.length c2) out1 kn1)) (fun _ v44 _ => n - (intOf v44).toNat)
     case atStart => exact ⟨0, n, out, kn, false, rfl, rfl, by omega, HLn, ⟨rfl⟩, HM⟩
     case round =>
      clear HM HLn
      obtain ⟨f, m, out1, kn1, ag1, rfl, rfl, hfm, HLn, HF, HM1⟩ := hrel
      by_cases hf : f < n
      ·obtain ⟨m, rfl⟩ : ∃ m1, m = m1 + 1 := ⟨m - 1, by omega⟩
       have hW0 : 0 < W := Nat.pos_of_ne_zero (fun h0 => by rw [HN.out, h0, Nat.zero_mul] at hf; omega)
       have HF1 : Aside0 (owFaces W H ls m (owSides W H ls f 4 (out1, kn1, ag1)) = owFaces W H ls n (out, kn, false)) := ⟨by have h_ := HF.out; rw [owFaces, ← HN.out, show n - 1 - m = f by omega] at h_; exact h_⟩
       clear HF
       obtain ⟨x, hx⟩ : ∃ x, f % W = x := ⟨_, rfl⟩
       obtain ⟨y, hy⟩ : ∃ y, f / W = y := ⟨_, rfl⟩
       have HXY := Aside0.mk (And.intro hx hy)
       have tm_ : (f : Int).tmod (W : Int) = (x : Int) := by rw [Int.tmod_eq_emod_of_nonneg (by omega), ← hx]; simp
       have td_ : (f : Int).tdiv (W : Int) = (y : Int) := by rw [Int.tdiv_eq_ediv_of_nonneg (by omega), ← hy]; simp
       have hxW : x < W := by rw [← hx]; exact Nat.mod_lt _ hW0
       have hyH : y < H := by rw [← hy]; exact (Nat.div_lt_iff_lt_mul hW0).2 (by rw [Nat.mul_comm, ← HN.out]; exact hf)
       have hW3 := HW.out.1
       have hH3 := HW.out.2
       have wy_ : wrap64 (y : Int) = (y : Int) := by unfold wrap64; omega
       have hWi : ¬ W = 0 := by omega
       clear hx hy hW3 hH3
       go_wp2_with fail
       have HM2 := Aside0.mk HM1.out.drew
       clear HM1
       refine start_ (n := 8) (S := fun _ => True) (ds := []) #[false, false, false, false, false, false, false, false] (by kernel_rfl) rfl rfl trivial (fun hHeld => ?_)
       generalize World.drew wr = w3 at HM2 hHeld ⊢
       refine pure_ (i := 0) (N := (some 47)) (v := ?_) (a' := ?_) #[true, false, false, false, false, false, false, false] rfl rfl (by kernel_rfl) (fun _ _ _ h => h) (Or.inl ⟨by rfl, ?_⟩) ?_ ?_
       rotate_left
       ·intro w'
        go_simp
        with_reducible rfl
       rotate_left
       ·simp only [Act.put, sA, sB, sC, i64_w, i32_w]
        rfl
       refine pure_ (i := 1) (N := (some 48)) (v := ?_) (a' := ?_) #[true, true, false, false, false, false, false, false] rfl rfl (by kernel_rfl) (fun _ _ _ h => h) (Or.inl ⟨by rfl, ?_⟩) ?_ ?_
       rotate_left
       ·intro w'
        go_simp
        with_reducible rfl
       rotate_left
       ·simp only [Act.put, sA, sB, sC, i64_w, i32_w]
        rfl
       refine pure_ (i := 2) (N := (some 49)) (v := ?_) (a' := ?_) #[true, true, true, false, false, false, false, false] rfl rfl (by kernel_rfl) (fun _ _ _ h => h) (Or.inl ⟨by rfl, ?_⟩) ?_ ?_
       rotate_left
       ·intro w'
        go_simp
        try simp only [i64_w, tm_]
        with_reducible rfl
       rotate_left
       ·simp only [Act.put, sA, sB, sC, i64_w, i32_w]
        rfl
       refine pure_ (i := 3) (N := (some 50)) (v := ?_) (a' := ?_) #[true, true, true, true, false, false, false, false] rfl rfl (by kernel_rfl) (fun _ _ _ h => h) (Or.inl ⟨by rfl, ?_⟩) ?_ ?_
       rotate_left
       ·intro w'
        go_simp
        with_reducible rfl
       rotate_left
       ·simp only [Act.put, sA, sB, sC, i64_w, i32_w]
        rfl
       refine pure_ (i := 4) (N := (some 51)) (v := ?_) (a' := ?_) #[true, true, true, true, true, false, false, false] rfl rfl (by kernel_rfl) (fun _ _ _ h => h) (Or.inl ⟨by rfl, ?_⟩) ?_ ?_
       rotate_left
       ·intro w'
        go_simp
        with_reducible rfl
       rotate_left
       ·simp only [Act.put, sA, sB, sC, i64_w, i32_w]
        rfl
       refine pure_ (i := 5) (N := (some 52)) (v := ?_) (a' := ?_) #[true, true, true, true, true, true, false, false] rfl rfl (by kernel_rfl) (fun _ _ _ h => h) (Or.inl ⟨by rfl, ?_⟩) ?_ ?_
       rotate_left
       ·intro w'
        go_simp
        try simp only [i64_w, td_, wy_]
        with_reducible rfl
       rotate_left
       ·simp only [Act.put, sA, sB, sC, i64_w, i32_w]
        rfl
       refine pure_ (i := 6) (N := (some 15)) (v := ?_) (a' := ?_) #[true, true, true, true, true, true, true, false] rfl rfl (by kernel_rfl) (fun _ _ _ h => h) (Or.inl ⟨by rfl, ?_⟩) ?_ ?_
       rotate_left
       ·intro w'
        go_simp
        with_reducible rfl
       rotate_left
       ·simp only [Act.put, sA, sB, sC, i64_w, i32_w]
        rfl
       refine pure_ (i := 7) (N := (some 16)) (v := ?_) (a' := ?_) #[true, true, true, true, true, true, true, true] rfl rfl (by kernel_rfl) (fun _ _ _ h => h) (Or.inl ⟨by rfl, ?_⟩) ?_ ?_
       rotate_left
       ·intro w'
        go_simp
        with_reducible rfl
       rotate_left
       ·simp only [Act.put, sA, sB, sC, i64_w, i32_w]
        rfl
       refine done_ (by kernel_rfl) ?_
       clear tm_ td_ wy_ hWi
       go_wp2_with fail
       go_loopw [13, 55] (fun v13 v55 wr1 => ∃ (j m2 : Nat) (out2 : List S39) (kn2 : List Bool) (ag2 : Bool), v13 = .bool ag2 ∧ v55 = .int .i64 (j : Int) ∧ j + m2 = 4 ∧ Aside0 (out2.length = n ∧ kn2.length = n) ∧ Aside0 (owSides W H ls f m2 (out2, kn2, ag2) = owSides W H ls f 4 (out1, kn1, ag1)) ∧ Aside0 (OW w wr1 bL xo xk xs (.slice A2 ls.length c2) out2 kn2)) (fun _ v55 _ => 4 - (intOf v55).toNat)
       case atStart => exact ⟨0, 4, out1, kn1, ag1, rfl, rfl, rfl, HLn, ⟨rfl⟩, HM2⟩
       case round =>
        clear HM2 HLn
        obtain ⟨j, m2, out2, kn2, ag2, rfl, rfl, hjm, HLn, HS, HM2⟩ := hrel
        by_cases hj : j < 4
        ·obtain ⟨m2, rfl⟩ : ∃ m1, m2 = m1 + 1 := ⟨m2 - 1, by omega⟩
         have HS1 : Aside0 (owSides W H ls f m2 (owStep W H ls f j (out2, kn2, ag2)) = owSides W H ls f 4 (out1, kn1, ag1)) := ⟨by have h_ := HS.out; rw [owSides, show 3 - m2 = j by omega] at h_; exact h_⟩
         clear HS
         obtain ⟨s0_, s1_⟩ := HM2.out.cellS hj
         obtain ⟨dx, hdx⟩ : ∃ dx, (owSide j).1 = dx := ⟨_, rfl⟩
         obtain ⟨dy, hdy⟩ : ∃ dy, (owSide j).2 = dy := ⟨_, rfl⟩
         rw [hdx] at s0_
         rw [hdy] at s1_
         have hd1 : -1 ≤ dx ∧ dx ≤ 1 ∧ -1 ≤ dy ∧ dy ≤ 1 := owSide_bd hdx hdy
         have HD := Aside0.mk (And.intro hdx hdy)
         clear hdx hdy
         go_wp2_with fail
         have HX := Aside0.mk (blk_drew (blk_new wr (.cells #[.int .i64 dx, .int .i64 dy] 39 (0, 0))))
         have HM4 := Aside0.mk (HM2.out.alloc (.cells #[.int .i64 dx, .int .i64 dy] 39 (0, 0))).drew
         clear HM2 s0_ s1_
         generalize wr.heap.size = gd at HX ⊢
         obtain ⟨w4, hw4⟩ : ∃ w4, wr.alloc (.cells #[.int .i64 dx, .int .i64 dy] 39 (0, 0)) = w4 := ⟨_, rfl⟩
         rw [hw4] at HX HM4
         rw [show wr.alloc (.cells #[.int .i64 dx, .int .i64 dy] 39) = w4 from hw4]
         clear hw4
         obtain ⟨u, hu_⟩ : ∃ u, wrap64 ((x : Int) + dx) = u := ⟨_, rfl⟩
         obtain ⟨v, hv_⟩ : ∃ v, wrap64 ((y : Int) + dy) = v := ⟨_, rfl⟩
         have hu : u = (x : Int) + dx := by rw [← hu_]; have := HW.out.1; exact wrapS _ (by omega) (by omega)
         have hv : v = (y : Int) + dy := by rw [← hv_]; have := HW.out.2; exact wrapS _ (by omega) (by omega)
         have HUV := Aside0.mk (And.intro hu hv)
         clear hu hv
         refine start_ (n := 10) (S := fun w' => w'.cell? ⟨gd, 0, none⟩ = some (.int .i64 dx) ∧ w'.cell? ⟨gd, 1, none⟩ = some (.int .i64 dy)) (ds := []) #[false, false, false, false, false, false, false, false, false, false] (by kernel_rfl) rfl rfl ⟨(blk_cell HX.out 0).trans rfl, (blk_cell HX.out 1).trans rfl⟩ (fun hHeld => ?_)
         generalize World.drew w4 = w5 at HM4 HX hHeld ⊢
         refine pure_ (i := 0) (N := (some 59)) (v := ?_) (a' := ?_) #[true, false, false, false, false, false, false, false, false, false] rfl rfl (by kernel_rfl) (fun _ _ _ h => h) (Or.inl ⟨by rfl, ?_⟩) ?_ ?_
         rotate_left
         ·intro w'
          go_simp
          with_reducible rfl
         rotate_left
         ·simp only [Act.put, sA, sB, sC, i64_w, i32_w]
          rfl
         refine pure_ (i := 1) (N := (some 60)) (v := ?_) (a' := ?_) #[true, true, false, false, false, false, false, false, false, false] rfl rfl (by kernel_rfl) (fun _ _ _ h => h) (Or.inl ⟨by rfl, ?_⟩) ?_ ?_
         rotate_left
         ·intro w'
          go_simp
          with_reducible rfl
         rotate_left
         ·simp only [Act.put, sA, sB, sC, i64_w, i32_w]
          rfl
         refine take_ (i := 2) (N := (some 61)) (v := ?_) (a' := ?_) #[true, true, true, false, false, false, false, false, false, false] rfl rfl (by kernel_rfl) (fun _ _ _ h => h) (Or.inl ⟨by rfl, ?_⟩) hHeld ?_ ?_
         rotate_left
         ·rintro w' ⟨s0, s1⟩
          go_simp
          with_reducible rfl
         rotate_left
         ·simp only [Act.put, sA, sB, sC, i64_w, i32_w]
          rfl
         refine pure_ (i := 3) (N := (some 62)) (v := ?_) (a' := ?_) #[true, true, true, true, false, false, false, false, false, false] rfl rfl (by kernel_rfl) (fun _ _ _ h => h) (Or.inl ⟨by rfl, ?_⟩) ?_ ?_
         rotate_left
         ·intro w'
          go_simp
          try simp only [i64_w, hu_]
          with_reducible rfl
         rotate_left
         ·simp only [Act.put, sA, sB, sC, i64_w, i32_w]
          rfl
         refine pure_ (i := 4) (N := (some 63)) (v := ?_) (a' := ?_) #[true, true, true, true, true, false, false, false, false, false] rfl rfl (by kernel_rfl) (fun _ _ _ h => h) (Or.inl ⟨by rfl, ?_⟩) ?_ ?_
         rotate_left
         ·intro w'
          go_simp
          with_reducible rfl
         rotate_left
         ·simp only [Act.put, sA, sB, sC, i64_w, i32_w]
          rfl
         refine pure_ (i := 5) (N := (some 64)) (v := ?_) (a' := ?_) #[true, true, true, true, true, true, false, false, false, false] rfl rfl (by kernel_rfl) (fun _ _ _ h => h) (Or.inl ⟨by rfl, ?_⟩) ?_ ?_
         rotate_left
         ·intro w'
          go_simp
          with_reducible rfl
         rotate_left
         ·simp only [Act.put, sA, sB, sC, i64_w, i32_w]
          rfl
         refine take_ (i := 6) (N := (some 65)) (v := ?_) (a' := ?_) #[true, true, true, true, true, true, true, false, false, false] rfl rfl (by kernel_rfl) (fun _ _ _ h => h) (Or.inl ⟨by rfl, ?_⟩) hHeld ?_ ?_
         rotate_left
         ·rintro w' ⟨s0, s1⟩
          go_simp
          with_reducible rfl
         rotate_left
         ·simp only [Act.put, sA, sB, sC, i64_w, i32_w]
          rfl
         refine pure_ (i := 7) (N := (some 66)) (v := ?_) (a' := ?_) #[true, true, true, true, true, true, true, true, false, false] rfl rfl (by kernel_rfl) (fun _ _ _ h => h) (Or.inl ⟨by rfl, ?_⟩) ?_ ?_
         rotate_left
         ·intro w'
          go_simp
          try simp only [i64_w, hv_]
          with_reducible rfl
         rotate_left
         ·simp only [Act.put, sA, sB, sC, i64_w, i32_w]
          rfl
         refine pure_ (i := 8) (N := (some 19)) (v := ?_) (a' := ?_) #[true, true, true, true, true, true, true, true, true, false] rfl rfl (by kernel_rfl) (fun _ _ _ h => h) (Or.inl ⟨by rfl, ?_⟩) ?_ ?_
         rotate_left
         ·intro w'
          go_simp
          with_reducible rfl
         rotate_left
         ·simp only [Act.put, sA, sB, sC, i64_w, i32_w]
          rfl
         refine pure_ (i := 9) (N := (some 20)) (v := ?_) (a' := ?_) #[true, true, true, true, true, true, true, true, true, true] rfl rfl (by kernel_rfl) (fun _ _ _ h => h) (Or.inl ⟨by rfl, ?_⟩) ?_ ?_
         rotate_left
         ·intro w'
          go_simp
          with_reducible rfl
         rotate_left
         ·simp only [Act.put, sA, sB, sC, i64_w, i32_w]
          rfl
         refine done_ (by kernel_rfl) ?_
         clear hu_ hv_
         obtain ⟨kf, hkf⟩ : ∃ kf, kn2.getD f false = kf := ⟨_, rfl⟩
         have HKF := Aside0.mk hkf
         have hbf : 0 ≤ (f : Int) ∧ (f : Int) < (n : Int) := by omega
         have ck_ : ∀ o, (World.alloc w5 o).cell? ⟨xk, f, none⟩ = some (.bool kf) := fun o => by rw [← hkf]; exact (HM4.out.alloc o).cellK (by rw [HLn.out.2]; exact hf)
         have cx_ := cell_of_two HX.out
         obtain ⟨d0_, d1_⟩ := cx_
         clear hkf
         obtain ⟨e1, he1⟩ : ∃ e, wrap64 (wrap64 (wrap64 (2 * (x : Int)) + 1) + dx) = e := ⟨_, rfl⟩
         obtain ⟨e2, he2⟩ : ∃ e, wrap64 (wrap64 (wrap64 (2 * (y : Int)) + 1) + dy) = e := ⟨_, rfl⟩
         have HE : Aside0 (e1 = 2 * (x : Int) + 1 + dx ∧ e2 = 2 * (y : Int) + 1 + dy) := ⟨by have := HW.out; exact ⟨by rw [← he1]; exact wrap3 x dx (by omega) hd1.1 hd1.2.1, by rw [← he2]; exact wrap3 y dy (by omega) hd1.2.2.1 hd1.2.2.2⟩⟩
         have HV : Aside0 (owStep W H ls f j (out2, kn2, ag2) = if (!kf && (openB ls e1 e2 && (decide (u < 0) || decide (v < 0) || decide ((W : Int) ≤ u) || decide ((H : Int) ≤ v) || kn2.getD (v * (W : Int) + u).toNat false))) = true then (out2.set f ⟨e1, e2⟩, kn2.set f true, true) else (out2, kn2, ag2)) := ⟨by rw [HE.out.1, HE.out.2, ← HKF.out]; exact owStep_val HXY.out.1 HXY.out.2 HD.out.1 HD.out.2 HUV.out.1 HUV.out.2⟩
         obtain ⟨ob, hob⟩ : ∃ ob, openB ls e1 e2 = ob := ⟨_, rfl⟩
         have HOB := Aside0.mk hob
         clear hob
         have hway : u < 0 ∨ (¬ u < 0 ∧ v < 0) ∨ (¬ u < 0 ∧ ¬ v < 0 ∧ (W : Int) ≤ u) ∨ (¬ u < 0 ∧ ¬ v < 0 ∧ ¬ (W : Int) ≤ u ∧ (H : Int) ≤ v) ∨ (¬ u < 0 ∧ ¬ v < 0 ∧ ¬ (W : Int) ≤ u ∧ ¬ (H : Int) ≤ v) := by omega
         rcases hway with h1 | ⟨h1, h2⟩ | ⟨h1, h2, h3⟩ | ⟨h1, h2, h3, h4⟩ | ⟨h1, h2, h3, h4⟩
         ·cases kf with
          | true =>
           go_wp2
           go_roundw
           case rel => exact ⟨j + 1, m2, out2, kn2, ag2, rfl, by go_num, by omega, HLn, ⟨by have h_ := HS1.out; rw [HV.out, if_neg (by simp)] at h_; exact h_⟩, ⟨HM4.out.alloc _⟩⟩
           case measure => simp [intOf]; omega
          | false =>
           go_wp2_with fail
           (try rw [he1])
           (try rw [he2])
           refine (open_calls e1 e2 bL A2 c2 ls _ (HM4.out.alloc _).hL (Kd.C_below HR.out (HM4.out.alloc _).hb) HC.out HL.out).mono ?_
           rintro e w6 ⟨rfl, hb6⟩
           have HM6 := Aside0.mk ((HM4.out.alloc (.cells #[.int .i64 e1, .int .i64 e2] 39 (0, 0))).below hb6)
           have HX6 := Aside0.mk (blk_below (blk_new w5 (.cells #[.int .i64 e1, .int .i64 e2] 39 (0, 0))) hb6)
           clear hb6 ck_ d0_ d1_ he1 he2
           rw [HOB.out]
           generalize w5.heap.size = gc at HX6 ⊢
           cases ob with
           | false =>
            go_wp2
            go_roundw
            case rel => exact ⟨j + 1, m2, out2, kn2, ag2, rfl, by go_num, by omega, HLn, ⟨by have h_ := HS1.out; rw [HV.out, HOB.out, if_neg (by simp)] at h_; exact h_⟩, ⟨HM6.out⟩⟩
            case measure => simp [intOf]; omega
           | true =>
            obtain ⟨x0_, x1_⟩ := cell_of_two HX6.out
            have ck6_ : w6.cell? ⟨xk, f, none⟩ = some (.bool false) := by rw [← HKF.out]; exact HM6.out.cellK (by rw [HLn.out.2]; exact hf)
            have hfi : f * 2 + [Value.int .i64 e1, Value.int .i64 e2].length ≤ (encC out2).toArray.size := by rw [List.size_toArray, encC_length, HLn.out.1]; simp; omega
            have HFI := Aside0.mk hfi
            clear hfi
            go_wp2_with (first | ((with_reducible refine gate_store (t := 39) (p := 124) (v := .tmp 123) rfl ?_); refine storeOp rfl rfl 39 (.tmp 124) (.tmp 123) rfl xo (f * 2) (.agg #[.int .i64 e1, .int .i64 e2]) [.int .i64 e1, .int .i64 e2] ?ha rfl rfl rfl (by simp [Value.oneCell']) HM6.out.ho HFI.out ?_; (case ha => first | rfl | (go_simp; done) | (go_simp; rfl)); intro w7 hw; have HM7 : Aside0 (OW w w7 bL xo xk xs (.slice A2 ls.length c2) (out2.set f ⟨e1, e2⟩) kn2) := ⟨by rw [hw]; exact HM6.out.setO (by rw [HLn.out.1]; exact hf) ⟨e1, e2⟩⟩; have ck7_ := HM7.out.cellK (f := f) (by rw [HLn.out.2]; exact hf); have fk7_ := HM7.out.freeK f; clear hw x0_ x1_ ck6_))
            go_roundw
            case rel => exact ⟨j + 1, m2, out2.set f ⟨e1, e2⟩, kn2.set f true, true, rfl, by go_num, by omega, ⟨by rw [List.length_set, List.length_set]; exact HLn.out⟩, ⟨by have h_ := HS1.out; rw [HV.out, HOB.out, if_pos (by simp [h1])] at h_; exact h_⟩, ⟨HM7.out.setK (by rw [HLn.out.2]; exact hf)⟩⟩
            case measure => simp [intOf]; omega
         ·cases kf with
          | true =>
           go_wp2
           go_roundw
           case rel => exact ⟨j + 1, m2, out2, kn2, ag2, rfl, by go_num, by omega, HLn, ⟨by have h_ := HS1.out; rw [HV.out, if_neg (by simp)] at h_; exact h_⟩, ⟨HM4.out.alloc _⟩⟩
           case measure => simp [intOf]; omega
          | false =>
           go_wp2_with fail
           (try rw [he1])
           (try rw [he2])
           refine (open_calls e1 e2 bL A2 c2 ls _ (HM4.out.alloc _).hL (Kd.C_below HR.out (HM4.out.alloc _).hb) HC.out HL.out).mono ?_
           rintro e w6 ⟨rfl, hb6⟩
           have HM6 := Aside0.mk ((HM4.out.alloc (.cells #[.int .i64 e1, .int .i64 e2] 39 (0, 0))).below hb6)
           have HX6 := Aside0.mk (blk_below (blk_new w5 (.cells #[.int .i64 e1, .int .i64 e2] 39 (0, 0))) hb6)
           clear hb6 ck_ d0_ d1_ he1 he2
           rw [HOB.out]
           generalize w5.heap.size = gc at HX6 ⊢
           cases ob with
           | false =>
            go_wp2
            go_roundw
            case rel => exact ⟨j + 1, m2, out2, kn2, ag2, rfl, by go_num, by omega, HLn, ⟨by have h_ := HS1.out; rw [HV.out, HOB.out, if_neg (by simp)] at h_; exact h_⟩, ⟨HM6.out⟩⟩
            case measure => simp [intOf]; omega
           | true =>
            obtain ⟨x0_, x1_⟩ := cell_of_two HX6.out
            have ck6_ : w6.cell? ⟨xk, f, none⟩ = some (.bool false) := by rw [← HKF.out]; exact HM6.out.cellK (by rw [HLn.out.2]; exact hf)
            have hfi : f * 2 + [Value.int .i64 e1, Value.int .i64 e2].length ≤ (encC out2).toArray.size := by rw [List.size_toArray, encC_length, HLn.out.1]; simp; omega
            have HFI := Aside0.mk hfi
            clear hfi
            go_wp2_with (first | ((with_reducible refine gate_store (t := 39) (p := 124) (v := .tmp 123) rfl ?_); refine storeOp rfl rfl 39 (.tmp 124) (.tmp 123) rfl xo (f * 2) (.agg #[.int .i64 e1, .int .i64 e2]) [.int .i64 e1, .int .i64 e2] ?ha rfl rfl rfl (by simp [Value.oneCell']) HM6.out.ho HFI.out ?_; (case ha => first | rfl | (go_simp; done) | (go_simp; rfl)); intro w7 hw; have HM7 : Aside0 (OW w w7 bL xo xk xs (.slice A2 ls.length c2) (out2.set f ⟨e1, e2⟩) kn2) := ⟨by rw [hw]; exact HM6.out.setO (by rw [HLn.out.1]; exact hf) ⟨e1, e2⟩⟩; have ck7_ := HM7.out.cellK (f := f) (by rw [HLn.out.2]; exact hf); have fk7_ := HM7.out.freeK f; clear hw x0_ x1_ ck6_))
            go_roundw
            case rel => exact ⟨j + 1, m2, out2.set f ⟨e1, e2⟩, kn2.set f true, true, rfl, by go_num, by omega, ⟨by rw [List.length_set, List.length_set]; exact HLn.out⟩, ⟨by have h_ := HS1.out; rw [HV.out, HOB.out, if_pos (by simp [h1, h2])] at h_; exact h_⟩, ⟨HM7.out.setK (by rw [HLn.out.2]; exact hf)⟩⟩
            case measure => simp [intOf]; omega
         ·cases kf with
          | true =>
           go_wp2
           go_roundw
           case rel => exact ⟨j + 1, m2, out2, kn2, ag2, rfl, by go_num, by omega, HLn, ⟨by have h_ := HS1.out; rw [HV.out, if_neg (by simp)] at h_; exact h_⟩, ⟨HM4.out.alloc _⟩⟩
           case measure => simp [intOf]; omega
          | false =>
           go_wp2_with fail
           (try rw [he1])
           (try rw [he2])
           refine (open_calls e1 e2 bL A2 c2 ls _ (HM4.out.alloc _).hL (Kd.C_below HR.out (HM4.out.alloc _).hb) HC.out HL.out).mono ?_
           rintro e w6 ⟨rfl, hb6⟩
           have HM6 := Aside0.mk ((HM4.out.alloc (.cells #[.int .i64 e1, .int .i64 e2] 39 (0, 0))).below hb6)
           have HX6 := Aside0.mk (blk_below (blk_new w5 (.cells #[.int .i64 e1, .int .i64 e2] 39 (0, 0))) hb6)
           clear hb6 ck_ d0_ d1_ he1 he2
           rw [HOB.out]
           generalize w5.heap.size = gc at HX6 ⊢
           cases ob with
           | false =>
            go_wp2
            go_roundw
            case rel => exact ⟨j + 1, m2, out2, kn2, ag2, rfl, by go_num, by omega, HLn, ⟨by have h_ := HS1.out; rw [HV.out, HOB.out, if_neg (by simp)] at h_; exact h_⟩, ⟨HM6.out⟩⟩
            case measure => simp [intOf]; omega
           | true =>
            obtain ⟨x0_, x1_⟩ := cell_of_two HX6.out
            have ck6_ : w6.cell? ⟨xk, f, none⟩ = some (.bool false) := by rw [← HKF.out]; exact HM6.out.cellK (by rw [HLn.out.2]; exact hf)
            have hfi : f * 2 + [Value.int .i64 e1, Value.int .i64 e2].length ≤ (encC out2).toArray.size := by rw [List.size_toArray, encC_length, HLn.out.1]; simp; omega
            have HFI := Aside0.mk hfi
            clear hfi
            go_wp2_with (first | ((with_reducible refine gate_store (t := 39) (p := 124) (v := .tmp 123) rfl ?_); refine storeOp rfl rfl 39 (.tmp 124) (.tmp 123) rfl xo (f * 2) (.agg #[.int .i64 e1, .int .i64 e2]) [.int .i64 e1, .int .i64 e2] ?ha rfl rfl rfl (by simp [Value.oneCell']) HM6.out.ho HFI.out ?_; (case ha => first | rfl | (go_simp; done) | (go_simp; rfl)); intro w7 hw; have HM7 : Aside0 (OW w w7 bL xo xk xs (.slice A2 ls.length c2) (out2.set f ⟨e1, e2⟩) kn2) := ⟨by rw [hw]; exact HM6.out.setO (by rw [HLn.out.1]; exact hf) ⟨e1, e2⟩⟩; have ck7_ := HM7.out.cellK (f := f) (by rw [HLn.out.2]; exact hf); have fk7_ := HM7.out.freeK f; clear hw x0_ x1_ ck6_))
            go_roundw
            case rel => exact ⟨j + 1, m2, out2.set f ⟨e1, e2⟩, kn2.set f true, true, rfl, by go_num, by omega, ⟨by rw [List.length_set, List.length_set]; exact HLn.out⟩, ⟨by have h_ := HS1.out; rw [HV.out, HOB.out, if_pos (by simp [h1, h2, h3])] at h_; exact h_⟩, ⟨HM7.out.setK (by rw [HLn.out.2]; exact hf)⟩⟩
            case measure => simp [intOf]; omega
         ·cases kf with
          | true =>
           go_wp2
           go_roundw
           case rel => exact ⟨j + 1, m2, out2, kn2, ag2, rfl, by go_num, by omega, HLn, ⟨by have h_ := HS1.out; rw [HV.out, if_neg (by simp)] at h_; exact h_⟩, ⟨HM4.out.alloc _⟩⟩
           case measure => simp [intOf]; omega
          | false =>
           go_wp2_with fail
           (try rw [he1])
           (try rw [he2])
           refine (open_calls e1 e2 bL A2 c2 ls _ (HM4.out.alloc _).hL (Kd.C_below HR.out (HM4.out.alloc _).hb) HC.out HL.out).mono ?_
           rintro e w6 ⟨rfl, hb6⟩
           have HM6 := Aside0.mk ((HM4.out.alloc (.cells #[.int .i64 e1, .int .i64 e2] 39 (0, 0))).below hb6)
           have HX6 := Aside0.mk (blk_below (blk_new w5 (.cells #[.int .i64 e1, .int .i64 e2] 39 (0, 0))) hb6)
           clear hb6 ck_ d0_ d1_ he1 he2
           rw [HOB.out]
           generalize w5.heap.size = gc at HX6 ⊢
           cases ob with
           | false =>
            go_wp2
            go_roundw
            case rel => exact ⟨j + 1, m2, out2, kn2, ag2, rfl, by go_num, by omega, HLn, ⟨by have h_ := HS1.out; rw [HV.out, HOB.out, if_neg (by simp)] at h_; exact h_⟩, ⟨HM6.out⟩⟩
            case measure => simp [intOf]; omega
           | true =>
            obtain ⟨x0_, x1_⟩ := cell_of_two HX6.out
            have ck6_ : w6.cell? ⟨xk, f, none⟩ = some (.bool false) := by rw [← HKF.out]; exact HM6.out.cellK (by rw [HLn.out.2]; exact hf)
            have hfi : f * 2 + [Value.int .i64 e1, Value.int .i64 e2].length ≤ (encC out2).toArray.size := by rw [List.size_toArray, encC_length, HLn.out.1]; simp; omega
            have HFI := Aside0.mk hfi
            clear hfi
            go_wp2_with (first | ((with_reducible refine gate_store (t := 39) (p := 124) (v := .tmp 123) rfl ?_); refine storeOp rfl rfl 39 (.tmp 124) (.tmp 123) rfl xo (f * 2) (.agg #[.int .i64 e1, .int .i64 e2]) [.int .i64 e1, .int .i64 e2] ?ha rfl rfl rfl (by simp [Value.oneCell']) HM6.out.ho HFI.out ?_; (case ha => first | rfl | (go_simp; done) | (go_simp; rfl)); intro w7 hw; have HM7 : Aside0 (OW w w7 bL xo xk xs (.slice A2 ls.length c2) (out2.set f ⟨e1, e2⟩) kn2) := ⟨by rw [hw]; exact HM6.out.setO (by rw [HLn.out.1]; exact hf) ⟨e1, e2⟩⟩; have ck7_ := HM7.out.cellK (f := f) (by rw [HLn.out.2]; exact hf); have fk7_ := HM7.out.freeK f; clear hw x0_ x1_ ck6_))
            go_roundw
            case rel => exact ⟨j + 1, m2, out2.set f ⟨e1, e2⟩, kn2.set f true, true, rfl, by go_num, by omega, ⟨by rw [List.length_set, List.length_set]; exact HLn.out⟩, ⟨by have h_ := HS1.out; rw [HV.out, HOB.out, if_pos (by simp [h1, h2, h3, h4])] at h_; exact h_⟩, ⟨HM7.out.setK (by rw [HLn.out.2]; exact hf)⟩⟩
            case measure => simp [intOf]; omega
         ·cases kf with
          | true =>
           go_wp2
           go_roundw
           case rel => exact ⟨j + 1, m2, out2, kn2, ag2, rfl, by go_num, by omega, HLn, ⟨by have h_ := HS1.out; rw [HV.out, if_neg (by simp)] at h_; exact h_⟩, ⟨HM4.out.alloc _⟩⟩
           case measure => simp [intOf]; omega
          | false =>
           go_wp2_with fail
           (try rw [he1])
           (try rw [he2])
           refine (open_calls e1 e2 bL A2 c2 ls _ (HM4.out.alloc _).hL (Kd.C_below HR.out (HM4.out.alloc _).hb) HC.out HL.out).mono ?_
           rintro e w6 ⟨rfl, hb6⟩
           have HM6 := Aside0.mk ((HM4.out.alloc (.cells #[.int .i64 e1, .int .i64 e2] 39 (0, 0))).below hb6)
           have HX6 := Aside0.mk (blk_below (blk_new w5 (.cells #[.int .i64 e1, .int .i64 e2] 39 (0, 0))) hb6)
           clear hb6 ck_ d0_ d1_ he1 he2
           rw [HOB.out]
           generalize w5.heap.size = gc at HX6 ⊢
           cases ob with
           | false =>
            go_wp2
            go_roundw
            case rel => exact ⟨j + 1, m2, out2, kn2, ag2, rfl, by go_num, by omega, HLn, ⟨by have h_ := HS1.out; rw [HV.out, HOB.out, if_neg (by simp)] at h_; exact h_⟩, ⟨HM6.out⟩⟩
            case measure => simp [intOf]; omega
           | true =>
            obtain ⟨x0_, x1_⟩ := cell_of_two HX6.out
            have ck6_ : w6.cell? ⟨xk, f, none⟩ = some (.bool false) := by rw [← HKF.out]; exact HM6.out.cellK (by rw [HLn.out.2]; exact hf)
            have hfi : f * 2 + [Value.int .i64 e1, Value.int .i64 e2].length ≤ (encC out2).toArray.size := by rw [List.size_toArray, encC_length, HLn.out.1]; simp; omega
            have HFI := Aside0.mk hfi
            clear hfi
            have hvw := Int.mul_nonneg (show (0 : Int) ≤ v by omega) (show (0 : Int) ≤ W by omega)
            obtain ⟨g, hg⟩ : ∃ g : Nat, v * (W : Int) + u = (g : Int) := ⟨(v * (W : Int) + u).toNat, (Int.toNat_of_nonneg (by omega)).symm⟩
            have hgn : g < n := vw_lt HN.out (by omega) (by omega) (by omega) (by omega) hg
            have h112 : wrap64 (v * (W : Int)) = v * (W : Int) := wrapS _ (by omega) (by omega)
            have h114 : wrap64 (v * (W : Int) + u) = (g : Int) := by rw [hg]; exact wrapS _ (by omega) (by omega)
            clear hvw
            have hbg : 0 ≤ (g : Int) ∧ (g : Int) < (n : Int) := by omega
            obtain ⟨kg, hkg⟩ : ∃ kg, kn2.getD g false = kg := ⟨_, rfl⟩
            have cg6_ : w6.cell? ⟨xk, g, none⟩ = some (.bool kg) := by rw [← hkg]; exact HM6.out.cellK (by rw [HLn.out.2]; exact hgn)
            have HV2 := HV.out
            rw [hg, Int.toNat_natCast, hkg] at HV2
            have HV := Aside0.mk HV2
            clear HV2 hg hkg
            cases kg with
            | false =>
             go_wp2
             go_roundw
             case rel => exact ⟨j + 1, m2, out2, kn2, ag2, rfl, by go_num, by omega, HLn, ⟨by have h_ := HS1.out; rw [HV.out, HOB.out, if_neg (by simp [h1, h2, h3, h4])] at h_; exact h_⟩, ⟨HM6.out⟩⟩
             case measure => simp [intOf]; omega
            | true =>
             go_wp2_with (first | ((with_reducible refine gate_store (t := 39) (p := 124) (v := .tmp 123) rfl ?_); refine storeOp rfl rfl 39 (.tmp 124) (.tmp 123) rfl xo (f * 2) (.agg #[.int .i64 e1, .int .i64 e2]) [.int .i64 e1, .int .i64 e2] ?ha rfl rfl rfl (by simp [Value.oneCell']) HM6.out.ho HFI.out ?_; (case ha => first | rfl | (go_simp; done) | (go_simp; rfl)); intro w7 hw; have HM7 : Aside0 (OW w w7 bL xo xk xs (.slice A2 ls.length c2) (out2.set f ⟨e1, e2⟩) kn2) := ⟨by rw [hw]; exact HM6.out.setO (by rw [HLn.out.1]; exact hf) ⟨e1, e2⟩⟩; have ck7_ := HM7.out.cellK (f := f) (by rw [HLn.out.2]; exact hf); have fk7_ := HM7.out.freeK f; clear hw cg6_ x0_ x1_ ck6_))
             go_roundw
             case rel => exact ⟨j + 1, m2, out2.set f ⟨e1, e2⟩, kn2.set f true, true, rfl, by go_num, by omega, ⟨by rw [List.length_set, List.length_set]; exact HLn.out⟩, ⟨by have h_ := HS1.out; rw [HV.out, HOB.out, if_pos (by simp [h1, h2, h3, h4])] at h_; exact h_⟩, ⟨HM7.out.setK (by rw [HLn.out.2]; exact hf)⟩⟩
             case measure => simp [intOf]; omega
        ·obtain rfl : m2 = 0 := by omega
         have HF2 : Aside0 (owFaces W H ls m (out2, kn2, ag2) = owFaces W H ls n (out, kn, false)) := ⟨by have h_ := HS.out; rw [owSides] at h_; rw [h_]; exact HF1.out⟩
         go_wp2
         go_roundw
         case rel => exact ⟨f + 1, m, out2, kn2, ag2, rfl, by go_num, by omega, HLn, HF2, HM2⟩
         case measure => simp [intOf]; omega
      ·obtain rfl : m = 0 := by omega
       have HA2 : Aside0 (owAll W H ls k1 (out1, kn1, ag1) = some r) := ⟨by have h_ := HF.out; rw [owFaces] at h_; rw [h_]; exact HA1.out⟩
       go_wp2
       go_roundg k1
       case measure => omega
       case rel => exact ⟨out1, kn1, ag1, rfl, HLn, HA2, HM1⟩
theorem owAll_mono (W H : Nat) (ls : List S50) : ∀ (k : Nat) (s : OSt), LeO (owAll W H ls k s) (owAll W H ls (k + 1) s)
 | 0, s => LeO.none _
 | k + 1, s => by
  unfold owAll
  refine LeO.ite ?_ ?_
  ·exact owAll_mono W H ls k _
  ·exact LeO.refl _
def impl_outward.f (k : Nat) (a0 : Int) (a1 : Int) (l2 : List (S50)) : Option ((List (S39))) :=
 if 1 ≤ a0 ∧ a0 ≤ 4 ∧ 1 ≤ a1 ∧ a1 ≤ 4 ∧ l2.length < 4611686018427387904 then
  owAll (a0 - 1).toNat (a1 - 1).toNat l2 k (List.replicate ((a0 - 1).toNat * (a1 - 1).toNat) ⟨0, 0⟩, List.replicate ((a0 - 1).toNat * (a1 - 1).toNat) false, true)
 else none
theorem impl_outward.mono : ∀ a0 a1 l2 k, LeO (impl_outward.f k a0 a1 l2) (impl_outward.f (k + 1) a0 a1 l2) := by
 intro a0 a1 l2 k
 unfold impl_outward.f
 refine LeO.ite ?_ (LeO.refl _)
 exact owAll_mono _ _ _ _ _
theorem impl_outward.calls (k : Nat) (a0 : Int) (a1 : Int) (A2 : Option Addr) (c2 : Nat) (l2 : List (S50)) (r : List (S39)) (w : World) (hr2 : Kd.C k50 w A2 l2.length l2) (hc2 : l2.length ≤ c2) (h : impl_outward.f k a0 a1 l2 = some r) :
  Calls Try.prog 80 #[.int .i64 a0, .int .i64 a1, .slice A2 l2.length c2] w fun e w' => ∃ v0_ : Value, e = .returned (v0_) ∧ Kd.R k39 39 w' w.heap.size (fun _ => True) v0_ r ∧ Below w.heap.size w w' := by
 unfold impl_outward.f at h
 split at h
 ·rename_i hb
  obtain ⟨h1, h2, h3, h4, h5⟩ := hb
  generalize hW : (a0 - 1).toNat = W at h
  generalize hH : (a1 - 1).toNat = H at h
  have hW3 : W ≤ 3 := by omega
  have hH3 : H ≤ 3 := by omega
  have h9 : W * H ≤ 3 * 3 := Nat.mul_le_mul hW3 hH3
  have e : (W : Int) * (H : Int) = ((W * H : Nat) : Int) := by push_cast; rfl
  refine out_calls a0 a1 W H (W * H) (by unfold wrap64; omega) (by unfold wrap64; omega) ?_ rfl hW3 hH3 k A2 c2 l2 r w hr2 hc2 h5 h
  rw [e]
  exact wrapS _ (by omega) (by omega)
 ·cases h
mutual
def impl_TilingOfTree.l0 : Nat → Int → Int → List (S50) → List (S41) → List Int → Int → Int → Option ((List (S41)) × Bool)
 | 0, _, _, _, _, _, _, _ => none
 | k + 1, x0, x1, x2, x8, x30, x31, x32 => if x32 < x31 then (if 0 ≤ x32 then (if x32 < (x30.length : Int) then (if x32 = 0 then (impl_TilingOfTree.l0 k x0 x1 x2 x8 x30 x31 (wrap64 (x32 + 1))) else (if x0 = 0 then (none) else ((impl_DominoOver.f (wrap64 (2 * (Int.tmod x32 x0))) (wrap64 (2 * (wrap64 (Int.tdiv x32 x0)))) (wrap64 ((Int.tmod x32 x0) + (Int.tmod (rd x30 x32) x0))) (wrap64 ((wrap64 (Int.tdiv x32 x0)) + (wrap64 (Int.tdiv (rd x30 x32) x0))))).bind fun bt190 => (if x8.length < 5864062014805 then (impl_TilingOfTree.l0 k x0 x1 x2 (x8 ++ [(⟨bt190.1, bt190.2.1, bt190.2.2.1⟩ : S41)]) x30 x31 (wrap64 (x32 + 1))) else (none))))) else (none)) else (none)) else ((impl_outward.f k x0 x1 x2).bind fun t198 => (impl_TilingOfTree.l1 k x0 x8 t198 (t198.length : Int) 0))
def impl_TilingOfTree.l1 : Nat → Int → List (S41) → List (S39) → Int → Int → Option ((List (S41)) × Bool)
 | 0, _, _, _, _, _ => none
 | k + 1, x0, x8, x75, x76, x77 => if x77 < x76 then (if 0 ≤ x77 then (if x77 < (x75.length : Int) then (if (wrap64 (x0 - 1)) = 0 then (none) else ((impl_DominoOver.f (wrap64 ((wrap64 (2 * (Int.tmod x77 (wrap64 (x0 - 1))))) + 1)) (wrap64 ((wrap64 (2 * (wrap64 (Int.tdiv x77 (wrap64 (x0 - 1)))))) + 1)) ((rd_T39 x75 x77).f0) ((rd_T39 x75 x77).f1)).bind fun bt203 => (if x8.length < 5864062014805 then (impl_TilingOfTree.l1 k x0 (x8 ++ [(⟨bt203.1, bt203.2.1, bt203.2.2.1⟩ : S41)]) x75 x76 (wrap64 (x77 + 1))) else (none)))) else (none)) else (none)) else ((impl_SortDominoes.f k x8).bind fun t211 => (some (t211, true)))
end
def impl_TilingOfTree.f (k : Nat) (a0 : Int) (a1 : Int) (l2 : List (S50)) : Option ((List (S41)) × Bool) := (impl_IsTree.f k a0 a1 l2).bind fun t182 => (if t182 = true then ((impl_rooted.f k a0 a1 l2).bind fun t186 => (impl_TilingOfTree.l0 k a0 a1 l2 (([] : List (S41))) t186 (t186.length : Int) 0)) else (some (([] : List (S41)), false)))
theorem impl_TilingOfTree.mono_l : ∀ k, (∀ y0 y1 y2 y3 y4 y5 y6, LeO (impl_TilingOfTree.l0 k y0 y1 y2 y3 y4 y5 y6) (impl_TilingOfTree.l0 (k + 1) y0 y1 y2 y3 y4 y5 y6)) ∧ (∀ y0 y1 y2 y3 y4, LeO (impl_TilingOfTree.l1 k y0 y1 y2 y3 y4) (impl_TilingOfTree.l1 (k + 1) y0 y1 y2 y3 y4))
 | 0 => ⟨fun _ _ _ _ _ _ _ r h => by simp [impl_TilingOfTree.l0] at h, fun _ _ _ _ _ r h => by simp [impl_TilingOfTree.l1] at h⟩
 | k + 1 => by
  obtain ⟨ih0, ih1⟩ := impl_TilingOfTree.mono_l k
  refine ⟨?_, ?_⟩
  ·intro y0 y1 y2 y3 y4 y5 y6
   unfold impl_TilingOfTree.l0
   repeat' with_reducible first
   | exact ih0 _ _ _ _ _ _ _
   | exact ih1 _ _ _ _ _
   | exact impl_IsTree.mono _ _ _ _
   | exact impl_SortDominoes.mono _ _
   | exact impl_outward.mono _ _ _ _
   | exact impl_rooted.mono _ _ _ _
   | exact LeO.refl _
   | exact LeO.none _
   | refine LeO.ite ?_ ?_
   | refine LeO.bind ?_ (fun _ => ?_)
  ·intro y0 y1 y2 y3 y4
   unfold impl_TilingOfTree.l1
   repeat' with_reducible first
   | exact ih0 _ _ _ _ _ _ _
   | exact ih1 _ _ _ _ _
   | exact impl_IsTree.mono _ _ _ _
   | exact impl_SortDominoes.mono _ _
   | exact impl_outward.mono _ _ _ _
   | exact impl_rooted.mono _ _ _ _
   | exact LeO.refl _
   | exact LeO.none _
   | refine LeO.ite ?_ ?_
   | refine LeO.bind ?_ (fun _ => ?_)
theorem impl_TilingOfTree.mono : ∀ a0 a1 a2 k, LeO (impl_TilingOfTree.f k a0 a1 a2) (impl_TilingOfTree.f (k + 1) a0 a1 a2) := by
 intro a0 a1 a2 k
 obtain ⟨ih0, ih1⟩ := impl_TilingOfTree.mono_l k
 unfold impl_TilingOfTree.f
 repeat' first
   | (with_reducible exact ih0 _ _ _ _ _ _ _)
   | (with_reducible exact ih1 _ _ _ _ _)
   | (with_reducible exact impl_IsTree.mono _ _ _ _)
   | (with_reducible exact impl_SortDominoes.mono _ _)
   | (with_reducible exact impl_outward.mono _ _ _ _)
   | (with_reducible exact impl_rooted.mono _ _ _ _)
   | (with_reducible exact LeO.refl _)
   | (with_reducible exact LeO.none _)
   | (with_reducible refine LeO.ite ?_ ?_)
   | (with_reducible refine LeO.bind ?_ (fun _ => ?_))
   | exact ih0 _ _ _ _ _ _ _
   | exact ih1 _ _ _ _ _
   | exact impl_IsTree.mono _ _ _ _
   | exact impl_SortDominoes.mono _ _
   | exact impl_outward.mono _ _ _ _
   | exact impl_rooted.mono _ _ _ _
   | exact LeO.none _
   | refine LeO.ite ?_ ?_
   | refine LeO.bind ?_ (fun _ => ?_)
def impl_TilingOfTree.T8 : Bool × List (List Nat × List Nat) := (true, [([], []), ([], []), ([0, 1], [0, 1]), ([], []), ([], []), ([3, 4], [3, 4]), ([], []), ([], []), ([6, 7], [6, 7]), ([], []), ([], []), ([9, 10], [9, 10]), ([2, 0, 1, 2], [2]), ([5, 12, 0, 1, 2, 3, 4, 5, 12], [5]), ([8, 13, 0, 1, 2, 3, 4, 5, 6, 7, 8, 12, 13], [8]), ([11, 14, 0, 1, 2, 3, 4, 5, 6, 7, 8, 9, 10, 11, 12, 13, 14], [11])])
def impl_TilingOfTree.B8 : List Nat := [0, 0, 3, 0, 0, 24, 0, 0, 192, 0, 0, 1536, 7, 4159, 12799, 32767]
theorem impl_TilingOfTree.tab8 : rtab .any (opsOf Try.f23 8) = impl_TilingOfTree.T8 := by kernel_rfl
theorem impl_TilingOfTree.bits8 : waitsOk impl_TilingOfTree.T8.2 impl_TilingOfTree.B8 = true := by kernel_rfl
def impl_TilingOfTree.T15 : Bool × List (List Nat × List Nat) := (true, [([], []), ([], []), ([1], [1]), ([0, 2], [0, 2]), ([3], [3]), ([4], [4]), ([], []), ([], []), ([7], [7]), ([6, 8], [6, 8]), ([9], [9]), ([10], [10]), ([5, 11], [5, 11]), ([], []), ([12, 13], [12, 13]), ([14], [14]), ([15], [15]), ([15], [15]), ([], []), ([18, 16, 14, 0, 1, 2, 3, 4, 5, 6, 7, 8, 9, 10, 11, 12, 13, 14, 15, 16, 18], [16, 18]), ([17, 19, 0, 1, 2, 3, 4, 5, 6, 7, 8, 9, 10, 11, 12, 13, 14, 15, 16, 17, 18, 19], [17])])
def impl_TilingOfTree.B15 : List Nat := [0, 0, 2, 7, 15, 31, 0, 0, 128, 448, 960, 1984, 4095, 0, 16383, 32767, 65535, 65535, 0, 393215, 1048575]
theorem impl_TilingOfTree.tab15 : rtab .any (opsOf Try.f23 15) = impl_TilingOfTree.T15 := by kernel_rfl
theorem impl_TilingOfTree.bits15 : waitsOk impl_TilingOfTree.T15.2 impl_TilingOfTree.B15 = true := by kernel_rfl
set_option maxHeartbeats 8000000 in
set_option maxRecDepth 100000 in
theorem impl_TilingOfTree.calls (k : Nat) (a0 : Int) (a1 : Int) (A2 : Option Addr) (c2 : Nat) (l2 : List (S50)) (r1 : List (S41)) (r2 : Bool) (w : World) (hr2 : Kd.C k50 w A2 l2.length l2) (hc2 : l2.length ≤ c2) (h : impl_TilingOfTree.f k a0 a1 l2 = some (r1, r2)) :
  Calls Try.prog 23 #[.int .i64 a0, .int .i64 a1, .slice A2 l2.length c2] w fun e w' => ∃ v0_ : Value, e = .returned (.tuple #[v0_, .bool r2]) ∧ Kd.R k41 41 w' w.heap.size (fun _ => True) v0_ r1 ∧ Below w.heap.size w w' := by
 have hu39 := Try.underlying39
 have hu41 := Try.underlying41
 have HR2 := Aside0.mk hr2
 have HC2 := Aside0.mk hc2
 clear hr2 hc2
 have HB := Aside0.mk (Below.refl w.heap.size w)
 have H : ((impl_IsTree.f k a0 a1 l2).bind fun t182 => (if t182 = true then ((impl_rooted.f k a0 a1 l2).bind fun t186 => (impl_TilingOfTree.l0 k a0 a1 l2 (([] : List (S41))) t186 (t186.length : Int) 0)) else (some (([] : List (S41)), false)))) = some (r1, r2) := h
 clear h
 replace H := Option.bind_eq_some_iff.mp H
 obtain ⟨t182, A40, H⟩ := H
 replace H : (if t182 = true then ((impl_rooted.f k a0 a1 l2).bind fun t186 => (impl_TilingOfTree.l0 k a0 a1 l2 (([] : List (S41))) t186 (t186.length : Int) 0)) else (some (([] : List (S41)), false))) = some (r1, r2) := H
 have A4 := Aside0.mk A40
 clear A40
 by_cases c5 : t182 = true
 ·subst c5
  have H1 : ((impl_rooted.f k a0 a1 l2).bind fun t186 => (impl_TilingOfTree.l0 k a0 a1 l2 (([] : List (S41))) t186 (t186.length : Int) 0)) = some (r1, r2) := by rw [if_pos rfl] at H; exact H
  clear H
  have H := H1
  clear H1
  obtain ⟨y183, hy183⟩ : ∃ y_ : List (S41), y_ = (([] : List (S41))) := ⟨_, rfl⟩
  replace H : ((impl_rooted.f k a0 a1 l2).bind fun t186 => (impl_TilingOfTree.l0 k a0 a1 l2 y183 t186 (t186.length : Int) 0)) = some (r1, r2) := by first | (rw [hy183]; with_reducible exact H) | (have H2_ := (Option.bind_some _ _).symm.trans H; rw [hy183]; with_reducible exact H2_) | (have H2_ := (Option.bind_some _ _).symm.trans H; with_reducible exact H2_) | with_reducible exact H | (rw [hy183]; exact H) | exact H
  have Ny183 := Aside0.mk hy183
  clear hy183
  replace H := Option.bind_eq_some_iff.mp H
  obtain ⟨t186, A60, H⟩ := H
  replace H : (impl_TilingOfTree.l0 k a0 a1 l2 y183 t186 (t186.length : Int) 0) = some (r1, r2) := H
  have A6 := Aside0.mk A60
  clear A60
  have H' := Aside0.mk H
  clear H
  go_enter Try.func23, Try.ntmps23
  go_wp2_with (first | ((with_reducible refine gate_callee (f := 77) rfl ?_); refine goesL_ (some 24) rfl rfl Try.func77 (by kernel_rfl) rfl #[.int .i64 a0, .int .i64 a1, .slice A2 l2.length c2] rfl (by (try simp only [sD, sE, sF]); first | done | rfl) ?_; (with_reducible refine (impl_IsTree.calls k a0 a1 _ _ l2 true _ ?side1 ?side2 A4.out).mono ?_); (case side1 => repeat (first | exact HR2.out | (with_reducible refine Kd.C_alloc ?_ _) | (with_reducible refine Kd.C_drewN ?_ _) | (with_reducible refine Kd.C_drew ?_))); (case side2 => exact HC2.out); rintro e w7 ⟨rfl, hb⟩; refine ⟨_, rfl, ?_⟩; have n0_ := Aside0.mk (below_step (bX HB.out) hb); clear HB; have HB := n0_; clear n0_; (try clear hb); (try clear hb2); (try clear hk); (try clear hi)) | ((with_reducible refine gate_dst (N := 26) rfl ?_); refine Kd.R_lit k41 _ 41 ?hg (N := 26) ?hd (xs := ([] : List (S41))) (inner := []) (ok := fun _ => True) (okp := fun _ => True) ?hr ?hp (fun _ hk => hk) trivial (Below.refl _ _) (Nat.le_refl _) (by simp) ?_; (case hd => rfl); (case hg => rfl); (case hr => first | (go_simp; done) | (go_simp; rfl)); (case hp => exact (Reps.none _ _)); intro v184 w8 ho9 hb hg_ hnew_; clear hg_ hnew_; (first | rw [← Ny183.out] at ho9 | (simp only [Int.reduceToNat] at ho9; rw [← Ny183.out] at ho9)); have n0_ := Aside0.mk (Kd.R_lower ho9 (below_size (bX HB.out))); have n1_ := Aside0.mk (below_step (bX HB.out) hb); clear HB; have HO185 := n0_; have HB := n1_; clear n0_ n1_; clear hb ho9) | ((with_reducible refine gate_callee (f := 78) rfl ?_); refine goesL_ (some 30) rfl rfl Try.func78 (by kernel_rfl) rfl #[.int .i64 a0, .int .i64 a1, .slice A2 l2.length c2] rfl (by (try simp only [sD, sE, sF]); first | done | rfl) ?_; (with_reducible refine (impl_rooted.calls k a0 a1 _ _ l2 t186 _ ?side1 ?side2 A6.out).mono ?_); (case side1 => repeat (first | exact (Kd.C_below HR2.out HB.out) | (with_reducible refine Kd.C_alloc ?_ _) | (with_reducible refine Kd.C_drewN ?_ _) | (with_reducible refine Kd.C_drew ?_))); (case side2 => exact HC2.out); rintro e w10 ⟨v187, rfl, ho0, hb⟩; refine ⟨_, rfl, ?_⟩; have n0_ := Aside0.mk (Kd.R_below (rX HO185.out) hb); have n1_ := Aside0.mk (Kd.R_lower ho0 (below_size (bX HB.out))); have n2_ := Aside0.mk (below_step (bX HB.out) hb); clear HO185; clear HB; have HO185 := n0_; have HO188 := n1_; have HB := n2_; clear n0_ n1_ n2_; (try clear hb); (try clear hb2); (try clear hk); (try clear hi); (try clear ho0); obtain ⟨Ao11, co11, eo11⟩ := Kd.R_slice HO188.out; subst eo11))
  go_loopg [8, 32] k (fun kq v8 v32 w' => ∃ (x8_1 : List (S41)) (x32_1 : Int), v32 = .int .i64 x32_1 ∧ Aside0 (impl_TilingOfTree.l0 kq a0 a1 l2 x8_1 t186 (t186.length : Int) x32_1 = some (r1, r2)) ∧ Aside0 (kq ≤ k) ∧ Aside0 (Kd.R k41 41 w' w.heap.size (fun _ => True) v8 x8_1) ∧ Aside0 (Kd.R (Kd.int .i64) 3 w' w.heap.size (fun _ => True) (.slice Ao11 t186.length co11) t186) ∧ Aside0 (Below w.heap.size w w'))
  case atStart => exact ⟨(y183), (0), (by first | rfl | (simp; done) | (simp [*]; done)), H', ⟨Nat.le_refl _⟩, ⟨rX HO185.out⟩, ⟨rX HO188.out⟩, ⟨bX HB.out⟩⟩
  case round =>
   clear H'
   try clear c2
   try clear p2
   try clear c5
   try clear c7
   obtain ⟨x8_1, x32_1, rfl, HA, HK1, HO_8, HO_30, HB⟩ := hrel
   cases gk with
   | zero => exact absurd HA.out (by simp [impl_TilingOfTree.l0])
   | succ k1 =>
    have H := HA.out
    clear HA
    simp only [impl_TilingOfTree.l0] at H
    by_cases c12 : x32_1 < (t186.length : Int)
    ·rw [if_pos c12] at H
     have c12b0 : decide (x32_1 < (t186.length : Int)) = true := decide_eq_true c12
     clear c12
     by_cases c13 : 0 ≤ x32_1
     ·rw [if_pos c13] at H
      have c13b0 : decide (0 ≤ x32_1) = true := decide_eq_true c13
      clear c13
      by_cases c14 : x32_1 < (t186.length : Int)
      ·rw [if_pos c14] at H
       have c14b0 : decide (x32_1 < (t186.length : Int)) = true := decide_eq_true c14
       clear c14
       by_cases c15 : x32_1 = 0
       ·rw [if_pos c15] at H
        have c15b0 : (x32_1 == 0) = true := beq_iff_eq.mpr c15
        have c15b1 : (x32_1 != 0) = false := bne_eq_false_iff_eq.mpr c15
        clear c15
        have H' := Aside0.mk H
        clear H
        have p189 : 0 ≤ (x32_1 : Int) := of_decide_eq_true (by assumption)
        have q189 : x32_1 < (t186.length : Int) := of_decide_eq_true (by assumption)
        obtain ⟨ad189, e189, hx189_0⟩ := Kd.at_int (Kd.R_reads' HO_30.out).2.2 x32_1 p189 q189
        cases e189
        replace p189 := eq_true p189
        replace q189 := eq_true q189
        go_wp2
        go_roundg k1
        case measure => have := HK1.out; omega
        case rel => exact ⟨(x8_1), (wrap64 (x32_1 + 1)), (by first | rfl | (simp; done) | (simp [*]; done)), H', ⟨by have := HK1.out; omega⟩, ⟨rX HO_8.out⟩, ⟨rX HO_30.out⟩, ⟨bX HB.out⟩⟩
       ·rw [if_neg c15] at H
        have c15b0 : (x32_1 == 0) = false := beq_eq_false_iff_ne.mpr c15
        have c15b1 : (x32_1 != 0) = true := bne_iff_ne.mpr c15
        by_cases c16 : a0 = 0
        ·rw [if_pos c16] at H
         exact absurd H (by simp)
        ·rw [if_neg c16] at H
         have c16b0 : (a0 == 0) = false := beq_eq_false_iff_ne.mpr c16
         have c16b1 : (a0 != 0) = true := bne_iff_ne.mpr c16
         replace H := Option.bind_eq_some_iff.mp H
         obtain ⟨⟨t190, t191, t192, t193⟩, A170, H⟩ := H
         replace H : (if x8_1.length < 5864062014805 then (impl_TilingOfTree.l0 k1 a0 a1 l2 (x8_1 ++ [(⟨t190, t191, t192⟩ : S41)]) t186 (t186.length : Int) (wrap64 (x32_1 + 1))) else (none)) = some (r1, r2) := H
         have A17 := Aside0.mk A170
         clear A170
         by_cases c18 : x8_1.length < 5864062014805
         ·rw [if_pos c18] at H
          have LMc18 := Aside0.mk c18
          clear c18
          obtain ⟨y195, hy195⟩ : ∃ y_ : List (S41), y_ = (x8_1 ++ [(⟨t190, t191, t192⟩ : S41)]) := ⟨_, rfl⟩
          replace H : (impl_TilingOfTree.l0 k1 a0 a1 l2 y195 t186 (t186.length : Int) (wrap64 (x32_1 + 1))) = some (r1, r2) := by first | (rw [hy195]; with_reducible exact H) | (have H2_ := (Option.bind_some _ _).symm.trans H; rw [hy195]; with_reducible exact H2_) | (have H2_ := (Option.bind_some _ _).symm.trans H; with_reducible exact H2_) | with_reducible exact H | (rw [hy195]; exact H) | exact H
          have Ny195 := Aside0.mk hy195
          clear hy195
          have H' := Aside0.mk H
          clear H
          have p189 : 0 ≤ (x32_1 : Int) := of_decide_eq_true (by assumption)
          have q189 : x32_1 < (t186.length : Int) := of_decide_eq_true (by assumption)
          obtain ⟨ad189, e189, hx189_0⟩ := Kd.at_int (Kd.R_reads' HO_30.out).2.2 x32_1 p189 q189
          cases e189
          replace p189 := eq_true p189
          replace q189 := eq_true q189
          try go_wp2
          have n0_ := Aside0.mk (Kd.R_drew HO_8.out)
          have n1_ := Aside0.mk (Kd.R_drew HO_30.out)
          have n2_ := Aside0.mk (below_drew1 HB.out)
          clear HO_8
          clear HO_30
          clear HB
          have HO_8 := n0_
          have HO_30 := n1_
          have HB := n2_
          clear n0_ n1_ n2_
          refine start_ (n := 16) (S := fun w' => True) (ds := []) #[false, false, false, false, false, false, false, false, false, false, false, false, false, false, false, false] (by kernel_rfl) rfl rfl trivial (fun hHeld => ?_); refine with_tabW impl_TilingOfTree.tab8 impl_TilingOfTree.bits8 (fun HT_ HW_ => ?_)
          generalize wr.drew = w19 at HO_8 HO_30 HB hHeld ⊢
          refine pure_ (i := 0) (N := some 39) (v := ?_) (a' := ?_) #[true, false, false, false, false, false, false, false, false, false, false, false, false, false, false, false] rfl rfl (any_of HT_.out (by kernel_rfl)) (fun _ _ _ h => h) (Or.inl ⟨by rfl, ?_⟩) ?_ ?_
          rotate_left
          ·intro w'
           go_simp
           with_reducible rfl
          rotate_left
          ·simp only [Act.put, sA, sB, sC, i64_w, i32_w]
           rfl
          refine pure_ (i := 1) (N := some 40) (v := ?_) (a' := ?_) #[true, true, false, false, false, false, false, false, false, false, false, false, false, false, false, false] rfl rfl (any_of HT_.out (by kernel_rfl)) (fun _ _ _ h => h) (Or.inl ⟨by rfl, ?_⟩) ?_ ?_
          rotate_left
          ·intro w'
           go_simp
           with_reducible rfl
          rotate_left
          ·simp only [Act.put, sA, sB, sC, i64_w, i32_w]
           rfl
          refine pure_ (i := 2) (N := some 41) (v := ?_) (a' := ?_) #[true, true, true, false, false, false, false, false, false, false, false, false, false, false, false, false] rfl rfl (any_of HT_.out (by kernel_rfl)) (fun _ _ _ h => h) (Or.inl ⟨by rfl, ?_⟩) ?_ ?_
          rotate_left
          ·intro w'
           go_simp
           with_reducible rfl
          rotate_left
          ·simp only [Act.put, sA, sB, sC, i64_w, i32_w]
           rfl
          refine pure_ (i := 3) (N := some 42) (v := ?_) (a' := ?_) #[true, true, true, true, false, false, false, false, false, false, false, false, false, false, false, false] rfl rfl (any_of HT_.out (by kernel_rfl)) (fun _ _ _ h => h) (Or.inl ⟨by rfl, ?_⟩) ?_ ?_
          rotate_left
          ·intro w'
           go_simp
           with_reducible rfl
          rotate_left
          ·simp only [Act.put, sA, sB, sC, i64_w, i32_w]
           rfl
          refine pure_ (i := 4) (N := some 43) (v := ?_) (a' := ?_) #[true, true, true, true, true, false, false, false, false, false, false, false, false, false, false, false] rfl rfl (any_of HT_.out (by kernel_rfl)) (fun _ _ _ h => h) (Or.inl ⟨by rfl, ?_⟩) ?_ ?_
          rotate_left
          ·intro w'
           go_simp
           with_reducible rfl
          rotate_left
          ·simp only [Act.put, sA, sB, sC, i64_w, i32_w]
           rfl
          refine pure_ (i := 5) (N := some 44) (v := ?_) (a' := ?_) #[true, true, true, true, true, true, false, false, false, false, false, false, false, false, false, false] rfl rfl (any_of HT_.out (by kernel_rfl)) (fun _ _ _ h => h) (Or.inl ⟨by rfl, ?_⟩) ?_ ?_
          rotate_left
          ·intro w'
           go_simp
           with_reducible rfl
          rotate_left
          ·simp only [Act.put, sA, sB, sC, i64_w, i32_w]
           rfl
          refine pure_ (i := 6) (N := some 45) (v := ?_) (a' := ?_) #[true, true, true, true, true, true, true, false, false, false, false, false, false, false, false, false] rfl rfl (any_of HT_.out (by kernel_rfl)) (fun _ _ _ h => h) (Or.inl ⟨by rfl, ?_⟩) ?_ ?_
          rotate_left
          ·intro w'
           go_simp
           with_reducible rfl
          rotate_left
          ·simp only [Act.put, sA, sB, sC, i64_w, i32_w]
           rfl
          refine pure_ (i := 7) (N := some 46) (v := ?_) (a' := ?_) #[true, true, true, true, true, true, true, true, false, false, false, false, false, false, false, false] rfl rfl (any_of HT_.out (by kernel_rfl)) (fun _ _ _ h => h) (Or.inl ⟨by rfl, ?_⟩) ?_ ?_
          rotate_left
          ·intro w'
           go_simp
           with_reducible rfl
          rotate_left
          ·simp only [Act.put, sA, sB, sC, i64_w, i32_w]
           rfl
          refine pure_ (i := 8) (N := some 47) (v := ?_) (a' := ?_) #[true, true, true, true, true, true, true, true, true, false, false, false, false, false, false, false] rfl rfl (any_of HT_.out (by kernel_rfl)) (fun _ _ _ h => h) (Or.inl ⟨by rfl, ?_⟩) ?_ ?_
          rotate_left
          ·intro w'
           go_simp
           with_reducible rfl
          rotate_left
          ·simp only [Act.put, sA, sB, sC, i64_w, i32_w]
           rfl
          refine pure_ (i := 9) (N := some 48) (v := ?_) (a' := ?_) #[true, true, true, true, true, true, true, true, true, true, false, false, false, false, false, false] rfl rfl (any_of HT_.out (by kernel_rfl)) (fun _ _ _ h => h) (Or.inl ⟨by rfl, ?_⟩) ?_ ?_
          rotate_left
          ·intro w'
           go_simp
           with_reducible rfl
          rotate_left
          ·simp only [Act.put, sA, sB, sC, i64_w, i32_w]
           rfl
          refine pure_ (i := 10) (N := some 49) (v := ?_) (a' := ?_) #[true, true, true, true, true, true, true, true, true, true, true, false, false, false, false, false] rfl rfl (any_of HT_.out (by kernel_rfl)) (fun _ _ _ h => h) (Or.inl ⟨by rfl, ?_⟩) ?_ ?_
          rotate_left
          ·intro w'
           go_simp
           with_reducible rfl
          rotate_left
          ·simp only [Act.put, sA, sB, sC, i64_w, i32_w]
           rfl
          refine pure_ (i := 11) (N := some 50) (v := ?_) (a' := ?_) #[true, true, true, true, true, true, true, true, true, true, true, true, false, false, false, false] rfl rfl (any_of HT_.out (by kernel_rfl)) (fun _ _ _ h => h) (Or.inl ⟨by rfl, ?_⟩) ?_ ?_
          rotate_left
          ·intro w'
           go_simp
           with_reducible rfl
          rotate_left
          ·simp only [Act.put, sA, sB, sC, i64_w, i32_w]
           rfl
          refine pure_ (i := 12) (N := some 11) (v := ?_) (a' := ?_) #[true, true, true, true, true, true, true, true, true, true, true, true, true, false, false, false] rfl rfl (any_of HT_.out (by kernel_rfl)) (fun _ _ _ h => h) (Or.inl ⟨by rfl, ?_⟩) ?_ ?_
          rotate_left
          ·intro w'
           go_simp
           with_reducible rfl
          rotate_left
          ·simp only [Act.put, sA, sB, sC, i64_w, i32_w]
           rfl
          refine pure_ (i := 13) (N := some 12) (v := ?_) (a' := ?_) #[true, true, true, true, true, true, true, true, true, true, true, true, true, true, false, false] rfl rfl (any_of HT_.out (by kernel_rfl)) (fun _ _ _ h => h) (Or.inl ⟨by rfl, ?_⟩) ?_ ?_
          rotate_left
          ·intro w'
           go_simp
           with_reducible rfl
          rotate_left
          ·simp only [Act.put, sA, sB, sC, i64_w, i32_w]
           rfl
          refine pure_ (i := 14) (N := some 13) (v := ?_) (a' := ?_) #[true, true, true, true, true, true, true, true, true, true, true, true, true, true, true, false] rfl rfl (any_of HT_.out (by kernel_rfl)) (fun _ _ _ h => h) (Or.inl ⟨by rfl, ?_⟩) ?_ ?_
          rotate_left
          ·intro w'
           go_simp
           with_reducible rfl
          rotate_left
          ·simp only [Act.put, sA, sB, sC, i64_w, i32_w]
           rfl
          refine pure_ (i := 15) (N := some 14) (v := ?_) (a' := ?_) #[true, true, true, true, true, true, true, true, true, true, true, true, true, true, true, true] rfl rfl (any_of HT_.out (by kernel_rfl)) (fun _ _ _ h => h) (Or.inl ⟨by rfl, ?_⟩) ?_ ?_
          rotate_left
          ·intro w'
           go_simp
           with_reducible rfl
          rotate_left
          ·simp only [Act.put, sA, sB, sC, i64_w, i32_w]
           rfl
          refine done_ (done_of HT_.out (by kernel_rfl)) ?_
          try go_wp2_with (first | ((with_reducible refine gate_callee (f := 79) rfl ?_); refine goesL_ (some 64) rfl rfl Try.func79 (by kernel_rfl) rfl #[.agg #[.int .i64 (wrap64 (2 * (Int.tmod x32_1 a0))), .int .i64 (wrap64 (2 * (wrap64 (Int.tdiv x32_1 a0))))], .agg #[.int .i64 (wrap64 ((Int.tmod x32_1 a0) + (Int.tmod (rd t186 x32_1) a0))), .int .i64 (wrap64 ((wrap64 (Int.tdiv x32_1 a0)) + (wrap64 (Int.tdiv (rd t186 x32_1) a0))))]] rfl (by (try simp only [sD, sE, sF]); first | done | rfl) ?_; (with_reducible refine (impl_DominoOver.calls (wrap64 (2 * (Int.tmod x32_1 a0))) (wrap64 (2 * (wrap64 (Int.tdiv x32_1 a0)))) (wrap64 ((Int.tmod x32_1 a0) + (Int.tmod (rd t186 x32_1) a0))) (wrap64 ((wrap64 (Int.tdiv x32_1 a0)) + (wrap64 (Int.tdiv (rd t186 x32_1) a0)))) t190 t191 t192 t193 _ A17.out).mono ?_); rintro e w20 ⟨rfl, hb⟩; refine ⟨_, rfl, ?_⟩; have n0_ := Aside0.mk (Kd.R_below (rX HO_8.out) hb); have n1_ := Aside0.mk (Kd.R_below (rX HO_30.out) hb); have n2_ := Aside0.mk (below_step (bX HB.out) hb); clear HO_8; clear HO_30; clear HB; have HO_8 := n0_; have HO_30 := n1_; have HB := n2_; clear n0_ n1_ n2_; (try clear hb); (try clear hb2); (try clear hk); (try clear hi)) | ((with_reducible refine gate_dst (N := 15) rfl ?_); refine box_event ?hg (N := 15) ?hd (cs := #[.int .i64 0, .int .i64 0, .bool false]) (t := 41) ?hr ?_; (case hd => rfl); (case hg => rfl); (case hr => first | (go_simp; done) | (go_simp; rfl)); intro gb194 hg w21 hbox hb; have n0_ := Aside0.mk (Kd.R_below (Kd.R_elderB (rX HO_8.out) gb194 (Nat.le_of_eq hg.symm)) hb); have n1_ := Aside0.mk (Kd.R_below (rX HO_30.out) hb); have n2_ := Aside0.mk (below_step (bX HB.out) hb); have n3_ := Aside0.mk (hbox); have n4_ := Aside0.mk ((by rw [hg]; exact (below_size (bX HB.out)) : w.heap.size ≤ gb194)); have n5_ := Aside0.mk ((by rw [hg]; exact (below_size (bX HB.out)) : w.heap.size ≤ gb194)); clear HO_8; clear HO_30; clear HB; have HO_8 := n0_; have HO_30 := n1_; have HB := n2_; have BK194 := n3_; have GW194 := n4_; have GE194 := n5_; clear n0_ n1_ n2_ n3_ n4_ n5_; clear hb hbox hg; have hcz22_0 : w21.cell? ⟨gb194, 0, none⟩ = some (.int .i64 0) := (blk_cell BK194.out 0).trans rfl; have hcz22_1 : w21.cell? ⟨gb194, 1, none⟩ = some (.int .i64 0) := (blk_cell BK194.out 1).trans rfl; have hcz22_2 : w21.cell? ⟨gb194, 2, none⟩ = some (.bool false) := (blk_cell BK194.out 2).trans rfl; have hfz22_0 := blk_frozen BK194.out 0; have hfz22_1 := blk_frozen BK194.out 1; have hfz22_2 := blk_frozen BK194.out 2) | ((with_reducible refine gate_builtin (b := .append) (xs := #[.tmp 67, .tmp 69]) rfl ?_); at_builtin; refine Kd.R_append k41 (w0 := w) w.heap.size rfl (.tmp 67) (.tmp 69) 24 41 (.agg #[(.int .i64 0), (.int .i64 0), (.bool false)]) 24 rfl Try.underlying24 info41 rfl (by decide) (by omega) u8 x8_1 (⟨t190, t191, t192⟩ : S41) [.int .i64 t190, .int .i64 t191, .bool t192] (fun k_ => k_ ≠ gb194) (fun _ => False) rfl (by first | (go_simp; done) | (go_simp; rfl)) ?aP (fun _ hk => hk.elim) ?aF ?aO ?aB ?aS ?aL ?_; (case aP => exact k41_mkM _ _ _ (⟨t190, t191, t192⟩ : S41)); (case aB => exact (by repeat (with_reducible first | exact HB.out | apply below_alloc | apply pw_below_drewN | apply below_drew1 | refine below_set ?_ GE194.out))); (case aF => exact (fun k_ hk => Kd.freshB (g := gb194) (o := .cells #[.int .i64 t190, .int .i64 t191, .bool t192] 41 (0, 0)) (by (with_reducible repeat (first | refine blk_drewN ?_ _ | refine blk_drew ?_ | refine blk_alloc ?_ _)); refine blk_put (cs := #[.int .i64 t190, .int .i64 t191, .bool false]) ?_ 2 _ rfl; (with_reducible repeat (first | refine blk_drewN ?_ _ | refine blk_drew ?_ | refine blk_alloc ?_ _)); refine blk_put (cs := #[.int .i64 t190, .int .i64 0, .bool false]) ?_ 1 _ rfl; (with_reducible repeat (first | refine blk_drewN ?_ _ | refine blk_drew ?_ | refine blk_alloc ?_ _)); refine blk_put (cs := #[.int .i64 0, .int .i64 0, .bool false]) ?_ 0 _ rfl; (with_reducible repeat (first | refine blk_drewN ?_ _ | refine blk_drew ?_ | refine blk_alloc ?_ _)); exact BK194.out) k_ hk)); (case aO => exact (by (with_reducible repeat (first | apply Kd.R_alloc | apply Kd.R_drewN | apply Kd.R_drew)); exact Kd.R_mono (Kd.R_far (p := ⟨gb194, 2, none⟩) (Kd.R_far (p := ⟨gb194, 1, none⟩) (Kd.R_far (p := ⟨gb194, 0, none⟩) (Kd.R_mono HO_8.out (fun k_ hk => (⟨hk, hk.2⟩ : _ ∧ k_ ≠ gb194))) (fun _ hk => hk.2) (.int .i64 t190)) (fun _ hk => hk.2) (.int .i64 t191)) (fun _ hk => hk.2) (.bool t192)) (fun _ hk => hk.1.2))); (case aS => exact (below_size (by repeat (with_reducible first | exact HB.out | apply below_alloc | apply pw_below_drewN | apply below_drew1 | refine below_set ?_ GE194.out)))); (case aL => have := LMc18.out; omega); intro v196 w23 ho hb hg hat; rw [← Ny195.out] at ho; have n0_ := Aside0.mk (Kd.R_over' (by (with_reducible repeat (first | apply Kd.R_alloc | apply Kd.R_drewN | apply Kd.R_drew)); exact (Kd.R_mono (Kd.R_far (p := ⟨gb194, 2, none⟩) (Kd.R_far (p := ⟨gb194, 1, none⟩) (Kd.R_far (p := ⟨gb194, 0, none⟩) (Kd.R_types HO_30.out BK194.out (by decide)) (fun _ hk => hk.2) (.int .i64 t190)) (fun _ hk => hk.2) (.int .i64 t191)) (fun _ hk => hk.2) (.bool t192)) (fun _ h_ => h_.1))) (Kd.R_typed (by (with_reducible repeat (first | apply Kd.R_alloc | apply Kd.R_drewN | apply Kd.R_drew)); exact (Kd.R_mono (Kd.R_far (p := ⟨gb194, 2, none⟩) (Kd.R_far (p := ⟨gb194, 1, none⟩) (Kd.R_far (p := ⟨gb194, 0, none⟩) (Kd.R_mono HO_8.out (fun k_ hk => (⟨hk, hk.2⟩ : _ ∧ k_ ≠ gb194))) (fun _ hk => hk.2) (.int .i64 t190)) (fun _ hk => hk.2) (.int .i64 t191)) (fun _ hk => hk.2) (.bool t192)) (fun _ h_ => h_.1)))) (by decide) hg); have n1_ := Aside0.mk (blk_grown (g := gb194) (o := .cells #[.int .i64 t190, .int .i64 t191, .bool t192] 41 (0, 0)) (by (with_reducible repeat (first | refine blk_drewN ?_ _ | refine blk_drew ?_ | refine blk_alloc ?_ _)); refine blk_put (cs := #[.int .i64 t190, .int .i64 t191, .bool false]) ?_ 2 _ rfl; (with_reducible repeat (first | refine blk_drewN ?_ _ | refine blk_drew ?_ | refine blk_alloc ?_ _)); refine blk_put (cs := #[.int .i64 t190, .int .i64 0, .bool false]) ?_ 1 _ rfl; (with_reducible repeat (first | refine blk_drewN ?_ _ | refine blk_drew ?_ | refine blk_alloc ?_ _)); refine blk_put (cs := #[.int .i64 0, .int .i64 0, .bool false]) ?_ 0 _ rfl; (with_reducible repeat (first | refine blk_drewN ?_ _ | refine blk_drew ?_ | refine blk_alloc ?_ _)); exact BK194.out) hg (Kd.R_away HO_8.out (fun _ hk => hk.2))); have n2_ := Aside0.mk (hb); have n3_ := Aside0.mk (ho); clear HO_30; clear BK194; clear HB; clear HO_8; have HO_30 := n0_; have BK194 := n1_; have HB := n2_; have HO197 := n3_; clear n0_ n1_ n2_ n3_; clear ho hb hg hat))
          go_roundg k1
          case measure => have := HK1.out; omega
          case rel => exact ⟨(y195), (wrap64 (x32_1 + 1)), (by first | rfl | (simp; done) | (simp [*]; done)), H', ⟨by have := HK1.out; omega⟩, ⟨by (with_reducible repeat (first | apply Kd.R_alloc | apply Kd.R_drewN | apply Kd.R_drew)); exact Kd.R_mono HO197.out (fun _ hk => trivial)⟩, ⟨rX HO_30.out⟩, ⟨by repeat (with_reducible first | exact HB.out | apply below_alloc | apply pw_below_drewN | apply below_drew1 | refine below_set ?_ GE194.out)⟩⟩
         ·rw [if_neg c18] at H
          exact absurd H (by simp)
      ·rw [if_neg c14] at H
       exact absurd H (by simp)
     ·rw [if_neg c13] at H
      exact absurd H (by simp)
    ·rw [if_neg c12] at H
     have c12b0 : decide (x32_1 < (t186.length : Int)) = false := decide_eq_false c12
     clear c12
     replace H := Option.bind_eq_some_iff.mp H
     obtain ⟨t198, A240, H⟩ := H
     replace H : (impl_TilingOfTree.l1 k1 a0 x8_1 t198 (t198.length : Int) 0) = some (r1, r2) := H
     have A24 := Aside0.mk A240
     clear A240
     have H' := Aside0.mk H
     clear H
     go_wp2_with (first | ((with_reducible refine gate_callee (f := 80) rfl ?_); refine goesL_ (some 75) rfl rfl Try.func80 (by kernel_rfl) rfl #[.int .i64 a0, .int .i64 a1, .slice A2 l2.length c2] rfl (by (try simp only [sD, sE, sF]); first | done | rfl) ?_; (with_reducible refine (impl_outward.calls k1 a0 a1 _ _ l2 t198 _ ?side1 ?side2 A24.out).mono ?_); (case side1 => repeat (first | exact (Kd.C_below HR2.out HB.out) | (with_reducible refine Kd.C_alloc ?_ _) | (with_reducible refine Kd.C_drewN ?_ _) | (with_reducible refine Kd.C_drew ?_))); (case side2 => exact HC2.out); rintro e w25 ⟨v199, rfl, ho0, hb⟩; refine ⟨_, rfl, ?_⟩; have n0_ := Aside0.mk (Kd.R_below (rX HO_8.out) hb); have n1_ := Aside0.mk (Kd.R_below (rX HO_30.out) hb); have n2_ := Aside0.mk (Kd.R_lower ho0 (below_size (bX HB.out))); have n3_ := Aside0.mk (below_step (bX HB.out) hb); clear HO_8; clear HO_30; clear HB; have HO_8 := n0_; have HO_30 := n1_; have HO200 := n2_; have HB := n3_; clear n0_ n1_ n2_ n3_; (try clear hb); (try clear hb2); (try clear hk); (try clear hi); (try clear ho0); obtain ⟨Ao26, co26, eo26⟩ := Kd.R_slice HO200.out; subst eo26))
     go_loopg [8, 77] k1 (fun kq v8 v77 w' => ∃ (x8_2 : List (S41)) (x77_2 : Int), v77 = .int .i64 x77_2 ∧ Aside0 (impl_TilingOfTree.l1 kq a0 x8_2 t198 (t198.length : Int) x77_2 = some (r1, r2)) ∧ Aside0 (kq ≤ k1) ∧ Aside0 (Kd.R k41 41 w' w.heap.size (fun _ => True) v8 x8_2) ∧ Aside0 (Kd.R k39 39 w' w.heap.size (fun _ => True) (.slice Ao26 t198.length co26) t198) ∧ Aside0 (Below w.heap.size w w'))
     case atStart => exact ⟨(x8_1), (0), (by first | rfl | (simp; done) | (simp [*]; done)), H', ⟨Nat.le_refl _⟩, ⟨rX HO_8.out⟩, ⟨rX HO200.out⟩, ⟨bX HB.out⟩⟩
     case round =>
      clear H'
      try clear c1
      try clear p1
      try clear q1
      try clear hx1
      try clear c2
      try clear p2
      try clear c5
      try clear p6
      try clear c7
      try clear c8
      try clear c12
      try clear c12b0
      try clear c13
      try clear c13b0
      try clear c14
      try clear c14b0
      try clear c15
      try clear c15b0
      try clear c15b1
      try clear c16
      try clear c16b0
      try clear c16b1
      try clear c18
      try clear p18
      try clear q18
      try clear hx18
      try clear c23
      try clear hcz22_0
      try clear hcz22_1
      try clear hcz22_2
      try clear hfz22_0
      try clear hfz22_1
      try clear hfz22_2
      try clear hx189_0
      try clear p189
      try clear p2
      try clear q189
      obtain ⟨x8_2, x77_2, rfl, HA, HK2, HO_8, HO_75, HB⟩ := hrel
      cases gk with
      | zero => exact absurd HA.out (by simp [impl_TilingOfTree.l1])
      | succ k2 =>
       have H := HA.out
       clear HA
       simp only [impl_TilingOfTree.l1] at H
       by_cases c27 : x77_2 < (t198.length : Int)
       ·rw [if_pos c27] at H
        have c27b0 : decide (x77_2 < (t198.length : Int)) = true := decide_eq_true c27
        clear c27
        by_cases c28 : 0 ≤ x77_2
        ·rw [if_pos c28] at H
         have c28b0 : decide (0 ≤ x77_2) = true := decide_eq_true c28
         clear c28
         by_cases c29 : x77_2 < (t198.length : Int)
         ·rw [if_pos c29] at H
          have c29b0 : decide (x77_2 < (t198.length : Int)) = true := decide_eq_true c29
          clear c29
          by_cases c30 : (wrap64 (a0 - 1)) = 0
          ·rw [if_pos c30] at H
           exact absurd H (by simp)
          ·rw [if_neg c30] at H
           have c30b0 : ((wrap64 (a0 - 1)) == 0) = false := beq_eq_false_iff_ne.mpr c30
           have c30b1 : ((wrap64 (a0 - 1)) != 0) = true := bne_iff_ne.mpr c30
           replace H := Option.bind_eq_some_iff.mp H
           obtain ⟨⟨t203, t204, t205, t206⟩, A310, H⟩ := H
           replace H : (if x8_2.length < 5864062014805 then (impl_TilingOfTree.l1 k2 a0 (x8_2 ++ [(⟨t203, t204, t205⟩ : S41)]) t198 (t198.length : Int) (wrap64 (x77_2 + 1))) else (none)) = some (r1, r2) := H
           have A31 := Aside0.mk A310
           clear A310
           by_cases c32 : x8_2.length < 5864062014805
           ·rw [if_pos c32] at H
            have LMc32 := Aside0.mk c32
            clear c32
            obtain ⟨y208, hy208⟩ : ∃ y_ : List (S41), y_ = (x8_2 ++ [(⟨t203, t204, t205⟩ : S41)]) := ⟨_, rfl⟩
            replace H : (impl_TilingOfTree.l1 k2 a0 y208 t198 (t198.length : Int) (wrap64 (x77_2 + 1))) = some (r1, r2) := by first | (rw [hy208]; with_reducible exact H) | (have H2_ := (Option.bind_some _ _).symm.trans H; rw [hy208]; with_reducible exact H2_) | (have H2_ := (Option.bind_some _ _).symm.trans H; with_reducible exact H2_) | with_reducible exact H | (rw [hy208]; exact H) | exact H
            have Ny208 := Aside0.mk hy208
            clear hy208
            have H' := Aside0.mk H
            clear H
            have p201 : 0 ≤ (x77_2 : Int) := of_decide_eq_true (by assumption)
            have q201 : x77_2 < (t198.length : Int) := of_decide_eq_true (by assumption)
            obtain ⟨ad201, e201, hx201_0, hx201_1⟩ := at_T39 (Kd.R_reads' HO_75.out).2.2 x77_2 p201 q201
            cases e201
            replace p201 := eq_true p201
            replace q201 := eq_true q201
            try go_wp2_with (first | ((with_reducible refine gate_dst (N := 18) rfl ?_); refine box_event ?hg (N := 18) ?hd (cs := #[.int .i64 0, .int .i64 0]) (t := 39) ?hr ?_; (case hd => rfl); (case hg => rfl); (case hr => first | (go_simp; done) | (go_simp; rfl)); intro gb202 hg w33 hbox hb; have n0_ := Aside0.mk (Kd.R_below (rX HO_8.out) hb); have n1_ := Aside0.mk (Kd.R_below (Kd.R_elderB (rX HO_75.out) gb202 (Nat.le_of_eq hg.symm)) hb); have n2_ := Aside0.mk (below_step (bX HB.out) hb); have n3_ := Aside0.mk (hbox); have n4_ := Aside0.mk ((by rw [hg]; exact (below_size (bX HB.out)) : w.heap.size ≤ gb202)); have n5_ := Aside0.mk ((by rw [hg]; exact (below_size (bX HB.out)) : w.heap.size ≤ gb202)); clear HO_8; clear HO_75; clear HB; have HO_8 := n0_; have HO_75 := n1_; have HB := n2_; have BK202 := n3_; have GW202 := n4_; have GE202 := n5_; clear n0_ n1_ n2_ n3_ n4_ n5_; clear hb hbox hg; have hcz34_0 : w33.cell? ⟨gb202, 0, none⟩ = some (.int .i64 0) := (blk_cell BK202.out 0).trans rfl; have hcz34_1 : w33.cell? ⟨gb202, 1, none⟩ = some (.int .i64 0) := (blk_cell BK202.out 1).trans rfl; have hfz34_0 := blk_frozen BK202.out 0; have hfz34_1 := blk_frozen BK202.out 1))
            have n0_ : Aside0 (Kd.R k41 41 ((w33.setCell ⟨gb202, 0, none⟩ (.int .i64 ((rd_T39 t198 x77_2).f0))).setCell ⟨gb202, 1, none⟩ (.int .i64 ((rd_T39 t198 x77_2).f1))) w.heap.size (fun _ => True) u8 x8_2) := ⟨by (with_reducible repeat (first | apply Kd.R_alloc | apply Kd.R_drewN | apply Kd.R_drew)); exact Kd.R_mono (Kd.R_far (p := ⟨gb202, 1, none⟩) (Kd.R_far (p := ⟨gb202, 0, none⟩) (Kd.R_types HO_8.out BK202.out (by decide)) (fun _ hk => hk.2) (.int .i64 ((rd_T39 t198 x77_2).f0))) (fun _ hk => hk.2) (.int .i64 ((rd_T39 t198 x77_2).f1))) (fun _ hk => trivial)⟩
            have n1_ : Aside0 (Kd.R k39 39 ((w33.setCell ⟨gb202, 0, none⟩ (.int .i64 ((rd_T39 t198 x77_2).f0))).setCell ⟨gb202, 1, none⟩ (.int .i64 ((rd_T39 t198 x77_2).f1))) w.heap.size (fun k_ => k_ ≠ gb202) (.slice (some ad201) t198.length co26) t198) := ⟨by (with_reducible repeat (first | apply Kd.R_alloc | apply Kd.R_drewN | apply Kd.R_drew)); exact Kd.R_mono (Kd.R_far (p := ⟨gb202, 1, none⟩) (Kd.R_far (p := ⟨gb202, 0, none⟩) (Kd.R_mono HO_75.out (fun k_ hk => (⟨hk, hk.2⟩ : _ ∧ k_ ≠ gb202))) (fun _ hk => hk.2) (.int .i64 ((rd_T39 t198 x77_2).f0))) (fun _ hk => hk.2) (.int .i64 ((rd_T39 t198 x77_2).f1))) (fun _ hk => hk.1.2)⟩
            have n2_ : Aside0 (((w33.setCell ⟨gb202, 0, none⟩ (.int .i64 ((rd_T39 t198 x77_2).f0))).setCell ⟨gb202, 1, none⟩ (.int .i64 ((rd_T39 t198 x77_2).f1))).heap[gb202]? = some (.cells #[.int .i64 ((rd_T39 t198 x77_2).f0), .int .i64 ((rd_T39 t198 x77_2).f1)] 39 (0, 0))) := ⟨by (with_reducible repeat (first | refine blk_drewN ?_ _ | refine blk_drew ?_ | refine blk_alloc ?_ _)); refine blk_put (cs := #[.int .i64 ((rd_T39 t198 x77_2).f0), .int .i64 0]) ?_ 1 _ rfl; (with_reducible repeat (first | refine blk_drewN ?_ _ | refine blk_drew ?_ | refine blk_alloc ?_ _)); refine blk_put (cs := #[.int .i64 0, .int .i64 0]) ?_ 0 _ rfl; (with_reducible repeat (first | refine blk_drewN ?_ _ | refine blk_drew ?_ | refine blk_alloc ?_ _)); exact BK202.out⟩
            have n3_ : Aside0 (Below w.heap.size w ((w33.setCell ⟨gb202, 0, none⟩ (.int .i64 ((rd_T39 t198 x77_2).f0))).setCell ⟨gb202, 1, none⟩ (.int .i64 ((rd_T39 t198 x77_2).f1)))) := ⟨by repeat (with_reducible first | exact HB.out | apply below_alloc | apply pw_below_drewN | apply below_drew1 | refine below_set ?_ GE202.out)⟩
            (try clear HO_8)
            (try clear HO_75)
            (try clear BK202)
            (try clear HB)
            generalize ((w33.setCell ⟨gb202, 0, none⟩ (.int .i64 ((rd_T39 t198 x77_2).f0))).setCell ⟨gb202, 1, none⟩ (.int .i64 ((rd_T39 t198 x77_2).f1))) = w35 at n0_ n1_ n2_ n3_ ⊢
            have HO_8 := n0_
            have HO_75 := n1_
            have BK202 := n2_
            have HB := n3_
            clear n0_ n1_ n2_ n3_
            have n0_ := Aside0.mk (Kd.R_drew HO_8.out)
            have n1_ := Aside0.mk (Kd.R_drew HO_75.out)
            have n2_ := Aside0.mk (blk_drew BK202.out)
            have n3_ := Aside0.mk (below_drew1 HB.out)
            clear HO_8
            clear HO_75
            clear BK202
            clear HB
            have HO_8 := n0_
            have HO_75 := n1_
            have BK202 := n2_
            have HB := n3_
            clear n0_ n1_ n2_ n3_
            refine start_ (n := 21) (S := fun w' => w'.cell? ⟨gb202, 0, none⟩ = some (.int .i64 ((rd_T39 t198 x77_2).f0)) ∧ w'.cell? ⟨gb202, 1, none⟩ = some (.int .i64 ((rd_T39 t198 x77_2).f1))) (ds := []) #[false, false, false, false, false, false, false, false, false, false, false, false, false, false, false, false, false, false, false, false, false] (by kernel_rfl) rfl rfl ⟨(blk_cell BK202.out 0).trans rfl, (blk_cell BK202.out 1).trans rfl⟩ (fun hHeld => ?_); refine with_tabW impl_TilingOfTree.tab15 impl_TilingOfTree.bits15 (fun HT_ HW_ => ?_)
            generalize w35.drew = w36 at HO_8 HO_75 BK202 HB hHeld ⊢
            refine pure_ (i := 0) (N := some 83) (v := ?_) (a' := ?_) #[true, false, false, false, false, false, false, false, false, false, false, false, false, false, false, false, false, false, false, false, false] rfl rfl (any_of HT_.out (by kernel_rfl)) (fun _ _ _ h => h) (Or.inl ⟨by rfl, ?_⟩) ?_ ?_
            rotate_left
            ·intro w'
             go_simp
             with_reducible rfl
            rotate_left
            ·simp only [Act.put, sA, sB, sC, i64_w, i32_w]
             rfl
            refine pure_ (i := 1) (N := some 84) (v := ?_) (a' := ?_) #[true, true, false, false, false, false, false, false, false, false, false, false, false, false, false, false, false, false, false, false, false] rfl rfl (any_of HT_.out (by kernel_rfl)) (fun _ _ _ h => h) (Or.inl ⟨by rfl, ?_⟩) ?_ ?_
            rotate_left
            ·intro w'
             go_simp
             with_reducible rfl
            rotate_left
            ·simp only [Act.put, sA, sB, sC, i64_w, i32_w]
             rfl
            refine pure_ (i := 2) (N := some 85) (v := ?_) (a' := ?_) #[true, true, true, false, false, false, false, false, false, false, false, false, false, false, false, false, false, false, false, false, false] rfl rfl (any_of HT_.out (by kernel_rfl)) (fun _ _ _ h => h) (Or.inl ⟨by rfl, ?_⟩) ?_ ?_
            rotate_left
            ·intro w'
             go_simp
             with_reducible rfl
            rotate_left
            ·simp only [Act.put, sA, sB, sC, i64_w, i32_w]
             rfl
            refine pure_ (i := 3) (N := some 86) (v := ?_) (a' := ?_) #[true, true, true, true, false, false, false, false, false, false, false, false, false, false, false, false, false, false, false, false, false] rfl rfl (any_of HT_.out (by kernel_rfl)) (fun _ _ _ h => h) (Or.inl ⟨by rfl, ?_⟩) ?_ ?_
            rotate_left
            ·intro w'
             go_simp
             with_reducible rfl
            rotate_left
            ·simp only [Act.put, sA, sB, sC, i64_w, i32_w]
             rfl
            refine pure_ (i := 4) (N := some 87) (v := ?_) (a' := ?_) #[true, true, true, true, true, false, false, false, false, false, false, false, false, false, false, false, false, false, false, false, false] rfl rfl (any_of HT_.out (by kernel_rfl)) (fun _ _ _ h => h) (Or.inl ⟨by rfl, ?_⟩) ?_ ?_
            rotate_left
            ·intro w'
             go_simp
             with_reducible rfl
            rotate_left
            ·simp only [Act.put, sA, sB, sC, i64_w, i32_w]
             rfl
            refine pure_ (i := 5) (N := some 88) (v := ?_) (a' := ?_) #[true, true, true, true, true, true, false, false, false, false, false, false, false, false, false, false, false, false, false, false, false] rfl rfl (any_of HT_.out (by kernel_rfl)) (fun _ _ _ h => h) (Or.inl ⟨by rfl, ?_⟩) ?_ ?_
            rotate_left
            ·intro w'
             go_simp
             with_reducible rfl
            rotate_left
            ·simp only [Act.put, sA, sB, sC, i64_w, i32_w]
             rfl
            refine pure_ (i := 6) (N := some 89) (v := ?_) (a' := ?_) #[true, true, true, true, true, true, true, false, false, false, false, false, false, false, false, false, false, false, false, false, false] rfl rfl (any_of HT_.out (by kernel_rfl)) (fun _ _ _ h => h) (Or.inl ⟨by rfl, ?_⟩) ?_ ?_
            rotate_left
            ·intro w'
             go_simp
             with_reducible rfl
            rotate_left
            ·simp only [Act.put, sA, sB, sC, i64_w, i32_w]
             rfl
            refine pure_ (i := 7) (N := some 90) (v := ?_) (a' := ?_) #[true, true, true, true, true, true, true, true, false, false, false, false, false, false, false, false, false, false, false, false, false] rfl rfl (any_of HT_.out (by kernel_rfl)) (fun _ _ _ h => h) (Or.inl ⟨by rfl, ?_⟩) ?_ ?_
            rotate_left
            ·intro w'
             go_simp
             with_reducible rfl
            rotate_left
            ·simp only [Act.put, sA, sB, sC, i64_w, i32_w]
             rfl
            refine pure_ (i := 8) (N := some 91) (v := ?_) (a' := ?_) #[true, true, true, true, true, true, true, true, true, false, false, false, false, false, false, false, false, false, false, false, false] rfl rfl (any_of HT_.out (by kernel_rfl)) (fun _ _ _ h => h) (Or.inl ⟨by rfl, ?_⟩) ?_ ?_
            rotate_left
            ·intro w'
             go_simp
             with_reducible rfl
            rotate_left
            ·simp only [Act.put, sA, sB, sC, i64_w, i32_w]
             rfl
            refine pure_ (i := 9) (N := some 92) (v := ?_) (a' := ?_) #[true, true, true, true, true, true, true, true, true, true, false, false, false, false, false, false, false, false, false, false, false] rfl rfl (any_of HT_.out (by kernel_rfl)) (fun _ _ _ h => h) (Or.inl ⟨by rfl, ?_⟩) ?_ ?_
            rotate_left
            ·intro w'
             go_simp
             with_reducible rfl
            rotate_left
            ·simp only [Act.put, sA, sB, sC, i64_w, i32_w]
             rfl
            refine pure_ (i := 10) (N := some 93) (v := ?_) (a' := ?_) #[true, true, true, true, true, true, true, true, true, true, true, false, false, false, false, false, false, false, false, false, false] rfl rfl (any_of HT_.out (by kernel_rfl)) (fun _ _ _ h => h) (Or.inl ⟨by rfl, ?_⟩) ?_ ?_
            rotate_left
            ·intro w'
             go_simp
             with_reducible rfl
            rotate_left
            ·simp only [Act.put, sA, sB, sC, i64_w, i32_w]
             rfl
            refine pure_ (i := 11) (N := some 94) (v := ?_) (a' := ?_) #[true, true, true, true, true, true, true, true, true, true, true, true, false, false, false, false, false, false, false, false, false] rfl rfl (any_of HT_.out (by kernel_rfl)) (fun _ _ _ h => h) (Or.inl ⟨by rfl, ?_⟩) ?_ ?_
            rotate_left
            ·intro w'
             go_simp
             with_reducible rfl
            rotate_left
            ·simp only [Act.put, sA, sB, sC, i64_w, i32_w]
             rfl
            refine pure_ (i := 12) (N := some 95) (v := ?_) (a' := ?_) #[true, true, true, true, true, true, true, true, true, true, true, true, true, false, false, false, false, false, false, false, false] rfl rfl (any_of HT_.out (by kernel_rfl)) (fun _ _ _ h => h) (Or.inl ⟨by rfl, ?_⟩) ?_ ?_
            rotate_left
            ·intro w'
             go_simp
             with_reducible rfl
            rotate_left
            ·simp only [Act.put, sA, sB, sC, i64_w, i32_w]
             rfl
            refine take_ (i := 13) (N := some 96) (v := ?_) (a' := ?_) #[true, true, true, true, true, true, true, true, true, true, true, true, true, true, false, false, false, false, false, false, false] rfl rfl (take_ofW HT_.out HW_.out (by kernel_rfl)) (fun _ _ _ h => h) (Or.inl ⟨by rfl, ?_⟩) hHeld ?_ ?_
            rotate_left
            ·rintro w' ⟨s0, s1⟩
             go_simp
             with_reducible rfl
            rotate_left
            ·simp only [Act.put, sA, sB, sC, i64_w, i32_w]
             rfl
            refine join_ (σ := Nat) 2 #[true, true, true, true, true, true, true, true, true, true, true, true, true, true, true, true, true, true, true, false, false] (fun s_ => [(97, .tuple #[.agg #[.int .i64 t203, .int .i64 t204, .bool t205], .bool t206]), (19, .pointer (some ⟨s_, 0, none⟩)), (82, .tuple #[.agg #[.int .i64 t203, .int .i64 t204, .bool t205], .bool t206]), (98, .agg #[.int .i64 t203, .int .i64 t204, .bool t205]), (99, .bool t206)]) (fun s_ w' => (w'.cell? ⟨gb202, 0, none⟩ = some (.int .i64 ((rd_T39 t198 x77_2).f0)) ∧ w'.cell? ⟨gb202, 1, none⟩ = some (.int .i64 ((rd_T39 t198 x77_2).f1))) ∧ (Kd.R k39 39 w' w.heap.size (fun k_ => k_ ≠ gb202) (.slice (some ad201) t198.length co26) t198) ∧ (Kd.R k41 41 w' w.heap.size (fun k_ => k_ ≠ s_) u8 x8_2) ∧ (w'.heap[gb202]? = some (.cells #[.int .i64 ((rd_T39 t198 x77_2).f0), .int .i64 ((rd_T39 t198 x77_2).f1)] 39 (0, 0))) ∧ (w'.heap[s_]? = some (.cells #[.int .i64 0, .int .i64 0, .bool false] 41 (0, 0))) ∧ (w.heap.size ≤ s_) ∧ (w.heap.size ≤ s_) ∧ (gb202 ≠ s_) ∧ (s_ ≠ gb202) ∧ (Below w.heap.size w w')) ?_ ?_
            rotate_left
            ·intro hCont
             refine two_ (i := 14) (j := 18) (Ni := some 97) (Nj := some 19) #[true, true, true, true, true, true, true, true, true, true, true, true, true, true, true, false, false, false, false, false, false] #[true, true, true, true, true, true, true, true, true, true, true, true, true, true, false, false, false, false, true, false, false] rfl rfl rfl rfl (two_of HT_.out (by kernel_rfl)) (by decide) (by decide) (fun K hK => ?_) (fun K hK => ?_)
             ·skip
              refine goes_ Try.func79 (by kernel_rfl) rfl #[.agg #[.int .i64 (wrap64 ((wrap64 (2 * (Int.tmod x77_2 (wrap64 (a0 - 1))))) + 1)), .int .i64 (wrap64 ((wrap64 (2 * (wrap64 (Int.tdiv x77_2 (wrap64 (a0 - 1)))))) + 1))], .agg #[.int .i64 ((rd_T39 t198 x77_2).f0), .int .i64 ((rd_T39 t198 x77_2).f1)]] (by rfl) rfl rfl (by (try simp only [sD, sE, sF]); first | done | rfl) ?_
              with_reducible refine (impl_DominoOver.calls (wrap64 ((wrap64 (2 * (Int.tmod x77_2 (wrap64 (a0 - 1))))) + 1)) (wrap64 ((wrap64 (2 * (wrap64 (Int.tdiv x77_2 (wrap64 (a0 - 1)))))) + 1)) ((rd_T39 t198 x77_2).f0) ((rd_T39 t198 x77_2).f1) t203 t204 t205 t206 _ A31.out).mono ?_
              rintro e w37 ⟨rfl, hb⟩
              refine ⟨_, rfl, ?_⟩
              have n0_ := Aside0.mk (Kd.R_below (rX HO_8.out) hb)
              have n1_ := Aside0.mk (Kd.R_below (rX HO_75.out) hb)
              have n2_ := Aside0.mk (blk_below (g := gb202) (o := .cells #[.int .i64 ((rd_T39 t198 x77_2).f0), .int .i64 ((rd_T39 t198 x77_2).f1)] 39 (0, 0)) (kX BK202.out) hb)
              have n3_ := Aside0.mk (below_step (by repeat (with_reducible first | exact HB.out | apply below_alloc | apply pw_below_drewN | apply below_drew1 | refine below_set ?_ GE202.out)) hb)
              clear HO_8
              clear HO_75
              clear BK202
              clear HB
              have HO_8 := n0_
              have HO_75 := n1_
              have BK202 := n2_
              have HB := n3_
              clear n0_ n1_ n2_ n3_
              (try clear hb)
              (try clear hb2)
              (try clear hk)
              (try clear hi)
              refine hK.out _ _ ⟨(blk_cell BK202.out 0).trans rfl, (blk_cell BK202.out 1).trans rfl⟩ (fun hHeld => ?_)
              clear hK K
              refine norm_ (a' := ?_) ?_ ?_
              rotate_left
              ·show Act.put _ (some 97) _ = _
               simp only [Act.put, sA, sB, sC, i64_w, i32_w]
               rfl
              refine pure_ (i := 15) (N := some 82) (v := ?_) (a' := ?_) #[true, true, true, true, true, true, true, true, true, true, true, true, true, true, true, true, false, false, false, false, false] rfl rfl (any_of HT_.out (by kernel_rfl)) (fun _ _ _ h => h) (Or.inl ⟨by rfl, ?_⟩) ?_ ?_
              rotate_left
              ·intro w'
               go_simp
               with_reducible rfl
              rotate_left
              ·simp only [Act.put, sA, sB, sC, i64_w, i32_w]
               rfl
              refine pure_ (i := 16) (N := some 98) (v := ?_) (a' := ?_) #[true, true, true, true, true, true, true, true, true, true, true, true, true, true, true, true, true, false, false, false, false] rfl rfl (any_of HT_.out (by kernel_rfl)) (fun _ _ _ h => h) (Or.inl ⟨by rfl, ?_⟩) ?_ ?_
              rotate_left
              ·intro w'
               go_simp
               with_reducible rfl
              rotate_left
              ·simp only [Act.put, sA, sB, sC, i64_w, i32_w]
               rfl
              refine pure_ (i := 17) (N := some 99) (v := ?_) (a' := ?_) #[true, true, true, true, true, true, true, true, true, true, true, true, true, true, true, true, true, true, false, false, false] rfl rfl (any_of HT_.out (by kernel_rfl)) (fun _ _ _ h => h) (Or.inl ⟨by rfl, ?_⟩) ?_ ?_
              rotate_left
              ·intro w'
               go_simp
               with_reducible rfl
              rotate_left
              ·simp only [Act.put, sA, sB, sC, i64_w, i32_w]
               rfl
              refine one_ (i := 18) (N := some 19) #[true, true, true, true, true, true, true, true, true, true, true, true, true, true, true, true, true, true, true, false, false] rfl rfl (one_of HT_.out (by kernel_rfl)) (by decide) (fun K hK => ?_)
              refine box_step ?hg (N := 19) ?hd (cs := #[.int .i64 0, .int .i64 0, .bool false]) (t := 41) ?hr ?_; (case hd => rfl); (case hg => rfl); (case hr => first | (go_simp; done) | (go_simp; rfl))
              intro gb207 hg w38 hbox hb
              have n0_ := Aside0.mk (Kd.R_below (Kd.R_elderB (rX HO_8.out) gb207 (Nat.le_of_eq hg.symm)) hb)
              have n1_ := Aside0.mk (Kd.R_below (rX HO_75.out) hb)
              have n2_ := Aside0.mk (blk_below (g := gb202) (o := .cells #[.int .i64 ((rd_T39 t198 x77_2).f0), .int .i64 ((rd_T39 t198 x77_2).f1)] 39 (0, 0)) (kX BK202.out) hb)
              have n3_ := Aside0.mk (below_step (by repeat (with_reducible first | exact HB.out | apply below_alloc | apply pw_below_drewN | apply below_drew1 | refine below_set ?_ GE202.out)) hb)
              have n4_ := Aside0.mk (hbox)
              have n5_ := Aside0.mk ((by rw [hg]; exact (below_size (by repeat (with_reducible first | exact HB.out | apply below_alloc | apply pw_below_drewN | apply below_drew1 | refine below_set ?_ GE202.out))) : w.heap.size ≤ gb207))
              have n6_ := Aside0.mk ((by rw [hg]; exact (below_size (by repeat (with_reducible first | exact HB.out | apply below_alloc | apply pw_below_drewN | apply below_drew1 | refine below_set ?_ GE202.out))) : w.heap.size ≤ gb207))
              have n7_ := Aside0.mk ((by rw [hg]; exact Nat.ne_of_lt (blk_lt (g := gb202) (o := .cells #[.int .i64 ((rd_T39 t198 x77_2).f0), .int .i64 ((rd_T39 t198 x77_2).f1)] 39 (0, 0)) (kX BK202.out)) : gb202 ≠ gb207))
              have n8_ := Aside0.mk ((by rw [hg]; exact Nat.ne_of_gt (blk_lt (g := gb202) (o := .cells #[.int .i64 ((rd_T39 t198 x77_2).f0), .int .i64 ((rd_T39 t198 x77_2).f1)] 39 (0, 0)) (kX BK202.out)) : gb207 ≠ gb202))
              clear HO_8
              clear HO_75
              clear BK202
              clear HB
              have HO_8 := n0_
              have HO_75 := n1_
              have BK202 := n2_
              have HB := n3_
              have BK207 := n4_
              have GW207 := n5_
              have GE207 := n6_
              have NB202_207 := n7_
              have NB207_202 := n8_
              clear n0_ n1_ n2_ n3_ n4_ n5_ n6_ n7_ n8_
              clear hb hbox hg
              refine hK.out _ _ ⟨(blk_cell BK202.out 0).trans rfl, (blk_cell BK202.out 1).trans rfl⟩ (fun hHeld => ?_)
              clear hK K
              refine norm_ (a' := ?_) ?_ ?_
              rotate_left
              ·show Act.put _ (some 19) _ = _
               simp only [Act.put, sA, sB, sC, i64_w, i32_w]
               rfl
              exact norm_ (by simp only [putAll, Act.put, List.setIfInBounds_toArray, List.set_cons_zero, List.set_cons_succ]) (hCont (gb207) _ ⟨hHeld, (rX HO_75.out), (by (with_reducible repeat (first | apply Kd.R_alloc | apply Kd.R_drewN | apply Kd.R_drew)); exact Kd.R_mono HO_8.out (fun _ hk => hk.2)), (kX BK202.out), (kX BK207.out), GW207.out, GE207.out, NB202_207.out, NB207_202.out, (by repeat (with_reducible first | exact HB.out | apply below_alloc | apply pw_below_drewN | apply below_drew1 | refine below_set ?_ GE202.out | refine below_set ?_ GE207.out))⟩)
             ·skip
              refine box_step ?hg (N := 19) ?hd (cs := #[.int .i64 0, .int .i64 0, .bool false]) (t := 41) ?hr ?_; (case hd => rfl); (case hg => rfl); (case hr => first | (go_simp; done) | (go_simp; rfl))
              intro gb207 hg w37 hbox hb
              have n0_ := Aside0.mk (Kd.R_below (Kd.R_elderB (rX HO_8.out) gb207 (Nat.le_of_eq hg.symm)) hb)
              have n1_ := Aside0.mk (Kd.R_below (rX HO_75.out) hb)
              have n2_ := Aside0.mk (blk_below (g := gb202) (o := .cells #[.int .i64 ((rd_T39 t198 x77_2).f0), .int .i64 ((rd_T39 t198 x77_2).f1)] 39 (0, 0)) (kX BK202.out) hb)
              have n3_ := Aside0.mk (below_step (by repeat (with_reducible first | exact HB.out | apply below_alloc | apply pw_below_drewN | apply below_drew1 | refine below_set ?_ GE202.out)) hb)
              have n4_ := Aside0.mk (hbox)
              have n5_ := Aside0.mk ((by rw [hg]; exact (below_size (by repeat (with_reducible first | exact HB.out | apply below_alloc | apply pw_below_drewN | apply below_drew1 | refine below_set ?_ GE202.out))) : w.heap.size ≤ gb207))
              have n6_ := Aside0.mk ((by rw [hg]; exact (below_size (by repeat (with_reducible first | exact HB.out | apply below_alloc | apply pw_below_drewN | apply below_drew1 | refine below_set ?_ GE202.out))) : w.heap.size ≤ gb207))
              have n7_ := Aside0.mk ((by rw [hg]; exact Nat.ne_of_lt (blk_lt (g := gb202) (o := .cells #[.int .i64 ((rd_T39 t198 x77_2).f0), .int .i64 ((rd_T39 t198 x77_2).f1)] 39 (0, 0)) (kX BK202.out)) : gb202 ≠ gb207))
              have n8_ := Aside0.mk ((by rw [hg]; exact Nat.ne_of_gt (blk_lt (g := gb202) (o := .cells #[.int .i64 ((rd_T39 t198 x77_2).f0), .int .i64 ((rd_T39 t198 x77_2).f1)] 39 (0, 0)) (kX BK202.out)) : gb207 ≠ gb202))
              clear HO_8
              clear HO_75
              clear BK202
              clear HB
              have HO_8 := n0_
              have HO_75 := n1_
              have BK202 := n2_
              have HB := n3_
              have BK207 := n4_
              have GW207 := n5_
              have GE207 := n6_
              have NB202_207 := n7_
              have NB207_202 := n8_
              clear n0_ n1_ n2_ n3_ n4_ n5_ n6_ n7_ n8_
              clear hb hbox hg
              refine hK.out _ _ ⟨(blk_cell BK202.out 0).trans rfl, (blk_cell BK202.out 1).trans rfl⟩ (fun hHeld => ?_)
              clear hK K
              refine norm_ (a' := ?_) ?_ ?_
              rotate_left
              ·show Act.put _ (some 19) _ = _
               simp only [Act.put, sA, sB, sC, i64_w, i32_w]
               rfl
              refine one_ (i := 14) (N := some 97) #[true, true, true, true, true, true, true, true, true, true, true, true, true, true, true, false, false, false, true, false, false] rfl rfl (one_of HT_.out (by kernel_rfl)) (by decide) (fun K hK => ?_)
              refine goes_ Try.func79 (by kernel_rfl) rfl #[.agg #[.int .i64 (wrap64 ((wrap64 (2 * (Int.tmod x77_2 (wrap64 (a0 - 1))))) + 1)), .int .i64 (wrap64 ((wrap64 (2 * (wrap64 (Int.tdiv x77_2 (wrap64 (a0 - 1)))))) + 1))], .agg #[.int .i64 ((rd_T39 t198 x77_2).f0), .int .i64 ((rd_T39 t198 x77_2).f1)]] (by rfl) rfl rfl (by (try simp only [sD, sE, sF]); first | done | rfl) ?_
              with_reducible refine (impl_DominoOver.calls (wrap64 ((wrap64 (2 * (Int.tmod x77_2 (wrap64 (a0 - 1))))) + 1)) (wrap64 ((wrap64 (2 * (wrap64 (Int.tdiv x77_2 (wrap64 (a0 - 1)))))) + 1)) ((rd_T39 t198 x77_2).f0) ((rd_T39 t198 x77_2).f1) t203 t204 t205 t206 _ A31.out).mono ?_
              rintro e w38 ⟨rfl, hb⟩
              refine ⟨_, rfl, ?_⟩
              have n0_ := Aside0.mk (Kd.R_below (rX HO_8.out) hb)
              have n1_ := Aside0.mk (Kd.R_below (rX HO_75.out) hb)
              have n2_ := Aside0.mk (blk_below (g := gb202) (o := .cells #[.int .i64 ((rd_T39 t198 x77_2).f0), .int .i64 ((rd_T39 t198 x77_2).f1)] 39 (0, 0)) (kX BK202.out) hb)
              have n3_ := Aside0.mk (blk_below (g := gb207) (o := .cells #[.int .i64 0, .int .i64 0, .bool false] 41 (0, 0)) (kX BK207.out) hb)
              have n4_ := Aside0.mk (below_step (by repeat (with_reducible first | exact HB.out | apply below_alloc | apply pw_below_drewN | apply below_drew1 | refine below_set ?_ GE202.out | refine below_set ?_ GE207.out)) hb)
              clear HO_8
              clear HO_75
              clear BK202
              clear BK207
              clear HB
              have HO_8 := n0_
              have HO_75 := n1_
              have BK202 := n2_
              have BK207 := n3_
              have HB := n4_
              clear n0_ n1_ n2_ n3_ n4_
              (try clear hb)
              (try clear hb2)
              (try clear hk)
              (try clear hi)
              refine hK.out _ _ ⟨(blk_cell BK202.out 0).trans rfl, (blk_cell BK202.out 1).trans rfl⟩ (fun hHeld => ?_)
              clear hK K
              refine norm_ (a' := ?_) ?_ ?_
              rotate_left
              ·show Act.put _ (some 97) _ = _
               simp only [Act.put, sA, sB, sC, i64_w, i32_w]
               rfl
              refine pure_ (i := 15) (N := some 82) (v := ?_) (a' := ?_) #[true, true, true, true, true, true, true, true, true, true, true, true, true, true, true, true, false, false, true, false, false] rfl rfl (any_of HT_.out (by kernel_rfl)) (fun _ _ _ h => h) (Or.inl ⟨by rfl, ?_⟩) ?_ ?_
              rotate_left
              ·intro w'
               go_simp
               with_reducible rfl
              rotate_left
              ·simp only [Act.put, sA, sB, sC, i64_w, i32_w]
               rfl
              refine pure_ (i := 16) (N := some 98) (v := ?_) (a' := ?_) #[true, true, true, true, true, true, true, true, true, true, true, true, true, true, true, true, true, false, true, false, false] rfl rfl (any_of HT_.out (by kernel_rfl)) (fun _ _ _ h => h) (Or.inl ⟨by rfl, ?_⟩) ?_ ?_
              rotate_left
              ·intro w'
               go_simp
               with_reducible rfl
              rotate_left
              ·simp only [Act.put, sA, sB, sC, i64_w, i32_w]
               rfl
              refine pure_ (i := 17) (N := some 99) (v := ?_) (a' := ?_) #[true, true, true, true, true, true, true, true, true, true, true, true, true, true, true, true, true, true, true, false, false] rfl rfl (any_of HT_.out (by kernel_rfl)) (fun _ _ _ h => h) (Or.inl ⟨by rfl, ?_⟩) ?_ ?_
              rotate_left
              ·intro w'
               go_simp
               with_reducible rfl
              rotate_left
              ·simp only [Act.put, sA, sB, sC, i64_w, i32_w]
               rfl
              exact norm_ (by simp only [putAll, Act.put, List.setIfInBounds_toArray, List.set_cons_zero, List.set_cons_succ]) (hCont (gb207) _ ⟨hHeld, (rX HO_75.out), (by (with_reducible repeat (first | apply Kd.R_alloc | apply Kd.R_drewN | apply Kd.R_drew)); exact Kd.R_mono HO_8.out (fun _ hk => hk.2)), (kX BK202.out), (kX BK207.out), GW207.out, GE207.out, NB202_207.out, NB207_202.out, (by repeat (with_reducible first | exact HB.out | apply below_alloc | apply pw_below_drewN | apply below_drew1 | refine below_set ?_ GE202.out | refine below_set ?_ GE207.out))⟩)
            rintro gb207 w39 ⟨hS_, h0_, h1_, h2_, h3_, h4_, h5_, h6_, h7_, h8_⟩
            have n0_ : Aside0 (Kd.R k39 39 w39 w.heap.size (fun k_ => k_ ≠ gb202) (.slice (some ad201) t198.length co26) t198) := ⟨h0_⟩
            have n1_ : Aside0 (Kd.R k41 41 w39 w.heap.size (fun k_ => k_ ≠ gb207) u8 x8_2) := ⟨h1_⟩
            have n2_ : Aside0 (w39.heap[gb202]? = some (.cells #[.int .i64 ((rd_T39 t198 x77_2).f0), .int .i64 ((rd_T39 t198 x77_2).f1)] 39 (0, 0))) := ⟨h2_⟩
            have n3_ : Aside0 (w39.heap[gb207]? = some (.cells #[.int .i64 0, .int .i64 0, .bool false] 41 (0, 0))) := ⟨h3_⟩
            have n4_ : Aside0 (w.heap.size ≤ gb207) := ⟨h4_⟩
            have n5_ : Aside0 (w.heap.size ≤ gb207) := ⟨h5_⟩
            have n6_ : Aside0 (gb202 ≠ gb207) := ⟨h6_⟩
            have n7_ : Aside0 (gb207 ≠ gb202) := ⟨h7_⟩
            have n8_ : Aside0 (Below w.heap.size w w39) := ⟨h8_⟩
            clear HO_8
            clear HO_75
            clear BK202
            clear HB
            clear h0_ h1_ h2_ h3_ h4_ h5_ h6_ h7_ h8_
            have HO_75 := n0_
            have HO_8 := n1_
            have BK202 := n2_
            have BK207 := n3_
            have GW207 := n4_
            have GE207 := n5_
            have NB202_207 := n6_
            have NB207_202 := n7_
            have HB := n8_
            clear n0_ n1_ n2_ n3_ n4_ n5_ n6_ n7_ n8_
            have hHeld : w39.cell? ⟨gb202, 0, none⟩ = some (.int .i64 ((rd_T39 t198 x77_2).f0)) ∧ w39.cell? ⟨gb202, 1, none⟩ = some (.int .i64 ((rd_T39 t198 x77_2).f1)) := hS_
            refine norm_ (a' := ?_) ?_ ?_
            rotate_left
            ·simp only [putAll, Act.put, List.setIfInBounds_toArray, List.set_cons_zero, List.set_cons_succ]
             rfl
            refine one_ (i := 19) (N := none) #[true, true, true, true, true, true, true, true, true, true, true, true, true, true, true, true, true, true, true, true, false] rfl rfl (one_of HT_.out (by kernel_rfl)) (by decide) (fun K hK => ?_)
            have hs40 : w39.cell? ⟨gb207, 0, none⟩ = some (.int .i64 0) := (blk_cell BK207.out 0).trans rfl
            have hfs40 := blk_frozen BK207.out 0
            have hns40_0 := NB202_207.out
            have hms40_0 := NB207_202.out
            have hs41 : w39.cell? ⟨gb207, 1, none⟩ = some (.int .i64 0) := (blk_cell BK207.out 1).trans rfl
            have hfs41 := blk_frozen BK207.out 1
            have hns41_0 := NB202_207.out
            have hms41_0 := NB207_202.out
            have hs42 : w39.cell? ⟨gb207, 2, none⟩ = some (.bool false) := (blk_cell BK207.out 2).trans rfl
            have hfs42 := blk_frozen BK207.out 2
            have hns42_0 := NB202_207.out
            have hms42_0 := NB207_202.out
            refine skip_ (w1 := ?_) (by rfl) rfl ?_ ?_
            rotate_left
            ·go_simp
             rfl
            refine hK.out _ _ ⟨((cell_far (p := ⟨gb207, _, none⟩) NB202_207.out _).trans (((cell_far (p := ⟨gb207, _, none⟩) NB202_207.out _).trans (((cell_far (p := ⟨gb207, _, none⟩) NB202_207.out _).trans (hHeld.1)))))), ((cell_far (p := ⟨gb207, _, none⟩) NB202_207.out _).trans (((cell_far (p := ⟨gb207, _, none⟩) NB202_207.out _).trans (((cell_far (p := ⟨gb207, _, none⟩) NB202_207.out _).trans (hHeld.2))))))⟩ (fun hHeld => ?_)
            clear hK K
            refine pure_ (i := 20) (N := some 20) (v := ?_) (a' := ?_) #[true, true, true, true, true, true, true, true, true, true, true, true, true, true, true, true, true, true, true, true, true] rfl rfl (any_of HT_.out (by kernel_rfl)) (fun _ _ _ h => h) (Or.inl ⟨by rfl, ?_⟩) ?_ ?_
            rotate_left
            ·intro w'
             go_simp
             with_reducible rfl
            rotate_left
            ·simp only [Act.put, sA, sB, sC, i64_w, i32_w]
             rfl
            refine done_ (done_of HT_.out (by kernel_rfl)) ?_
            have hnb43 := NB207_202.out
            have hnc43 := NB202_207.out
            have hcz44_0 : w39.cell? ⟨gb207, 0, none⟩ = some (.int .i64 0) := (blk_cell BK207.out 0).trans rfl
            have hcz44_1 : w39.cell? ⟨gb207, 1, none⟩ = some (.int .i64 0) := (blk_cell BK207.out 1).trans rfl
            have hcz44_2 : w39.cell? ⟨gb207, 2, none⟩ = some (.bool false) := (blk_cell BK207.out 2).trans rfl
            have hfz44_0 := blk_frozen BK207.out 0
            have hfz44_1 := blk_frozen BK207.out 1
            have hfz44_2 := blk_frozen BK207.out 2
            try go_wp2_with (first | ((with_reducible refine gate_builtin (b := .append) (xs := #[.tmp 100, .tmp 102]) rfl ?_); at_builtin; refine Kd.R_append k41 (w0 := w) w.heap.size rfl (.tmp 100) (.tmp 102) 24 41 (.agg #[(.int .i64 0), (.int .i64 0), (.bool false)]) 24 rfl Try.underlying24 info41 rfl (by decide) (by omega) u8 x8_2 (⟨t203, t204, t205⟩ : S41) [.int .i64 t203, .int .i64 t204, .bool t205] (fun k_ => k_ ≠ gb207) (fun _ => False) rfl (by first | (go_simp; done) | (go_simp; rfl)) ?aP (fun _ hk => hk.elim) ?aF ?aO ?aB ?aS ?aL ?_; (case aP => exact k41_mkM _ _ _ (⟨t203, t204, t205⟩ : S41)); (case aB => exact (by repeat (with_reducible first | exact HB.out | apply below_alloc | apply pw_below_drewN | apply below_drew1 | refine below_set ?_ GE202.out | refine below_set ?_ GE207.out))); (case aF => exact (fun k_ hk => Kd.freshB (g := gb207) (o := .cells #[.int .i64 t203, .int .i64 t204, .bool t205] 41 (0, 0)) (by (with_reducible repeat (first | refine blk_drewN ?_ _ | refine blk_drew ?_ | refine blk_alloc ?_ _)); refine blk_put (cs := #[.int .i64 t203, .int .i64 t204, .bool false]) ?_ 2 _ rfl; (with_reducible repeat (first | refine blk_drewN ?_ _ | refine blk_drew ?_ | refine blk_alloc ?_ _)); refine blk_put (cs := #[.int .i64 t203, .int .i64 0, .bool false]) ?_ 1 _ rfl; (with_reducible repeat (first | refine blk_drewN ?_ _ | refine blk_drew ?_ | refine blk_alloc ?_ _)); refine blk_put (cs := #[.int .i64 0, .int .i64 0, .bool false]) ?_ 0 _ rfl; (with_reducible repeat (first | refine blk_drewN ?_ _ | refine blk_drew ?_ | refine blk_alloc ?_ _)); exact BK207.out) k_ hk)); (case aO => exact (by (with_reducible repeat (first | apply Kd.R_alloc | apply Kd.R_drewN | apply Kd.R_drew)); exact Kd.R_mono (Kd.R_far (p := ⟨gb207, 2, none⟩) (Kd.R_far (p := ⟨gb207, 1, none⟩) (Kd.R_far (p := ⟨gb207, 0, none⟩) (Kd.R_mono HO_8.out (fun k_ hk => (⟨hk, hk⟩ : _ ∧ k_ ≠ gb207))) (fun _ hk => hk.2) (.int .i64 t203)) (fun _ hk => hk.2) (.int .i64 t204)) (fun _ hk => hk.2) (.bool t205)) (fun _ hk => hk.1))); (case aS => exact (below_size (by repeat (with_reducible first | exact HB.out | apply below_alloc | apply pw_below_drewN | apply below_drew1 | refine below_set ?_ GE202.out | refine below_set ?_ GE207.out)))); (case aL => have := LMc32.out; omega); intro v209 w45 ho hb hg hat; rw [← Ny208.out] at ho; have n0_ := Aside0.mk (Kd.R_over' (by (with_reducible repeat (first | apply Kd.R_alloc | apply Kd.R_drewN | apply Kd.R_drew)); exact (Kd.R_mono (Kd.R_far (p := ⟨gb207, 2, none⟩) (Kd.R_far (p := ⟨gb207, 1, none⟩) (Kd.R_far (p := ⟨gb207, 0, none⟩) (Kd.R_types HO_75.out BK207.out (by decide)) (fun _ hk => hk.2) (.int .i64 t203)) (fun _ hk => hk.2) (.int .i64 t204)) (fun _ hk => hk.2) (.bool t205)) (fun _ h_ => h_.1))) (Kd.R_typed (by (with_reducible repeat (first | apply Kd.R_alloc | apply Kd.R_drewN | apply Kd.R_drew)); exact (Kd.R_mono (Kd.R_far (p := ⟨gb207, 2, none⟩) (Kd.R_far (p := ⟨gb207, 1, none⟩) (Kd.R_far (p := ⟨gb207, 0, none⟩) (Kd.R_mono HO_8.out (fun k_ hk => (⟨hk, hk⟩ : _ ∧ k_ ≠ gb207))) (fun _ hk => hk.2) (.int .i64 t203)) (fun _ hk => hk.2) (.int .i64 t204)) (fun _ hk => hk.2) (.bool t205)) (fun _ h_ => h_.1)))) (by decide) hg); have n1_ := Aside0.mk (blk_grown (g := gb202) (o := .cells #[.int .i64 ((rd_T39 t198 x77_2).f0), .int .i64 ((rd_T39 t198 x77_2).f1)] 39 (0, 0)) (by (with_reducible repeat (first | refine blk_drewN ?_ _ | refine blk_drew ?_ | refine blk_alloc ?_ _)); refine blk_far ?_ NB202_207.out _; (with_reducible repeat (first | refine blk_drewN ?_ _ | refine blk_drew ?_ | refine blk_alloc ?_ _)); refine blk_far ?_ NB202_207.out _; (with_reducible repeat (first | refine blk_drewN ?_ _ | refine blk_drew ?_ | refine blk_alloc ?_ _)); refine blk_far ?_ NB202_207.out _; (with_reducible repeat (first | refine blk_drewN ?_ _ | refine blk_drew ?_ | refine blk_alloc ?_ _)); exact BK202.out) hg (Kd.R_ne HO_8.out BK202.out (by decide))); have n2_ := Aside0.mk (blk_grown (g := gb207) (o := .cells #[.int .i64 t203, .int .i64 t204, .bool t205] 41 (0, 0)) (by (with_reducible repeat (first | refine blk_drewN ?_ _ | refine blk_drew ?_ | refine blk_alloc ?_ _)); refine blk_put (cs := #[.int .i64 t203, .int .i64 t204, .bool false]) ?_ 2 _ rfl; (with_reducible repeat (first | refine blk_drewN ?_ _ | refine blk_drew ?_ | refine blk_alloc ?_ _)); refine blk_put (cs := #[.int .i64 t203, .int .i64 0, .bool false]) ?_ 1 _ rfl; (with_reducible repeat (first | refine blk_drewN ?_ _ | refine blk_drew ?_ | refine blk_alloc ?_ _)); refine blk_put (cs := #[.int .i64 0, .int .i64 0, .bool false]) ?_ 0 _ rfl; (with_reducible repeat (first | refine blk_drewN ?_ _ | refine blk_drew ?_ | refine blk_alloc ?_ _)); exact BK207.out) hg (Kd.R_away HO_8.out (fun _ hk => hk))); have n3_ := Aside0.mk (hb); have n4_ := Aside0.mk (ho); clear HO_75; clear BK202; clear BK207; clear HB; clear HO_8; have HO_75 := n0_; have BK202 := n1_; have BK207 := n2_; have HB := n3_; have HO210 := n4_; clear n0_ n1_ n2_ n3_ n4_; clear ho hb hg hat))
            go_roundg k2
            case measure => have := HK1.out; have := HK2.out; omega
            case rel => exact ⟨(y208), (wrap64 (x77_2 + 1)), (by first | rfl | (simp; done) | (simp [*]; done)), H', ⟨by have := HK1.out; have := HK2.out; omega⟩, ⟨by (with_reducible repeat (first | apply Kd.R_alloc | apply Kd.R_drewN | apply Kd.R_drew)); exact Kd.R_mono HO210.out (fun _ hk => trivial)⟩, ⟨by (with_reducible repeat (first | apply Kd.R_alloc | apply Kd.R_drewN | apply Kd.R_drew)); exact Kd.R_mono HO_75.out (fun _ hk => trivial)⟩, ⟨by repeat (with_reducible first | exact HB.out | apply below_alloc | apply pw_below_drewN | apply below_drew1 | refine below_set ?_ GE202.out | refine below_set ?_ GE207.out)⟩⟩
           ·rw [if_neg c32] at H
            exact absurd H (by simp)
         ·rw [if_neg c29] at H
          exact absurd H (by simp)
        ·rw [if_neg c28] at H
         exact absurd H (by simp)
       ·rw [if_neg c27] at H
        have c27b0 : decide (x77_2 < (t198.length : Int)) = false := decide_eq_false c27
        clear c27
        replace H := Option.bind_eq_some_iff.mp H
        obtain ⟨t211, A460, H⟩ := H
        replace H : (some (t211, true)) = some (r1, r2) := H
        have A46 := Aside0.mk A460
        clear A460
        simp only [Option.some.injEq, Prod.mk.injEq] at H
        obtain ⟨rfl, rfl⟩ := H
        obtain ⟨Ao47, co47, eo47⟩ := Kd.R_slice HO_8.out
        subst eo47
        go_wp2_with (first | ((with_reducible refine gate_callee (f := 60) rfl ?_); refine goesL_ (some 106) rfl rfl Try.func60 (by kernel_rfl) rfl #[.slice Ao47 x8_2.length co47] rfl (by (try simp only [sD, sE, sF]); first | done | rfl) ?_; (with_reducible refine (impl_SortDominoes.calls k2 _ _ x8_2 t211 _ ?side1 ?side2 A46.out).mono ?_); (case side1 => repeat (first | exact (Kd.R_reads' HO_8.out).2.2 | (with_reducible refine Kd.C_alloc ?_ _) | (with_reducible refine Kd.C_drewN ?_ _) | (with_reducible refine Kd.C_drew ?_))); (case side2 => exact (Kd.R_reads' HO_8.out).2.1); rintro e w48 ⟨v212, rfl, ho0, hb⟩; refine ⟨_, rfl, ?_⟩; have n0_ := Aside0.mk (Kd.R_elder' (rX HO_8.out) (Kd.R_base ho0) hb); have n1_ := Aside0.mk (Kd.R_below (rX HO_75.out) hb); have n2_ := Aside0.mk (Kd.R_lower (Kd.R_new' ho0 (Kd.R_lt (rX HO_8.out))) (below_size (bX HB.out))); have n3_ := Aside0.mk (below_step (bX HB.out) hb); clear HO_8; clear HO_75; clear HB; have HO_8 := n0_; have HO_75 := n1_; have HO213 := n2_; have HB := n3_; clear n0_ n1_ n2_ n3_; (try clear hb); (try clear hb2); (try clear hk); (try clear hi); (try clear ho0)))
        go_ret2
        exact ⟨_, by first | rfl | (simp [*, errW_none, errW_some] <;> rfl), by (with_reducible repeat (first | apply Kd.R_alloc | apply Kd.R_drewN | apply Kd.R_drew)); exact Kd.R_mono HO213.out (fun _ hk => trivial), bX HB.out⟩
 ·replace c5 := Bool.eq_false_iff.mpr c5
  subst c5
  have H1 : (some (([] : List (S41)), false)) = some (r1, r2) := by rw [if_neg (show ¬ (false = true) by decide)] at H; exact H
  clear H
  have H := H1
  clear H1
  simp only [Option.some.injEq, Prod.mk.injEq] at H
  obtain ⟨rfl, rfl⟩ := H
  go_enter Try.func23, Try.ntmps23
  go_wp2_with (first | ((with_reducible refine gate_callee (f := 77) rfl ?_); refine goesL_ (some 24) rfl rfl Try.func77 (by kernel_rfl) rfl #[.int .i64 a0, .int .i64 a1, .slice A2 l2.length c2] rfl (by (try simp only [sD, sE, sF]); first | done | rfl) ?_; (with_reducible refine (impl_IsTree.calls k a0 a1 _ _ l2 false _ ?side1 ?side2 A4.out).mono ?_); (case side1 => repeat (first | exact HR2.out | (with_reducible refine Kd.C_alloc ?_ _) | (with_reducible refine Kd.C_drewN ?_ _) | (with_reducible refine Kd.C_drew ?_))); (case side2 => exact HC2.out); rintro e w49 ⟨rfl, hb⟩; refine ⟨_, rfl, ?_⟩; have n0_ := Aside0.mk (below_step (bX HB.out) hb); clear HB; have HB := n0_; clear n0_; (try clear hb); (try clear hb2); (try clear hk); (try clear hi)))
  go_ret2
  exact ⟨_, by first | rfl | (simp [*, errW_none, errW_some] <;> rfl), by first | exact Kd.R_nil _ _ _ _ _ | exact Kd.N_nil _ _ _ _ _ | exact Kd.V_nil _ _ _ _ _ | exact Kd.Q_nil _ _ _ _ _ | exact Kd.S_nil _ _ _ _ _, bX HB.out⟩
def laws_szLinkS.f (l0 : List (S120)) (a1 : Int) : Option (Int) := if (wrap64 (a1 - (l0.length : Int))) < 0 then (some (-1)) else (some (wrap64 (a1 - (l0.length : Int))))
set_option maxHeartbeats 8000000 in
set_option maxRecDepth 100000 in
theorem laws_szLinkS.calls (A0 : Option Addr) (c0 : Nat) (l0 : List (S120)) (a1 : Int) (r : Int) (w : World) (hr0 : Kd.C k120 w A0 l0.length l0) (hc0 : l0.length ≤ c0) (h : laws_szLinkS.f l0 a1 = some r) :
  Calls Try.prog 33 #[.slice A0 l0.length c0, .int .i64 a1] w fun e w' => e = .returned (.int .i64 r) ∧ Drawn0 w w' := by
 have HR0 := Aside0.mk hr0
 have HC0 := Aside0.mk hc0
 clear hr0 hc0
 have H : (if (wrap64 (a1 - (l0.length : Int))) < 0 then (some (-1)) else (some (wrap64 (a1 - (l0.length : Int))))) = some r := h
 clear h
 by_cases c3 : (wrap64 (a1 - (l0.length : Int))) < 0
 ·rw [if_pos c3] at H
  have c3b0 : decide ((wrap64 (a1 - (l0.length : Int))) < 0) = true := decide_eq_true c3
  clear c3
  obtain rfl := Option.some.inj H
  go_enter Try.func33, Try.ntmps33
  go_wp2
  go_ret
  exact ⟨by first | rfl | (simp; done) | (simp [*]; done), by repeat (first | exact Drawn0.refl _ | apply Drawn0.step)⟩
 ·rw [if_neg c3] at H
  have c3b0 : decide ((wrap64 (a1 - (l0.length : Int))) < 0) = false := decide_eq_false c3
  clear c3
  obtain rfl := Option.some.inj H
  go_enter Try.func33, Try.ntmps33
  go_wp2
  go_ret
  exact ⟨by first | rfl | (simp; done) | (simp [*]; done), by repeat (first | exact Drawn0.refl _ | apply Drawn0.step)⟩
def spec_l01In.f (a0 : Int) (a1 : Int) (a2 : Int) : Option (Bool) := if a0 ≥ a1 then (some (decide (a0 ≤ a2))) else (some false)
set_option maxHeartbeats 8000000 in
set_option maxRecDepth 100000 in
theorem spec_l01In.calls (a0 : Int) (a1 : Int) (a2 : Int) (r : Bool) (w : World) (h : spec_l01In.f a0 a1 a2 = some r) :
  Calls Try.prog 103 #[.int .i64 a0, .int .i64 a1, .int .i64 a2] w fun e w' => e = .returned (.bool r) ∧ Drawn0 w w' := by
 have H : (if a0 ≥ a1 then (some (decide (a0 ≤ a2))) else (some false)) = some r := h
 clear h
 by_cases c4 : a0 ≥ a1
 ·rw [if_pos c4] at H
  have c4b0 : decide (a1 ≤ a0) = true := decide_eq_true c4
  clear c4
  obtain rfl := Option.some.inj H
  go_enter Try.func103, Try.ntmps103
  go_wp2
  go_ret
  exact ⟨by first | rfl | (simp; done) | (simp [*]; done), by repeat (first | exact Drawn0.refl _ | apply Drawn0.step)⟩
 ·rw [if_neg c4] at H
  have c4b0 : decide (a1 ≤ a0) = false := decide_eq_false c4
  clear c4
  obtain rfl := Option.some.inj H
  go_enter Try.func103, Try.ntmps103
  go_wp2
  go_ret
  exact ⟨by first | rfl | (simp; done) | (simp [*]; done), by repeat (first | exact Drawn0.refl _ | apply Drawn0.step)⟩
def spec_CellOk.f (a0_0 : Int) (a0_1 : Int) : Option (Bool) := (spec_l01In.f a0_0 0 7).bind fun t215 => (if t215 = true then ((spec_l01In.f a0_1 0 7).bind fun t216 => (some t216)) else (some false))
set_option maxHeartbeats 8000000 in
set_option maxRecDepth 100000 in
theorem spec_CellOk.calls (a0_0 : Int) (a0_1 : Int) (r : Bool) (w : World) (h : spec_CellOk.f a0_0 a0_1 = some r) :
  Calls Try.prog 132 #[.agg #[.int .i64 a0_0, .int .i64 a0_1]] w fun e w' => e = .returned (.bool r) ∧ Below w.heap.size w w' := by
 have hu39 := Try.underlying39
 have HB := Aside0.mk (Below.refl w.heap.size w)
 have H : ((spec_l01In.f a0_0 0 7).bind fun t215 => (if t215 = true then ((spec_l01In.f a0_1 0 7).bind fun t216 => (some t216)) else (some false))) = some r := h
 clear h
 replace H := Option.bind_eq_some_iff.mp H
 obtain ⟨t215, A20, H⟩ := H
 replace H : (if t215 = true then ((spec_l01In.f a0_1 0 7).bind fun t216 => (some t216)) else (some false)) = some r := H
 have A2 := Aside0.mk A20
 clear A20
 by_cases c3 : t215 = true
 ·subst c3
  have H1 : ((spec_l01In.f a0_1 0 7).bind fun t216 => (some t216)) = some r := by rw [if_pos rfl] at H; exact H
  clear H
  have H := H1
  clear H1
  replace H := Option.bind_eq_some_iff.mp H
  obtain ⟨t216, A40, H⟩ := H
  replace H : (some t216) = some r := H
  have A4 := Aside0.mk A40
  clear A40
  obtain rfl := Option.some.inj H
  go_enter Try.func132, Try.ntmps132
  go_wp2_with (first | ((with_reducible refine gate_dst (N := 1) rfl ?_); refine box_event ?hg (N := 1) ?hd (cs := #[.int .i64 a0_0, .int .i64 a0_1]) (t := 39) ?hr ?_; (case hd => rfl); (case hg => rfl); (case hr => first | (go_simp; done) | (go_simp; rfl)); intro gb214 hg w5 hbox hb; have n0_ := Aside0.mk (below_step (bX HB.out) hb); have n1_ := Aside0.mk (hbox); have n2_ := Aside0.mk ((by rw [hg]; exact (below_size (bX HB.out)) : w.heap.size ≤ gb214)); have n3_ := Aside0.mk ((by rw [hg]; exact (below_size (bX HB.out)) : w.heap.size ≤ gb214)); clear HB; have HB := n0_; have BK214 := n1_; have GW214 := n2_; have GE214 := n3_; clear n0_ n1_ n2_ n3_; clear hb hbox hg; have hcz6_0 : w5.cell? ⟨gb214, 0, none⟩ = some (.int .i64 a0_0) := (blk_cell BK214.out 0).trans rfl; have hcz6_1 : w5.cell? ⟨gb214, 1, none⟩ = some (.int .i64 a0_1) := (blk_cell BK214.out 1).trans rfl; have hfz6_0 := blk_frozen BK214.out 0; have hfz6_1 := blk_frozen BK214.out 1) | ((with_reducible refine gate_callee (f := 103) rfl ?_); refine goesL_ (some 5) rfl rfl Try.func103 (by kernel_rfl) rfl #[.int .i64 a0_0, .int .i64 0, .int .i64 7] rfl (by (try simp only [sD, sE, sF]); first | done | rfl) ?_; (with_reducible refine (spec_l01In.calls a0_0 0 7 true _ A2.out).mono ?_); rintro e w' ⟨rfl, ⟨nd, rfl⟩⟩; refine ⟨_, rfl, ?_⟩) | (go_at_call 103; (with_reducible refine (spec_l01In.calls a0_1 0 7 t216 _ A4.out).mono ?_); rintro e w' ⟨rfl, ⟨nd, rfl⟩⟩))
  go_ret
  exact ⟨by first | rfl | (simp [*, errW_none, errW_some] <;> rfl), by repeat (with_reducible first | exact HB.out | apply below_alloc | apply pw_below_drewN | apply below_drew1 | refine below_set ?_ GE214.out)⟩
 ·replace c3 := Bool.eq_false_iff.mpr c3
  subst c3
  have H1 : (some false) = some r := by rw [if_neg (show ¬ (false = true) by decide)] at H; exact H
  clear H
  have H := H1
  clear H1
  obtain rfl := Option.some.inj H
  go_enter Try.func132, Try.ntmps132
  go_wp2_with (first | ((with_reducible refine gate_dst (N := 1) rfl ?_); refine box_event ?hg (N := 1) ?hd (cs := #[.int .i64 a0_0, .int .i64 a0_1]) (t := 39) ?hr ?_; (case hd => rfl); (case hg => rfl); (case hr => first | (go_simp; done) | (go_simp; rfl)); intro gb214 hg w7 hbox hb; have n0_ := Aside0.mk (below_step (bX HB.out) hb); have n1_ := Aside0.mk (hbox); have n2_ := Aside0.mk ((by rw [hg]; exact (below_size (bX HB.out)) : w.heap.size ≤ gb214)); have n3_ := Aside0.mk ((by rw [hg]; exact (below_size (bX HB.out)) : w.heap.size ≤ gb214)); clear HB; have HB := n0_; have BK214 := n1_; have GW214 := n2_; have GE214 := n3_; clear n0_ n1_ n2_ n3_; clear hb hbox hg; have hcz8_0 : w7.cell? ⟨gb214, 0, none⟩ = some (.int .i64 a0_0) := (blk_cell BK214.out 0).trans rfl; have hcz8_1 : w7.cell? ⟨gb214, 1, none⟩ = some (.int .i64 a0_1) := (blk_cell BK214.out 1).trans rfl; have hfz8_0 := blk_frozen BK214.out 0; have hfz8_1 := blk_frozen BK214.out 1) | ((with_reducible refine gate_callee (f := 103) rfl ?_); refine goesL_ (some 5) rfl rfl Try.func103 (by kernel_rfl) rfl #[.int .i64 a0_0, .int .i64 0, .int .i64 7] rfl (by (try simp only [sD, sE, sF]); first | done | rfl) ?_; (with_reducible refine (spec_l01In.calls a0_0 0 7 false _ A2.out).mono ?_); rintro e w' ⟨rfl, ⟨nd, rfl⟩⟩; refine ⟨_, rfl, ?_⟩))
  go_ret
  exact ⟨by first | rfl | (simp [*, errW_none, errW_some] <;> rfl), by repeat (with_reducible first | exact HB.out | apply below_alloc | apply pw_below_drewN | apply below_drew1 | refine below_set ?_ GE214.out)⟩
def spec_l05Second.f (a0_0 : Int) (a0_1 : Int) (a0_2 : Bool) : Option (Int × Int) := if a0_2 = true then (some (a0_0, wrap64 (a0_1 + 1))) else (some (wrap64 (a0_0 + 1), a0_1))
set_option maxHeartbeats 8000000 in
set_option maxRecDepth 100000 in
theorem spec_l05Second.calls (a0_0 : Int) (a0_1 : Int) (a0_2 : Bool) (r1 : Int) (r2 : Int) (w : World) (h : spec_l05Second.f a0_0 a0_1 a0_2 = some (r1, r2)) :
  Calls Try.prog 133 #[.agg #[.int .i64 a0_0, .int .i64 a0_1, .bool a0_2]] w fun e w' => e = .returned (.agg #[.int .i64 r1, .int .i64 r2]) ∧ Below w.heap.size w w' := by
 have hu41 := Try.underlying41
 have hu39 := Try.underlying39
 have HB := Aside0.mk (Below.refl w.heap.size w)
 have H : (if a0_2 = true then (some (a0_0, wrap64 (a0_1 + 1))) else (some (wrap64 (a0_0 + 1), a0_1))) = some (r1, r2) := h
 clear h
 by_cases c2 : a0_2 = true
 ·subst c2
  have H1 : (some (a0_0, wrap64 (a0_1 + 1))) = some (r1, r2) := by rw [if_pos rfl] at H; exact H
  clear H
  have H := H1
  clear H1
  simp only [Option.some.injEq, Prod.mk.injEq] at H
  obtain ⟨rfl, rfl⟩ := H
  go_enter Try.func133, Try.ntmps133
  go_wp2_with (first | ((with_reducible refine gate_dst (N := 1) rfl ?_); refine box_event ?hg (N := 1) ?hd (cs := #[.int .i64 a0_0, .int .i64 a0_1, .bool true]) (t := 41) ?hr ?_; (case hd => rfl); (case hg => rfl); (case hr => first | (go_simp; done) | (go_simp; rfl)); intro gb217 hg w3 hbox hb; have n0_ := Aside0.mk (below_step (bX HB.out) hb); have n1_ := Aside0.mk (hbox); have n2_ := Aside0.mk ((by rw [hg]; exact (below_size (bX HB.out)) : w.heap.size ≤ gb217)); have n3_ := Aside0.mk ((by rw [hg]; exact (below_size (bX HB.out)) : w.heap.size ≤ gb217)); clear HB; have HB := n0_; have BK217 := n1_; have GW217 := n2_; have GE217 := n3_; clear n0_ n1_ n2_ n3_; clear hb hbox hg) | ((with_reducible refine gate_dst (N := 2) rfl ?_); refine box_event ?hg (N := 2) ?hd (cs := #[.int .i64 0, .int .i64 0]) (t := 39) ?hr ?_; (case hd => rfl); (case hg => rfl); (case hr => first | (go_simp; done) | (go_simp; rfl)); intro gb218 hg w4 hbox hb; have n0_ := Aside0.mk (blk_below (g := gb217) (o := .cells #[.int .i64 a0_0, .int .i64 a0_1, .bool true] 41 (0, 0)) (kX BK217.out) hb); have n1_ := Aside0.mk (below_step (by repeat (with_reducible first | exact HB.out | apply below_alloc | apply pw_below_drewN | apply below_drew1 | refine below_set ?_ GE217.out)) hb); have n2_ := Aside0.mk (hbox); have n3_ := Aside0.mk ((by rw [hg]; exact (below_size (by repeat (with_reducible first | exact HB.out | apply below_alloc | apply pw_below_drewN | apply below_drew1 | refine below_set ?_ GE217.out))) : w.heap.size ≤ gb218)); have n4_ := Aside0.mk ((by rw [hg]; exact (below_size (by repeat (with_reducible first | exact HB.out | apply below_alloc | apply pw_below_drewN | apply below_drew1 | refine below_set ?_ GE217.out))) : w.heap.size ≤ gb218)); have n5_ := Aside0.mk ((by rw [hg]; exact Nat.ne_of_lt (blk_lt (g := gb217) (o := .cells #[.int .i64 a0_0, .int .i64 a0_1, .bool true] 41 (0, 0)) (kX BK217.out)) : gb217 ≠ gb218)); have n6_ := Aside0.mk ((by rw [hg]; exact Nat.ne_of_gt (blk_lt (g := gb217) (o := .cells #[.int .i64 a0_0, .int .i64 a0_1, .bool true] 41 (0, 0)) (kX BK217.out)) : gb218 ≠ gb217)); clear BK217; clear HB; have BK217 := n0_; have HB := n1_; have BK218 := n2_; have GW218 := n3_; have GE218 := n4_; have NB217_218 := n5_; have NB218_217 := n6_; clear n0_ n1_ n2_ n3_ n4_ n5_ n6_; clear hb hbox hg; have hnb5 := NB217_218.out; have hnc5 := NB218_217.out; have hcz6_0 : w4.cell? ⟨gb217, 0, none⟩ = some (.int .i64 a0_0) := (blk_cell BK217.out 0).trans rfl; have hcz6_1 : w4.cell? ⟨gb217, 1, none⟩ = some (.int .i64 a0_1) := (blk_cell BK217.out 1).trans rfl; have hcz6_2 : w4.cell? ⟨gb217, 2, none⟩ = some (.bool true) := (blk_cell BK217.out 2).trans rfl; have hfz6_0 := blk_frozen BK217.out 0; have hfz6_1 := blk_frozen BK217.out 1; have hfz6_2 := blk_frozen BK217.out 2; have hcz7_0 : w4.cell? ⟨gb218, 0, none⟩ = some (.int .i64 0) := (blk_cell BK218.out 0).trans rfl; have hcz7_1 : w4.cell? ⟨gb218, 1, none⟩ = some (.int .i64 0) := (blk_cell BK218.out 1).trans rfl; have hfz7_0 := blk_frozen BK218.out 0; have hfz7_1 := blk_frozen BK218.out 1))
  refine bodyPost_ret (results_cell_row rfl _ _ gb218 39 #[.int .i64 a0_0, .int .i64 (wrap64 (a0_1 + 1))] (0, 0) _ rfl (by (with_reducible repeat (first | refine blk_drewN ?_ _ | refine blk_drew ?_ | refine blk_alloc ?_ _)); refine blk_put (cs := #[.int .i64 a0_0, .int .i64 0]) ?_ 1 _ rfl; (with_reducible repeat (first | refine blk_drewN ?_ _ | refine blk_drew ?_ | refine blk_alloc ?_ _)); refine blk_put (cs := #[.int .i64 0, .int .i64 0]) ?_ 0 _ rfl; (with_reducible repeat (first | refine blk_drewN ?_ _ | refine blk_drew ?_ | refine blk_alloc ?_ _)); exact BK218.out) Try.underlying39 rfl (by kernel_rfl)) rfl ?_
  exact ⟨by first | rfl | (simp [*, errW_none, errW_some] <;> rfl), by repeat (with_reducible first | exact HB.out | apply below_alloc | apply pw_below_drewN | apply below_drew1 | refine below_set ?_ GE217.out | refine below_set ?_ GE218.out)⟩
 ·replace c2 := Bool.eq_false_iff.mpr c2
  subst c2
  have H1 : (some (wrap64 (a0_0 + 1), a0_1)) = some (r1, r2) := by rw [if_neg (show ¬ (false = true) by decide)] at H; exact H
  clear H
  have H := H1
  clear H1
  simp only [Option.some.injEq, Prod.mk.injEq] at H
  obtain ⟨rfl, rfl⟩ := H
  go_enter Try.func133, Try.ntmps133
  go_wp2_with (first | ((with_reducible refine gate_dst (N := 1) rfl ?_); refine box_event ?hg (N := 1) ?hd (cs := #[.int .i64 a0_0, .int .i64 a0_1, .bool false]) (t := 41) ?hr ?_; (case hd => rfl); (case hg => rfl); (case hr => first | (go_simp; done) | (go_simp; rfl)); intro gb217 hg w8 hbox hb; have n0_ := Aside0.mk (below_step (bX HB.out) hb); have n1_ := Aside0.mk (hbox); have n2_ := Aside0.mk ((by rw [hg]; exact (below_size (bX HB.out)) : w.heap.size ≤ gb217)); have n3_ := Aside0.mk ((by rw [hg]; exact (below_size (bX HB.out)) : w.heap.size ≤ gb217)); clear HB; have HB := n0_; have BK217 := n1_; have GW217 := n2_; have GE217 := n3_; clear n0_ n1_ n2_ n3_; clear hb hbox hg) | ((with_reducible refine gate_dst (N := 2) rfl ?_); refine box_event ?hg (N := 2) ?hd (cs := #[.int .i64 0, .int .i64 0]) (t := 39) ?hr ?_; (case hd => rfl); (case hg => rfl); (case hr => first | (go_simp; done) | (go_simp; rfl)); intro gb218 hg w9 hbox hb; have n0_ := Aside0.mk (blk_below (g := gb217) (o := .cells #[.int .i64 a0_0, .int .i64 a0_1, .bool false] 41 (0, 0)) (kX BK217.out) hb); have n1_ := Aside0.mk (below_step (by repeat (with_reducible first | exact HB.out | apply below_alloc | apply pw_below_drewN | apply below_drew1 | refine below_set ?_ GE217.out)) hb); have n2_ := Aside0.mk (hbox); have n3_ := Aside0.mk ((by rw [hg]; exact (below_size (by repeat (with_reducible first | exact HB.out | apply below_alloc | apply pw_below_drewN | apply below_drew1 | refine below_set ?_ GE217.out))) : w.heap.size ≤ gb218)); have n4_ := Aside0.mk ((by rw [hg]; exact (below_size (by repeat (with_reducible first | exact HB.out | apply below_alloc | apply pw_below_drewN | apply below_drew1 | refine below_set ?_ GE217.out))) : w.heap.size ≤ gb218)); have n5_ := Aside0.mk ((by rw [hg]; exact Nat.ne_of_lt (blk_lt (g := gb217) (o := .cells #[.int .i64 a0_0, .int .i64 a0_1, .bool false] 41 (0, 0)) (kX BK217.out)) : gb217 ≠ gb218)); have n6_ := Aside0.mk ((by rw [hg]; exact Nat.ne_of_gt (blk_lt (g := gb217) (o := .cells #[.int .i64 a0_0, .int .i64 a0_1, .bool false] 41 (0, 0)) (kX BK217.out)) : gb218 ≠ gb217)); clear BK217; clear HB; have BK217 := n0_; have HB := n1_; have BK218 := n2_; have GW218 := n3_; have GE218 := n4_; have NB217_218 := n5_; have NB218_217 := n6_; clear n0_ n1_ n2_ n3_ n4_ n5_ n6_; clear hb hbox hg; have hnb10 := NB217_218.out; have hnc10 := NB218_217.out; have hcz11_0 : w9.cell? ⟨gb217, 0, none⟩ = some (.int .i64 a0_0) := (blk_cell BK217.out 0).trans rfl; have hcz11_1 : w9.cell? ⟨gb217, 1, none⟩ = some (.int .i64 a0_1) := (blk_cell BK217.out 1).trans rfl; have hcz11_2 : w9.cell? ⟨gb217, 2, none⟩ = some (.bool false) := (blk_cell BK217.out 2).trans rfl; have hfz11_0 := blk_frozen BK217.out 0; have hfz11_1 := blk_frozen BK217.out 1; have hfz11_2 := blk_frozen BK217.out 2; have hcz12_0 : w9.cell? ⟨gb218, 0, none⟩ = some (.int .i64 0) := (blk_cell BK218.out 0).trans rfl; have hcz12_1 : w9.cell? ⟨gb218, 1, none⟩ = some (.int .i64 0) := (blk_cell BK218.out 1).trans rfl; have hfz12_0 := blk_frozen BK218.out 0; have hfz12_1 := blk_frozen BK218.out 1))
  refine bodyPost_ret (results_cell_row rfl _ _ gb218 39 #[.int .i64 (wrap64 (a0_0 + 1)), .int .i64 a0_1] (0, 0) _ rfl (by (with_reducible repeat (first | refine blk_drewN ?_ _ | refine blk_drew ?_ | refine blk_alloc ?_ _)); refine blk_put (cs := #[.int .i64 (wrap64 (a0_0 + 1)), .int .i64 0]) ?_ 1 _ rfl; (with_reducible repeat (first | refine blk_drewN ?_ _ | refine blk_drew ?_ | refine blk_alloc ?_ _)); refine blk_put (cs := #[.int .i64 0, .int .i64 0]) ?_ 0 _ rfl; (with_reducible repeat (first | refine blk_drewN ?_ _ | refine blk_drew ?_ | refine blk_alloc ?_ _)); exact BK218.out) Try.underlying39 rfl (by kernel_rfl)) rfl ?_
  exact ⟨by first | rfl | (simp [*, errW_none, errW_some] <;> rfl), by repeat (with_reducible first | exact HB.out | apply below_alloc | apply pw_below_drewN | apply below_drew1 | refine below_set ?_ GE217.out | refine below_set ?_ GE218.out)⟩
def spec_DominoOk.f (a0_0 : Int) (a0_1 : Int) (a0_2 : Bool) : Option (Bool) := (spec_CellOk.f a0_0 a0_1).bind fun t220 => (if t220 = true then ((spec_l05Second.f a0_0 a0_1 a0_2).bind fun bt221 => ((spec_CellOk.f bt221.1 bt221.2).bind fun t223 => (some t223))) else (some false))
set_option maxHeartbeats 8000000 in
set_option maxRecDepth 100000 in
theorem spec_DominoOk.calls (a0_0 : Int) (a0_1 : Int) (a0_2 : Bool) (r : Bool) (w : World) (h : spec_DominoOk.f a0_0 a0_1 a0_2 = some r) :
  Calls Try.prog 68 #[.agg #[.int .i64 a0_0, .int .i64 a0_1, .bool a0_2]] w fun e w' => e = .returned (.bool r) ∧ Below w.heap.size w w' := by
 have hu41 := Try.underlying41
 have hu39 := Try.underlying39
 have HB := Aside0.mk (Below.refl w.heap.size w)
 have H : ((spec_CellOk.f a0_0 a0_1).bind fun t220 => (if t220 = true then ((spec_l05Second.f a0_0 a0_1 a0_2).bind fun bt221 => ((spec_CellOk.f bt221.1 bt221.2).bind fun t223 => (some t223))) else (some false))) = some r := h
 clear h
 replace H := Option.bind_eq_some_iff.mp H
 obtain ⟨t220, A20, H⟩ := H
 replace H : (if t220 = true then ((spec_l05Second.f a0_0 a0_1 a0_2).bind fun bt221 => ((spec_CellOk.f bt221.1 bt221.2).bind fun t223 => (some t223))) else (some false)) = some r := H
 have A2 := Aside0.mk A20
 clear A20
 by_cases c3 : t220 = true
 ·subst c3
  have H1 : ((spec_l05Second.f a0_0 a0_1 a0_2).bind fun bt221 => ((spec_CellOk.f bt221.1 bt221.2).bind fun t223 => (some t223))) = some r := by rw [if_pos rfl] at H; exact H
  clear H
  have H := H1
  clear H1
  replace H := Option.bind_eq_some_iff.mp H
  obtain ⟨⟨t221, t222⟩, A40, H⟩ := H
  replace H : ((spec_CellOk.f t221 t222).bind fun t223 => (some t223)) = some r := H
  have A4 := Aside0.mk A40
  clear A40
  replace H := Option.bind_eq_some_iff.mp H
  obtain ⟨t223, A50, H⟩ := H
  replace H : (some t223) = some r := H
  have A5 := Aside0.mk A50
  clear A50
  obtain rfl := Option.some.inj H
  go_enter Try.func68, Try.ntmps68
  go_wp2_with (first | ((with_reducible refine gate_dst (N := 1) rfl ?_); refine box_event ?hg (N := 1) ?hd (cs := #[.int .i64 a0_0, .int .i64 a0_1, .bool a0_2]) (t := 41) ?hr ?_; (case hd => rfl); (case hg => rfl); (case hr => first | (go_simp; done) | (go_simp; rfl)); intro gb219 hg w6 hbox hb; have n0_ := Aside0.mk (below_step (bX HB.out) hb); have n1_ := Aside0.mk (hbox); have n2_ := Aside0.mk ((by rw [hg]; exact (below_size (bX HB.out)) : w.heap.size ≤ gb219)); have n3_ := Aside0.mk ((by rw [hg]; exact (below_size (bX HB.out)) : w.heap.size ≤ gb219)); clear HB; have HB := n0_; have BK219 := n1_; have GW219 := n2_; have GE219 := n3_; clear n0_ n1_ n2_ n3_; clear hb hbox hg; have hcz7_0 : w6.cell? ⟨gb219, 0, none⟩ = some (.int .i64 a0_0) := (blk_cell BK219.out 0).trans rfl; have hcz7_1 : w6.cell? ⟨gb219, 1, none⟩ = some (.int .i64 a0_1) := (blk_cell BK219.out 1).trans rfl; have hcz7_2 : w6.cell? ⟨gb219, 2, none⟩ = some (.bool a0_2) := (blk_cell BK219.out 2).trans rfl; have hfz7_0 := blk_frozen BK219.out 0; have hfz7_1 := blk_frozen BK219.out 1; have hfz7_2 := blk_frozen BK219.out 2) | ((with_reducible refine gate_callee (f := 132) rfl ?_); refine goesL_ (some 8) rfl rfl Try.func132 (by kernel_rfl) rfl #[.agg #[.int .i64 a0_0, .int .i64 a0_1]] rfl (by (try simp only [sD, sE, sF]); first | done | rfl) ?_; (with_reducible refine (spec_CellOk.calls a0_0 a0_1 true _ A2.out).mono ?_); rintro e w8 ⟨rfl, hb⟩; refine ⟨_, rfl, ?_⟩; have n0_ := Aside0.mk (blk_below (g := gb219) (o := .cells #[.int .i64 a0_0, .int .i64 a0_1, .bool a0_2] 41 (0, 0)) (kX BK219.out) hb); have n1_ := Aside0.mk (below_step (by repeat (with_reducible first | exact HB.out | apply below_alloc | apply pw_below_drewN | apply below_drew1 | refine below_set ?_ GE219.out)) hb); clear BK219; clear HB; have BK219 := n0_; have HB := n1_; clear n0_ n1_; (try clear hb); (try clear hb2); (try clear hk); (try clear hi); have hcz9_0 : w8.cell? ⟨gb219, 0, none⟩ = some (.int .i64 a0_0) := (blk_cell BK219.out 0).trans rfl; have hcz9_1 : w8.cell? ⟨gb219, 1, none⟩ = some (.int .i64 a0_1) := (blk_cell BK219.out 1).trans rfl; have hcz9_2 : w8.cell? ⟨gb219, 2, none⟩ = some (.bool a0_2) := (blk_cell BK219.out 2).trans rfl; have hfz9_0 := blk_frozen BK219.out 0; have hfz9_1 := blk_frozen BK219.out 1; have hfz9_2 := blk_frozen BK219.out 2) | (go_at_call 133; (with_reducible refine (spec_l05Second.calls a0_0 a0_1 a0_2 t221 t222 _ A4.out).mono ?_); rintro e w10 ⟨rfl, hb⟩; have n0_ := Aside0.mk (blk_below (g := gb219) (o := .cells #[.int .i64 a0_0, .int .i64 a0_1, .bool a0_2] 41 (0, 0)) (kX BK219.out) hb); have n1_ := Aside0.mk (below_step (by repeat (with_reducible first | exact HB.out | apply below_alloc | apply pw_below_drewN | apply below_drew1 | refine below_set ?_ GE219.out)) hb); clear BK219; clear HB; have BK219 := n0_; have HB := n1_; clear n0_ n1_; (try clear hb); (try clear hb2); (try clear hk); (try clear hi)) | (go_at_call 132; (with_reducible refine (spec_CellOk.calls t221 t222 t223 _ A5.out).mono ?_); rintro e w11 ⟨rfl, hb⟩; have n0_ := Aside0.mk (blk_below (g := gb219) (o := .cells #[.int .i64 a0_0, .int .i64 a0_1, .bool a0_2] 41 (0, 0)) (kX BK219.out) hb); have n1_ := Aside0.mk (below_step (by repeat (with_reducible first | exact HB.out | apply below_alloc | apply pw_below_drewN | apply below_drew1 | refine below_set ?_ GE219.out)) hb); clear BK219; clear HB; have BK219 := n0_; have HB := n1_; clear n0_ n1_; (try clear hb); (try clear hb2); (try clear hk); (try clear hi)))
  go_ret
  exact ⟨by first | rfl | (simp [*, errW_none, errW_some] <;> rfl), by repeat (with_reducible first | exact HB.out | apply below_alloc | apply pw_below_drewN | apply below_drew1 | refine below_set ?_ GE219.out)⟩
 ·replace c3 := Bool.eq_false_iff.mpr c3
  subst c3
  have H1 : (some false) = some r := by rw [if_neg (show ¬ (false = true) by decide)] at H; exact H
  clear H
  have H := H1
  clear H1
  obtain rfl := Option.some.inj H
  go_enter Try.func68, Try.ntmps68
  go_wp2_with (first | ((with_reducible refine gate_dst (N := 1) rfl ?_); refine box_event ?hg (N := 1) ?hd (cs := #[.int .i64 a0_0, .int .i64 a0_1, .bool a0_2]) (t := 41) ?hr ?_; (case hd => rfl); (case hg => rfl); (case hr => first | (go_simp; done) | (go_simp; rfl)); intro gb219 hg w12 hbox hb; have n0_ := Aside0.mk (below_step (bX HB.out) hb); have n1_ := Aside0.mk (hbox); have n2_ := Aside0.mk ((by rw [hg]; exact (below_size (bX HB.out)) : w.heap.size ≤ gb219)); have n3_ := Aside0.mk ((by rw [hg]; exact (below_size (bX HB.out)) : w.heap.size ≤ gb219)); clear HB; have HB := n0_; have BK219 := n1_; have GW219 := n2_; have GE219 := n3_; clear n0_ n1_ n2_ n3_; clear hb hbox hg; have hcz13_0 : w12.cell? ⟨gb219, 0, none⟩ = some (.int .i64 a0_0) := (blk_cell BK219.out 0).trans rfl; have hcz13_1 : w12.cell? ⟨gb219, 1, none⟩ = some (.int .i64 a0_1) := (blk_cell BK219.out 1).trans rfl; have hcz13_2 : w12.cell? ⟨gb219, 2, none⟩ = some (.bool a0_2) := (blk_cell BK219.out 2).trans rfl; have hfz13_0 := blk_frozen BK219.out 0; have hfz13_1 := blk_frozen BK219.out 1; have hfz13_2 := blk_frozen BK219.out 2) | ((with_reducible refine gate_callee (f := 132) rfl ?_); refine goesL_ (some 8) rfl rfl Try.func132 (by kernel_rfl) rfl #[.agg #[.int .i64 a0_0, .int .i64 a0_1]] rfl (by (try simp only [sD, sE, sF]); first | done | rfl) ?_; (with_reducible refine (spec_CellOk.calls a0_0 a0_1 false _ A2.out).mono ?_); rintro e w14 ⟨rfl, hb⟩; refine ⟨_, rfl, ?_⟩; have n0_ := Aside0.mk (blk_below (g := gb219) (o := .cells #[.int .i64 a0_0, .int .i64 a0_1, .bool a0_2] 41 (0, 0)) (kX BK219.out) hb); have n1_ := Aside0.mk (below_step (by repeat (with_reducible first | exact HB.out | apply below_alloc | apply pw_below_drewN | apply below_drew1 | refine below_set ?_ GE219.out)) hb); clear BK219; clear HB; have BK219 := n0_; have HB := n1_; clear n0_ n1_; (try clear hb); (try clear hb2); (try clear hk); (try clear hi)))
  go_ret
  exact ⟨by first | rfl | (simp [*, errW_none, errW_some] <;> rfl), by repeat (with_reducible first | exact HB.out | apply below_alloc | apply pw_below_drewN | apply below_drew1 | refine below_set ?_ GE219.out)⟩
end Go.Proofs.Ytnfnlmilmpaofaa.PFnExactTilingOfTree
