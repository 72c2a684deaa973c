-- Printed by our own program (wip/tools/hprint.py), a patched copy of the kit's printer; hand-written contracts are laid in.
import Derived.Test.YthfoekhecaahfaaPFnExactWeightedCountx0
import Derived.Test.YthfoekhecaahfaaPFnExactWeightedCountx15
import Derived.Test.YthfoekhecaahfaaPFnExactWeightedCountx16
namespace Go.Proofs.Ythfoekhecaahfaa.PFnExactWeightedCount
open Go.RowKit Go.Proofs.YthfoekhecaahfaaW.PrintWords Go.Proofs.YthfoekhecaahfaaW.PrintLast Go.Proofs.YthfoekhecaahfaaW.PrintMore
attribute [local go_sem] max2_int min2_int max_two min_two max_three min_three max_four min_four   -- for this text's walks alone
set_option linter.unusedVariables false
set_option linter.unusedSimpArgs false

/-! ### impl_WeightedCount: function 5 -/
def impl_WeightedCount.l0 : Nat → Int → List (List (List Int)) → Int → Int → Option (Int)
  | 0, _, _, _, _ => none
  | k + 1, x3, x7, x8, x9 => if x9 < x8 then (if 0 ≤ x9 then (if x9 < (x7.length : Int) then ((impl_CountMinus.f k (rd_L2 x7 x9)).bind fun t234 => (if 0 ≤ t234 then (impl_WeightedCount.l0 k (wrap64 (x3 + (shl .i64 1 t234))) x7 x8 (wrap64 (x9 + 1))) else (none))) else (none)) else (none)) else (some x3)
def impl_WeightedCount.f (k : Nat) (a0 : Int) : Option (Int) := (impl_ListAlternating.f k a0).bind fun t230 => (impl_WeightedCount.l0 k 0 t230 (t230.length : Int) 0)
theorem impl_WeightedCount.mono_l : ∀ k, (∀ y0 y1 y2 y3, LeO (impl_WeightedCount.l0 k y0 y1 y2 y3) (impl_WeightedCount.l0 (k + 1) y0 y1 y2 y3))
  | 0 => fun _ _ _ _ r h => by simp [impl_WeightedCount.l0] at h
  | k + 1 => by
    have ih0 := impl_WeightedCount.mono_l k
    · intro y0 y1 y2 y3
      unfold impl_WeightedCount.l0
      repeat' first
      | (with_reducible exact ih0 _ _ _ _)
      | (with_reducible exact impl_CountMinus.mono _ _)
      | (with_reducible exact impl_ListAlternating.mono _ _)
      | (with_reducible exact LeO.refl _)
      | (with_reducible exact LeO.none _)
      | (with_reducible refine LeO.ite ?_ ?_)
      | (with_reducible refine LeO.bind ?_ (fun _ => ?_))
      | exact ih0 _ _ _ _
      | exact impl_CountMinus.mono _ _
      | exact impl_ListAlternating.mono _ _
      | exact LeO.none _
      | refine LeO.ite ?_ ?_
      | refine LeO.bind ?_ (fun _ => ?_)
theorem impl_WeightedCount.mono : ∀ a0 k, LeO (impl_WeightedCount.f k a0) (impl_WeightedCount.f (k + 1) a0) := by
  intro a0 k
  have ih0 := impl_WeightedCount.mono_l k
  unfold impl_WeightedCount.f
  repeat' first
      | (with_reducible exact ih0 _ _ _ _)
      | (with_reducible exact impl_CountMinus.mono _ _)
      | (with_reducible exact impl_ListAlternating.mono _ _)
      | (with_reducible exact LeO.refl _)
      | (with_reducible exact LeO.none _)
      | (with_reducible refine LeO.ite ?_ ?_)
      | (with_reducible refine LeO.bind ?_ (fun _ => ?_))
      | exact ih0 _ _ _ _
      | exact impl_CountMinus.mono _ _
      | exact impl_ListAlternating.mono _ _
      | exact LeO.none _
      | refine LeO.ite ?_ ?_
      | refine LeO.bind ?_ (fun _ => ?_)
set_option maxHeartbeats 8000000 in
set_option maxRecDepth 100000 in
theorem impl_WeightedCount.calls (k : Nat) (a0 : Int) (r : Int) (w : World) (h : impl_WeightedCount.f k a0 = some r) :
    Calls Try.prog 5 #[.int .i64 a0] w fun e w' => e = .returned (.int .i64 r) ∧ Below w.heap.size w w' := by
  have HB := Aside0.mk (Below.refl w.heap.size w)
  have H : ((impl_ListAlternating.f k a0).bind fun t230 => (impl_WeightedCount.l0 k 0 t230 (t230.length : Int) 0)) = some r := h
  clear h
  replace H := Option.bind_eq_some_iff.mp H
  obtain ⟨t230, A20, H⟩ := H
  replace H : (impl_WeightedCount.l0 k 0 t230 (t230.length : Int) 0) = some r := H
  have A2 := Aside0.mk A20
  clear A20
  have H' := Aside0.mk H
  clear H
  go_enter Try.func5, Try.ntmps5
  go_wp2_with (first | ((with_reducible refine gate_callee (f := 8) rfl ?_); refine goesL_ (some 7) rfl rfl Try.func8 (by kernel_rfl) rfl #[.int .i64 a0] rfl (by (try simp only [List.map_toArray, List.map_cons, List.map_nil]); first | done | rfl | (simp only [List.length_drop, List.length_take]; rfl)) ?_; (with_reducible refine (impl_ListAlternating.calls k a0 t230 _ A2.out).mono ?_); rintro e w3 ⟨v231, rfl, ho0, hb⟩; refine ⟨_, rfl, ?_⟩; have n0_ := Aside0.mk (Kd.R_lower ho0 (below_size (by repeat (first | (with_reducible first | exact HB.out | apply below_alloc | apply pw_below_drewN | apply below_drew1) | exact HB.out)))); have n1_ := Aside0.mk (below_step (by repeat (first | (with_reducible first | exact HB.out | apply below_alloc | apply pw_below_drewN | apply below_drew1) | exact HB.out)) hb); clear HB; have HO232 := n0_; have HB := n1_; clear n0_ n1_; (try clear hb); (try clear hb2); (try clear hk); (try clear hi); (try clear ho0); obtain ⟨Ao4, co4, eo4⟩ := Kd.R_slice HO232.out; subst eo4))
  go_loopg [3, 9] k (fun kq v3 v9 w' => ∃ (x3_1 : Int) (x9_1 : Int), v3 = .int .i64 x3_1 ∧ v9 = .int .i64 x9_1 ∧ Aside0 (impl_WeightedCount.l0 kq x3_1 t230 (t230.length : Int) x9_1 = some r) ∧ Aside0 (kq ≤ k) ∧ Aside0 (Kd.R (Kd.slice 31 (Kd.slice 3 (Kd.int .i64))) 27 w' w.heap.size (fun _ => True) (.slice Ao4 t230.length co4) t230) ∧ Aside0 (Below w.heap.size w w'))
  case atStart => exact ⟨(0), (0), (by first | rfl | (simp; done) | (simp [*]; done)), (by first | rfl | (simp; done) | (simp [*]; done)), H', ⟨Nat.le_refl _⟩, ⟨by (with_reducible repeat (first | apply Kd.R_alloc | apply Kd.R_drewN | apply Kd.R_drew)); exact HO232.out⟩, ⟨by repeat (first | (with_reducible first | exact HB.out | apply below_alloc | apply pw_below_drewN | apply below_drew1) | exact HB.out)⟩⟩
  case round =>
    clear H'
    try clear p2
    obtain ⟨x3_1, x9_1, rfl, rfl, HA, HK1, HO_7, HB⟩ := hrel
    cases gk with
    | zero => exact absurd HA.out (by simp [impl_WeightedCount.l0])
    | succ k1 =>
      have H := HA.out
      clear HA
      simp only [impl_WeightedCount.l0] at H
      by_cases c5 : x9_1 < (t230.length : Int)
      · rw [if_pos c5] at H
        have c5b0 : decide (x9_1 < (t230.length : Int)) = true := decide_eq_true c5
        clear c5
        by_cases c6 : 0 ≤ x9_1
        · rw [if_pos c6] at H
          have c6b0 : decide (0 ≤ x9_1) = true := decide_eq_true c6
          clear c6
          by_cases c7 : x9_1 < (t230.length : Int)
          · rw [if_pos c7] at H
            have c7b0 : decide (x9_1 < (t230.length : Int)) = true := decide_eq_true c7
            clear c7
            replace H := Option.bind_eq_some_iff.mp H
            obtain ⟨t234, A80, H⟩ := H
            replace H : (if 0 ≤ t234 then (impl_WeightedCount.l0 k1 (wrap64 (x3_1 + (shl .i64 1 t234))) t230 (t230.length : Int) (wrap64 (x9_1 + 1))) else (none)) = some r := H
            have A8 := Aside0.mk A80
            clear A80
            by_cases c9 : 0 ≤ t234
            · rw [if_pos c9] at H
              have c9b0 := eq_true c9
              have c9b1 : decide (0 ≤ t234) = true := decide_eq_true c9
              clear c9
              obtain ⟨ji10, hji10⟩ : ∃ j_ : Int, (shl .i64 1 t234) = j_ := ⟨_, rfl⟩
              replace H : (impl_WeightedCount.l0 k1 (wrap64 (x3_1 + (ji10))) t230 (t230.length : Int) (wrap64 (x9_1 + 1))) = some r := by first | (rw [hji10] at H; exact H) | (simp only [hji10] at H ⊢; exact H)
              (try rw [hji10] at A8)
              have hji10_ : (IntKind.i64.wrap (1 * 2 ^ min t234.toNat 64)) = ji10 := hji10
              have hji10z : t234 ≤ 64 → (IntKind.i64.wrap (1 * 2 ^ t234.toNat)) = ji10 := shl_small hji10
              have hji10u : (IntKind.i64.wrap (2 ^ min t234.toNat 64)) = ji10 := by have h_ := hji10_; rw [Int.one_mul] at h_; exact h_
              have hji10v : t234 ≤ 64 → (IntKind.i64.wrap (2 ^ t234.toNat)) = ji10 := fun hle_ => by have h_ := hji10z hle_; rw [Int.one_mul] at h_; exact h_
              have hji10y : (wrap64 (1 * 2 ^ min t234.toNat 64)) = ji10 := (i64_w _).symm.trans hji10_
              have hji10x : t234 ≤ 64 → (wrap64 (1 * 2 ^ t234.toNat)) = ji10 := fun h_ => (i64_w _).symm.trans (hji10z h_)
              have H' := Aside0.mk H
              clear H
              have p233 : 0 ≤ (x9_1 : Int) := of_decide_eq_true (by first | (with_reducible assumption) | assumption)
              have q233 : x9_1 < (t230.length : Int) := of_decide_eq_true (by first | (with_reducible assumption) | assumption)
              obtain ⟨ad233, A233_0, c233_0, e233, hx233_0, hl233_0, hi233_0⟩ := at_L2 (Kd.R_reads' HO_7.out).2.2 x9_1 p233 q233
              cases e233
              obtain ⟨ce233, hce233, hMe233, hcc233⟩ := Kd.R_get HO_7.out [] x9_1 p233 (by first | exact q233 | exact of_decide_eq_true (by first | (with_reducible assumption) | assumption) | (have e_ := (Kd.R_reads' HO_7.out).1; omega))
              obtain ⟨ve233_0, rfl, ge233_0⟩ := hMe233
              have hv233_0 := hcc233 0 _ rfl
              rw [Nat.add_zero, show ((Kd.slice 31 (Kd.slice 3 (Kd.int .i64)))).sz = 1 from rfl, Nat.mul_one] at hv233_0
              replace hv233_0 := Option.some.inj (hv233_0.symm.trans hx233_0)
              rw [hv233_0] at ge233_0
              have HL233_0 := Aside0.mk (show Kd.R (Kd.slice 3 (Kd.int .i64)) 31 _ _ _ _ (rd_L2 t230 x9_1) from ge233_0)
              clear hv233_0 ge233_0
              clear hcc233 hce233
              have HR233_0 := Aside0.mk hi233_0
              have HC233_0 := Aside0.mk hl233_0
              clear hi233_0 hl233_0
              replace p233 := eq_true p233
              replace q233 := eq_true q233
              go_wp2_with (first | ((with_reducible refine gate_callee (f := 9) rfl ?_); refine goesL_ (some 15) rfl rfl Try.func9 (by kernel_rfl) rfl #[.slice A233_0 (rd_L2 t230 x9_1).length c233_0] rfl (by (try simp only [List.map_toArray, List.map_cons, List.map_nil]); first | done | rfl | (simp only [List.length_drop, List.length_take]; rfl)) ?_; (with_reducible refine (impl_CountMinus.calls k1 _ _ (rd_L2 t230 x9_1) t234 _ ?side1 ?side2 A8.out).mono ?_); (case side1 => repeat (first | exact (by repeat (first | (with_reducible exact HR233_0.out) | (with_reducible refine Kd.C_alloc ?_ _) | (with_reducible refine Kd.C_drewN ?_ _) | (with_reducible refine Kd.C_drew ?_) | exact HR233_0.out)) | (with_reducible refine Kd.C_alloc ?_ _) | (with_reducible refine Kd.C_drewN ?_ _) | (with_reducible refine Kd.C_drew ?_))); (case side2 => exact HC233_0.out); rintro e w' ⟨rfl, ⟨nd, rfl⟩⟩; refine ⟨_, rfl, ?_⟩))
              go_roundg k1
              case measure => have := HK1.out; omega
              case rel => exact ⟨(wrap64 (x3_1 + (ji10))), (wrap64 (x9_1 + 1)), (by first | rfl | (simp; done) | (simp only [← hji10] <;> (first | rfl | simp)) | (simp [*]; done)), (by first | rfl | (simp; done) | (simp [*]; done)), H', ⟨by have := HK1.out; omega⟩, ⟨by (with_reducible repeat (first | apply Kd.R_alloc | apply Kd.R_drewN | apply Kd.R_drew)); exact HO_7.out⟩, ⟨by repeat (first | (with_reducible first | exact HB.out | apply below_alloc | apply pw_below_drewN | apply below_drew1) | exact HB.out)⟩⟩
            · rw [if_neg c9] at H
              exact absurd H (by simp)
          · rw [if_neg c7] at H
            exact absurd H (by simp)
        · rw [if_neg c6] at H
          exact absurd H (by simp)
      · rw [if_neg c5] at H
        have c5b0 : decide (x9_1 < (t230.length : Int)) = false := decide_eq_false c5
        clear c5
        obtain rfl := Option.some.inj H
        go_wp2
        go_ret
        exact ⟨by first | rfl | (simp [errW_none, errW_some] <;> rfl) | (simp [*, errW_none, errW_some] <;> rfl), by repeat (first | (with_reducible first | exact HB.out | apply below_alloc | apply pw_below_drewN | apply below_drew1) | exact HB.out)⟩

end Go.Proofs.Ythfoekhecaahfaa.PFnExactWeightedCount
