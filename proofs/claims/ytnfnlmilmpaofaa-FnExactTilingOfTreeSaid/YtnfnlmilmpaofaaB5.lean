/- Printed twins and contracts of functions, part 5; l24Steps, outward and SortDominoes are walked by hand. Nothing is assumed. -/
import Derived.Test.YtnfnlmilmpaofaaA1
import Derived.Test.YtnfnlmilmpaofaaB1
import Derived.Test.YtnfnlmilmpaofaaB2
import Derived.Test.YtnfnlmilmpaofaaB3
import Derived.Test.YtnfnlmilmpaofaaB4
namespace Go.Proofs.Ytnfnlmilmpaofaa.PFnExactTilingOfTree
open Go.RowKit Go.Proofs.YtnfnlmilmpaofaaW.PrintWords Go.Proofs.YtnfnlmilmpaofaaW.PrintLast Go.Proofs.YtnfnlmilmpaofaaW.PrintMore
attribute [local go_sem] max2_int min2_int max_two min_two max_three min_three max_four min_four   -- for this text's walks alone
set_option linter.unusedVariables false
set_option linter.unusedSimpArgs false
mutual
def laws_FnExactTilingOfTree.j0 : Nat → Int → Int → List (S120) → List (S41) → Bool → List (S50) → List (S41) → Bool → Bool → Option (Bool)
 | 0, _, _, _, _, _, _, _, _, _ => none
 | k + 1, x0, x1, x2, x8, x9, x10, x11, x12, x48 => if x48 = true then (some false) else ((laws_toLinkS.f k x2).bind fun t369 => ((laws_eqLinkS.f k x10 t369).bind fun t372 => (if t372 = true then ((laws_markLinkS.f k x10 1).bind fun bt373 => (if bt373.1 < 0 then (laws_FnExactTilingOfTree.j1 k x0 x1 x2 x8 x9 x11 true) else ((laws_eqDominoS.f k x11 x8).bind fun t375 => (if t375 = true then (laws_FnExactTilingOfTree.j1 k x0 x1 x2 x8 x9 x11 (x12 != x9)) else (laws_FnExactTilingOfTree.j1 k x0 x1 x2 x8 x9 x11 true))))) else (some false))))
def laws_FnExactTilingOfTree.j1 : Nat → Int → Int → List (S120) → List (S41) → Bool → List (S41) → Bool → Option (Bool)
 | 0, _, _, _, _, _, _, _ => none
 | k + 1, x0, x1, x2, x8, x9, x11, x69 => if x69 = true then (some false) else ((laws_markDominoS.f k x11 1).bind fun bt376 => ((laws_heldDominoS.f k bt376.2 1).bind fun t378 => (if t378 < 0 then (some false) else (if t378 = bt376.1 then ((laws_toLinkS.f k x2).bind fun t379 => ((impl_TilingOfTree.f k x0 x1 t379).bind fun bt382 => ((laws_eqDominoS.f k bt382.1 x8).bind fun t386 => (if t386 = true then (laws_FnExactTilingOfTree.j2 k bt376.2 bt376.1 (bt382.2 != x9)) else (laws_FnExactTilingOfTree.j2 k bt376.2 bt376.1 true))))) else (some false)))))
def laws_FnExactTilingOfTree.j2 : Nat → List (S41) → Int → Bool → Option (Bool)
 | 0, _, _, _ => none
 | k + 1, x11, x14, x97 => if x97 = true then (some false) else ((laws_heldDominoS.f k x11 1).bind fun t387 => (if t387 < 0 then (some false) else (if t387 = x14 then (some true) else (some false))))
end
def laws_FnExactTilingOfTree.f (k : Nat) (a0 : Int) (a1 : Int) (l2 : List (S120)) : Option (Bool) := (laws_szLinkS.f l2 1048576).bind fun t353 => (if t353 < 0 then (some true) else ((laws_toLinkS.f k l2).bind fun t354 => ((spec_TilingOfTree.f k a0 a1 t354).bind fun bt357 => ((laws_toLinkS.f k l2).bind fun t361 => ((impl_TilingOfTree.f k a0 a1 t361).bind fun bt364 => ((laws_eqDominoS.f k bt364.1 bt357.1).bind fun t368 => (if t368 = true then (laws_FnExactTilingOfTree.j0 k a0 a1 l2 bt357.1 bt357.2 t361 bt364.1 bt364.2 (bt364.2 != bt357.2)) else (laws_FnExactTilingOfTree.j0 k a0 a1 l2 bt357.1 bt357.2 t361 bt364.1 bt364.2 true))))))))
theorem laws_FnExactTilingOfTree.mono_l : ∀ k, (∀ y0 y1 y2 y3 y4 y5 y6 y7 y8, LeO (laws_FnExactTilingOfTree.j0 k y0 y1 y2 y3 y4 y5 y6 y7 y8) (laws_FnExactTilingOfTree.j0 (k + 1) y0 y1 y2 y3 y4 y5 y6 y7 y8)) ∧ (∀ y0 y1 y2 y3 y4 y5 y6, LeO (laws_FnExactTilingOfTree.j1 k y0 y1 y2 y3 y4 y5 y6) (laws_FnExactTilingOfTree.j1 (k + 1) y0 y1 y2 y3 y4 y5 y6)) ∧ (∀ y0 y1 y2, LeO (laws_FnExactTilingOfTree.j2 k y0 y1 y2) (laws_FnExactTilingOfTree.j2 (k + 1) y0 y1 y2))
 | 0 => ⟨fun _ _ _ _ _ _ _ _ _ r h => by simp [laws_FnExactTilingOfTree.j0] at h, fun _ _ _ _ _ _ _ r h => by simp [laws_FnExactTilingOfTree.j1] at h, fun _ _ _ r h => by simp [laws_FnExactTilingOfTree.j2] at h⟩
 | k + 1 => by
  obtain ⟨ih0, ih1, ih2⟩ := laws_FnExactTilingOfTree.mono_l k
  refine ⟨?_, ?_, ?_⟩
  ·intro y0 y1 y2 y3 y4 y5 y6 y7 y8
   unfold laws_FnExactTilingOfTree.j0
   repeat' with_reducible first
   | exact ih0 _ _ _ _ _ _ _ _ _
   | exact ih1 _ _ _ _ _ _ _
   | exact ih2 _ _ _
   | exact impl_TilingOfTree.mono _ _ _ _
   | exact laws_eqDominoS.mono _ _ _
   | exact laws_eqLinkS.mono _ _ _
   | exact laws_heldDominoS.mono _ _ _
   | exact laws_markDominoS.mono _ _ _
   | exact laws_markLinkS.mono _ _ _
   | exact laws_toLinkS.mono _ _
   | exact spec_TilingOfTree.mono _ _ _ _
   | exact LeO.refl _
   | exact LeO.none _
   | refine LeO.ite ?_ ?_
   | refine LeO.bind ?_ (fun _ => ?_)
  ·intro y0 y1 y2 y3 y4 y5 y6
   unfold laws_FnExactTilingOfTree.j1
   repeat' with_reducible first
   | exact ih0 _ _ _ _ _ _ _ _ _
   | exact ih1 _ _ _ _ _ _ _
   | exact ih2 _ _ _
   | exact impl_TilingOfTree.mono _ _ _ _
   | exact laws_eqDominoS.mono _ _ _
   | exact laws_eqLinkS.mono _ _ _
   | exact laws_heldDominoS.mono _ _ _
   | exact laws_markDominoS.mono _ _ _
   | exact laws_markLinkS.mono _ _ _
   | exact laws_toLinkS.mono _ _
   | exact spec_TilingOfTree.mono _ _ _ _
   | exact LeO.refl _
   | exact LeO.none _
   | refine LeO.ite ?_ ?_
   | refine LeO.bind ?_ (fun _ => ?_)
  ·intro y0 y1 y2
   unfold laws_FnExactTilingOfTree.j2
   repeat' with_reducible first
   | exact ih0 _ _ _ _ _ _ _ _ _
   | exact ih1 _ _ _ _ _ _ _
   | exact ih2 _ _ _
   | exact impl_TilingOfTree.mono _ _ _ _
   | exact laws_eqDominoS.mono _ _ _
   | exact laws_eqLinkS.mono _ _ _
   | exact laws_heldDominoS.mono _ _ _
   | exact laws_markDominoS.mono _ _ _
   | exact laws_markLinkS.mono _ _ _
   | exact laws_toLinkS.mono _ _
   | exact spec_TilingOfTree.mono _ _ _ _
   | exact LeO.refl _
   | exact LeO.none _
   | refine LeO.ite ?_ ?_
   | refine LeO.bind ?_ (fun _ => ?_)
theorem laws_FnExactTilingOfTree.mono : ∀ a0 a1 a2 k, LeO (laws_FnExactTilingOfTree.f k a0 a1 a2) (laws_FnExactTilingOfTree.f (k + 1) a0 a1 a2) := by
 intro a0 a1 a2 k
 obtain ⟨ih0, ih1, ih2⟩ := laws_FnExactTilingOfTree.mono_l k
 unfold laws_FnExactTilingOfTree.f
 repeat' first
   | (with_reducible exact ih0 _ _ _ _ _ _ _ _ _)
   | (with_reducible exact ih1 _ _ _ _ _ _ _)
   | (with_reducible exact ih2 _ _ _)
   | (with_reducible exact impl_TilingOfTree.mono _ _ _ _)
   | (with_reducible exact laws_eqDominoS.mono _ _ _)
   | (with_reducible exact laws_eqLinkS.mono _ _ _)
   | (with_reducible exact laws_heldDominoS.mono _ _ _)
   | (with_reducible exact laws_markDominoS.mono _ _ _)
   | (with_reducible exact laws_markLinkS.mono _ _ _)
   | (with_reducible exact laws_toLinkS.mono _ _)
   | (with_reducible exact spec_TilingOfTree.mono _ _ _ _)
   | (with_reducible exact LeO.refl _)
   | (with_reducible exact LeO.none _)
   | (with_reducible refine LeO.ite ?_ ?_)
   | (with_reducible refine LeO.bind ?_ (fun _ => ?_))
   | exact ih0 _ _ _ _ _ _ _ _ _
   | exact ih1 _ _ _ _ _ _ _
   | exact ih2 _ _ _
   | exact impl_TilingOfTree.mono _ _ _ _
   | exact laws_eqDominoS.mono _ _ _
   | exact laws_eqLinkS.mono _ _ _
   | exact laws_heldDominoS.mono _ _ _
   | exact laws_markDominoS.mono _ _ _
   | exact laws_markLinkS.mono _ _ _
   | exact laws_toLinkS.mono _ _
   | exact spec_TilingOfTree.mono _ _ _ _
   | exact LeO.none _
   | refine LeO.ite ?_ ?_
   | refine LeO.bind ?_ (fun _ => ?_)
set_option maxHeartbeats 8000000 in
set_option maxRecDepth 100000 in
theorem laws_FnExactTilingOfTree.calls (k : Nat) (a0 : Int) (a1 : Int) (A2 : Option Addr) (c2 : Nat) (l2 : List (S120)) (r : Bool) (w : World) (hr2 : Kd.C k120 w A2 l2.length l2) (hc2 : l2.length ≤ c2) (h : laws_FnExactTilingOfTree.f k a0 a1 l2 = some r) :
  Calls Try.prog 6 #[.int .i64 a0, .int .i64 a1, .slice A2 l2.length c2] w fun e w' => e = .returned (.bool r) ∧ Below w.heap.size w w' := by
 have HR2 := Aside0.mk hr2
 have HC2 := Aside0.mk hc2
 clear hr2 hc2
 have HB := Aside0.mk (Below.refl w.heap.size w)
 have H : ((laws_szLinkS.f l2 1048576).bind fun t353 => (if t353 < 0 then (some true) else ((laws_toLinkS.f k l2).bind fun t354 => ((spec_TilingOfTree.f k a0 a1 t354).bind fun bt357 => ((laws_toLinkS.f k l2).bind fun t361 => ((impl_TilingOfTree.f k a0 a1 t361).bind fun bt364 => ((laws_eqDominoS.f k bt364.1 bt357.1).bind fun t368 => (if t368 = true then (laws_FnExactTilingOfTree.j0 k a0 a1 l2 bt357.1 bt357.2 t361 bt364.1 bt364.2 (bt364.2 != bt357.2)) else (laws_FnExactTilingOfTree.j0 k a0 a1 l2 bt357.1 bt357.2 t361 bt364.1 bt364.2 true))))))))) = some r := h
 clear h
 replace H := Option.bind_eq_some_iff.mp H
 obtain ⟨t353, A40, H⟩ := H
 replace H : (if t353 < 0 then (some true) else ((laws_toLinkS.f k l2).bind fun t354 => ((spec_TilingOfTree.f k a0 a1 t354).bind fun bt357 => ((laws_toLinkS.f k l2).bind fun t361 => ((impl_TilingOfTree.f k a0 a1 t361).bind fun bt364 => ((laws_eqDominoS.f k bt364.1 bt357.1).bind fun t368 => (if t368 = true then (laws_FnExactTilingOfTree.j0 k a0 a1 l2 bt357.1 bt357.2 t361 bt364.1 bt364.2 (bt364.2 != bt357.2)) else (laws_FnExactTilingOfTree.j0 k a0 a1 l2 bt357.1 bt357.2 t361 bt364.1 bt364.2 true)))))))) = some r := H
 have A4 := Aside0.mk A40
 clear A40
 by_cases c5 : t353 < 0
 ·rw [if_pos c5] at H
  have c5b0 : decide (t353 < 0) = true := decide_eq_true c5
  clear c5
  obtain rfl := Option.some.inj H
  go_enter Try.func6, Try.ntmps6
  go_wp2_with (first | ((with_reducible refine gate_callee (f := 33) rfl ?_); refine goesL_ (some 20) rfl rfl Try.func33 (by kernel_rfl) rfl #[.slice A2 l2.length c2, .int .i64 1048576] rfl (by (try simp only [sD, sE, sF]); first | done | rfl) ?_; (with_reducible refine (laws_szLinkS.calls _ _ l2 1048576 t353 _ ?side1 ?side2 A4.out).mono ?_); (case side1 => repeat (first | exact HR2.out | (with_reducible refine Kd.C_alloc ?_ _) | (with_reducible refine Kd.C_drewN ?_ _) | (with_reducible refine Kd.C_drew ?_))); (case side2 => exact HC2.out); rintro e w' ⟨rfl, ⟨nd, rfl⟩⟩; refine ⟨_, rfl, ?_⟩))
  go_ret
  exact ⟨by first | rfl | (simp [*, errW_none, errW_some] <;> rfl), bX HB.out⟩
 ·rw [if_neg c5] at H
  have c5b0 : decide (t353 < 0) = false := decide_eq_false c5
  clear c5
  replace H := Option.bind_eq_some_iff.mp H
  obtain ⟨t354, A60, H⟩ := H
  replace H : ((spec_TilingOfTree.f k a0 a1 t354).bind fun bt357 => ((laws_toLinkS.f k l2).bind fun t361 => ((impl_TilingOfTree.f k a0 a1 t361).bind fun bt364 => ((laws_eqDominoS.f k bt364.1 bt357.1).bind fun t368 => (if t368 = true then (laws_FnExactTilingOfTree.j0 k a0 a1 l2 bt357.1 bt357.2 t361 bt364.1 bt364.2 (bt364.2 != bt357.2)) else (laws_FnExactTilingOfTree.j0 k a0 a1 l2 bt357.1 bt357.2 t361 bt364.1 bt364.2 true)))))) = some r := H
  have A6 := Aside0.mk A60
  clear A60
  replace H := Option.bind_eq_some_iff.mp H
  obtain ⟨⟨t357, t358⟩, A70, H⟩ := H
  replace H : ((laws_toLinkS.f k l2).bind fun t361 => ((impl_TilingOfTree.f k a0 a1 t361).bind fun bt364 => ((laws_eqDominoS.f k bt364.1 t357).bind fun t368 => (if t368 = true then (laws_FnExactTilingOfTree.j0 k a0 a1 l2 t357 t358 t361 bt364.1 bt364.2 (bt364.2 != t358)) else (laws_FnExactTilingOfTree.j0 k a0 a1 l2 t357 t358 t361 bt364.1 bt364.2 true))))) = some r := H
  have A7 := Aside0.mk A70
  clear A70
  replace H := Option.bind_eq_some_iff.mp H
  obtain ⟨t361, A80, H⟩ := H
  replace H : ((impl_TilingOfTree.f k a0 a1 t361).bind fun bt364 => ((laws_eqDominoS.f k bt364.1 t357).bind fun t368 => (if t368 = true then (laws_FnExactTilingOfTree.j0 k a0 a1 l2 t357 t358 t361 bt364.1 bt364.2 (bt364.2 != t358)) else (laws_FnExactTilingOfTree.j0 k a0 a1 l2 t357 t358 t361 bt364.1 bt364.2 true)))) = some r := H
  have A8 := Aside0.mk A80
  clear A80
  replace H := Option.bind_eq_some_iff.mp H
  obtain ⟨⟨t364, t365⟩, A90, H⟩ := H
  replace H : ((laws_eqDominoS.f k t364 t357).bind fun t368 => (if t368 = true then (laws_FnExactTilingOfTree.j0 k a0 a1 l2 t357 t358 t361 t364 t365 (t365 != t358)) else (laws_FnExactTilingOfTree.j0 k a0 a1 l2 t357 t358 t361 t364 t365 true))) = some r := H
  have A9 := Aside0.mk A90
  clear A90
  have HC10 := Aside0.mk H
  clear H
  go_enter Try.func6, Try.ntmps6
  go_upto_region 8 with (first | ((with_reducible refine gate_callee (f := 33) rfl ?_); refine goesL_ (some 20) rfl rfl Try.func33 (by kernel_rfl) rfl #[.slice A2 l2.length c2, .int .i64 1048576] rfl (by (try simp only [sD, sE, sF]); first | done | rfl) ?_; (with_reducible refine (laws_szLinkS.calls _ _ l2 1048576 t353 _ ?side1 ?side2 A4.out).mono ?_); (case side1 => repeat (first | exact HR2.out | (with_reducible refine Kd.C_alloc ?_ _) | (with_reducible refine Kd.C_drewN ?_ _) | (with_reducible refine Kd.C_drew ?_))); (case side2 => exact HC2.out); rintro e w' ⟨rfl, ⟨nd, rfl⟩⟩; refine ⟨_, rfl, ?_⟩) | ((with_reducible refine gate_callee (f := 35) rfl ?_); refine goesL_ (some 27) rfl rfl Try.func35 (by kernel_rfl) rfl #[.slice A2 l2.length c2] rfl (by (try simp only [sD, sE, sF]); first | done | rfl) ?_; (with_reducible refine (laws_toLinkS.calls k _ _ l2 t354 _ ?side1 ?side2 A6.out).mono ?_); (case side1 => repeat (first | exact HR2.out | (with_reducible refine Kd.C_alloc ?_ _) | (with_reducible refine Kd.C_drewN ?_ _) | (with_reducible refine Kd.C_drew ?_))); (case side2 => exact HC2.out); rintro e w11 ⟨v355, rfl, ho0, hb⟩; refine ⟨_, rfl, ?_⟩; have n0_ := Aside0.mk (Kd.R_lower ho0 (below_size (bX HB.out))); have n1_ := Aside0.mk (below_step (bX HB.out) hb); clear HB; have HO356 := n0_; have HB := n1_; clear n0_ n1_; (try clear hb); (try clear hb2); (try clear hk); (try clear hi); (try clear ho0); obtain ⟨Ao12, co12, eo12⟩ := Kd.R_slice HO356.out; subst eo12) | ((with_reducible refine gate_callee (f := 34) rfl ?_); refine goesL_ (some 28) rfl rfl Try.func34 (by kernel_rfl) rfl #[.int .i64 a0, .int .i64 a1, .slice Ao12 t354.length co12] rfl (by (try simp only [sD, sE, sF]); first | done | rfl) ?_; (with_reducible refine (spec_TilingOfTree.calls k a0 a1 _ _ t354 t357 t358 _ ?side1 ?side2 A7.out).mono ?_); (case side1 => repeat (first | exact (Kd.R_reads' HO356.out).2.2 | (with_reducible refine Kd.C_alloc ?_ _) | (with_reducible refine Kd.C_drewN ?_ _) | (with_reducible refine Kd.C_drew ?_))); (case side2 => exact (Kd.R_reads' HO356.out).2.1); rintro e w13 ⟨v359, rfl, ho0, hb⟩; refine ⟨_, rfl, ?_⟩; have n0_ := Aside0.mk (Kd.R_below (rX HO356.out) hb); have n1_ := Aside0.mk (Kd.R_lower ho0 (below_size (bX HB.out))); have n2_ := Aside0.mk (below_step (bX HB.out) hb); clear HO356; clear HB; have HO356 := n0_; have HO360 := n1_; have HB := n2_; clear n0_ n1_ n2_; (try clear hb); (try clear hb2); (try clear hk); (try clear hi); (try clear ho0)) | ((with_reducible refine gate_callee (f := 35) rfl ?_); refine goesL_ (some 32) rfl rfl Try.func35 (by kernel_rfl) rfl #[.slice A2 l2.length c2] rfl (by (try simp only [sD, sE, sF]); first | done | rfl) ?_; (with_reducible refine (laws_toLinkS.calls k _ _ l2 t361 _ ?side1 ?side2 A8.out).mono ?_); (case side1 => repeat (first | exact (Kd.C_below HR2.out HB.out) | (with_reducible refine Kd.C_alloc ?_ _) | (with_reducible refine Kd.C_drewN ?_ _) | (with_reducible refine Kd.C_drew ?_))); (case side2 => exact HC2.out); rintro e w14 ⟨v362, rfl, ho0, hb⟩; refine ⟨_, rfl, ?_⟩; have n0_ := Aside0.mk (Kd.R_elder' (rX HO356.out) (Kd.R_base ho0) hb); have n1_ := Aside0.mk (Kd.R_below (rX HO360.out) hb); have n2_ := Aside0.mk (Kd.R_lower (Kd.R_new' ho0 (Kd.R_lt (rX HO356.out))) (below_size (bX HB.out))); have n3_ := Aside0.mk (below_step (bX HB.out) hb); clear HO356; clear HO360; clear HB; have HO356 := n0_; have HO360 := n1_; have HO363 := n2_; have HB := n3_; clear n0_ n1_ n2_ n3_; (try clear hb); (try clear hb2); (try clear hk); (try clear hi); (try clear ho0); obtain ⟨Ao15, co15, eo15⟩ := Kd.R_slice HO363.out; subst eo15) | ((with_reducible refine gate_callee (f := 23) rfl ?_); refine goesL_ (some 37) rfl rfl Try.func23 (by kernel_rfl) rfl #[.int .i64 a0, .int .i64 a1, .slice Ao15 t361.length co15] rfl (by (try simp only [sD, sE, sF]); first | done | rfl) ?_; (with_reducible refine (impl_TilingOfTree.calls k a0 a1 _ _ t361 t364 t365 _ ?side1 ?side2 A9.out).mono ?_); (case side1 => repeat (first | exact (Kd.R_reads' HO363.out).2.2 | (with_reducible refine Kd.C_alloc ?_ _) | (with_reducible refine Kd.C_drewN ?_ _) | (with_reducible refine Kd.C_drew ?_))); (case side2 => exact (Kd.R_reads' HO363.out).2.1); rintro e w16 ⟨v366, rfl, ho0, hb⟩; refine ⟨_, rfl, ?_⟩; have n0_ := Aside0.mk (Kd.R_below (rX HO356.out) hb); have n1_ := Aside0.mk (Kd.R_elder' (rX HO360.out) (Kd.R_base ho0) hb); have n2_ := Aside0.mk (Kd.R_below (rX HO363.out) hb); have n3_ := Aside0.mk (Kd.R_lower (Kd.R_new' ho0 (Kd.R_lt (rX HO360.out))) (below_size (bX HB.out))); have n4_ := Aside0.mk (below_step (bX HB.out) hb); clear HO356; clear HO360; clear HO363; clear HB; have HO356 := n0_; have HO360 := n1_; have HO363 := n2_; have HO367 := n3_; have HB := n4_; clear n0_ n1_ n2_ n3_ n4_; (try clear hb); (try clear hb2); (try clear hk); (try clear hi); (try clear ho0)))
  (try simp only [Act.put, List.setIfInBounds_toArray, List.set_cons_zero, List.set_cons_succ])
  go_cut [48] (fun v48 wc => ∃ (kq : Nat) (x48_9 : Bool), v48 = .bool x48_9 ∧ Aside0 (laws_FnExactTilingOfTree.j0 kq a0 a1 l2 t357 t358 t361 t364 t365 x48_9 = some r) ∧ Aside0 (kq ≤ k) ∧ Aside0 (Kd.R k41 41 wc w.heap.size (fun k_ => some k_ ≠ (v366 : Value).ownBlock) v359 t357) ∧ Aside0 (Kd.R k50 50 wc w.heap.size (fun _ => True) (.slice Ao15 t361.length co15) t361) ∧ Aside0 (Kd.R k41 41 wc w.heap.size (fun k_ => some k_ ≠ (v359 : Value).ownBlock) v366 t364) ∧ Aside0 (Below w.heap.size w wc))
  case first =>
   have H := HC10.out
   clear HC10
   replace H := Option.bind_eq_some_iff.mp H
   obtain ⟨t368, A170, H⟩ := H
   replace H : (if t368 = true then (laws_FnExactTilingOfTree.j0 k a0 a1 l2 t357 t358 t361 t364 t365 (t365 != t358)) else (laws_FnExactTilingOfTree.j0 k a0 a1 l2 t357 t358 t361 t364 t365 true)) = some r := H
   have A17 := Aside0.mk A170
   clear A170
   by_cases c18 : t368 = true
   ·subst c18
    have H1 : (laws_FnExactTilingOfTree.j0 k a0 a1 l2 t357 t358 t361 t364 t365 (t365 != t358)) = some r := by rw [if_pos rfl] at H; exact H
    clear H
    have H := H1
    clear H1
    have H' := Aside0.mk H
    clear H
    obtain ⟨Ao19, co19, eo19⟩ := Kd.R_slice HO367.out
    subst eo19
    obtain ⟨Ao20, co20, eo20⟩ := Kd.R_slice HO360.out
    subst eo20
    go_wp2_with (first | ((with_reducible refine gate_callee (f := 36) rfl ?_); refine goesL_ (some 42) rfl rfl Try.func36 (by kernel_rfl) rfl #[.slice Ao19 t364.length co19, .slice Ao20 t357.length co20] rfl (by (try simp only [sD, sE, sF]); first | done | rfl) ?_; (with_reducible refine (laws_eqDominoS.calls k _ _ t364 _ _ t357 true _ ?side1 ?side2 ?side3 ?side4 A17.out).mono ?_); (case side1 => repeat (first | exact (Kd.R_reads' HO367.out).2.2 | (with_reducible refine Kd.C_alloc ?_ _) | (with_reducible refine Kd.C_drewN ?_ _) | (with_reducible refine Kd.C_drew ?_))); (case side2 => exact (Kd.R_reads' HO367.out).2.1); (case side3 => repeat (first | exact (Kd.R_reads' HO360.out).2.2 | (with_reducible refine Kd.C_alloc ?_ _) | (with_reducible refine Kd.C_drewN ?_ _) | (with_reducible refine Kd.C_drew ?_))); (case side4 => exact (Kd.R_reads' HO360.out).2.1); rintro e w21 ⟨rfl, hb⟩; refine ⟨_, rfl, ?_⟩; have n0_ := Aside0.mk (Kd.R_below (rX HO356.out) hb); have n1_ := Aside0.mk (Kd.R_below (rX HO360.out) hb); have n2_ := Aside0.mk (Kd.R_below (rX HO363.out) hb); have n3_ := Aside0.mk (Kd.R_below (rX HO367.out) hb); have n4_ := Aside0.mk (below_step (bX HB.out) hb); clear HO356; clear HO360; clear HO363; clear HO367; clear HB; have HO356 := n0_; have HO360 := n1_; have HO363 := n2_; have HO367 := n3_; have HB := n4_; clear n0_ n1_ n2_ n3_ n4_; (try clear hb); (try clear hb2); (try clear hk); (try clear hi)))
    go_meet
    case rel => exact ⟨_, ((t365 != t358)), (by first | rfl | (simp; done) | (simp [*]; done)), H', ⟨by first | omega | exact Nat.le_refl _⟩, ⟨by (with_reducible repeat (first | apply Kd.R_alloc | apply Kd.R_drewN | apply Kd.R_drew)); exact Kd.R_mono HO360.out (fun _ hk => hk.2)⟩, ⟨by (with_reducible repeat (first | apply Kd.R_alloc | apply Kd.R_drewN | apply Kd.R_drew)); exact Kd.R_mono HO363.out (fun _ hk => trivial)⟩, ⟨by (with_reducible repeat (first | apply Kd.R_alloc | apply Kd.R_drewN | apply Kd.R_drew)); exact Kd.R_mono HO367.out (fun _ hk => hk.2)⟩, ⟨bX HB.out⟩⟩
   ·replace c18 := Bool.eq_false_iff.mpr c18
    subst c18
    have H1 : (laws_FnExactTilingOfTree.j0 k a0 a1 l2 t357 t358 t361 t364 t365 true) = some r := by rw [if_neg (show ¬ (false = true) by decide)] at H; exact H
    clear H
    have H := H1
    clear H1
    have H' := Aside0.mk H
    clear H
    obtain ⟨Ao22, co22, eo22⟩ := Kd.R_slice HO367.out
    subst eo22
    obtain ⟨Ao23, co23, eo23⟩ := Kd.R_slice HO360.out
    subst eo23
    go_wp2_with (first | ((with_reducible refine gate_callee (f := 36) rfl ?_); refine goesL_ (some 42) rfl rfl Try.func36 (by kernel_rfl) rfl #[.slice Ao22 t364.length co22, .slice Ao23 t357.length co23] rfl (by (try simp only [sD, sE, sF]); first | done | rfl) ?_; (with_reducible refine (laws_eqDominoS.calls k _ _ t364 _ _ t357 false _ ?side1 ?side2 ?side3 ?side4 A17.out).mono ?_); (case side1 => repeat (first | exact (Kd.R_reads' HO367.out).2.2 | (with_reducible refine Kd.C_alloc ?_ _) | (with_reducible refine Kd.C_drewN ?_ _) | (with_reducible refine Kd.C_drew ?_))); (case side2 => exact (Kd.R_reads' HO367.out).2.1); (case side3 => repeat (first | exact (Kd.R_reads' HO360.out).2.2 | (with_reducible refine Kd.C_alloc ?_ _) | (with_reducible refine Kd.C_drewN ?_ _) | (with_reducible refine Kd.C_drew ?_))); (case side4 => exact (Kd.R_reads' HO360.out).2.1); rintro e w24 ⟨rfl, hb⟩; refine ⟨_, rfl, ?_⟩; have n0_ := Aside0.mk (Kd.R_below (rX HO356.out) hb); have n1_ := Aside0.mk (Kd.R_below (rX HO360.out) hb); have n2_ := Aside0.mk (Kd.R_below (rX HO363.out) hb); have n3_ := Aside0.mk (Kd.R_below (rX HO367.out) hb); have n4_ := Aside0.mk (below_step (bX HB.out) hb); clear HO356; clear HO360; clear HO363; clear HO367; clear HB; have HO356 := n0_; have HO360 := n1_; have HO363 := n2_; have HO367 := n3_; have HB := n4_; clear n0_ n1_ n2_ n3_ n4_; (try clear hb); (try clear hb2); (try clear hk); (try clear hi)))
    go_meet
    case rel => exact ⟨_, (true), (by first | rfl | (simp; done) | (simp [*]; done)), H', ⟨by first | omega | exact Nat.le_refl _⟩, ⟨by (with_reducible repeat (first | apply Kd.R_alloc | apply Kd.R_drewN | apply Kd.R_drew)); exact Kd.R_mono HO360.out (fun _ hk => hk.2)⟩, ⟨by (with_reducible repeat (first | apply Kd.R_alloc | apply Kd.R_drewN | apply Kd.R_drew)); exact Kd.R_mono HO363.out (fun _ hk => trivial)⟩, ⟨by (with_reducible repeat (first | apply Kd.R_alloc | apply Kd.R_drewN | apply Kd.R_drew)); exact Kd.R_mono HO367.out (fun _ hk => hk.2)⟩, ⟨bX HB.out⟩⟩
  case rest =>
   clear HC10
   try clear c1
   try clear c2
   try clear p2
   try clear c3
   try clear c5
   try clear c5b0
   try clear c6
   try clear c18
   try clear c23
   obtain ⟨kq, x48_9, rfl, HA, HJ9, HO_8, HO_10, HO_11, HB⟩ := hcut
   cases kq with
   | zero => exact absurd HA.out (by simp [laws_FnExactTilingOfTree.j0])
   | succ kj9 =>
    have H := HA.out
    clear HA
    simp only [laws_FnExactTilingOfTree.j0] at H
    by_cases c25 : x48_9 = true
    ·subst c25
     have H1 : (some false) = some r := by rw [if_pos rfl] at H; exact H
     clear H
     have H := H1
     clear H1
     obtain rfl := Option.some.inj H
     go_wp2
     go_ret
     exact ⟨by first | rfl | (simp [*, errW_none, errW_some] <;> rfl), bX HB.out⟩
    ·replace c25 := Bool.eq_false_iff.mpr c25
     subst c25
     have H1 : ((laws_toLinkS.f kj9 l2).bind fun t369 => ((laws_eqLinkS.f kj9 t361 t369).bind fun t372 => (if t372 = true then ((laws_markLinkS.f kj9 t361 1).bind fun bt373 => (if bt373.1 < 0 then (laws_FnExactTilingOfTree.j1 kj9 a0 a1 l2 t357 t358 t364 true) else ((laws_eqDominoS.f kj9 t364 t357).bind fun t375 => (if t375 = true then (laws_FnExactTilingOfTree.j1 kj9 a0 a1 l2 t357 t358 t364 (t365 != t358)) else (laws_FnExactTilingOfTree.j1 kj9 a0 a1 l2 t357 t358 t364 true))))) else (some false)))) = some r := by rw [if_neg (show ¬ (false = true) by decide)] at H; exact H
     clear H
     have H := H1
     clear H1
     replace H := Option.bind_eq_some_iff.mp H
     obtain ⟨t369, A260, H⟩ := H
     replace H : ((laws_eqLinkS.f kj9 t361 t369).bind fun t372 => (if t372 = true then ((laws_markLinkS.f kj9 t361 1).bind fun bt373 => (if bt373.1 < 0 then (laws_FnExactTilingOfTree.j1 kj9 a0 a1 l2 t357 t358 t364 true) else ((laws_eqDominoS.f kj9 t364 t357).bind fun t375 => (if t375 = true then (laws_FnExactTilingOfTree.j1 kj9 a0 a1 l2 t357 t358 t364 (t365 != t358)) else (laws_FnExactTilingOfTree.j1 kj9 a0 a1 l2 t357 t358 t364 true))))) else (some false))) = some r := H
     have A26 := Aside0.mk A260
     clear A260
     replace H := Option.bind_eq_some_iff.mp H
     obtain ⟨t372, A270, H⟩ := H
     replace H : (if t372 = true then ((laws_markLinkS.f kj9 t361 1).bind fun bt373 => (if bt373.1 < 0 then (laws_FnExactTilingOfTree.j1 kj9 a0 a1 l2 t357 t358 t364 true) else ((laws_eqDominoS.f kj9 t364 t357).bind fun t375 => (if t375 = true then (laws_FnExactTilingOfTree.j1 kj9 a0 a1 l2 t357 t358 t364 (t365 != t358)) else (laws_FnExactTilingOfTree.j1 kj9 a0 a1 l2 t357 t358 t364 true))))) else (some false)) = some r := H
     have A27 := Aside0.mk A270
     clear A270
     by_cases c28 : t372 = true
     ·subst c28
      have H1 : ((laws_markLinkS.f kj9 t361 1).bind fun bt373 => (if bt373.1 < 0 then (laws_FnExactTilingOfTree.j1 kj9 a0 a1 l2 t357 t358 t364 true) else ((laws_eqDominoS.f kj9 t364 t357).bind fun t375 => (if t375 = true then (laws_FnExactTilingOfTree.j1 kj9 a0 a1 l2 t357 t358 t364 (t365 != t358)) else (laws_FnExactTilingOfTree.j1 kj9 a0 a1 l2 t357 t358 t364 true))))) = some r := by rw [if_pos rfl] at H; exact H
      clear H
      have H := H1
      clear H1
      replace H := Option.bind_eq_some_iff.mp H
      obtain ⟨⟨t373, t374⟩, A290, H⟩ := H
      replace H : (if t373 < 0 then (laws_FnExactTilingOfTree.j1 kj9 a0 a1 l2 t357 t358 t364 true) else ((laws_eqDominoS.f kj9 t364 t357).bind fun t375 => (if t375 = true then (laws_FnExactTilingOfTree.j1 kj9 a0 a1 l2 t357 t358 t364 (t365 != t358)) else (laws_FnExactTilingOfTree.j1 kj9 a0 a1 l2 t357 t358 t364 true)))) = some r := H
      have A29 := Aside0.mk A290
      clear A290
      have HC30 := Aside0.mk H
      clear H
      go_upto_region 14 with (first | ((with_reducible refine gate_callee (f := 35) rfl ?_); refine goesL_ (some 51) rfl rfl Try.func35 (by kernel_rfl) rfl #[.slice A2 l2.length c2] rfl (by (try simp only [sD, sE, sF]); first | done | rfl) ?_; (with_reducible refine (laws_toLinkS.calls kj9 _ _ l2 t369 _ ?side1 ?side2 A26.out).mono ?_); (case side1 => repeat (first | exact (Kd.C_below HR2.out HB.out) | (with_reducible refine Kd.C_alloc ?_ _) | (with_reducible refine Kd.C_drewN ?_ _) | (with_reducible refine Kd.C_drew ?_))); (case side2 => exact HC2.out); rintro e w31 ⟨v370, rfl, ho0, hb⟩; refine ⟨_, rfl, ?_⟩; have n0_ := Aside0.mk (Kd.R_below (rX HO_8.out) hb); have n1_ := Aside0.mk (Kd.R_elder' (rX HO_10.out) (Kd.R_base ho0) hb); have n2_ := Aside0.mk (Kd.R_below (rX HO_11.out) hb); have n3_ := Aside0.mk (Kd.R_lower (Kd.R_new' ho0 (Kd.R_lt (rX HO_10.out))) (below_size (bX HB.out))); have n4_ := Aside0.mk (below_step (bX HB.out) hb); clear HO_8; clear HO_10; clear HO_11; clear HB; have HO_8 := n0_; have HO_10 := n1_; have HO_11 := n2_; have HO371 := n3_; have HB := n4_; clear n0_ n1_ n2_ n3_ n4_; (try clear hb); (try clear hb2); (try clear hk); (try clear hi); (try clear ho0); obtain ⟨Ao32, co32, eo32⟩ := Kd.R_slice HO371.out; subst eo32) | ((with_reducible refine gate_callee (f := 37) rfl ?_); refine goesL_ (some 52) rfl rfl Try.func37 (by kernel_rfl) rfl #[.slice Ao15 t361.length co15, .slice Ao32 t369.length co32] rfl (by (try simp only [sD, sE, sF]); first | done | rfl) ?_; (with_reducible refine (laws_eqLinkS.calls kj9 _ _ t361 _ _ t369 true _ ?side1 ?side2 ?side3 ?side4 A27.out).mono ?_); (case side1 => repeat (first | exact (Kd.R_reads' HO_10.out).2.2 | (with_reducible refine Kd.C_alloc ?_ _) | (with_reducible refine Kd.C_drewN ?_ _) | (with_reducible refine Kd.C_drew ?_))); (case side2 => exact (Kd.R_reads' HO_10.out).2.1); (case side3 => repeat (first | exact (Kd.R_reads' HO371.out).2.2 | (with_reducible refine Kd.C_alloc ?_ _) | (with_reducible refine Kd.C_drewN ?_ _) | (with_reducible refine Kd.C_drew ?_))); (case side4 => exact (Kd.R_reads' HO371.out).2.1); rintro e w33 ⟨rfl, hb⟩; refine ⟨_, rfl, ?_⟩; have n0_ := Aside0.mk (Kd.R_below (rX HO_8.out) hb); have n1_ := Aside0.mk (Kd.R_below (rX HO_10.out) hb); have n2_ := Aside0.mk (Kd.R_below (rX HO_11.out) hb); have n3_ := Aside0.mk (Kd.R_below (rX HO371.out) hb); have n4_ := Aside0.mk (below_step (bX HB.out) hb); clear HO_8; clear HO_10; clear HO_11; clear HO371; clear HB; have HO_8 := n0_; have HO_10 := n1_; have HO_11 := n2_; have HO371 := n3_; have HB := n4_; clear n0_ n1_ n2_ n3_ n4_; (try clear hb); (try clear hb2); (try clear hk); (try clear hi)) | ((with_reducible refine gate_callee (f := 38) rfl ?_); refine goesL_ (some 56) rfl rfl Try.func38 (by kernel_rfl) rfl #[.slice Ao15 t361.length co15, .int .i64 1] rfl (by (try simp only [sD, sE, sF]); first | done | rfl) ?_; (with_reducible refine (laws_markLinkS.calls kj9 (fun k_ => some k_ = (.slice Ao15 t361.length co15 : Value).ownBlock) (.slice Ao15 t361.length co15) t361 1 t373 t374 w _ ?side1 ?side2 A29.out).mono ?_); (case side1 => repeat (first | (with_reducible first | exact HB.out | apply below_alloc | apply pw_below_drewN | apply below_drew1) | exact HB.out)); (case side2 => exact Kd.R_tight rfl HO_10.out); rintro e w34 ⟨rfl, hy0, hb, hkp⟩; refine ⟨_, rfl, ?_⟩; have n0_ := Aside0.mk (Kd.R_mono (ok' := fun k_ => some k_ ≠ (v366 : Value).ownBlock) (Kd.R_keptB ((Kd.R_apart' HO_8.out (Kd.R_typed HO_10.out) (by decide))) hkp (fun k_ hk_ hs_ => (hk_.2) hs_)) (fun k_ hk_ => hk_.1.1)); have n1_ := Aside0.mk (Kd.R_reok rfl hy0 (fun k_ e_ => HO_10.out.1 k_ e_)); have n2_ := Aside0.mk (Kd.R_mono (ok' := fun k_ => some k_ ≠ (v359 : Value).ownBlock) (Kd.R_keptB ((Kd.R_apart' HO_11.out (Kd.R_typed HO_10.out) (by decide))) hkp (fun k_ hk_ hs_ => (hk_.2) hs_)) (fun k_ hk_ => hk_.1.1)); have n3_ := Aside0.mk (Kd.R_mono (ok' := fun k_ => some k_ ≠ (.slice Ao15 t361.length co15 : Value).ownBlock) (Kd.R_keptB (HO371.out) hkp (fun k_ hk_ hs_ => (hk_.2) hs_)) (fun k_ hk_ => hk_.1.2)); have n4_ := Aside0.mk (hb); clear HO_8; clear HO_10; clear HO_11; clear HO371; clear HB; have HO_8 := n0_; have HO_10 := n1_; have HO_11 := n2_; have HO371 := n3_; have HB := n4_; clear n0_ n1_ n2_ n3_ n4_; (try clear hb); (try clear hkp); (try clear hy0)))
      (try simp only [Act.put, List.setIfInBounds_toArray, List.set_cons_zero, List.set_cons_succ])
      go_cut [69] (fun v69 wc => ∃ (kq : Nat) (x69_29 : Bool), v69 = .bool x69_29 ∧ Aside0 (laws_FnExactTilingOfTree.j1 kq a0 a1 l2 t357 t358 t364 x69_29 = some r) ∧ Aside0 (kq ≤ kj9) ∧ Aside0 (Kd.R k41 41 wc w.heap.size (fun k_ => some k_ ≠ (v366 : Value).ownBlock) v359 t357) ∧ Aside0 (Kd.R k41 41 wc w.heap.size (fun k_ => some k_ ≠ (v359 : Value).ownBlock) v366 t364) ∧ Aside0 (Below w.heap.size w wc))
      case first =>
       have H := HC30.out
       clear HC30
       by_cases c35 : t373 < 0
       ·rw [if_pos c35] at H
        have c35b0 : decide (t373 < 0) = true := decide_eq_true c35
        clear c35
        (first | rw [c35b0] | (simp only [i64_w, i32_w]; rw [c35b0]) | skip)
        have H' := Aside0.mk H
        clear H
        go_wp2
        go_meet
        case rel => exact ⟨_, (true), (by first | rfl | (simp; done) | (simp [*]; done)), H', ⟨by have := HJ9.out; first | omega | exact Nat.le_refl _⟩, ⟨rX HO_8.out⟩, ⟨rX HO_11.out⟩, ⟨bX HB.out⟩⟩
       ·rw [if_neg c35] at H
        have c35b0 : decide (t373 < 0) = false := decide_eq_false c35
        clear c35
        (first | rw [c35b0] | (simp only [i64_w, i32_w]; rw [c35b0]) | skip)
        replace H := Option.bind_eq_some_iff.mp H
        obtain ⟨t375, A360, H⟩ := H
        replace H : (if t375 = true then (laws_FnExactTilingOfTree.j1 kj9 a0 a1 l2 t357 t358 t364 (t365 != t358)) else (laws_FnExactTilingOfTree.j1 kj9 a0 a1 l2 t357 t358 t364 true)) = some r := H
        have A36 := Aside0.mk A360
        clear A360
        by_cases c37 : t375 = true
        ·subst c37
         have H1 : (laws_FnExactTilingOfTree.j1 kj9 a0 a1 l2 t357 t358 t364 (t365 != t358)) = some r := by rw [if_pos rfl] at H; exact H
         clear H
         have H := H1
         clear H1
         have H' := Aside0.mk H
         clear H
         obtain ⟨Ao38, co38, eo38⟩ := Kd.R_slice HO_11.out
         subst eo38
         obtain ⟨Ao39, co39, eo39⟩ := Kd.R_slice HO_8.out
         subst eo39
         go_wp2_with (first | (go_at_call 36; (with_reducible refine (laws_eqDominoS.calls kj9 _ _ t364 _ _ t357 true _ ?side1 ?side2 ?side3 ?side4 A36.out).mono ?_); (case side1 => repeat (first | exact (Kd.R_reads' HO_11.out).2.2 | (with_reducible refine Kd.C_alloc ?_ _) | (with_reducible refine Kd.C_drewN ?_ _) | (with_reducible refine Kd.C_drew ?_))); (case side2 => exact (Kd.R_reads' HO_11.out).2.1); (case side3 => repeat (first | exact (Kd.R_reads' HO_8.out).2.2 | (with_reducible refine Kd.C_alloc ?_ _) | (with_reducible refine Kd.C_drewN ?_ _) | (with_reducible refine Kd.C_drew ?_))); (case side4 => exact (Kd.R_reads' HO_8.out).2.1); rintro e w40 ⟨rfl, hb⟩; have n0_ := Aside0.mk (Kd.R_below (rX HO_8.out) hb); have n1_ := Aside0.mk (Kd.R_below (rX HO_10.out) hb); have n2_ := Aside0.mk (Kd.R_below (rX HO_11.out) hb); have n3_ := Aside0.mk (Kd.R_below (rX HO371.out) hb); have n4_ := Aside0.mk (below_step (bX HB.out) hb); clear HO_8; clear HO_10; clear HO_11; clear HO371; clear HB; have HO_8 := n0_; have HO_10 := n1_; have HO_11 := n2_; have HO371 := n3_; have HB := n4_; clear n0_ n1_ n2_ n3_ n4_; (try clear hb); (try clear hb2); (try clear hk); (try clear hi)))
         go_meet
         case rel => exact ⟨_, ((t365 != t358)), (by first | rfl | (simp; done) | (simp [*]; done)), H', ⟨by have := HJ9.out; first | omega | exact Nat.le_refl _⟩, ⟨rX HO_8.out⟩, ⟨rX HO_11.out⟩, ⟨bX HB.out⟩⟩
        ·replace c37 := Bool.eq_false_iff.mpr c37
         subst c37
         have H1 : (laws_FnExactTilingOfTree.j1 kj9 a0 a1 l2 t357 t358 t364 true) = some r := by rw [if_neg (show ¬ (false = true) by decide)] at H; exact H
         clear H
         have H := H1
         clear H1
         have H' := Aside0.mk H
         clear H
         obtain ⟨Ao41, co41, eo41⟩ := Kd.R_slice HO_11.out
         subst eo41
         obtain ⟨Ao42, co42, eo42⟩ := Kd.R_slice HO_8.out
         subst eo42
         go_wp2_with (first | (go_at_call 36; (with_reducible refine (laws_eqDominoS.calls kj9 _ _ t364 _ _ t357 false _ ?side1 ?side2 ?side3 ?side4 A36.out).mono ?_); (case side1 => repeat (first | exact (Kd.R_reads' HO_11.out).2.2 | (with_reducible refine Kd.C_alloc ?_ _) | (with_reducible refine Kd.C_drewN ?_ _) | (with_reducible refine Kd.C_drew ?_))); (case side2 => exact (Kd.R_reads' HO_11.out).2.1); (case side3 => repeat (first | exact (Kd.R_reads' HO_8.out).2.2 | (with_reducible refine Kd.C_alloc ?_ _) | (with_reducible refine Kd.C_drewN ?_ _) | (with_reducible refine Kd.C_drew ?_))); (case side4 => exact (Kd.R_reads' HO_8.out).2.1); rintro e w43 ⟨rfl, hb⟩; have n0_ := Aside0.mk (Kd.R_below (rX HO_8.out) hb); have n1_ := Aside0.mk (Kd.R_below (rX HO_10.out) hb); have n2_ := Aside0.mk (Kd.R_below (rX HO_11.out) hb); have n3_ := Aside0.mk (Kd.R_below (rX HO371.out) hb); have n4_ := Aside0.mk (below_step (bX HB.out) hb); clear HO_8; clear HO_10; clear HO_11; clear HO371; clear HB; have HO_8 := n0_; have HO_10 := n1_; have HO_11 := n2_; have HO371 := n3_; have HB := n4_; clear n0_ n1_ n2_ n3_ n4_; (try clear hb); (try clear hb2); (try clear hk); (try clear hi)))
         go_meet
         case rel => exact ⟨_, (true), (by first | rfl | (simp; done) | (simp [*]; done)), H', ⟨by have := HJ9.out; first | omega | exact Nat.le_refl _⟩, ⟨rX HO_8.out⟩, ⟨rX HO_11.out⟩, ⟨bX HB.out⟩⟩
      case rest =>
       clear HC30
       try clear c1
       try clear c2
       try clear p2
       try clear c3
       try clear c5
       try clear c5b0
       try clear c6
       try clear c18
       try clear c23
       try clear c25
       try clear c28
       try clear c33
       try clear c34
       try clear c35
       try clear c35b0
       try clear c36
       try clear c37
       try clear c38
       try clear p2
       obtain ⟨kq, x69_29, rfl, HA, HJ29, HO_8, HO_11, HB⟩ := hcut
       cases kq with
       | zero => exact absurd HA.out (by simp [laws_FnExactTilingOfTree.j1])
       | succ kj29 =>
        have H := HA.out
        clear HA
        simp only [laws_FnExactTilingOfTree.j1] at H
        by_cases c44 : x69_29 = true
        ·subst c44
         have H1 : (some false) = some r := by rw [if_pos rfl] at H; exact H
         clear H
         have H := H1
         clear H1
         obtain rfl := Option.some.inj H
         go_wp2
         go_ret
         exact ⟨by first | rfl | (simp [*, errW_none, errW_some] <;> rfl), bX HB.out⟩
        ·replace c44 := Bool.eq_false_iff.mpr c44
         subst c44
         have H1 : ((laws_markDominoS.f kj29 t364 1).bind fun bt376 => ((laws_heldDominoS.f kj29 bt376.2 1).bind fun t378 => (if t378 < 0 then (some false) else (if t378 = bt376.1 then ((laws_toLinkS.f kj29 l2).bind fun t379 => ((impl_TilingOfTree.f kj29 a0 a1 t379).bind fun bt382 => ((laws_eqDominoS.f kj29 bt382.1 t357).bind fun t386 => (if t386 = true then (laws_FnExactTilingOfTree.j2 kj29 bt376.2 bt376.1 (bt382.2 != t358)) else (laws_FnExactTilingOfTree.j2 kj29 bt376.2 bt376.1 true))))) else (some false))))) = some r := by rw [if_neg (show ¬ (false = true) by decide)] at H; exact H
         clear H
         have H := H1
         clear H1
         replace H := Option.bind_eq_some_iff.mp H
         obtain ⟨⟨t376, t377⟩, A450, H⟩ := H
         replace H : ((laws_heldDominoS.f kj29 t377 1).bind fun t378 => (if t378 < 0 then (some false) else (if t378 = t376 then ((laws_toLinkS.f kj29 l2).bind fun t379 => ((impl_TilingOfTree.f kj29 a0 a1 t379).bind fun bt382 => ((laws_eqDominoS.f kj29 bt382.1 t357).bind fun t386 => (if t386 = true then (laws_FnExactTilingOfTree.j2 kj29 t377 t376 (bt382.2 != t358)) else (laws_FnExactTilingOfTree.j2 kj29 t377 t376 true))))) else (some false)))) = some r := H
         have A45 := Aside0.mk A450
         clear A450
         replace H := Option.bind_eq_some_iff.mp H
         obtain ⟨t378, A460, H⟩ := H
         replace H : (if t378 < 0 then (some false) else (if t378 = t376 then ((laws_toLinkS.f kj29 l2).bind fun t379 => ((impl_TilingOfTree.f kj29 a0 a1 t379).bind fun bt382 => ((laws_eqDominoS.f kj29 bt382.1 t357).bind fun t386 => (if t386 = true then (laws_FnExactTilingOfTree.j2 kj29 t377 t376 (bt382.2 != t358)) else (laws_FnExactTilingOfTree.j2 kj29 t377 t376 true))))) else (some false))) = some r := H
         have A46 := Aside0.mk A460
         clear A460
         by_cases c47 : t378 < 0
         ·rw [if_pos c47] at H
          have c47b0 : decide (t378 < 0) = true := decide_eq_true c47
          clear c47
          obtain rfl := Option.some.inj H
          obtain ⟨Ao48, co48, eo48⟩ := Kd.R_slice HO_11.out
          subst eo48
          go_wp2_with (first | ((with_reducible refine gate_callee (f := 39) rfl ?_); refine goesL_ (some 72) rfl rfl Try.func39 (by kernel_rfl) rfl #[.slice Ao48 t364.length co48, .int .i64 1] rfl (by (try simp only [sD, sE, sF]); first | done | rfl) ?_; (with_reducible refine (laws_markDominoS.calls kj29 (fun k_ => some k_ = (.slice Ao48 t364.length co48 : Value).ownBlock) (.slice Ao48 t364.length co48) t364 1 t376 t377 w _ ?side1 ?side2 A45.out).mono ?_); (case side1 => repeat (first | (with_reducible first | exact HB.out | apply below_alloc | apply pw_below_drewN | apply below_drew1) | exact HB.out)); (case side2 => exact Kd.R_tight rfl HO_11.out); rintro e w49 ⟨rfl, hy0, hb, hkp⟩; refine ⟨_, rfl, ?_⟩; have n0_ := Aside0.mk (Kd.R_mono (ok' := fun k_ => some k_ ≠ (.slice Ao48 t364.length co48 : Value).ownBlock) (Kd.R_keptB (HO_8.out) hkp (fun k_ hk_ hs_ => (hk_) hs_)) (fun k_ hk_ => hk_.1)); have n1_ := Aside0.mk (Kd.R_reok rfl hy0 (fun k_ e_ => HO_11.out.1 k_ e_)); have n2_ := Aside0.mk (hb); clear HO_8; clear HO_11; clear HB; have HO_8 := n0_; have HO_11 := n1_; have HB := n2_; clear n0_ n1_ n2_; (try clear hb); (try clear hkp); (try clear hy0)) | ((with_reducible refine gate_callee (f := 40) rfl ?_); refine goesL_ (some 75) rfl rfl Try.func40 (by kernel_rfl) rfl #[.slice Ao48 t377.length co48, .int .i64 1] rfl (by (try simp only [List.map_toArray, List.map_cons, List.map_nil]); first | done | (rw [show t377.length = t364.length from (Kd.R_reads' HO_11.out).1.symm] <;> rfl) | rfl | (simp only [List.length_drop, List.length_take]; rfl)) ?_; (with_reducible refine (laws_heldDominoS.calls kj29 _ _ t377 1 t378 _ ?side1 ?side2 A46.out).mono ?_); (case side1 => repeat (first | exact (Kd.R_reads' HO_11.out).2.2 | (with_reducible refine Kd.C_alloc ?_ _) | (with_reducible refine Kd.C_drewN ?_ _) | (with_reducible refine Kd.C_drew ?_))); (case side2 => rw [show t377.length = t364.length from (Kd.R_reads' HO_11.out).1.symm]; exact (Kd.R_reads' HO_11.out).2.1); rintro e w' ⟨rfl, ⟨nd, rfl⟩⟩; refine ⟨_, rfl, ?_⟩))
          go_ret
          exact ⟨by first | rfl | (simp [*, errW_none, errW_some] <;> rfl), bX HB.out⟩
         ·rw [if_neg c47] at H
          have c47b0 : decide (t378 < 0) = false := decide_eq_false c47
          clear c47
          by_cases c50 : t378 = t376
          ·rw [if_pos c50] at H
           have c50b0 : (t378 == t376) = true := beq_iff_eq.mpr c50
           have c50b1 : (t378 != t376) = false := bne_eq_false_iff_eq.mpr c50
           clear c50
           replace H := Option.bind_eq_some_iff.mp H
           obtain ⟨t379, A510, H⟩ := H
           replace H : ((impl_TilingOfTree.f kj29 a0 a1 t379).bind fun bt382 => ((laws_eqDominoS.f kj29 bt382.1 t357).bind fun t386 => (if t386 = true then (laws_FnExactTilingOfTree.j2 kj29 t377 t376 (bt382.2 != t358)) else (laws_FnExactTilingOfTree.j2 kj29 t377 t376 true)))) = some r := H
           have A51 := Aside0.mk A510
           clear A510
           replace H := Option.bind_eq_some_iff.mp H
           obtain ⟨⟨t382, t383⟩, A520, H⟩ := H
           replace H : ((laws_eqDominoS.f kj29 t382 t357).bind fun t386 => (if t386 = true then (laws_FnExactTilingOfTree.j2 kj29 t377 t376 (t383 != t358)) else (laws_FnExactTilingOfTree.j2 kj29 t377 t376 true))) = some r := H
           have A52 := Aside0.mk A520
           clear A520
           have HC53 := Aside0.mk H
           clear H
           obtain ⟨Ao54, co54, eo54⟩ := Kd.R_slice HO_11.out
           subst eo54
           go_upto_region 25 with (first | ((with_reducible refine gate_callee (f := 39) rfl ?_); refine goesL_ (some 72) rfl rfl Try.func39 (by kernel_rfl) rfl #[.slice Ao54 t364.length co54, .int .i64 1] rfl (by (try simp only [sD, sE, sF]); first | done | rfl) ?_; (with_reducible refine (laws_markDominoS.calls kj29 (fun k_ => some k_ = (.slice Ao54 t364.length co54 : Value).ownBlock) (.slice Ao54 t364.length co54) t364 1 t376 t377 w _ ?side1 ?side2 A45.out).mono ?_); (case side1 => repeat (first | (with_reducible first | exact HB.out | apply below_alloc | apply pw_below_drewN | apply below_drew1) | exact HB.out)); (case side2 => exact Kd.R_tight rfl HO_11.out); rintro e w55 ⟨rfl, hy0, hb, hkp⟩; refine ⟨_, rfl, ?_⟩; have n0_ := Aside0.mk (Kd.R_mono (ok' := fun k_ => some k_ ≠ (.slice Ao54 t364.length co54 : Value).ownBlock) (Kd.R_keptB (HO_8.out) hkp (fun k_ hk_ hs_ => (hk_) hs_)) (fun k_ hk_ => hk_.1)); have n1_ := Aside0.mk (Kd.R_reok rfl hy0 (fun k_ e_ => HO_11.out.1 k_ e_)); have n2_ := Aside0.mk (hb); clear HO_8; clear HO_11; clear HB; have HO_8 := n0_; have HO_11 := n1_; have HB := n2_; clear n0_ n1_ n2_; (try clear hb); (try clear hkp); (try clear hy0)) | ((with_reducible refine gate_callee (f := 40) rfl ?_); refine goesL_ (some 75) rfl rfl Try.func40 (by kernel_rfl) rfl #[.slice Ao54 t377.length co54, .int .i64 1] rfl (by (try simp only [List.map_toArray, List.map_cons, List.map_nil]); first | done | (rw [show t377.length = t364.length from (Kd.R_reads' HO_11.out).1.symm] <;> rfl) | rfl | (simp only [List.length_drop, List.length_take]; rfl)) ?_; (with_reducible refine (laws_heldDominoS.calls kj29 _ _ t377 1 t378 _ ?side1 ?side2 A46.out).mono ?_); (case side1 => repeat (first | exact (Kd.R_reads' HO_11.out).2.2 | (with_reducible refine Kd.C_alloc ?_ _) | (with_reducible refine Kd.C_drewN ?_ _) | (with_reducible refine Kd.C_drew ?_))); (case side2 => rw [show t377.length = t364.length from (Kd.R_reads' HO_11.out).1.symm]; exact (Kd.R_reads' HO_11.out).2.1); rintro e w' ⟨rfl, ⟨nd, rfl⟩⟩; refine ⟨_, rfl, ?_⟩) | ((with_reducible refine gate_callee (f := 35) rfl ?_); refine goesL_ (some 85) rfl rfl Try.func35 (by kernel_rfl) rfl #[.slice A2 l2.length c2] rfl (by (try simp only [sD, sE, sF]); first | done | rfl) ?_; (with_reducible refine (laws_toLinkS.calls kj29 _ _ l2 t379 _ ?side1 ?side2 A51.out).mono ?_); (case side1 => repeat (first | exact (Kd.C_below HR2.out (bX HB.out)) | (with_reducible refine Kd.C_alloc ?_ _) | (with_reducible refine Kd.C_drewN ?_ _) | (with_reducible refine Kd.C_drew ?_))); (case side2 => exact HC2.out); rintro e w56 ⟨v380, rfl, ho0, hb⟩; refine ⟨_, rfl, ?_⟩; have n0_ := Aside0.mk (Kd.R_below (rX HO_8.out) hb); have n1_ := Aside0.mk (Kd.R_below (rX HO_11.out) hb); have n2_ := Aside0.mk (Kd.R_lower ho0 (below_size (bX HB.out))); have n3_ := Aside0.mk (below_step (bX HB.out) hb); clear HO_8; clear HO_11; clear HB; have HO_8 := n0_; have HO_11 := n1_; have HO381 := n2_; have HB := n3_; clear n0_ n1_ n2_ n3_; (try clear hb); (try clear hb2); (try clear hk); (try clear hi); (try clear ho0); obtain ⟨Ao57, co57, eo57⟩ := Kd.R_slice HO381.out; subst eo57) | ((with_reducible refine gate_callee (f := 23) rfl ?_); refine goesL_ (some 86) rfl rfl Try.func23 (by kernel_rfl) rfl #[.int .i64 a0, .int .i64 a1, .slice Ao57 t379.length co57] rfl (by (try simp only [sD, sE, sF]); first | done | rfl) ?_; (with_reducible refine (impl_TilingOfTree.calls kj29 a0 a1 _ _ t379 t382 t383 _ ?side1 ?side2 A52.out).mono ?_); (case side1 => repeat (first | exact (Kd.R_reads' HO381.out).2.2 | (with_reducible refine Kd.C_alloc ?_ _) | (with_reducible refine Kd.C_drewN ?_ _) | (with_reducible refine Kd.C_drew ?_))); (case side2 => exact (Kd.R_reads' HO381.out).2.1); rintro e w58 ⟨v384, rfl, ho0, hb⟩; refine ⟨_, rfl, ?_⟩; have n0_ := Aside0.mk (Kd.R_elder' (rX HO_8.out) (Kd.R_base ho0) hb); have n1_ := Aside0.mk (Kd.R_elder' (rX HO_11.out) (Kd.R_base ho0) hb); have n2_ := Aside0.mk (Kd.R_below (rX HO381.out) hb); have n3_ := Aside0.mk (Kd.R_lower (Kd.R_new' (Kd.R_new' ho0 (Kd.R_lt (rX HO_8.out))) (Kd.R_lt (rX HO_11.out))) (below_size (bX HB.out))); have n4_ := Aside0.mk (below_step (bX HB.out) hb); clear HO_8; clear HO_11; clear HO381; clear HB; have HO_8 := n0_; have HO_11 := n1_; have HO381 := n2_; have HO385 := n3_; have HB := n4_; clear n0_ n1_ n2_ n3_ n4_; (try clear hb); (try clear hb2); (try clear hk); (try clear hi); (try clear ho0)))
           (try simp only [Act.put, List.setIfInBounds_toArray, List.set_cons_zero, List.set_cons_succ])
           go_cut [97] (fun v97 wc => ∃ (kq : Nat) (x97_52 : Bool), v97 = .bool x97_52 ∧ Aside0 (laws_FnExactTilingOfTree.j2 kq t377 t376 x97_52 = some r) ∧ Aside0 (kq ≤ kj29) ∧ Aside0 (Kd.R k41 41 wc w.heap.size (fun _ => True) (.slice Ao54 t364.length co54) t377) ∧ Aside0 (Below w.heap.size w wc))
           case first =>
            have H := HC53.out
            clear HC53
            replace H := Option.bind_eq_some_iff.mp H
            obtain ⟨t386, A590, H⟩ := H
            replace H : (if t386 = true then (laws_FnExactTilingOfTree.j2 kj29 t377 t376 (t383 != t358)) else (laws_FnExactTilingOfTree.j2 kj29 t377 t376 true)) = some r := H
            have A59 := Aside0.mk A590
            clear A590
            by_cases c60 : t386 = true
            ·subst c60
             have H1 : (laws_FnExactTilingOfTree.j2 kj29 t377 t376 (t383 != t358)) = some r := by rw [if_pos rfl] at H; exact H
             clear H
             have H := H1
             clear H1
             have H' := Aside0.mk H
             clear H
             obtain ⟨Ao61, co61, eo61⟩ := Kd.R_slice HO385.out
             subst eo61
             obtain ⟨Ao62, co62, eo62⟩ := Kd.R_slice HO_8.out
             subst eo62
             go_wp2_with (first | ((with_reducible refine gate_callee (f := 36) rfl ?_); refine goesL_ (some 91) rfl rfl Try.func36 (by kernel_rfl) rfl #[.slice Ao61 t382.length co61, .slice Ao62 t357.length co62] rfl (by (try simp only [sD, sE, sF]); first | done | rfl) ?_; (with_reducible refine (laws_eqDominoS.calls kj29 _ _ t382 _ _ t357 true _ ?side1 ?side2 ?side3 ?side4 A59.out).mono ?_); (case side1 => repeat (first | exact (Kd.R_reads' HO385.out).2.2 | (with_reducible refine Kd.C_alloc ?_ _) | (with_reducible refine Kd.C_drewN ?_ _) | (with_reducible refine Kd.C_drew ?_))); (case side2 => exact (Kd.R_reads' HO385.out).2.1); (case side3 => repeat (first | exact (Kd.R_reads' HO_8.out).2.2 | (with_reducible refine Kd.C_alloc ?_ _) | (with_reducible refine Kd.C_drewN ?_ _) | (with_reducible refine Kd.C_drew ?_))); (case side4 => exact (Kd.R_reads' HO_8.out).2.1); rintro e w63 ⟨rfl, hb⟩; refine ⟨_, rfl, ?_⟩; have n0_ := Aside0.mk (Kd.R_below (rX HO_8.out) hb); have n1_ := Aside0.mk (Kd.R_below (rX HO_11.out) hb); have n2_ := Aside0.mk (Kd.R_below (rX HO381.out) hb); have n3_ := Aside0.mk (Kd.R_below (rX HO385.out) hb); have n4_ := Aside0.mk (below_step (bX HB.out) hb); clear HO_8; clear HO_11; clear HO381; clear HO385; clear HB; have HO_8 := n0_; have HO_11 := n1_; have HO381 := n2_; have HO385 := n3_; have HB := n4_; clear n0_ n1_ n2_ n3_ n4_; (try clear hb); (try clear hb2); (try clear hk); (try clear hi)))
             go_meet
             case rel => exact ⟨_, ((t383 != t358)), (by first | rfl | (simp; done) | (simp [*]; done)), H', ⟨by have := HJ9.out; have := HJ29.out; first | omega | exact Nat.le_refl _⟩, ⟨by (with_reducible repeat (first | apply Kd.R_alloc | apply Kd.R_drewN | apply Kd.R_drew)); exact Kd.R_mono HO_11.out (fun _ hk => trivial)⟩, ⟨bX HB.out⟩⟩
            ·replace c60 := Bool.eq_false_iff.mpr c60
             subst c60
             have H1 : (laws_FnExactTilingOfTree.j2 kj29 t377 t376 true) = some r := by rw [if_neg (show ¬ (false = true) by decide)] at H; exact H
             clear H
             have H := H1
             clear H1
             have H' := Aside0.mk H
             clear H
             obtain ⟨Ao64, co64, eo64⟩ := Kd.R_slice HO385.out
             subst eo64
             obtain ⟨Ao65, co65, eo65⟩ := Kd.R_slice HO_8.out
             subst eo65
             go_wp2_with (first | ((with_reducible refine gate_callee (f := 36) rfl ?_); refine goesL_ (some 91) rfl rfl Try.func36 (by kernel_rfl) rfl #[.slice Ao64 t382.length co64, .slice Ao65 t357.length co65] rfl (by (try simp only [sD, sE, sF]); first | done | rfl) ?_; (with_reducible refine (laws_eqDominoS.calls kj29 _ _ t382 _ _ t357 false _ ?side1 ?side2 ?side3 ?side4 A59.out).mono ?_); (case side1 => repeat (first | exact (Kd.R_reads' HO385.out).2.2 | (with_reducible refine Kd.C_alloc ?_ _) | (with_reducible refine Kd.C_drewN ?_ _) | (with_reducible refine Kd.C_drew ?_))); (case side2 => exact (Kd.R_reads' HO385.out).2.1); (case side3 => repeat (first | exact (Kd.R_reads' HO_8.out).2.2 | (with_reducible refine Kd.C_alloc ?_ _) | (with_reducible refine Kd.C_drewN ?_ _) | (with_reducible refine Kd.C_drew ?_))); (case side4 => exact (Kd.R_reads' HO_8.out).2.1); rintro e w66 ⟨rfl, hb⟩; refine ⟨_, rfl, ?_⟩; have n0_ := Aside0.mk (Kd.R_below (rX HO_8.out) hb); have n1_ := Aside0.mk (Kd.R_below (rX HO_11.out) hb); have n2_ := Aside0.mk (Kd.R_below (rX HO381.out) hb); have n3_ := Aside0.mk (Kd.R_below (rX HO385.out) hb); have n4_ := Aside0.mk (below_step (bX HB.out) hb); clear HO_8; clear HO_11; clear HO381; clear HO385; clear HB; have HO_8 := n0_; have HO_11 := n1_; have HO381 := n2_; have HO385 := n3_; have HB := n4_; clear n0_ n1_ n2_ n3_ n4_; (try clear hb); (try clear hb2); (try clear hk); (try clear hi)))
             go_meet
             case rel => exact ⟨_, (true), (by first | rfl | (simp; done) | (simp [*]; done)), H', ⟨by have := HJ9.out; have := HJ29.out; first | omega | exact Nat.le_refl _⟩, ⟨by (with_reducible repeat (first | apply Kd.R_alloc | apply Kd.R_drewN | apply Kd.R_drew)); exact Kd.R_mono HO_11.out (fun _ hk => trivial)⟩, ⟨bX HB.out⟩⟩
           case rest =>
            clear HC53
            try clear c1
            try clear c2
            try clear p2
            try clear c3
            try clear c4
            try clear c5
            try clear c5b0
            try clear c6
            try clear c18
            try clear c23
            try clear c25
            try clear c28
            try clear c33
            try clear c34
            try clear c35
            try clear c35b0
            try clear c36
            try clear c37
            try clear c38
            try clear c39
            try clear c40
            try clear c44
            try clear c47
            try clear c47b0
            try clear c50
            try clear c50b0
            try clear c50b1
            try clear c60
            try clear p2
            obtain ⟨kq, x97_52, rfl, HA, HJ52, HO_11, HB⟩ := hcut
            have hl11_52 := (Kd.R_reads' HO_11.out).1
            rw [hl11_52] at HO_11
            (try simp only [hl11_52])
            cases kq with
            | zero => exact absurd HA.out (by simp [laws_FnExactTilingOfTree.j2])
            | succ kj52 =>
             have H := HA.out
             clear HA
             simp only [laws_FnExactTilingOfTree.j2] at H
             by_cases c67 : x97_52 = true
             ·subst c67
              have H1 : (some false) = some r := by rw [if_pos rfl] at H; exact H
              clear H
              have H := H1
              clear H1
              obtain rfl := Option.some.inj H
              go_wp2
              go_ret
              exact ⟨by first | rfl | (simp [*, errW_none, errW_some] <;> rfl), bX HB.out⟩
             ·replace c67 := Bool.eq_false_iff.mpr c67
              subst c67
              have H1 : ((laws_heldDominoS.f kj52 t377 1).bind fun t387 => (if t387 < 0 then (some false) else (if t387 = t376 then (some true) else (some false)))) = some r := by rw [if_neg (show ¬ (false = true) by decide)] at H; exact H
              clear H
              have H := H1
              clear H1
              replace H := Option.bind_eq_some_iff.mp H
              obtain ⟨t387, A680, H⟩ := H
              replace H : (if t387 < 0 then (some false) else (if t387 = t376 then (some true) else (some false))) = some r := H
              have A68 := Aside0.mk A680
              clear A680
              by_cases c69 : t387 < 0
              ·rw [if_pos c69] at H
               have c69b0 : decide (t387 < 0) = true := decide_eq_true c69
               clear c69
               obtain rfl := Option.some.inj H
               go_wp2_with (first | ((with_reducible refine gate_callee (f := 40) rfl ?_); refine goesL_ (some 100) rfl rfl Try.func40 (by kernel_rfl) rfl #[.slice Ao54 t377.length co54, .int .i64 1] rfl (by (try simp only [sD, sE, sF]); first | done | rfl) ?_; (with_reducible refine (laws_heldDominoS.calls kj52 _ _ t377 1 t387 _ ?side1 ?side2 A68.out).mono ?_); (case side1 => repeat (first | exact (Kd.R_reads' HO_11.out).2.2 | (with_reducible refine Kd.C_alloc ?_ _) | (with_reducible refine Kd.C_drewN ?_ _) | (with_reducible refine Kd.C_drew ?_))); (case side2 => exact (Kd.R_reads' HO_11.out).2.1); rintro e w' ⟨rfl, ⟨nd, rfl⟩⟩; refine ⟨_, rfl, ?_⟩))
               go_ret
               exact ⟨by first | rfl | (simp [*, errW_none, errW_some] <;> rfl), bX HB.out⟩
              ·rw [if_neg c69] at H
               have c69b0 : decide (t387 < 0) = false := decide_eq_false c69
               clear c69
               by_cases c70 : t387 = t376
               ·rw [if_pos c70] at H
                have c70b0 : (t387 == t376) = true := beq_iff_eq.mpr c70
                have c70b1 : (t387 != t376) = false := bne_eq_false_iff_eq.mpr c70
                clear c70
                obtain rfl := Option.some.inj H
                go_wp2_with (first | ((with_reducible refine gate_callee (f := 40) rfl ?_); refine goesL_ (some 100) rfl rfl Try.func40 (by kernel_rfl) rfl #[.slice Ao54 t377.length co54, .int .i64 1] rfl (by (try simp only [sD, sE, sF]); first | done | rfl) ?_; (with_reducible refine (laws_heldDominoS.calls kj52 _ _ t377 1 t387 _ ?side1 ?side2 A68.out).mono ?_); (case side1 => repeat (first | exact (Kd.R_reads' HO_11.out).2.2 | (with_reducible refine Kd.C_alloc ?_ _) | (with_reducible refine Kd.C_drewN ?_ _) | (with_reducible refine Kd.C_drew ?_))); (case side2 => exact (Kd.R_reads' HO_11.out).2.1); rintro e w' ⟨rfl, ⟨nd, rfl⟩⟩; refine ⟨_, rfl, ?_⟩))
                go_ret
                exact ⟨by first | rfl | (simp [*, errW_none, errW_some] <;> rfl), bX HB.out⟩
               ·rw [if_neg c70] at H
                have c70b0 : (t387 == t376) = false := beq_eq_false_iff_ne.mpr c70
                have c70b1 : (t387 != t376) = true := bne_iff_ne.mpr c70
                obtain rfl := Option.some.inj H
                go_wp2_with (first | ((with_reducible refine gate_callee (f := 40) rfl ?_); refine goesL_ (some 100) rfl rfl Try.func40 (by kernel_rfl) rfl #[.slice Ao54 t377.length co54, .int .i64 1] rfl (by (try simp only [sD, sE, sF]); first | done | rfl) ?_; (with_reducible refine (laws_heldDominoS.calls kj52 _ _ t377 1 t387 _ ?side1 ?side2 A68.out).mono ?_); (case side1 => repeat (first | exact (Kd.R_reads' HO_11.out).2.2 | (with_reducible refine Kd.C_alloc ?_ _) | (with_reducible refine Kd.C_drewN ?_ _) | (with_reducible refine Kd.C_drew ?_))); (case side2 => exact (Kd.R_reads' HO_11.out).2.1); rintro e w' ⟨rfl, ⟨nd, rfl⟩⟩; refine ⟨_, rfl, ?_⟩))
                go_ret
                exact ⟨by first | rfl | (simp [*, errW_none, errW_some] <;> rfl), bX HB.out⟩
          ·rw [if_neg c50] at H
           have c50b0 : (t378 == t376) = false := beq_eq_false_iff_ne.mpr c50
           have c50b1 : (t378 != t376) = true := bne_iff_ne.mpr c50
           obtain rfl := Option.some.inj H
           obtain ⟨Ao71, co71, eo71⟩ := Kd.R_slice HO_11.out
           subst eo71
           go_wp2_with (first | ((with_reducible refine gate_callee (f := 39) rfl ?_); refine goesL_ (some 72) rfl rfl Try.func39 (by kernel_rfl) rfl #[.slice Ao71 t364.length co71, .int .i64 1] rfl (by (try simp only [sD, sE, sF]); first | done | rfl) ?_; (with_reducible refine (laws_markDominoS.calls kj29 (fun k_ => some k_ = (.slice Ao71 t364.length co71 : Value).ownBlock) (.slice Ao71 t364.length co71) t364 1 t376 t377 w _ ?side1 ?side2 A45.out).mono ?_); (case side1 => repeat (first | (with_reducible first | exact HB.out | apply below_alloc | apply pw_below_drewN | apply below_drew1) | exact HB.out)); (case side2 => exact Kd.R_tight rfl HO_11.out); rintro e w72 ⟨rfl, hy0, hb, hkp⟩; refine ⟨_, rfl, ?_⟩; have n0_ := Aside0.mk (Kd.R_mono (ok' := fun k_ => some k_ ≠ (.slice Ao71 t364.length co71 : Value).ownBlock) (Kd.R_keptB (HO_8.out) hkp (fun k_ hk_ hs_ => (hk_) hs_)) (fun k_ hk_ => hk_.1)); have n1_ := Aside0.mk (Kd.R_reok rfl hy0 (fun k_ e_ => HO_11.out.1 k_ e_)); have n2_ := Aside0.mk (hb); clear HO_8; clear HO_11; clear HB; have HO_8 := n0_; have HO_11 := n1_; have HB := n2_; clear n0_ n1_ n2_; (try clear hb); (try clear hkp); (try clear hy0)) | ((with_reducible refine gate_callee (f := 40) rfl ?_); refine goesL_ (some 75) rfl rfl Try.func40 (by kernel_rfl) rfl #[.slice Ao71 t377.length co71, .int .i64 1] rfl (by (try simp only [List.map_toArray, List.map_cons, List.map_nil]); first | done | (rw [show t377.length = t364.length from (Kd.R_reads' HO_11.out).1.symm] <;> rfl) | rfl | (simp only [List.length_drop, List.length_take]; rfl)) ?_; (with_reducible refine (laws_heldDominoS.calls kj29 _ _ t377 1 t378 _ ?side1 ?side2 A46.out).mono ?_); (case side1 => repeat (first | exact (Kd.R_reads' HO_11.out).2.2 | (with_reducible refine Kd.C_alloc ?_ _) | (with_reducible refine Kd.C_drewN ?_ _) | (with_reducible refine Kd.C_drew ?_))); (case side2 => rw [show t377.length = t364.length from (Kd.R_reads' HO_11.out).1.symm]; exact (Kd.R_reads' HO_11.out).2.1); rintro e w' ⟨rfl, ⟨nd, rfl⟩⟩; refine ⟨_, rfl, ?_⟩))
           go_ret
           exact ⟨by first | rfl | (simp [*, errW_none, errW_some] <;> rfl), bX HB.out⟩
     ·replace c28 := Bool.eq_false_iff.mpr c28
      subst c28
      have H1 : (some false) = some r := by rw [if_neg (show ¬ (false = true) by decide)] at H; exact H
      clear H
      have H := H1
      clear H1
      obtain rfl := Option.some.inj H
      go_wp2_with (first | ((with_reducible refine gate_callee (f := 35) rfl ?_); refine goesL_ (some 51) rfl rfl Try.func35 (by kernel_rfl) rfl #[.slice A2 l2.length c2] rfl (by (try simp only [sD, sE, sF]); first | done | rfl) ?_; (with_reducible refine (laws_toLinkS.calls kj9 _ _ l2 t369 _ ?side1 ?side2 A26.out).mono ?_); (case side1 => repeat (first | exact (Kd.C_below HR2.out HB.out) | (with_reducible refine Kd.C_alloc ?_ _) | (with_reducible refine Kd.C_drewN ?_ _) | (with_reducible refine Kd.C_drew ?_))); (case side2 => exact HC2.out); rintro e w73 ⟨v370, rfl, ho0, hb⟩; refine ⟨_, rfl, ?_⟩; have n0_ := Aside0.mk (Kd.R_below (rX HO_8.out) hb); have n1_ := Aside0.mk (Kd.R_elder' (rX HO_10.out) (Kd.R_base ho0) hb); have n2_ := Aside0.mk (Kd.R_below (rX HO_11.out) hb); have n3_ := Aside0.mk (Kd.R_lower (Kd.R_new' ho0 (Kd.R_lt (rX HO_10.out))) (below_size (bX HB.out))); have n4_ := Aside0.mk (below_step (bX HB.out) hb); clear HO_8; clear HO_10; clear HO_11; clear HB; have HO_8 := n0_; have HO_10 := n1_; have HO_11 := n2_; have HO371 := n3_; have HB := n4_; clear n0_ n1_ n2_ n3_ n4_; (try clear hb); (try clear hb2); (try clear hk); (try clear hi); (try clear ho0); obtain ⟨Ao74, co74, eo74⟩ := Kd.R_slice HO371.out; subst eo74) | ((with_reducible refine gate_callee (f := 37) rfl ?_); refine goesL_ (some 52) rfl rfl Try.func37 (by kernel_rfl) rfl #[.slice Ao15 t361.length co15, .slice Ao74 t369.length co74] rfl (by (try simp only [sD, sE, sF]); first | done | rfl) ?_; (with_reducible refine (laws_eqLinkS.calls kj9 _ _ t361 _ _ t369 false _ ?side1 ?side2 ?side3 ?side4 A27.out).mono ?_); (case side1 => repeat (first | exact (Kd.R_reads' HO_10.out).2.2 | (with_reducible refine Kd.C_alloc ?_ _) | (with_reducible refine Kd.C_drewN ?_ _) | (with_reducible refine Kd.C_drew ?_))); (case side2 => exact (Kd.R_reads' HO_10.out).2.1); (case side3 => repeat (first | exact (Kd.R_reads' HO371.out).2.2 | (with_reducible refine Kd.C_alloc ?_ _) | (with_reducible refine Kd.C_drewN ?_ _) | (with_reducible refine Kd.C_drew ?_))); (case side4 => exact (Kd.R_reads' HO371.out).2.1); rintro e w75 ⟨rfl, hb⟩; refine ⟨_, rfl, ?_⟩; have n0_ := Aside0.mk (Kd.R_below (rX HO_8.out) hb); have n1_ := Aside0.mk (Kd.R_below (rX HO_10.out) hb); have n2_ := Aside0.mk (Kd.R_below (rX HO_11.out) hb); have n3_ := Aside0.mk (Kd.R_below (rX HO371.out) hb); have n4_ := Aside0.mk (below_step (bX HB.out) hb); clear HO_8; clear HO_10; clear HO_11; clear HO371; clear HB; have HO_8 := n0_; have HO_10 := n1_; have HO_11 := n2_; have HO371 := n3_; have HB := n4_; clear n0_ n1_ n2_ n3_ n4_; (try clear hb); (try clear hb2); (try clear hk); (try clear hi)))
      go_ret
      exact ⟨by first | rfl | (simp [*, errW_none, errW_some] <;> rfl), bX HB.out⟩
end Go.Proofs.Ytnfnlmilmpaofaa.PFnExactTilingOfTree
