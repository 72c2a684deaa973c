/- Printed twins and contracts of functions, part 1; some are walked by hand. Nothing is assumed. -/
import Derived.Test.YtnfnlmilmpaofaaProg
import Derived.Below
import Derived.Deep.Draws
import Derived.Deep.AppendLies
import Derived.Maps.AppendAt
import Derived.OwnWalk
import Derived.Laws.BytesArg
import Derived.Laws.MakeOwn
import Derived.Laws.OwnMore
import Derived.Deep.OwnRows
import Derived.Tactics
import Derived.Lib.ConvBytes
import Derived.Laws.Slices
import Derived.WalkKit
import Derived.KernelRfl
import Derived.RowKit3
import Derived.Deep.LoopGhost
import Derived.Deep.QuietTactic
import Derived.BigQuiet
import Derived.WideLaws
import Derived.Deep.DeepCutAuto
import Derived.Deep.CutBlock
import Derived.Deep.RegionHeld3
import Derived.Laws.Rows
import Derived.Lib.AppendStr
import Derived.ArgAppend
import Derived.Laws.IdiomCopy
import Derived.OrdersHeld
import Derived.Laws.BitsLemmas
import Derived.RowKit
import Derived.Laws.CopyRow
import Derived.OneCell
import Derived.Test.YtnfnlmilmpaofaaTA1
set_option maxHeartbeats 8000000
namespace Go.Proofs.Ytnfnlmilmpaofaa.PFnExactTreeOfTiling
open Go.RowKit Go.Proofs.YtnfnlmilmpaofaaW.PrintWords Go.Proofs.YtnfnlmilmpaofaaW.PrintLast Go.Proofs.YtnfnlmilmpaofaaW.PrintMore
attribute [local go_sem] max2_int min2_int max_two min_two max_three min_three max_four min_four
set_option linter.unusedVariables false
attribute [local go_sem high] cell_bk frozen_bk
set_option linter.unusedSimpArgs false
def errW : Option Int → Value
 | none => .nilIface
 | some c => .iface 0 (.int .i64 c)
theorem errW_none : errW none = .nilIface := rfl
theorem errW_some (c : Int) : errW (some c) = .iface 0 (.int .i64 c) := rfl
theorem info3 : (Try.prog.info? 3).map (fun i => (i.zero, i.size, i.bytes)) = some (some (.int .i64 0), 1, 8) := by kernel_rfl
theorem info4 : (Try.prog.info? 4).map (fun i => (i.zero, i.size, i.bytes)) = some (some (.bool false), 1, 1) := by kernel_rfl
theorem info39 : (Try.prog.info? 39).map (fun i => (i.zero, i.size, i.bytes)) = some (some (.agg #[(.int .i64 0), (.int .i64 0)]), 2, 16) := by kernel_rfl
theorem info41 : (Try.prog.info? 41).map (fun i => (i.zero, i.size, i.bytes)) = some (some (.agg #[(.int .i64 0), (.int .i64 0), (.bool false)]), 3, 24) := by kernel_rfl
theorem info50 : (Try.prog.info? 50).map (fun i => (i.zero, i.size, i.bytes)) = some (some (.agg #[(.int .i64 0), (.int .i64 0), (.bool false)]), 3, 24) := by kernel_rfl
-- the values' own types
structure S41 where
 f0 : Int
 f1 : Int
 f2 : Bool
def z41 : S41 := ⟨(0 : Int), (0 : Int), false⟩
def k41 : Kd S41 := Kd.iso (Kd.pair (Kd.int .i64) (Kd.pair (Kd.int .i64) Kd.bool)) (fun x : S41 => (x.f0, x.f1, x.f2))
theorem k41_open {w : World} {x : S41} {cs : List Value} (h : k41.K w x cs) : cs = [.int .i64 x.f0, .int .i64 x.f1, .bool x.f2] := by
 obtain ⟨_, _, rfl, rfl, ⟨_, _, rfl, rfl, rfl⟩⟩ := h
 exact rfl
theorem k41_openM {w : World} {base : Nat} {ok : Nat → Prop} {x : S41} {cs : List Value} (h : k41.M w base ok x cs) : cs = [.int .i64 x.f0, .int .i64 x.f1, .bool x.f2] := by
 obtain ⟨_, _, rfl, rfl, ⟨_, _, rfl, rfl, rfl⟩⟩ := h
 exact rfl
theorem k41_mk (w : World) (x : S41)  : k41.K w x [.int .i64 x.f0, .int .i64 x.f1, .bool x.f2] := ⟨[.int .i64 x.f0], [.int .i64 x.f1, .bool x.f2], rfl, rfl, ⟨[.int .i64 x.f1], [.bool x.f2], rfl, rfl, rfl⟩⟩
theorem k41_mkM (w : World) (base : Nat) (ok : Nat → Prop) (x : S41)  : k41.M w base ok x [.int .i64 x.f0, .int .i64 x.f1, .bool x.f2] := ⟨[.int .i64 x.f0], [.int .i64 x.f1, .bool x.f2], rfl, rfl, ⟨[.int .i64 x.f1], [.bool x.f2], rfl, rfl, rfl⟩⟩
def rd_T41 (xs : List S41) (i : Int) : S41 := xs.getD i.toNat z41
theorem at_T41 {w : World} {A : Option Addr} {n : Nat} {xs : List S41} (h : Kd.C k41 w A n xs) (i : Int) (h0 : 0 ≤ i) (h1 : i < n) : ∃ ad , A = some ad ∧ w.cell? (ad.add (i.toNat * 3)) = some (.int .i64 (rd_T41 xs i).f0) ∧ w.cell? ⟨(ad.add (i.toNat * 3)).block, (ad.add (i.toNat * 3)).off + 1, none⟩ = some (.int .i64 (rd_T41 xs i).f1) ∧ w.cell? ⟨(ad.add (i.toNat * 3)).block, (ad.add (i.toNat * 3)).off + 2, none⟩ = some (.bool (rd_T41 xs i).f2) := by
 obtain ⟨ad, c, e, _, hK, hc0⟩ := Kd.C_get h z41 i h0 h1
 have hc : ∀ j u, c[j]? = some u → w.cell? (ad.add (i.toNat * 3 + j)) = some u := hc0
 obtain rfl := k41_open hK
 exact ⟨ad, e, hc 0 _ rfl, by rw [← add_field _ _ 1 (by omega)]; exact hc 1 _ rfl, by rw [← add_field _ _ 2 (by omega)]; exact hc 2 _ rfl⟩
structure S50 where
 f0 : Int
 f1 : Int
 f2 : Bool
def z50 : S50 := ⟨(0 : Int), (0 : Int), false⟩
def k50 : Kd S50 := Kd.iso (Kd.pair (Kd.int .i64) (Kd.pair (Kd.int .i64) Kd.bool)) (fun x : S50 => (x.f0, x.f1, x.f2))
theorem k50_open {w : World} {x : S50} {cs : List Value} (h : k50.K w x cs) : cs = [.int .i64 x.f0, .int .i64 x.f1, .bool x.f2] := by
 obtain ⟨_, _, rfl, rfl, ⟨_, _, rfl, rfl, rfl⟩⟩ := h
 exact rfl
theorem k50_openM {w : World} {base : Nat} {ok : Nat → Prop} {x : S50} {cs : List Value} (h : k50.M w base ok x cs) : cs = [.int .i64 x.f0, .int .i64 x.f1, .bool x.f2] := by
 obtain ⟨_, _, rfl, rfl, ⟨_, _, rfl, rfl, rfl⟩⟩ := h
 exact rfl
theorem k50_mk (w : World) (x : S50)  : k50.K w x [.int .i64 x.f0, .int .i64 x.f1, .bool x.f2] := ⟨[.int .i64 x.f0], [.int .i64 x.f1, .bool x.f2], rfl, rfl, ⟨[.int .i64 x.f1], [.bool x.f2], rfl, rfl, rfl⟩⟩
theorem k50_mkM (w : World) (base : Nat) (ok : Nat → Prop) (x : S50)  : k50.M w base ok x [.int .i64 x.f0, .int .i64 x.f1, .bool x.f2] := ⟨[.int .i64 x.f0], [.int .i64 x.f1, .bool x.f2], rfl, rfl, ⟨[.int .i64 x.f1], [.bool x.f2], rfl, rfl, rfl⟩⟩
def rd_T50 (xs : List S50) (i : Int) : S50 := xs.getD i.toNat z50
theorem at_T50 {w : World} {A : Option Addr} {n : Nat} {xs : List S50} (h : Kd.C k50 w A n xs) (i : Int) (h0 : 0 ≤ i) (h1 : i < n) : ∃ ad , A = some ad ∧ w.cell? (ad.add (i.toNat * 3)) = some (.int .i64 (rd_T50 xs i).f0) ∧ w.cell? ⟨(ad.add (i.toNat * 3)).block, (ad.add (i.toNat * 3)).off + 1, none⟩ = some (.int .i64 (rd_T50 xs i).f1) ∧ w.cell? ⟨(ad.add (i.toNat * 3)).block, (ad.add (i.toNat * 3)).off + 2, none⟩ = some (.bool (rd_T50 xs i).f2) := by
 obtain ⟨ad, c, e, _, hK, hc0⟩ := Kd.C_get h z50 i h0 h1
 have hc : ∀ j u, c[j]? = some u → w.cell? (ad.add (i.toNat * 3 + j)) = some u := hc0
 obtain rfl := k50_open hK
 exact ⟨ad, e, hc 0 _ rfl, by rw [← add_field _ _ 1 (by omega)]; exact hc 1 _ rfl, by rw [← add_field _ _ 2 (by omega)]; exact hc 2 _ rfl⟩
structure S39 where
 f0 : Int
 f1 : Int
def z39 : S39 := ⟨(0 : Int), (0 : Int)⟩
def k39 : Kd S39 := Kd.iso (Kd.pair (Kd.int .i64) (Kd.int .i64)) (fun x : S39 => (x.f0, x.f1))
theorem k39_open {w : World} {x : S39} {cs : List Value} (h : k39.K w x cs) : cs = [.int .i64 x.f0, .int .i64 x.f1] := by
 obtain ⟨_, _, rfl, rfl, rfl⟩ := h
 exact rfl
theorem k39_openM {w : World} {base : Nat} {ok : Nat → Prop} {x : S39} {cs : List Value} (h : k39.M w base ok x cs) : cs = [.int .i64 x.f0, .int .i64 x.f1] := by
 obtain ⟨_, _, rfl, rfl, rfl⟩ := h
 exact rfl
theorem k39_mk (w : World) (x : S39)  : k39.K w x [.int .i64 x.f0, .int .i64 x.f1] := ⟨[.int .i64 x.f0], [.int .i64 x.f1], rfl, rfl, rfl⟩
theorem k39_mkM (w : World) (base : Nat) (ok : Nat → Prop) (x : S39)  : k39.M w base ok x [.int .i64 x.f0, .int .i64 x.f1] := ⟨[.int .i64 x.f0], [.int .i64 x.f1], rfl, rfl, rfl⟩
def rd_T39 (xs : List S39) (i : Int) : S39 := xs.getD i.toNat z39
theorem at_T39 {w : World} {A : Option Addr} {n : Nat} {xs : List S39} (h : Kd.C k39 w A n xs) (i : Int) (h0 : 0 ≤ i) (h1 : i < n) : ∃ ad , A = some ad ∧ w.cell? (ad.add (i.toNat * 2)) = some (.int .i64 (rd_T39 xs i).f0) ∧ w.cell? ⟨(ad.add (i.toNat * 2)).block, (ad.add (i.toNat * 2)).off + 1, none⟩ = some (.int .i64 (rd_T39 xs i).f1) := by
 obtain ⟨ad, c, e, _, hK, hc0⟩ := Kd.C_get h z39 i h0 h1
 have hc : ∀ j u, c[j]? = some u → w.cell? (ad.add (i.toNat * 2 + j)) = some u := hc0
 obtain rfl := k39_open hK
 exact ⟨ad, e, hc 0 _ rfl, by rw [← add_field _ _ 1 (by omega)]; exact hc 1 _ rfl⟩
structure S132 where
 f0 : Int
 f1 : Int
 f2 : Bool
def z132 : S132 := ⟨(0 : Int), (0 : Int), false⟩
def k132 : Kd S132 := Kd.iso (Kd.pair (Kd.int .i64) (Kd.pair (Kd.int .i64) Kd.bool)) (fun x : S132 => (x.f0, x.f1, x.f2))
theorem k132_open {w : World} {x : S132} {cs : List Value} (h : k132.K w x cs) : cs = [.int .i64 x.f0, .int .i64 x.f1, .bool x.f2] := by
 obtain ⟨_, _, rfl, rfl, ⟨_, _, rfl, rfl, rfl⟩⟩ := h
 exact rfl
theorem k132_openM {w : World} {base : Nat} {ok : Nat → Prop} {x : S132} {cs : List Value} (h : k132.M w base ok x cs) : cs = [.int .i64 x.f0, .int .i64 x.f1, .bool x.f2] := by
 obtain ⟨_, _, rfl, rfl, ⟨_, _, rfl, rfl, rfl⟩⟩ := h
 exact rfl
theorem k132_mk (w : World) (x : S132)  : k132.K w x [.int .i64 x.f0, .int .i64 x.f1, .bool x.f2] := ⟨[.int .i64 x.f0], [.int .i64 x.f1, .bool x.f2], rfl, rfl, ⟨[.int .i64 x.f1], [.bool x.f2], rfl, rfl, rfl⟩⟩
theorem k132_mkM (w : World) (base : Nat) (ok : Nat → Prop) (x : S132)  : k132.M w base ok x [.int .i64 x.f0, .int .i64 x.f1, .bool x.f2] := ⟨[.int .i64 x.f0], [.int .i64 x.f1, .bool x.f2], rfl, rfl, ⟨[.int .i64 x.f1], [.bool x.f2], rfl, rfl, rfl⟩⟩
def rd_T132 (xs : List S132) (i : Int) : S132 := xs.getD i.toNat z132
theorem at_T132 {w : World} {A : Option Addr} {n : Nat} {xs : List S132} (h : Kd.C k132 w A n xs) (i : Int) (h0 : 0 ≤ i) (h1 : i < n) : ∃ ad , A = some ad ∧ w.cell? (ad.add (i.toNat * 3)) = some (.int .i64 (rd_T132 xs i).f0) ∧ w.cell? ⟨(ad.add (i.toNat * 3)).block, (ad.add (i.toNat * 3)).off + 1, none⟩ = some (.int .i64 (rd_T132 xs i).f1) ∧ w.cell? ⟨(ad.add (i.toNat * 3)).block, (ad.add (i.toNat * 3)).off + 2, none⟩ = some (.bool (rd_T132 xs i).f2) := by
 obtain ⟨ad, c, e, _, hK, hc0⟩ := Kd.C_get h z132 i h0 h1
 have hc : ∀ j u, c[j]? = some u → w.cell? (ad.add (i.toNat * 3 + j)) = some u := hc0
 obtain rfl := k132_open hK
 exact ⟨ad, e, hc 0 _ rfl, by rw [← add_field _ _ 1 (by omega)]; exact hc 1 _ rfl, by rw [← add_field _ _ 2 (by omega)]; exact hc 2 _ rfl⟩
theorem eqA39 (d : Nat) (w : World) (x0 y0 : Int) (x1 y1 : Int) :
  (Op.equalIn (d + 2) 39 (.agg #[.int .i64 x0, .int .i64 x1]) (.agg #[.int .i64 y0, .int .i64 y1])).run Try.prog w = .ok (x0 == y0 && (x1 == y1)) w := by
 refine eqA_of Try.underlying39 (by kernel_rfl) ?_
 refine eqf_cons (by rfl) (by go_simp; rfl) (by go_simp; rfl) (by go_simp) ?_
 exact eqf_last (by rfl) (by go_simp; rfl) (by go_simp; rfl) (by go_simp)
theorem eqA41 (d : Nat) (w : World) (x0 y0 : Int) (x1 y1 : Int) (x2 y2 : Bool) :
  (Op.equalIn (d + 2) 41 (.agg #[.int .i64 x0, .int .i64 x1, .bool x2]) (.agg #[.int .i64 y0, .int .i64 y1, .bool y2])).run Try.prog w = .ok (x0 == y0 && (x1 == y1 && (x2 == y2))) w := by
 refine eqA_of Try.underlying41 (by kernel_rfl) ?_
 refine eqf_cons (by rfl) (by go_simp; rfl) (by go_simp; rfl) (by go_simp) ?_
 refine eqf_cons (by rfl) (by go_simp; rfl) (by go_simp; rfl) (by go_simp) ?_
 exact eqf_last (by rfl) (by go_simp; rfl) (by go_simp; rfl) (by go_simp)
theorem eqA50 (d : Nat) (w : World) (x0 y0 : Int) (x1 y1 : Int) (x2 y2 : Bool) :
  (Op.equalIn (d + 2) 50 (.agg #[.int .i64 x0, .int .i64 x1, .bool x2]) (.agg #[.int .i64 y0, .int .i64 y1, .bool y2])).run Try.prog w = .ok (x0 == y0 && (x1 == y1 && (x2 == y2))) w := by
 refine eqA_of Try.underlying50 (by kernel_rfl) ?_
 refine eqf_cons (by rfl) (by go_simp; rfl) (by go_simp; rfl) (by go_simp) ?_
 refine eqf_cons (by rfl) (by go_simp; rfl) (by go_simp; rfl) (by go_simp) ?_
 exact eqf_last (by rfl) (by go_simp; rfl) (by go_simp; rfl) (by go_simp)
def i_within.f (a0 : Int) (a1 : Int) (a2 : Int) : Option (Bool) := if a0 ≥ a1 then (some (decide (a0 ≤ a2))) else (some false)
set_option maxRecDepth 100000 in
theorem i_within.calls (a0 : Int) (a1 : Int) (a2 : Int) (r : Bool) (w : World) (h : i_within.f a0 a1 a2 = some r) :
  Calls Try.prog 56 #[.int .i64 a0, .int .i64 a1, .int .i64 a2] w fun e w' => e = .returned (.bool r) ∧ Drawn0 w w' := by
 have H : (if a0 ≥ a1 then (some (decide (a0 ≤ a2))) else (some false)) = some r := h
 clear h
 by_cases c4 : a0 ≥ a1
 ·rw [if_pos c4] at H
  have c4b0 : decide (a1 ≤ a0) = true := decide_eq_true c4
  clear c4
  obtain rfl := Option.some.inj H
  go_enter Try.func56, Try.ntmps56
  go_wp2
  go_ret
  exact ⟨by first | rfl | (simp; done) | (simp [*]; done), by repeat (first | exact Drawn0.refl _ | apply Drawn0.step)⟩
 ·rw [if_neg c4] at H
  have c4b0 : decide (a1 ≤ a0) = false := decide_eq_false c4
  clear c4
  obtain rfl := Option.some.inj H
  go_enter Try.func56, Try.ntmps56
  go_wp2
  go_ret
  exact ⟨by first | rfl | (simp; done) | (simp [*]; done), by repeat (first | exact Drawn0.refl _ | apply Drawn0.step)⟩
def i_CellOk.f (a0_0 : Int) (a0_1 : Int) : Option (Bool) := (i_within.f a0_0 0 7).bind fun t102 => (if t102 = true then ((i_within.f a0_1 0 7).bind fun t103 => (some t103)) else (some false))
set_option maxRecDepth 100000 in
theorem i_CellOk.calls (a0_0 : Int) (a0_1 : Int) (r : Bool) (w : World) (h : i_CellOk.f a0_0 a0_1 = some r) :
  Calls Try.prog 130 #[.agg #[.int .i64 a0_0, .int .i64 a0_1]] w fun e w' => e = .returned (.bool r) ∧ Below w.heap.size w w' := by
 have hu39 := Try.underlying39
 have HB : Up w w := ⟨Below.refl _ _⟩
 have H : ((i_within.f a0_0 0 7).bind fun t102 => (if t102 = true then ((i_within.f a0_1 0 7).bind fun t103 => (some t103)) else (some false))) = some r := h
 clear h
 obtain ⟨t102, A2, H⟩ := bI H
 replace H := bT H; rcases H with ⟨rfl, H⟩ | ⟨rfl, H⟩
 ·obtain ⟨t103, A4, H⟩ := bI H
  obtain rfl := Option.some.inj H
  go_enter Try.func130, Try.ntmps130
  go_wp2_with (first | ((with_reducible refine gD 1 rfl ?_); refine bxE rfl #[.int .i64 a0_0, .int .i64 a0_1] 39 ?_ ?_; (focus first | (go_simp; done) | (go_simp; rfl)); intro gb101 _ w5 _ _) | ((with_reducible refine gC 56 rfl ?_); refine goesL_ (some 5) rfl rfl Try.func56 (by kernel_rfl) rfl #[.int .i64 a0_0, .int .i64 0, .int .i64 7] rfl (by (try simp only [sD, sE, sF]); first | done | rfl) ?_; (with_reducible refine (i_within.calls a0_0 0 7 true _ A2.out).mono ?_); rintro e w' ⟨rfl, ⟨nd, rfl⟩⟩; refine ⟨_, rfl, ?_⟩) | (go_at_call 56; (with_reducible refine (i_within.calls a0_1 0 7 t103 _ A4.out).mono ?_); rintro e w' ⟨rfl, ⟨nd, rfl⟩⟩))
  go_ret
  exact ⟨by first | rfl | (simp [*, errW_none, errW_some] <;> rfl), uw w⟩
 ·obtain rfl := Option.some.inj H
  go_enter Try.func130, Try.ntmps130
  go_wp2_with (first | ((with_reducible refine gD 1 rfl ?_); refine bxE rfl #[.int .i64 a0_0, .int .i64 a0_1] 39 ?_ ?_; (focus first | (go_simp; done) | (go_simp; rfl)); intro gb101 _ w7 _ _) | ((with_reducible refine gC 56 rfl ?_); refine goesL_ (some 5) rfl rfl Try.func56 (by kernel_rfl) rfl #[.int .i64 a0_0, .int .i64 0, .int .i64 7] rfl (by (try simp only [sD, sE, sF]); first | done | rfl) ?_; (with_reducible refine (i_within.calls a0_0 0 7 false _ A2.out).mono ?_); rintro e w' ⟨rfl, ⟨nd, rfl⟩⟩; refine ⟨_, rfl, ?_⟩))
  go_ret
  exact ⟨by first | rfl | (simp [*, errW_none, errW_some] <;> rfl), uw w⟩
def i_Domino_ends.f (a0_0 : Int) (a0_1 : Int) (a0_2 : Bool) : Option (Int × Int × Int × Int) := if a0_2 = true then (some (a0_0, a0_1, a0_0, wrap64 (a0_1 + 1))) else (some (a0_0, a0_1, wrap64 (a0_0 + 1), a0_1))
def i_Domino_ends.T2 : Bool × List (List Nat × List Nat) := (true, [([], []), ([0], [0]), ([], []), ([2], [2]), ([1, 3], [1, 3]), ([], []), ([5], [5]), ([], []), ([7], [7]), ([8], [8]), ([6, 9], [6, 9]), ([4, 0, 1, 2, 3, 4], [4]), ([10, 11, 0, 1, 2, 3, 4, 5, 6, 7, 8, 9, 10, 11], [10])])
def i_Domino_ends.B2 : List Nat := [0, 1, 0, 4, 15, 0, 32, 0, 128, 384, 992, 31, 4095]
theorem i_Domino_ends.tab2 : rtab .any (opsOf Try.f161 2) = i_Domino_ends.T2 := by kernel_rfl
theorem i_Domino_ends.bits2 : waitsOk i_Domino_ends.T2.2 i_Domino_ends.B2 = true := by kernel_rfl
def i_Domino_ends.T3 : Bool × List (List Nat × List Nat) := (true, [([], []), ([0], [0]), ([], []), ([2], [2]), ([1, 3], [1, 3]), ([], []), ([5], [5]), ([6], [6]), ([], []), ([8], [8]), ([7, 9], [7, 9]), ([4, 0, 1, 2, 3, 4], [4]), ([10, 11, 0, 1, 2, 3, 4, 5, 6, 7, 8, 9, 10, 11], [10])])
def i_Domino_ends.B3 : List Nat := [0, 1, 0, 4, 15, 0, 32, 96, 0, 256, 992, 31, 4095]
theorem i_Domino_ends.tab3 : rtab .any (opsOf Try.f161 3) = i_Domino_ends.T3 := by kernel_rfl
theorem i_Domino_ends.bits3 : waitsOk i_Domino_ends.T3.2 i_Domino_ends.B3 = true := by kernel_rfl
set_option maxRecDepth 100000 in
theorem i_Domino_ends.calls (a0_0 : Int) (a0_1 : Int) (a0_2 : Bool) (r1 : Int) (r2 : Int) (r3 : Int) (r4 : Int) (w : World) (h : i_Domino_ends.f a0_0 a0_1 a0_2 = some (r1, r2, r3, r4)) :
  Calls Try.prog 161 #[.agg #[.int .i64 a0_0, .int .i64 a0_1, .bool a0_2]] w fun e w' => e = .returned (.tuple #[.agg #[.int .i64 r1, .int .i64 r2], .agg #[.int .i64 r3, .int .i64 r4]]) ∧ Below w.heap.size w w' := by
 have hu41 := Try.underlying41
 have hu39 := Try.underlying39
 have HB : Up w w := ⟨Below.refl _ _⟩
 have H : (if a0_2 = true then (some (a0_0, a0_1, a0_0, wrap64 (a0_1 + 1))) else (some (a0_0, a0_1, wrap64 (a0_0 + 1), a0_1))) = some (r1, r2, r3, r4) := h
 clear h
 replace H := bT H; rcases H with ⟨rfl, H⟩ | ⟨rfl, H⟩
 ·simp only [Option.some.injEq, Prod.mk.injEq] at H
  obtain ⟨rfl, rfl, rfl, rfl⟩ := H
  go_enter Try.func161, Try.ntmps161
  try go_wp2_with (first | ((with_reducible refine gD 1 rfl ?_); refine bxE rfl #[.int .i64 a0_0, .int .i64 a0_1, .bool true] 41 ?_ ?_; (focus first | (go_simp; done) | (go_simp; rfl)); intro gb104 _ w3 _ _) | ((with_reducible refine gD 2 rfl ?_); refine bxE rfl #[.int .i64 0, .int .i64 0] 39 ?_ ?_; (focus first | (go_simp; done) | (go_simp; rfl)); intro gb105 _ w4 _ _) | ((with_reducible refine gD 3 rfl ?_); refine bxE rfl #[.int .i64 0, .int .i64 0] 39 ?_ ?_; (focus first | (go_simp; done) | (go_simp; rfl)); intro gb106 _ w5 _ _))
  refine sV [(0,6),(2,8),(5,11),(7,13),(1,7),(3,9),(4,10),(6,12),(8,14),(9,15),(10,16),(11,0),(12,0)] (fun w' => w'.cell? ⟨gb104, 0, none⟩ = some (.int .i64 a0_0) ∧ w'.cell? ⟨gb104, 1, none⟩ = some (.int .i64 a0_1) ∧ w'.cell? ⟨gb104, 2, none⟩ = some (.bool true)) [] (by kernel_rfl) rfl ⟨cl gb104 0 (by rfl), cl gb104 1 (by rfl), cl gb104 2 (by rfl)⟩ (fun hHeld => ?_); refine wTW i_Domino_ends.tab2 i_Domino_ends.bits2 (fun HT_ HW_ => ?_)
  have hd_ := stD w5
  generalize w5.drew = w9 at hd_ hHeld ⊢
  iterate 4 refine pV rfl rfl (any_of HT_.out (by kernel_rfl)) (by rfl) (fun _ _ _ _ h => h) ⟨_, fun w' => by go_simp; with_reducible rfl, _, by simp only [Act.put, sA, sB, sC, i64_w, i32_w]; rfl, ?_⟩
  iterate 2 refine tV rfl rfl (take_ofW HT_.out HW_.out (by kernel_rfl)) (by rfl) (fun _ _ _ _ h => h) hHeld ⟨_, fun w' s => by go_simp; with_reducible rfl, _, by simp only [Act.put, sA, sB, sC, i64_w, i32_w]; rfl, ?_⟩
  refine pV rfl rfl (any_of HT_.out (by kernel_rfl)) (by rfl) (fun _ _ _ _ h => h) ⟨_, fun w' => by go_simp; with_reducible rfl, _, by simp only [Act.put, sA, sB, sC, i64_w, i32_w]; rfl, ?_⟩
  iterate 2 refine tV rfl rfl (take_ofW HT_.out HW_.out (by kernel_rfl)) (by rfl) (fun _ _ _ _ h => h) hHeld ⟨_, fun w' s => by go_simp; with_reducible rfl, _, by simp only [Act.put, sA, sB, sC, i64_w, i32_w]; rfl, ?_⟩
  iterate 2 refine pV rfl rfl (any_of HT_.out (by kernel_rfl)) (by rfl) (fun _ _ _ _ h => h) ⟨_, fun w' => by go_simp; with_reducible rfl, _, by simp only [Act.put, sA, sB, sC, i64_w, i32_w]; rfl, ?_⟩
  refine oV (N := none) rfl rfl (one_of HT_.out (by kernel_rfl)) (by decide) (fun K hK => ?_)
  have hs10 : w9.cell? ⟨gb105, 0, none⟩ = some (.int .i64 0) := cl gb105 0 (by rfl)
  have hns10_0 := (ne gb104 gb105)
  have hns10_2 := (ne gb106 gb105)
  have hms10_0 := (ne gb105 gb104)
  have hms10_2 := (ne gb105 gb106)
  have hs11 : w9.cell? ⟨gb105, 1, none⟩ = some (.int .i64 0) := cl gb105 1 (by rfl)
  have hns11_0 := (ne gb104 gb105)
  have hns11_2 := (ne gb106 gb105)
  have hms11_0 := (ne gb105 gb104)
  have hms11_2 := (ne gb105 gb106)
  refine skip_ (w1 := ?_) (by rfl) rfl ?_ ?_
  rotate_left
  ·go_simp
   rfl
  refine hK.out _ _ ⟨((cell_far (p := ⟨gb105, _, none⟩) (ne gb104 gb105) _).trans (((cell_far (p := ⟨gb105, _, none⟩) (ne gb104 gb105) _).trans (hHeld.1)))), ((cell_far (p := ⟨gb105, _, none⟩) (ne gb104 gb105) _).trans (((cell_far (p := ⟨gb105, _, none⟩) (ne gb104 gb105) _).trans (hHeld.2.1)))), ((cell_far (p := ⟨gb105, _, none⟩) (ne gb104 gb105) _).trans (((cell_far (p := ⟨gb105, _, none⟩) (ne gb104 gb105) _).trans (hHeld.2.2))))⟩ (fun hHeld => ?_)
  clear hK K
  refine oV (N := none) rfl rfl (one_of HT_.out (by kernel_rfl)) (by decide) (fun K hK => ?_)
  have hs12 : w9.cell? ⟨gb106, 0, none⟩ = some (.int .i64 0) := cl gb106 0 (by rfl)
  have hns12_0 := (ne gb104 gb106)
  have hns12_1 := (ne gb105 gb106)
  have hms12_0 := (ne gb106 gb104)
  have hms12_1 := (ne gb106 gb105)
  have hs13 : w9.cell? ⟨gb106, 1, none⟩ = some (.int .i64 0) := cl gb106 1 (by rfl)
  have hns13_0 := (ne gb104 gb106)
  have hns13_1 := (ne gb105 gb106)
  have hms13_0 := (ne gb106 gb104)
  have hms13_1 := (ne gb106 gb105)
  refine skip_ (w1 := ?_) (by rfl) rfl ?_ ?_
  rotate_left
  ·go_simp
   rfl
  refine hK.out _ _ ⟨((cell_far (p := ⟨gb106, _, none⟩) (ne gb104 gb106) _).trans (((cell_far (p := ⟨gb106, _, none⟩) (ne gb104 gb106) _).trans (hHeld.1)))), ((cell_far (p := ⟨gb106, _, none⟩) (ne gb104 gb106) _).trans (((cell_far (p := ⟨gb106, _, none⟩) (ne gb104 gb106) _).trans (hHeld.2.1)))), ((cell_far (p := ⟨gb106, _, none⟩) (ne gb104 gb106) _).trans (((cell_far (p := ⟨gb106, _, none⟩) (ne gb104 gb106) _).trans (hHeld.2.2))))⟩ (fun hHeld => ?_)
  clear hK K
  refine dV (done_of HT_.out (by kernel_rfl)) ?_
  try go_wp2
  refine bodyPost_ret (results_cc rfl _ _ gb105 gb106 39 39 #[.int .i64 a0_0, .int .i64 a0_1] #[.int .i64 a0_0, .int .i64 (wrap64 (a0_1 + 1))] (0, 0) (0, 0) _ _ rfl (bkr gb105 (by rfl)) Try.underlying39 rfl (by kernel_rfl) rfl (bkr gb106 (by rfl)) Try.underlying39 rfl (by kernel_rfl)) rfl ?_
  exact ⟨by first | rfl | (simp [*, errW_none, errW_some] <;> rfl), uw w⟩
 ·simp only [Option.some.injEq, Prod.mk.injEq] at H
  obtain ⟨rfl, rfl, rfl, rfl⟩ := H
  go_enter Try.func161, Try.ntmps161
  try go_wp2_with (first | ((with_reducible refine gD 1 rfl ?_); refine bxE rfl #[.int .i64 a0_0, .int .i64 a0_1, .bool false] 41 ?_ ?_; (focus first | (go_simp; done) | (go_simp; rfl)); intro gb104 _ w14 _ _) | ((with_reducible refine gD 2 rfl ?_); refine bxE rfl #[.int .i64 0, .int .i64 0] 39 ?_ ?_; (focus first | (go_simp; done) | (go_simp; rfl)); intro gb105 _ w15 _ _) | ((with_reducible refine gD 3 rfl ?_); refine bxE rfl #[.int .i64 0, .int .i64 0] 39 ?_ ?_; (focus first | (go_simp; done) | (go_simp; rfl)); intro gb106 _ w16 _ _))
  refine sV [(0,17),(2,19),(5,22),(8,25),(1,18),(3,20),(4,21),(6,23),(7,24),(9,26),(10,27),(11,0),(12,0)] (fun w' => w'.cell? ⟨gb104, 0, none⟩ = some (.int .i64 a0_0) ∧ w'.cell? ⟨gb104, 1, none⟩ = some (.int .i64 a0_1) ∧ w'.cell? ⟨gb104, 2, none⟩ = some (.bool false)) [] (by kernel_rfl) rfl ⟨cl gb104 0 (by rfl), cl gb104 1 (by rfl), cl gb104 2 (by rfl)⟩ (fun hHeld => ?_); refine wTW i_Domino_ends.tab3 i_Domino_ends.bits3 (fun HT_ HW_ => ?_)
  have hd_ := stD w16
  generalize w16.drew = w20 at hd_ hHeld ⊢
  iterate 4 refine pV rfl rfl (any_of HT_.out (by kernel_rfl)) (by rfl) (fun _ _ _ _ h => h) ⟨_, fun w' => by go_simp; with_reducible rfl, _, by simp only [Act.put, sA, sB, sC, i64_w, i32_w]; rfl, ?_⟩
  iterate 2 refine tV rfl rfl (take_ofW HT_.out HW_.out (by kernel_rfl)) (by rfl) (fun _ _ _ _ h => h) hHeld ⟨_, fun w' s => by go_simp; with_reducible rfl, _, by simp only [Act.put, sA, sB, sC, i64_w, i32_w]; rfl, ?_⟩
  refine pV rfl rfl (any_of HT_.out (by kernel_rfl)) (by rfl) (fun _ _ _ _ h => h) ⟨_, fun w' => by go_simp; with_reducible rfl, _, by simp only [Act.put, sA, sB, sC, i64_w, i32_w]; rfl, ?_⟩
  refine tV rfl rfl (take_ofW HT_.out HW_.out (by kernel_rfl)) (by rfl) (fun _ _ _ _ h => h) hHeld ⟨_, fun w' s => by go_simp; with_reducible rfl, _, by simp only [Act.put, sA, sB, sC, i64_w, i32_w]; rfl, ?_⟩
  refine pV rfl rfl (any_of HT_.out (by kernel_rfl)) (by rfl) (fun _ _ _ _ h => h) ⟨_, fun w' => by go_simp; with_reducible rfl, _, by simp only [Act.put, sA, sB, sC, i64_w, i32_w]; rfl, ?_⟩
  refine tV rfl rfl (take_ofW HT_.out HW_.out (by kernel_rfl)) (by rfl) (fun _ _ _ _ h => h) hHeld ⟨_, fun w' s => by go_simp; with_reducible rfl, _, by simp only [Act.put, sA, sB, sC, i64_w, i32_w]; rfl, ?_⟩
  refine pV rfl rfl (any_of HT_.out (by kernel_rfl)) (by rfl) (fun _ _ _ _ h => h) ⟨_, fun w' => by go_simp; with_reducible rfl, _, by simp only [Act.put, sA, sB, sC, i64_w, i32_w]; rfl, ?_⟩
  refine oV (N := none) rfl rfl (one_of HT_.out (by kernel_rfl)) (by decide) (fun K hK => ?_)
  have hs21 : w20.cell? ⟨gb105, 0, none⟩ = some (.int .i64 0) := cl gb105 0 (by rfl)
  have hns21_0 := (ne gb104 gb105)
  have hns21_2 := (ne gb106 gb105)
  have hms21_0 := (ne gb105 gb104)
  have hms21_2 := (ne gb105 gb106)
  have hs22 : w20.cell? ⟨gb105, 1, none⟩ = some (.int .i64 0) := cl gb105 1 (by rfl)
  have hns22_0 := (ne gb104 gb105)
  have hns22_2 := (ne gb106 gb105)
  have hms22_0 := (ne gb105 gb104)
  have hms22_2 := (ne gb105 gb106)
  refine skip_ (w1 := ?_) (by rfl) rfl ?_ ?_
  rotate_left
  ·go_simp
   rfl
  refine hK.out _ _ ⟨((cell_far (p := ⟨gb105, _, none⟩) (ne gb104 gb105) _).trans (((cell_far (p := ⟨gb105, _, none⟩) (ne gb104 gb105) _).trans (hHeld.1)))), ((cell_far (p := ⟨gb105, _, none⟩) (ne gb104 gb105) _).trans (((cell_far (p := ⟨gb105, _, none⟩) (ne gb104 gb105) _).trans (hHeld.2.1)))), ((cell_far (p := ⟨gb105, _, none⟩) (ne gb104 gb105) _).trans (((cell_far (p := ⟨gb105, _, none⟩) (ne gb104 gb105) _).trans (hHeld.2.2))))⟩ (fun hHeld => ?_)
  clear hK K
  refine oV (N := none) rfl rfl (one_of HT_.out (by kernel_rfl)) (by decide) (fun K hK => ?_)
  have hs23 : w20.cell? ⟨gb106, 0, none⟩ = some (.int .i64 0) := cl gb106 0 (by rfl)
  have hns23_0 := (ne gb104 gb106)
  have hns23_1 := (ne gb105 gb106)
  have hms23_0 := (ne gb106 gb104)
  have hms23_1 := (ne gb106 gb105)
  have hs24 : w20.cell? ⟨gb106, 1, none⟩ = some (.int .i64 0) := cl gb106 1 (by rfl)
  have hns24_0 := (ne gb104 gb106)
  have hns24_1 := (ne gb105 gb106)
  have hms24_0 := (ne gb106 gb104)
  have hms24_1 := (ne gb106 gb105)
  refine skip_ (w1 := ?_) (by rfl) rfl ?_ ?_
  rotate_left
  ·go_simp
   rfl
  refine hK.out _ _ ⟨((cell_far (p := ⟨gb106, _, none⟩) (ne gb104 gb106) _).trans (((cell_far (p := ⟨gb106, _, none⟩) (ne gb104 gb106) _).trans (hHeld.1)))), ((cell_far (p := ⟨gb106, _, none⟩) (ne gb104 gb106) _).trans (((cell_far (p := ⟨gb106, _, none⟩) (ne gb104 gb106) _).trans (hHeld.2.1)))), ((cell_far (p := ⟨gb106, _, none⟩) (ne gb104 gb106) _).trans (((cell_far (p := ⟨gb106, _, none⟩) (ne gb104 gb106) _).trans (hHeld.2.2))))⟩ (fun hHeld => ?_)
  clear hK K
  refine dV (done_of HT_.out (by kernel_rfl)) ?_
  try go_wp2
  refine bodyPost_ret (results_cc rfl _ _ gb105 gb106 39 39 #[.int .i64 a0_0, .int .i64 a0_1] #[.int .i64 (wrap64 (a0_0 + 1)), .int .i64 a0_1] (0, 0) (0, 0) _ _ rfl (bkr gb105 (by rfl)) Try.underlying39 rfl (by kernel_rfl) rfl (bkr gb106 (by rfl)) Try.underlying39 rfl (by kernel_rfl)) rfl ?_
  exact ⟨by first | rfl | (simp [*, errW_none, errW_some] <;> rfl), uw w⟩
def i_DominoOk.f (a0_0 : Int) (a0_1 : Int) (a0_2 : Bool) : Option (Bool) := (i_Domino_ends.f a0_0 a0_1 a0_2).bind fun bt108 => ((i_CellOk.f bt108.1 bt108.2.1).bind fun t114 => (if t114 = true then ((i_CellOk.f bt108.2.2.1 bt108.2.2.2).bind fun t115 => (some t115)) else (some false)))
set_option maxRecDepth 100000 in
theorem i_DominoOk.calls (a0_0 : Int) (a0_1 : Int) (a0_2 : Bool) (r : Bool) (w : World) (h : i_DominoOk.f a0_0 a0_1 a0_2 = some r) :
  Calls Try.prog 126 #[.agg #[.int .i64 a0_0, .int .i64 a0_1, .bool a0_2]] w fun e w' => e = .returned (.bool r) ∧ Below w.heap.size w w' := by
 have hu41 := Try.underlying41
 have hu39 := Try.underlying39
 have HB : Up w w := ⟨Below.refl _ _⟩
 have H : ((i_Domino_ends.f a0_0 a0_1 a0_2).bind fun bt108 => ((i_CellOk.f bt108.1 bt108.2.1).bind fun t114 => (if t114 = true then ((i_CellOk.f bt108.2.2.1 bt108.2.2.2).bind fun t115 => (some t115)) else (some false)))) = some r := h
 clear h
 obtain ⟨⟨t108, t109, t110, t111⟩, A2, H⟩ := bI H
 dsimp only at H
 obtain ⟨t114, A3, H⟩ := bI H
 replace H := bT H; rcases H with ⟨rfl, H⟩ | ⟨rfl, H⟩
 ·obtain ⟨t115, A5, H⟩ := bI H
  obtain rfl := Option.some.inj H
  go_enter Try.func126, Try.ntmps126
  go_wp2_with (first | ((with_reducible refine gD 1 rfl ?_); refine bxE rfl #[.int .i64 a0_0, .int .i64 a0_1, .bool a0_2] 41 ?_ ?_; (focus first | (go_simp; done) | (go_simp; rfl)); intro gb107 _ w6 _ _) | ((with_reducible refine gC 161 rfl ?_); refine gK (some 7) rfl rfl Try.func161 (by kernel_rfl) rfl #[.agg #[.int .i64 a0_0, .int .i64 a0_1, .bool a0_2]] rfl (by (try simp only [sD, sE, sF]); first | done | rfl) (i_Domino_ends.calls a0_0 a0_1 a0_2 t108 t109 t110 t111 _ A2.out) ?_; intro w8 _) | ((with_reducible refine gD 3 rfl ?_); refine bxE rfl #[.int .i64 0, .int .i64 0] 39 ?_ ?_; (focus first | (go_simp; done) | (go_simp; rfl)); intro gb112 _ w9 _ _) | ((with_reducible refine gD 4 rfl ?_); refine bxE rfl #[.int .i64 0, .int .i64 0] 39 ?_ ?_; (focus first | (go_simp; done) | (go_simp; rfl)); intro gb113 _ w10 _ _) | ((with_reducible refine gC 130 rfl ?_); refine gK (some 11) rfl rfl Try.func130 (by kernel_rfl) rfl #[.agg #[.int .i64 t108, .int .i64 t109]] rfl (by (try simp only [sD, sE, sF]); first | done | rfl) (i_CellOk.calls t108 t109 true _ A3.out) ?_; intro w16 _) | (go_at_call 130; (with_reducible refine (i_CellOk.calls t110 t111 t115 _ A5.out).mono ?_); rintro e w18 ⟨rfl, hb⟩; have := Stp.mk hb))
  go_ret
  exact ⟨by first | rfl | (simp [*, errW_none, errW_some] <;> rfl), uw w⟩
 ·obtain rfl := Option.some.inj H
  go_enter Try.func126, Try.ntmps126
  go_wp2_with (first | ((with_reducible refine gD 1 rfl ?_); refine bxE rfl #[.int .i64 a0_0, .int .i64 a0_1, .bool a0_2] 41 ?_ ?_; (focus first | (go_simp; done) | (go_simp; rfl)); intro gb107 _ w19 _ _) | ((with_reducible refine gC 161 rfl ?_); refine gK (some 7) rfl rfl Try.func161 (by kernel_rfl) rfl #[.agg #[.int .i64 a0_0, .int .i64 a0_1, .bool a0_2]] rfl (by (try simp only [sD, sE, sF]); first | done | rfl) (i_Domino_ends.calls a0_0 a0_1 a0_2 t108 t109 t110 t111 _ A2.out) ?_; intro w21 _) | ((with_reducible refine gD 3 rfl ?_); refine bxE rfl #[.int .i64 0, .int .i64 0] 39 ?_ ?_; (focus first | (go_simp; done) | (go_simp; rfl)); intro gb112 _ w22 _ _) | ((with_reducible refine gD 4 rfl ?_); refine bxE rfl #[.int .i64 0, .int .i64 0] 39 ?_ ?_; (focus first | (go_simp; done) | (go_simp; rfl)); intro gb113 _ w23 _ _) | ((with_reducible refine gC 130 rfl ?_); refine gK (some 11) rfl rfl Try.func130 (by kernel_rfl) rfl #[.agg #[.int .i64 t108, .int .i64 t109]] rfl (by (try simp only [sD, sE, sF]); first | done | rfl) (i_CellOk.calls t108 t109 false _ A3.out) ?_; intro w29 _))
  go_ret
  exact ⟨by first | rfl | (simp [*, errW_none, errW_some] <;> rfl), uw w⟩
def i_CellIndex.f (a0_0 : Int) (a0_1 : Int) : Option (Int) := (i_CellOk.f a0_0 a0_1).bind fun t117 => (if t117 = true then (some (wrap64 ((wrap64 (a0_1 * 8)) + a0_0))) else (some (-1)))
set_option maxRecDepth 100000 in
theorem i_CellIndex.calls (a0_0 : Int) (a0_1 : Int) (r : Int) (w : World) (h : i_CellIndex.f a0_0 a0_1 = some r) :
  Calls Try.prog 131 #[.agg #[.int .i64 a0_0, .int .i64 a0_1]] w fun e w' => e = .returned (.int .i64 r) ∧ Below w.heap.size w w' := by
 have hu39 := Try.underlying39
 have HB : Up w w := ⟨Below.refl _ _⟩
 have H : ((i_CellOk.f a0_0 a0_1).bind fun t117 => (if t117 = true then (some (wrap64 ((wrap64 (a0_1 * 8)) + a0_0))) else (some (-1)))) = some r := h
 clear h
 obtain ⟨t117, A2, H⟩ := bI H
 replace H := bT H; rcases H with ⟨rfl, H⟩ | ⟨rfl, H⟩
 ·obtain rfl := Option.some.inj H
  go_enter Try.func131, Try.ntmps131
  go_wp2_with (first | ((with_reducible refine gD 1 rfl ?_); refine bxE rfl #[.int .i64 a0_0, .int .i64 a0_1] 39 ?_ ?_; (focus first | (go_simp; done) | (go_simp; rfl)); intro gb116 _ w4 _ _) | ((with_reducible refine gC 130 rfl ?_); refine gK (some 4) rfl rfl Try.func130 (by kernel_rfl) rfl #[.agg #[.int .i64 a0_0, .int .i64 a0_1]] rfl (by (try simp only [sD, sE, sF]); first | done | rfl) (i_CellOk.calls a0_0 a0_1 true _ A2.out) ?_; intro w6 _))
  go_ret
  exact ⟨by first | rfl | (simp [*, errW_none, errW_some] <;> rfl), uw w⟩
 ·obtain rfl := Option.some.inj H
  go_enter Try.func131, Try.ntmps131
  go_wp2_with (first | ((with_reducible refine gD 1 rfl ?_); refine bxE rfl #[.int .i64 a0_0, .int .i64 a0_1] 39 ?_ ?_; (focus first | (go_simp; done) | (go_simp; rfl)); intro gb116 _ w8 _ _) | ((with_reducible refine gC 130 rfl ?_); refine gK (some 4) rfl rfl Try.func130 (by kernel_rfl) rfl #[.agg #[.int .i64 a0_0, .int .i64 a0_1]] rfl (by (try simp only [sD, sE, sF]); first | done | rfl) (i_CellOk.calls a0_0 a0_1 false _ A2.out) ?_; intro w10 _))
  go_ret
  exact ⟨by first | rfl | (simp [*, errW_none, errW_some] <;> rfl), uw w⟩
def i_Domino_order.f (a0_0 : Int) (a0_1 : Int) (a0_2 : Bool) : Option (Int) := (i_CellIndex.f a0_0 a0_1).bind fun t119 => (if a0_2 = true then (some (wrap64 ((wrap64 (2 * t119)) + 1))) else (some (wrap64 (2 * t119))))
set_option maxRecDepth 100000 in
theorem i_Domino_order.calls (a0_0 : Int) (a0_1 : Int) (a0_2 : Bool) (r : Int) (w : World) (h : i_Domino_order.f a0_0 a0_1 a0_2 = some r) :
  Calls Try.prog 127 #[.agg #[.int .i64 a0_0, .int .i64 a0_1, .bool a0_2]] w fun e w' => e = .returned (.int .i64 r) ∧ Below w.heap.size w w' := by
 have hu41 := Try.underlying41
 have hu39 := Try.underlying39
 have HB : Up w w := ⟨Below.refl _ _⟩
 have H : ((i_CellIndex.f a0_0 a0_1).bind fun t119 => (if a0_2 = true then (some (wrap64 ((wrap64 (2 * t119)) + 1))) else (some (wrap64 (2 * t119))))) = some r := h
 clear h
 obtain ⟨t119, A2, H⟩ := bI H
 by_cases c3 : a0_2 = true
 ·subst c3
  rw [if_pos rfl] at H
  obtain rfl := Option.some.inj H
  go_enter Try.func127, Try.ntmps127
  go_wp2_with (first | ((with_reducible refine gD 1 rfl ?_); refine bxE rfl #[.int .i64 a0_0, .int .i64 a0_1, .bool true] 41 ?_ ?_; (focus first | (go_simp; done) | (go_simp; rfl)); intro gb118 _ w4 _ _) | ((with_reducible refine gate_callee (f := 131) rfl ?_); refine goesL_ (some 9) rfl rfl Try.func131 (by kernel_rfl) rfl #[.agg #[.int .i64 a0_0, .int .i64 a0_1]] rfl (by (try simp only [sD, sE, sF]); first | done | rfl) ?_; (with_reducible refine (i_CellIndex.calls a0_0 a0_1 t119 _ A2.out).mono ?_); rintro e w6 ⟨rfl, hb⟩; refine ⟨_, rfl, ?_⟩; have := Stp.mk hb))
  go_ret
  exact ⟨by first | rfl | (simp [*, errW_none, errW_some] <;> rfl), uw w⟩
 ·replace c3 := Bool.eq_false_iff.mpr c3
  subst c3
  rw [if_neg Bool.false_ne_true] at H
  obtain rfl := Option.some.inj H
  go_enter Try.func127, Try.ntmps127
  go_wp2_with (first | ((with_reducible refine gD 1 rfl ?_); refine bxE rfl #[.int .i64 a0_0, .int .i64 a0_1, .bool false] 41 ?_ ?_; (focus first | (go_simp; done) | (go_simp; rfl)); intro gb118 _ w8 _ _) | ((with_reducible refine gate_callee (f := 131) rfl ?_); refine goesL_ (some 9) rfl rfl Try.func131 (by kernel_rfl) rfl #[.agg #[.int .i64 a0_0, .int .i64 a0_1]] rfl (by (try simp only [sD, sE, sF]); first | done | rfl) ?_; (with_reducible refine (i_CellIndex.calls a0_0 a0_1 t119 _ A2.out).mono ?_); rintro e w10 ⟨rfl, hb⟩; refine ⟨_, rfl, ?_⟩; have := Stp.mk hb))
  go_ret
  exact ⟨by first | rfl | (simp [*, errW_none, errW_some] <;> rfl), uw w⟩
end Go.Proofs.Ytnfnlmilmpaofaa.PFnExactTreeOfTiling
section
namespace Go.Proofs.Ytnfnlmilmpaofaa.PFnExactTreeOfTiling
open Go.RowKit Go.Proofs.YtnfnlmilmpaofaaW.PrintWords Go.Proofs.YtnfnlmilmpaofaaW.PrintLast Go.Proofs.YtnfnlmilmpaofaaW.PrintMore
attribute [local go_sem] max2_int min2_int max_two min_two max_three min_three max_four min_four
set_option linter.unusedVariables false
set_option linter.unusedSimpArgs false
def encD (xs : List S41) : List Value := xs.flatMap fun d => [.int .i64 d.f0, .int .i64 d.f1, .bool d.f2]
theorem encD_nil : encD [] = [] := rfl
theorem encD_append (xs ys : List S41) : encD (xs ++ ys) = encD xs ++ encD ys := by simp [encD]
theorem encD_cons (d : S41) (xs : List S41) : encD (d :: xs) = [.int .i64 d.f0, .int .i64 d.f1, .bool d.f2] ++ encD xs := by simp [encD]
theorem encD_length : ∀ xs : List S41, (encD xs).length = xs.length * 3
 | [] => rfl
 | d :: r => by rw [encD_cons, List.length_append, encD_length r]; simp; omega
theorem encD_take (xs : List S41) (k : Nat) : encD (xs.take k) = (encD xs).take (k * 3) := by
 by_cases hk : k ≤ xs.length
 ·have h := encD_append (xs.take k) (xs.drop k)
  rw [List.take_append_drop] at h
  rw [h, List.take_left' (by rw [encD_length, List.length_take]; omega)]
 ·rw [List.take_of_length_le (by omega), List.take_of_length_le (by rw [encD_length]; omega)]
theorem encD_drop (xs : List S41) (k : Nat) : encD (xs.drop k) = (encD xs).drop (k * 3) := by
 by_cases hk : k ≤ xs.length
 ·have h := encD_append (xs.take k) (xs.drop k)
  rw [List.take_append_drop] at h
  rw [h, List.drop_left' (by rw [encD_length, List.length_take]; omega)]
 ·rw [List.drop_eq_nil_of_le (by omega), List.drop_eq_nil_of_le (by rw [encD_length]; omega)]; rfl
theorem encD_at (xs : List S41) (k j : Nat) (hk : k < xs.length) (hj : j < 3) : (encD xs)[k * 3 + j]? = [.int .i64 (xs.getD k z41).f0, .int .i64 (xs.getD k z41).f1, .bool (xs.getD k z41).f2][j]? := by
 have h1 : (encD xs)[k * 3 + j]? = ((encD xs).drop (k * 3))[j]? := by rw [List.getElem?_drop]
 rw [h1, ← encD_drop, List.drop_eq_getElem_cons hk, encD_cons, List.getElem?_append_left (by simp; omega), List.getD_eq_getElem?_getD, List.getElem?_eq_getElem hk]
 rfl
theorem encD_one : ∀ (xs : List S41) (v : Value), v ∈ encD xs → v.oneCell' = true
 | [], v, h => by cases h
 | d :: r, v, h => by
  rw [encD_cons] at h
  rcases List.mem_append.1 h with h | h
  ·simp only [List.mem_cons, List.not_mem_nil, or_false] at h
   rcases h with rfl | rfl | rfl <;> rfl
  ·exact encD_one r v h
def okD (d : S41) : Bool := (i_DominoOk.f d.f0 d.f1 d.f2).getD false
def ordD (d : S41) : Int := (i_Domino_order.f d.f0 d.f1 d.f2).getD 0
theorem cellOk_some (x y : Int) : ∃ b, i_CellOk.f x y = some b := by
 unfold i_CellOk.f i_within.f
 split <;> simp only [Option.bind_some] <;> split <;> first | exact ⟨_, rfl⟩ | (split <;> exact ⟨_, rfl⟩)
theorem okD_some (d : S41) : i_DominoOk.f d.f0 d.f1 d.f2 = some (okD d) := by
 have h : ∃ b, i_DominoOk.f d.f0 d.f1 d.f2 = some b := by
  unfold i_DominoOk.f i_Domino_ends.f
  split
  ·simp only [Option.bind_some]
   obtain ⟨b1, h1⟩ := cellOk_some d.f0 d.f1
   obtain ⟨b2, h2⟩ := cellOk_some d.f0 (wrap64 (d.f1 + 1))
   rw [h1, h2]
   simp only [Option.bind_some]
   split <;> exact ⟨_, rfl⟩
  ·simp only [Option.bind_some]
   obtain ⟨b1, h1⟩ := cellOk_some d.f0 d.f1
   obtain ⟨b2, h2⟩ := cellOk_some (wrap64 (d.f0 + 1)) d.f1
   rw [h1, h2]
   simp only [Option.bind_some]
   split <;> exact ⟨_, rfl⟩
 obtain ⟨b, h⟩ := h
 unfold okD
 rw [h]; rfl
theorem ordD_some (d : S41) : i_Domino_order.f d.f0 d.f1 d.f2 = some (ordD d) := by
 have h : ∃ b, i_Domino_order.f d.f0 d.f1 d.f2 = some b := by
  unfold i_Domino_order.f i_CellIndex.f
  obtain ⟨b1, h1⟩ := cellOk_some d.f0 d.f1
  rw [h1]
  simp only [Option.bind_some]
  split <;> simp only [Option.bind_some] <;> split <;> exact ⟨_, rfl⟩
 obtain ⟨b, h⟩ := h
 unfold ordD
 rw [h]; rfl
theorem ok_calls (d : S41) (b : Bool) (w : World) (h : okD d = b) : Calls Try.prog 126 #[.agg #[.int .i64 d.f0, .int .i64 d.f1, .bool d.f2]] w fun e w' => e = .returned (.bool b) ∧ Below w.heap.size w w' := by
 subst h
 exact i_DominoOk.calls d.f0 d.f1 d.f2 (okD d) w (okD_some d)
theorem ord_calls (d : S41) (w : World) : Calls Try.prog 127 #[.agg #[.int .i64 d.f0, .int .i64 d.f1, .bool d.f2]] w fun e w' => e = .returned (.int .i64 (ordD d)) ∧ Below w.heap.size w w' :=
 i_Domino_order.calls d.f0 d.f1 d.f2 (ordD d) w (ordD_some d)
/-- From place k on down: where d goes. -/
def sdPos (out : List S41) (d : S41) : Nat → Nat
 | 0 => 0
 | k + 1 => if ordD d < ordD (out.getD k z41) then sdPos out d k else k + 1
theorem sdPos_le (out : List S41) (d : S41) : ∀ k, sdPos out d k ≤ k
 | 0 => Nat.le_refl _
 | k + 1 => by
  unfold sdPos
  split
  ·have := sdPos_le out d k; omega
  ·exact Nat.le_refl _
def eqD (a b : S41) : Bool := (a.f0 == b.f0 && (a.f1 == b.f1 && (a.f2 == b.f2)))
def sdAt (out : List S41) (d : S41) (k : Nat) : List S41 := if (decide (0 < k) && eqD (out.getD (k - 1) z41) d) = true then out else out.take k ++ d :: out.drop k
def sdIns (out : List S41) (d : S41) : List S41 := sdAt out d (sdPos out d out.length)
def sdRun : List S41 → List S41 → List S41
 | [], out => out
 | d :: r, out => if okD d = true then sdRun r (sdIns out d) else sdRun r out
theorem sdAt_length (out : List S41) (d : S41) (k : Nat) : (sdAt out d k).length ≤ out.length + 1 := by
 unfold sdAt
 split
 ·omega
 ·simp; omega
theorem own_of_R41 {w : World} {base : Nat} {ok : Nat → Prop} {v : Value} {xs : List S41} (h : Kd.R k41 41 w base ok v xs) : w.ownsRow base 41 3 v xs.length (encD xs) := by
 obtain ⟨_, inner, ho, hr⟩ := h
 have e : inner = encD xs := by
  apply List.ext_getElem?
  intro i
  have hl : inner.length = xs.length * 3 := hr.1
  by_cases hi : i < xs.length * 3
  ·have hk : i / 3 < xs.length := by omega
   have hp := k41_openM (hr.2 (i / 3) _ (List.getElem?_eq_getElem hk))
   have h1 : inner[i]? = ((inner.drop (i / 3 * 3)).take 3)[i % 3]? := by
    rw [List.getElem?_take_of_lt (by omega), List.getElem?_drop]
    congr 1
    omega
   have h2 : (encD xs)[i]? = (encD xs)[i / 3 * 3 + i % 3]? := by congr 1; omega
   have hp' : (inner.drop (i / 3 * 3)).take 3 = [.int .i64 xs[i / 3].f0, .int .i64 xs[i / 3].f1, .bool xs[i / 3].f2] := hp
   rw [h1, hp', h2, encD_at xs (i / 3) (i % 3) hk (by omega), List.getD_eq_getElem?_getD, List.getElem?_eq_getElem hk]
   rfl
  ·rw [List.getElem?_eq_none (by omega), List.getElem?_eq_none (by rw [encD_length]; omega)]
 rw [← e]
 exact ho
theorem R41_of_own {w : World} {base : Nat} {ok : Nat → Prop} {v : Value} {xs : List S41} (h : w.ownsRow base 41 3 v xs.length (encD xs)) (hok : ∀ k, v.ownBlock = some k → ok k) : Kd.R k41 41 w base ok v xs := by
 refine ⟨hok, encD xs, h, encD_length xs, fun j p hj => ?_⟩
 have hk := (List.getElem?_eq_some_iff.1 hj).1
 have e : ((encD xs).drop (j * 3)).take 3 = [.int .i64 p.f0, .int .i64 p.f1, .bool p.f2] := by
  rw [← encD_drop, List.drop_eq_getElem_cons hk, encD_cons]
  have : xs[j] = p := (List.getElem?_eq_some_iff.1 hj).2
  rw [this]
  rfl
 show k41.M w base _ p (((encD xs).drop (j * 3)).take 3)
 rw [e]
 exact k41_mkM _ _ _ p
theorem run_copy_cells {P : Program} (w : World) (dT sT ty elem : TypeId) (g o dLen dCap : Nat) (a : Addr) (sLen sCap sz : Nat) (cur : Array Value) (t : TypeId) (cs : List Value)
  (hu : P.underlying dT = some (.slice elem)) (hs : (P.info? elem).map (·.size) = some sz)
  (hg : w.heap[g]? = some (.cells cur t (0, 0))) (hn : cs.length = Nat.min sLen dLen * sz)
  (hsrc : ∀ j v, cs[j]? = some v → w.cell? (a.add j) = some v) (hfit : o + cs.length ≤ cur.size) (h1 : ∀ v ∈ cs, v.oneCell' = true) :
  (Builtin.copy_ #[dT, sT] ty #[.slice (some ⟨g, o, none⟩) dLen dCap, .slice (some a) sLen sCap]).run P w =
   .ok (goInt (Nat.min sLen dLen)) (w.setRow g (cur.toList.take o ++ cs ++ cur.toList.drop (o + cs.length)).toArray) := by
 have hl := run_loadCells_list (P := P) w a cs hsrc
 have hst := run_storeCells_at P g o t cs 0 cur w hg (by simpa using hfit) h1
 cases hq : P.info? elem with
 | none => simp [hq] at hs
 | some i =>
  have hi : i.size = sz := by simpa [hq] using hs
  simp [Builtin.copy_, run_underlying hu, Builtin.lenOf, Builtin.firstCells, sizeOf, typeInfo, hq, hi, ← hn, hl, hst]
theorem run_copy_zero {P : Program} (w : World) (dT sT ty elem : TypeId) (a b : Addr) (dCap sLen sCap : Nat) (hu : P.underlying dT = some (.slice elem)) (hs : ((P.info? elem).map (·.size)).isSome = true) :
  (Builtin.copy_ #[dT, sT] ty #[.slice (some a) 0 dCap, .slice (some b) sLen sCap]).run P w = .ok (goInt 0) w := by
 have hl := run_loadCells_list (P := P) w b [] (fun j v hj => by simp at hj)
 simp only [List.length_nil] at hl
 cases hq : P.info? elem with
 | none => simp [hq] at hs
 | some i => simp [Builtin.copy_, run_underlying hu, Builtin.lenOf, Builtin.firstCells, sizeOf, typeInfo, hq, storeCells, hl]
theorem store_row {w : World} {B g cap m k : Nat} {cur : Array Value} {P X S seg : List Value} (hh : w.heap[g]? = some (.cells cur 41 (0, 0))) (hB : B ≤ g) (hm : m + 1 ≤ cap) (hmx : cap ≤ maxLen) (hcs : cur.size = cap * 3)
  (ht : cur.toList.take ((m + 1) * 3) = P ++ X ++ S) (hP : P.length = k * 3) (hX : X.length = 3) (hseg : seg.length = 3) :
  (w.setCells g (k * 3) seg).ownsRow B 41 3 (.slice (some ⟨g, 0, none⟩) (m + 1) cap) (m + 1) (P ++ seg ++ S) := by
 have hl : (cur.toList.take ((m + 1) * 3)).length = (m + 1) * 3 := by rw [List.length_take, Array.length_toList, hcs]; omega
 rw [ht, List.length_append, List.length_append, hP, hX] at hl
 obtain ⟨cur', h1, h2, h3⟩ := setCells_row seg (k * 3) w cur hh (by rw [hcs, hseg]; omega)
 refine ⟨by rw [List.length_append, List.length_append, hP, hseg]; exact hl, Or.inr ⟨g, cap, cur', rfl, hB, h1, hm, hmx, by rw [h2, hcs], ?_⟩⟩
 rw [h3]
 have e1 : cur.toList.take (k * 3) = P := by
  have := congrArg (List.take (k * 3)) ht
  rw [List.take_take, Nat.min_eq_left (by omega), List.append_assoc, List.take_left' hP] at this
  exact this
 have e2 : (cur.toList.drop (k * 3 + 3)).take (S.length) = S := by
  have := congrArg (List.drop (k * 3 + 3)) ht
  rw [List.drop_take, List.drop_left' (by rw [List.length_append, hP, hX])] at this
  rw [show (m + 1) * 3 - (k * 3 + 3) = S.length by omega] at this
  exact this
 rw [e1, hseg, List.take_append, List.length_append, hP, hseg, List.take_of_length_le (by rw [List.length_append, hP, hseg]; omega)]
 congr 1
 rw [show (m + 1) * 3 - (k * 3 + 3) = S.length by omega]
 exact e2
theorem copied_row {cur : Array Value} {m k cap : Nat} {out : List S41} {Z : List Value} (hcs : cur.size = cap * 3) (hm : m + 1 ≤ cap) (hk : k < m) (hl : out.length = m) (hZ : Z.length = 3) (ht : cur.toList.take ((m + 1) * 3) = encD out ++ Z) :
  ∃ X : List Value, X.length = 3 ∧ ((cur.toList.take ((k + 1) * 3) ++ encD (out.drop k) ++ cur.toList.drop ((k + 1) * 3 + (encD (out.drop k)).length)).toArray : Array Value).toList.take ((m + 1) * 3) = encD (out.take k) ++ X ++ encD (out.drop k) ∧
   ((cur.toList.take ((k + 1) * 3) ++ encD (out.drop k) ++ cur.toList.drop ((k + 1) * 3 + (encD (out.drop k)).length)).toArray : Array Value).size = cap * 3 := by
 have hE : (encD (out.drop k)).length = (m - k) * 3 := by rw [encD_length, List.length_drop, hl]
 have hT : (cur.toList.take ((k + 1) * 3)).length = (k + 1) * 3 := by rw [List.length_take, Array.length_toList, hcs]; omega
 have hpre : cur.toList.take ((k + 1) * 3) = (encD out).take ((k + 1) * 3) := by
  have := congrArg (List.take ((k + 1) * 3)) ht
  rw [List.take_take, Nat.min_eq_left (by omega), List.take_append_of_le_length (by rw [encD_length]; omega)] at this
  exact this
 refine ⟨((encD out).take ((k + 1) * 3)).drop (k * 3), by rw [List.length_drop, List.length_take, encD_length]; omega, ?_, ?_⟩
 ·rw [List.take_append_of_le_length (by rw [List.length_append, hT, hE]; omega), List.take_of_length_le (by rw [List.length_append, hT, hE]; omega), hpre]
  congr 1
  rw [encD_take]
  have h := List.take_append_drop (k * 3) ((encD out).take ((k + 1) * 3))
  rw [List.take_take, Nat.min_eq_left (by omega)] at h
  exact h.symm
 ·simp only [List.size_toArray, List.length_append, hT, hE, List.length_drop, Array.length_toList, hcs]
  omega
theorem copySrc {cur : Array Value} {m k : Nat} {out : List S41} {Z : List Value} (hl : out.length = m) (ht : cur.toList.take ((m + 1) * 3) = encD out ++ Z) : ∀ j v, (encD (out.drop k))[j]? = some v → cur[k * 3 + j]? = some v := by
 intro j v h
 rw [encD_drop, List.getElem?_drop] at h
 have hb := (List.getElem?_eq_some_iff.1 h).1
 rw [encD_length] at hb
 have e : (cur.toList.take ((m + 1) * 3))[k * 3 + j]? = some v := by
  rw [ht, List.getElem?_append_left (by rw [encD_length]; exact hb)]
  exact h
 rw [List.getElem?_take_of_lt (by omega)] at e
 simpa using e
attribute [local go_sem high] eqA41
def SDPost (w : World) (o : List S41) : Ending → World → Prop := fun e w' => ∃ v0_ : Value, e = .returned (v0_) ∧ Kd.R k41 41 w' w.heap.size (fun _ => True) v0_ o ∧ Below w.heap.size w w'
theorem rowCells {w : World} {B g m cap k : Nat} {out : List S41} (h : w.ownsRow B 41 3 (.slice (some ⟨g, 0, none⟩) m cap) m (encD out)) (hk : k < m) :
  w.cell? ⟨g, k * 3, none⟩ = some (.int .i64 (out.getD k z41).f0) ∧ w.cell? ⟨g, k * 3 + 1, none⟩ = some (.int .i64 (out.getD k z41).f1) ∧ w.cell? ⟨g, k * 3 + 2, none⟩ = some (.bool (out.getD k z41).f2) := by
 have hl : out.length = m := by have := h.1; rw [encD_length] at this; omega
 refine ⟨?_, ?_, ?_⟩
 ·exact (h.cellAt (k * 3 + 0) (by omega)).trans (encD_at out k 0 (by omega) (by omega))
 ·exact (h.cellAt (k * 3 + 1) (by omega)).trans (encD_at out k 1 (by omega) (by omega))
 ·exact (h.cellAt (k * 3 + 2) (by omega)).trans (encD_at out k 2 (by omega) (by omega))
theorem boxCells {w : World} {b : Nat} {d : S41} (h : w.heap[b]? = some (.cells #[.int .i64 d.f0, .int .i64 d.f1, .bool d.f2] 41 (0, 0))) :
  w.cell? ⟨b, 0, none⟩ = some (.int .i64 d.f0) ∧ w.cell? ⟨b, 1, none⟩ = some (.int .i64 d.f1) ∧ w.cell? ⟨b, 2, none⟩ = some (.bool d.f2) :=
 ⟨(blk_cell h 0).trans rfl, (blk_cell h 1).trans rfl, (blk_cell h 2).trans rfl⟩
theorem belowRow {B g : Nat} {w0 w : World} (hb : Below B w0 w) (hBg : B ≤ g) (cs : Array Value) : Below B w0 (w.setRow g cs) :=
 hb.trans ⟨rfl, rfl, rfl, by simp [World.setRow], fun k hk => setRow_other w g k cs (by omega)⟩
theorem addr_add (g o j : Nat) : (⟨g, o, none⟩ : Addr).add j = ⟨g, o + j, none⟩ := by by_cases h : j = 0 <;> simp [Addr.add, h]
theorem storeOp {P : Program} {ops : Array Oper} {rest : List Oper} {o : Oper} {a : Act} {Q : Exit → Act → World → Prop} {W : World} (hN : o.dst = none) (hgd : o.guard = none) (t : TypeId) (p x : Operand) (ho : o.op = .store t p x) (g off : Nat) {e : TypeId} {cur : Array Value} (u : Value) (seg : List Value)
  (haddr : a.eval p = .pointer (some ⟨g, off, none⟩)) (hx : a.eval x = u) (hu : u.cells.toList = seg) (ht : (P.info? t).map (·.size) = some seg.length) (h1 : ∀ q ∈ seg, q.oneCell' = true) (hh : W.heap[g]? = some (.cells cur e (0, 0))) (hfit : off + seg.length ≤ cur.size)
  (h : ∀ w', w' = W.setCells g off seg → wpList P ops Q rest a w') : wpList P ops Q (o :: rest) a W := by
 refine wpList_plain hgd fun K hK => ?_
 have hrun := run_store_run (P := P) t u seg hh hu ht hfit h1
 unfold Oper.wp execOp
 simp only [ho, haddr, hx, Sem.run_bind, Sem.run_pure, Result.andThen_ok, hrun]
 show K (a.put o.dst undef) _
 rw [hN]
 exact hK a _ (h _ rfl)
theorem belowCells {B g o : Nat} {w W : World} {vs : List Value} (h : Below B w W) (hg : B ≤ g) : Below B w (W.setCells g o vs) := by
 obtain ⟨a, b, c, d⟩ := setCells_same g vs o W
 refine h.trans ⟨a, b, c, by rw [d]; exact Nat.le_refl _, fun k hk => setCells_far vs o k (by omega)⟩
theorem sdStored {w : World} {B g cap k : Nat} {cur : Array Value} {out ins : List S41} {d : S41} {X : List Value} (hh : w.heap[g]? = some (.cells cur 41 (0, 0))) (hB : B ≤ g) (hm : out.length + 1 ≤ cap) (hmx : cap ≤ maxLen) (hcs : cur.size = cap * 3) (hX : X.length = 3)
  (ht : cur.toList.take ((out.length + 1) * 3) = encD (out.take k) ++ X ++ encD (out.drop k)) (hk : k ≤ out.length) (hi : ins = out.take k ++ d :: out.drop k) :
  ins.length = out.length + 1 ∧ (w.setCells g (k * 3) [.int .i64 d.f0, .int .i64 d.f1, .bool d.f2]).ownsRow B 41 3 (.slice (some ⟨g, 0, none⟩) (out.length + 1) cap) (out.length + 1) (encD ins) := by
 have h := store_row (seg := [.int .i64 d.f0, .int .i64 d.f1, .bool d.f2]) hh hB hm hmx hcs ht (by rw [encD_length, List.length_take, Nat.min_eq_left hk]) hX rfl
 refine ⟨by rw [hi]; simp; omega, ?_⟩
 rw [hi, encD_append, encD_cons, ← List.append_assoc]
 exact h
theorem sdPos_succ (out : List S41) (d : S41) (k : Nat) : sdPos out d (k + 1) = if ordD d < ordD (out.getD k z41) then sdPos out d k else k + 1 := rfl
theorem offNext {W : World} {v v1 : Value} {gb : Nat} {o : Obj} (hx : W.heap[gb]? = some o) (hn : ∀ kk, v.ownBlock = some kk → kk ≠ gb) (hat : v1.ownBlock = v.ownBlock ∨ ∃ b, v1.ownBlock = some b ∧ W.heap.size ≤ b) : ∀ kk, v1.ownBlock = some kk → kk ≠ gb := by
 intro kk hkk
 rcases hat with hat | ⟨b, hb1, hb2⟩
 ·rw [hat] at hkk
  exact hn kk hkk
 ·rw [hb1] at hkk
  have e := Option.some.inj hkk
  have := blk_lt hx
  omega
set_option maxHeartbeats 4000000 in
set_option maxRecDepth 100000 in
theorem sort_calls (A0 : Option Addr) (c0 : Nat) (l0 : List S41) (w : World) (hr0 : Kd.C k41 w A0 l0.length l0) (hc0 : l0.length ≤ c0) (hlim : l0.length < 5864062014805) :
  Calls Try.prog 60 #[.slice A0 l0.length c0] w (SDPost w (sdRun l0 [])) := by
 have hu41 := Try.underlying41
 have HR0 := As.mk hr0
 have HC0 := As.mk hc0
 clear hr0 hc0
 have HB := As.mk (Below.refl w.heap.size w)
 go_enter Try.func60, Try.ntmps60
 go_wp2
 go_loopw [3, 10] (fun v i wr => ∃ (q : Nat) (out : List S41), i = .int .i64 (q : Int) ∧ q ≤ l0.length ∧ As (out.length ≤ q) ∧ As (sdRun (l0.drop q) out = sdRun l0 []) ∧ As (wr.ownsRow w.heap.size 41 3 v out.length (encD out)) ∧ As (Below w.heap.size w wr)) (fun _ i _ => l0.length - (intOf i).toNat)
 case atStart => exact ⟨0, [], rfl, Nat.zero_le _, ⟨Nat.le_refl _⟩, ⟨rfl⟩, ⟨⟨rfl, Or.inr ⟨w.heap.size, 0, #[], rfl, Nat.le_refl _, blk_new w _, by simp, by simp, rfl, rfl⟩⟩⟩, ⟨below_alloc HB.out _⟩⟩
 case round =>
  clear HB
  obtain ⟨q, out, rfl, hq, HL, HS, HO, HB⟩ := hrel
  obtain ⟨Av, cv, ev⟩ := own_slice HO.out
  subst ev
  by_cases hqn : q < l0.length
  ·obtain ⟨ad, ead, h0_, h1_, h2_⟩ := at_T41 HR0.out (q : Int) (by omega) (by omega)
   cases ead
   replace h0_ := (HB.out.cell (World.block_lt_of_cell? w _ h0_)).trans h0_
   replace h1_ := (HB.out.cell (World.block_lt_of_cell? w _ h1_)).trans h1_
   replace h2_ := (HB.out.cell (World.block_lt_of_cell? w _ h2_)).trans h2_
   have hdrop : l0.drop q = rd_T41 l0 (q : Int) :: l0.drop (q + 1) := by
    rw [List.drop_eq_getElem_cons hqn]
    congr 1
    unfold rd_T41
    rw [Int.toNat_natCast, List.getD_eq_getElem?_getD, List.getElem?_eq_getElem hqn]
    rfl
   have HS1 := HS.out
   rw [hdrop] at HS1
   replace HS1 : (if okD (rd_T41 l0 (q : Int)) = true then sdRun (l0.drop (q + 1)) (sdIns out (rd_T41 l0 (q : Int))) else sdRun (l0.drop (q + 1)) out) = sdRun l0 [] := HS1
   clear HS hdrop
   generalize hd : rd_T41 l0 (q : Int) = d at h0_ h1_ h2_ HS1
   clear hd
   simp only [Int.toNat_natCast] at h0_ h1_ h2_
   by_cases hok : okD d = true
   ·rw [if_pos hok] at HS1
    have HS := As.mk HS1
    have HK := As.mk hok
    clear HS1 hok
    go_wp2_with (go_at_call 126; refine (ok_calls d true _ HK.out).mono ?_; rintro e w2 ⟨rfl, hb⟩; have HO2 := As.mk (pw_own_below (HO.out.alloc (.cells #[.int .i64 d.f0, .int .i64 d.f1, .bool d.f2] 41 (0, 0))) hb); have HX2 := As.mk (blk_below (blk_new wr (.cells #[.int .i64 d.f0, .int .i64 d.f1, .bool d.f2] 41 (0, 0))) hb); have HB2 := As.mk (below_step (below_alloc HB.out _) hb); clear hb)
    have HOw := HO
    clear h0_ h1_ h2_ HO
    have HN : As (∀ kk, (Value.slice Av out.length cv).ownBlock = some kk → kk ≠ wr.heap.size) := ⟨fun kk h_ => by have := own_lt HOw.out kk h_; omega⟩
    clear HOw
    have HG : As (w.heap.size ≤ wr.heap.size) := ⟨below_size HB.out⟩
    generalize wr.heap.size = gb at HX2 HN HG ⊢
    clear HB
    go_loopw [6] (fun kv wk => ∃ k : Nat, kv = .int .i64 (k : Int) ∧ k ≤ out.length ∧ As (sdPos out d k = sdPos out d out.length) ∧ As (wk.ownsRow w.heap.size 41 3 (.slice Av out.length cv) out.length (encD out)) ∧ As (wk.heap[gb]? = some (.cells #[.int .i64 d.f0, .int .i64 d.f1, .bool d.f2] 41 (0, 0))) ∧ As (Below w.heap.size w wk)) (fun kv _ => (intOf kv).toNat)
    case atStart => exact ⟨out.length, rfl, Nat.le_refl _, ⟨rfl⟩, HO2, HX2, HB2⟩
    case round =>
     clear HO2 HX2 HB2
     obtain ⟨k, rfl, hk, HP, HO3, HX3, HB3⟩ := hrel
     by_cases hk0 : k = 0
     ·have hk0i : (k : Int) = 0 := by omega
      go_wp2_with fail
      replace HO3 := As.mk (own_drew HO3.out)
      replace HX3 : As (wr.drew.heap[gb]? = _) := HX3
      replace HB3 := As.mk (below_drew1 HB3.out)
      refine sV [(0,19),(1,20),(2,21),(3,22),(4,23),(5,24),(6,25),(7,26),(8,27),(9,28),(10,29),(11,30),(12,31)] (fun _ => True) [] (by kernel_rfl) rfl trivial (fun hHeld => ?_)
      generalize World.drew wr = w4 at HO3 HX3 HB3 hHeld ⊢
      iterate 3 refine pV rfl rfl (by kernel_rfl) (by rfl) (fun _ _ _ _ h => h) ⟨_, fun w' => by go_simp; with_reducible rfl, _, by simp only [Act.put, sA, sB, sC, i64_w, i32_w]; rfl, ?_⟩
      iterate 9 refine fV rfl rfl (by kernel_rfl) (by rfl) (fun _ _ _ _ h => h) ⟨_, by simp only [Act.put, sA, sB, sC, i64_w, i32_w]; rfl, ?_⟩
      refine pV rfl rfl (by kernel_rfl) (by rfl) (fun _ _ _ _ h => h) ⟨_, fun w' => by go_simp; with_reducible rfl, _, by simp only [Act.put, sA, sB, sC, i64_w, i32_w]; rfl, ?_⟩
      refine dV (by kernel_rfl) ?_
      go_wp2_with fail
      replace HO3 := As.mk (own_drew HO3.out)
      replace HX3 : As (w4.drew.heap[gb]? = _) := HX3
      replace HB3 := As.mk (below_drew1 HB3.out)
      refine sV [(0,34),(1,35),(2,36),(3,37),(4,38),(5,39),(6,40),(7,41),(8,42),(9,43),(10,44)] (fun _ => True) [] (by kernel_rfl) rfl trivial (fun hHeld => ?_)
      generalize World.drew w4 = w5 at HO3 HX3 HB3 hHeld ⊢
      iterate 3 refine pV rfl rfl (by kernel_rfl) (by rfl) (fun _ _ _ _ h => h) ⟨_, fun w' => by go_simp; with_reducible rfl, _, by simp only [Act.put, sA, sB, sC, i64_w, i32_w]; rfl, ?_⟩
      iterate 7 refine fV rfl rfl (by kernel_rfl) (by rfl) (fun _ _ _ _ h => h) ⟨_, by simp only [Act.put, sA, sB, sC, i64_w, i32_w]; rfl, ?_⟩
      refine pV rfl rfl (by kernel_rfl) (by rfl) (fun _ _ _ _ h => h) ⟨_, fun w' => by go_simp; with_reducible rfl, _, by simp only [Act.put, sA, sB, sC, i64_w, i32_w]; rfl, ?_⟩
      refine dV (by kernel_rfl) ?_
      have HE : As (sdPos out d out.length = k) := ⟨by rw [← HP.out, hk0]; rfl⟩
      have HQ : As (sdIns out d = out.take k ++ d :: out.drop k) := ⟨by unfold sdIns sdAt; rw [HE.out, hk0]; simp⟩
      clear hk0i hk0 HP HE
      go_wp2_with (first | ((with_reducible refine gate_builtin (b := .append) (xs := #[.tmp 45, .tmp 47]) rfl ?_); at_builtin; refine print_append_cells (w0 := w) w.heap.size rfl (.tmp 45) (.tmp 47) 24 41 (.agg #[(.int .i64 0), (.int .i64 0), (.bool false)]) 3 24 rfl Try.underlying24 info41 rfl (by decide) (by decide) _ out.length (encD out) [.int .i64 0, .int .i64 0, .bool false] rfl rfl rfl (by simp [Value.oneCell']) HO3.out HB3.out (below_size HB3.out) (by have := HL.out; omega) ?_; intro v1 w8 ho hb hg hat; have HX8 := As.mk (blk_grown HX3.out hg (fun h_ => HN.out gb h_.symm rfl)); have HN8 : As (∀ kk, v1.ownBlock = some kk → kk ≠ gb) := ⟨offNext HX3.out HN.out hat⟩; have HB8 := As.mk hb; have HO8 := As.mk ho; clear ho hb hg hat HO3 HX3 HB3))
      clear HN
      obtain ⟨_, ho_⟩ := HO8.out
      rcases ho_ with ⟨_, h0_⟩ | ⟨g8, cap8, cur8, rfl, hgB_, hgh_, hcm_, hcx_, hcs_, htk_⟩
      ·omega
      have HW8 := As.mk hgh_
      have HT8 := As.mk htk_
      have HZ8 := As.mk hcs_
      have HC8 := As.mk hgB_
      have HM8 := As.mk hcx_
      clear hgh_ htk_ hcs_ hgB_ hcx_ HO8
      have hcm_I : (out.length : Int) + 1 ≤ (cap8 : Int) := by omega
      have wk_ : wrap64 ((k : Int) + 1) = (k : Int) + 1 := by have := HL.out; unfold wrap64; omega
      go_wp2_with fail
      replace HW8 : As (w8.drew.heap[g8]? = _) := HW8
      replace HX8 : As (w8.drew.heap[gb]? = _) := HX8
      replace HB8 := As.mk (below_drew1 HB8.out)
      have h03_ : (0 : Int) ≤ (k : Int) + 1 := by omega
      have h06_ : (k : Int) ≤ (out.length : Int) + 1 := by omega
      have hck_ : ¬ cap8 = k := by omega
      obtain ⟨A1, hA1_⟩ : ∃ A1 : Addr, (if cap8 = k + 1 then some (⟨g8, 0, none⟩ : Addr) else some ⟨g8, (k + 1) * 3, none⟩) = some A1 := by split <;> exact ⟨_, rfl⟩
      refine sV [(0,49),(1,50),(2,51),(3,52),(4,53),(5,54),(6,55),(7,56)] (fun _ => True) [] (by kernel_rfl) rfl trivial (fun hHeld => ?_)
      generalize World.drew w8 = w9 at HX8 HW8 HB8 hHeld ⊢
      iterate 7 refine pV rfl rfl (by kernel_rfl) (by rfl) (fun _ _ _ _ h => h) ⟨_, fun w' => by go_simp; with_reducible rfl, _, by simp only [Act.put, sA, sB, sC, i64_w, i32_w]; rfl, ?_⟩
      by_cases hkm : k < out.length
      ·have hA : A1 = ⟨g8, (k + 1) * 3, none⟩ := by rw [if_neg (by omega)] at hA1_; exact (Option.some.inj hA1_).symm
       subst hA
       clear hA1_
       obtain ⟨nw, hnw⟩ : ∃ nw : Array Value, (cur8.toList.take ((k + 1) * 3) ++ encD (out.drop k) ++ cur8.toList.drop ((k + 1) * 3 + (encD (out.drop k)).length)).toArray = nw := ⟨_, rfl⟩
       have hcopy : (Builtin.copy_ #[24, 24] 3 #[.slice (some ⟨g8, (k + 1) * 3, none⟩) (out.length - k) (cap8 - (k + 1)), .slice (some ⟨g8, k * 3, none⟩) (out.length + 1 - k) (cap8 - k)]).run Try.prog w9 = .ok (.int .i64 ((out.length - k : Nat) : Int)) (w9.setRow g8 nw) := by
        have h_ := run_copy_cells (P := Try.prog) w9 24 24 3 41 g8 ((k + 1) * 3) (out.length - k) (cap8 - (k + 1)) ⟨g8, k * 3, none⟩ (out.length + 1 - k) (cap8 - k) 3 cur8 41 (encD (out.drop k)) Try.underlying24 rfl HW8.out (by rw [encD_length, List.length_drop, show Nat.min (out.length + 1 - k) (out.length - k) = out.length - k from Nat.min_eq_right (by omega)]) (fun j v hj => by rw [addr_add]; exact (blk_cell HW8.out (k * 3 + j)).trans (copySrc rfl HT8.out j v hj)) (by rw [encD_length, List.length_drop, HZ8.out]; omega) (fun v hv => encD_one _ v hv)
        rw [hnw, show Nat.min (out.length + 1 - k) (out.length - k) = out.length - k from Nat.min_eq_right (by omega)] at h_
        exact h_
       refine oV (N := some 56) rfl rfl (by kernel_rfl) (by decide) (fun K hK => ?_)
       refine value_ (w1 := w9.setRow g8 nw) (v := .int .i64 ((out.length - k : Nat) : Int)) (by rfl) rfl ?_ ?_
       ·go_simp
       refine hK.out _ _ trivial (fun hHeld => ?_)
       clear hK K
       refine nV ⟨_, by show Act.put _ (some 56) _ = _; simp only [Act.put, sA, sB, sC, i64_w, i32_w]; rfl, ?_⟩
       refine dV (by kernel_rfl) ?_
       obtain ⟨X, hX, hXt, hXs⟩ := copied_row HZ8.out hcm_ hkm rfl rfl HT8.out
       rw [hnw] at hXt hXs
       have HWa := As.mk (setRow_heap w9 g8 cur8 nw 41 (0, 0) HW8.out)
       have HXa := As.mk ((setRow_other w9 g8 gb nw (fun h => HN8.out g8 rfl h.symm)).trans HX8.out)
       have HBa := As.mk (belowRow HB8.out HC8.out nw)
       clear hcopy hnw HW8 HX8 HB8 HT8 HZ8
       generalize w9.setRow g8 nw = w10 at HWa HXa HBa ⊢
       obtain ⟨b0_, b1_, b2_⟩ := boxCells HXa.out
       have hbk12_ : 0 ≤ (k : Int) ∧ (k : Int) < (out.length : Int) + 1 := by omega
       have HST := As.mk (sdStored (d := d) HWa.out HC8.out hcm_ HM8.out hXs hX hXt hk HQ.out)
       have hfit_ : k * 3 + 3 ≤ nw.size := by rw [hXs]; omega
       have HFI := As.mk hfit_
       have HBb := As.mk (belowCells (o := k * 3) (vs := [.int .i64 d.f0, .int .i64 d.f1, .bool d.f2]) HBa.out HC8.out)
       clear hXs hX hXt hfit_ HXa HBa
       go_wp2_with (first | ((with_reducible refine gate_store (t := 41) (p := 60) (v := .tmp 59) rfl ?_); refine storeOp rfl rfl 41 (.tmp 60) (.tmp 59) rfl g8 (k * 3) (.agg #[.int .i64 d.f0, .int .i64 d.f1, .bool d.f2]) [.int .i64 d.f0, .int .i64 d.f1, .bool d.f2] ?ha rfl rfl rfl (by simp [Value.oneCell']) HWa.out HFI.out ?_; (case ha => first | rfl | (go_simp; done) | (go_simp; rfl)); intro w39 hw; rw [← hw] at HST HBb; clear hw HWa b0_ b1_ b2_))
       clear hbk12_
       go_roundw
       case rel => exact ⟨q + 1, sdIns out d, by go_num, by omega, ⟨by have := HL.out; have := HST.out.1; omega⟩, HS, ⟨by rw [HST.out.1]; exact HST.out.2⟩, HBb⟩
       case measure => simp [intOf]; omega
      ·have hke : k = out.length := by omega
       refine one_ (i := 7) (N := (some 56)) #[true, true, true, true, true, true, true, true] rfl rfl (by kernel_rfl) (by decide) (fun K hK => ?_)
       refine value_ (w1 := w9) (v := .int .i64 0) (by rfl) rfl ?_ ?_
       ·go_simp
        rw [run_copy_zero (elem := 41) w9 24 24 3 A1 _ _ _ _ Try.underlying24 rfl]
        rfl
       refine hK.out _ _ trivial (fun hHeld => ?_)
       clear hK K
       refine norm_ (a' := ?_) ?_ ?_
       rotate_left
       ·show Act.put _ (some 56) _ = _
        simp only [Act.put, sA, sB, sC, i64_w, i32_w]
        rfl
       refine done_ (by kernel_rfl) ?_
       have HWa := HW8
       have HXa := HX8
       have HBa := HB8
       obtain ⟨X, hX, hXt, hXs⟩ : ∃ X : List Value, X.length = 3 ∧ cur8.toList.take ((out.length + 1) * 3) = encD (out.take k) ++ X ++ encD (out.drop k) ∧ cur8.size = cap8 * 3 := ⟨[.int .i64 0, .int .i64 0, .bool false], rfl, by rw [hke, List.take_length, List.drop_length, encD_nil, List.append_nil]; exact HT8.out, HZ8.out⟩
       clear HW8 HX8 HB8 HT8 HZ8 hke hkm hA1_
       obtain ⟨b0_, b1_, b2_⟩ := boxCells HXa.out
       have hbk12_ : 0 ≤ (k : Int) ∧ (k : Int) < (out.length : Int) + 1 := by omega
       have HST := As.mk (sdStored (d := d) HWa.out HC8.out hcm_ HM8.out hXs hX hXt hk HQ.out)
       have hfit_ : k * 3 + 3 ≤ cur8.size := by rw [hXs]; omega
       have HFI := As.mk hfit_
       have HBb := As.mk (belowCells (o := k * 3) (vs := [.int .i64 d.f0, .int .i64 d.f1, .bool d.f2]) HBa.out HC8.out)
       clear hXs hX hXt hfit_ HXa HBa
       go_wp2_with (first | ((with_reducible refine gate_store (t := 41) (p := 60) (v := .tmp 59) rfl ?_); refine storeOp rfl rfl 41 (.tmp 60) (.tmp 59) rfl g8 (k * 3) (.agg #[.int .i64 d.f0, .int .i64 d.f1, .bool d.f2]) [.int .i64 d.f0, .int .i64 d.f1, .bool d.f2] ?ha rfl rfl rfl (by simp [Value.oneCell']) HWa.out HFI.out ?_; (case ha => first | rfl | (go_simp; done) | (go_simp; rfl)); intro w39 hw; rw [← hw] at HST HBb; clear hw HWa b0_ b1_ b2_))
       clear hbk12_
       go_roundw
       case rel => exact ⟨q + 1, sdIns out d, by go_num, by omega, ⟨by have := HL.out; have := HST.out.1; omega⟩, HS, ⟨by rw [HST.out.1]; exact HST.out.2⟩, HBb⟩
       case measure => simp [intOf]; omega
     ·obtain ⟨k1, hk1_⟩ : ∃ k1, k = k1 + 1 := ⟨k - 1, by omega⟩
      have hp0 : 0 < k := by omega
      have hp0I : (0 : Int) < (k : Int) := by omega
      clear hk0
      obtain ⟨_, ho_⟩ := HO3.out
      rcases ho_ with ⟨_, h0⟩ | ⟨g, cap, cur, hv, hgB, hgh, hcm, hcx, hcs, htk⟩
      ·omega
      have hkm : k1 < out.length := by omega
      obtain ⟨rfl, _, rfl⟩ : Av = some ⟨g, 0, none⟩ ∧ True ∧ cv = cap := by injection hv with a b c; exact ⟨a, trivial, c⟩
      clear hv hgB hgh hcm hcx hcs htk cur
      obtain ⟨oe, hoe_⟩ : ∃ oe, out.getD k1 z41 = oe := ⟨_, rfl⟩
      have HOE := As.mk hoe_
      clear hoe_
      have wk_ : wrap64 ((k : Int) - 1) = (k1 : Int) := by have := HL.out; unfold wrap64; omega
      have hbk : 0 ≤ (k1 : Int) ∧ (k1 : Int) < (out.length : Int) := by omega
      have HK1 := As.mk hk1_
      clear hk1_
      go_wp2_with fail
      replace HO3 := As.mk (own_drew HO3.out)
      replace HX3 : As (wr.drew.heap[gb]? = _) := HX3
      replace HB3 := As.mk (below_drew1 HB3.out)
      refine sV [(0,19),(1,20),(2,21),(3,22),(4,23),(5,24),(6,25),(7,26),(9,28),(8,27),(10,29),(11,30),(12,31)] (fun w' => (w'.cell? ⟨g, k1 * 3, none⟩ = some (.int .i64 oe.f0) ∧ w'.cell? ⟨g, k1 * 3 + 1, none⟩ = some (.int .i64 oe.f1) ∧ w'.cell? ⟨g, k1 * 3 + 2, none⟩ = some (.bool oe.f2)) ∧ (w'.cell? ⟨gb, 0, none⟩ = some (.int .i64 d.f0) ∧ w'.cell? ⟨gb, 1, none⟩ = some (.int .i64 d.f1) ∧ w'.cell? ⟨gb, 2, none⟩ = some (.bool d.f2))) [] (by kernel_rfl) rfl ⟨HOE.out ▸ rowCells HO3.out hkm, boxCells HX3.out⟩ (fun hHeld => ?_)
      generalize World.drew wr = w4 at HO3 HX3 HB3 hHeld ⊢
      iterate 6 refine pV rfl rfl (by kernel_rfl) (by rfl) (fun _ _ _ _ h => h) ⟨_, fun w' => by go_simp; with_reducible rfl, _, by simp only [Act.put, sA, sB, sC, i64_w, i32_w]; rfl, ?_⟩
      refine pV rfl rfl (by kernel_rfl) (by rfl) (fun _ _ _ _ h => h) ⟨_, fun w' => by go_simp; (try simp only [wk_, Int.toNat_natCast, if_pos hbk]); with_reducible rfl, _, by simp only [Act.put, sA, sB, sC, i64_w, i32_w]; rfl, ?_⟩
      iterate 2 refine tV rfl rfl (by kernel_rfl) (by rfl) (fun _ _ _ _ h => h) hHeld ⟨_, fun w' s => by go_simp; with_reducible rfl, _, by simp only [Act.put, sA, sB, sC, i64_w, i32_w]; rfl, ?_⟩
      refine oV (N := some 27) rfl rfl (by kernel_rfl) (by decide) (fun K hK => ?_)
      refine goes_ Try.func127 (by kernel_rfl) rfl #[.agg #[.int .i64 oe.f0, .int .i64 oe.f1, .bool oe.f2]] (by rfl) rfl rfl (by (try simp only [sD, sE, sF]); first | done | rfl) ?_
      with_reducible refine (ord_calls oe _).mono ?_
      rintro e w5 ⟨rfl, hb⟩
      refine ⟨_, rfl, ?_⟩
      have n0_ := As.mk (pw_own_below HO3.out hb)
      have n1_ := As.mk (blk_below HX3.out hb)
      have n2_ := As.mk (below_step HB3.out hb)
      clear HO3 HX3 HB3 hb
      have HO3 := n0_
      have HX3 := n1_
      have HB3 := n2_
      clear n0_ n1_ n2_
      refine hK.out _ _ ⟨HOE.out ▸ rowCells HO3.out hkm, boxCells HX3.out⟩ (fun hHeld => ?_)
      clear hK K
      refine nV ⟨_, by show Act.put _ (some 27) _ = _; simp only [Act.put, sA, sB, sC, i64_w, i32_w]; rfl, ?_⟩
      refine oV (N := some 29) rfl rfl (by kernel_rfl) (by decide) (fun K hK => ?_)
      refine goes_ Try.func127 (by kernel_rfl) rfl #[.agg #[.int .i64 d.f0, .int .i64 d.f1, .bool d.f2]] (by rfl) rfl rfl (by (try simp only [sD, sE, sF]); first | done | rfl) ?_
      with_reducible refine (ord_calls d _).mono ?_
      rintro e w5 ⟨rfl, hb⟩
      refine ⟨_, rfl, ?_⟩
      have n0_ := As.mk (pw_own_below HO3.out hb)
      have n1_ := As.mk (blk_below HX3.out hb)
      have n2_ := As.mk (below_step HB3.out hb)
      clear HO3 HX3 HB3 hb
      have HO3 := n0_
      have HX3 := n1_
      have HB3 := n2_
      clear n0_ n1_ n2_
      refine hK.out _ _ ⟨HOE.out ▸ rowCells HO3.out hkm, boxCells HX3.out⟩ (fun hHeld => ?_)
      clear hK K
      refine nV ⟨_, by show Act.put _ (some 29) _ = _; simp only [Act.put, sA, sB, sC, i64_w, i32_w]; rfl, ?_⟩
      iterate 2 refine pV rfl rfl (by kernel_rfl) (by rfl) (fun _ _ _ _ h => h) ⟨_, fun w' => by go_simp; with_reducible rfl, _, by simp only [Act.put, sA, sB, sC, i64_w, i32_w]; rfl, ?_⟩
      refine dV (by kernel_rfl) ?_
      by_cases hlt : ordD d < ordD oe
      ·rw [decide_eq_true hlt]
       go_wp2
       go_roundw
       case rel => exact ⟨k1, by go_num, by omega, ⟨by have h_ := HP.out; rw [HK1.out, sdPos_succ, HOE.out, if_pos hlt] at h_; exact h_⟩, HO3, HX3, HB3⟩
       case measure => have := HK1.out; simp [intOf]; omega
      ·have HNL := As.mk hlt
       rw [decide_eq_false hlt]
       go_wp2_with fail
       replace HO3 := As.mk (own_drew HO3.out)
       replace HX3 : As (w5.drew.heap[gb]? = _) := HX3
       replace HB3 := As.mk (below_drew1 HB3.out)
       refine sV [(0,34),(1,35),(2,36),(3,37),(4,38),(5,39),(6,40),(7,41),(8,42),(9,43),(10,44)] (fun w' => (w'.cell? ⟨g, k1 * 3, none⟩ = some (.int .i64 oe.f0) ∧ w'.cell? ⟨g, k1 * 3 + 1, none⟩ = some (.int .i64 oe.f1) ∧ w'.cell? ⟨g, k1 * 3 + 2, none⟩ = some (.bool oe.f2)) ∧ (w'.cell? ⟨gb, 0, none⟩ = some (.int .i64 d.f0) ∧ w'.cell? ⟨gb, 1, none⟩ = some (.int .i64 d.f1) ∧ w'.cell? ⟨gb, 2, none⟩ = some (.bool d.f2))) [] (by kernel_rfl) rfl ⟨HOE.out ▸ rowCells HO3.out hkm, boxCells HX3.out⟩ (fun hHeld => ?_)
       generalize World.drew w5 = w6 at HO3 HX3 HB3 hHeld ⊢
       iterate 6 refine pV rfl rfl (by kernel_rfl) (by rfl) (fun _ _ _ _ h => h) ⟨_, fun w' => by go_simp; with_reducible rfl, _, by simp only [Act.put, sA, sB, sC, i64_w, i32_w]; rfl, ?_⟩
       refine pV rfl rfl (by kernel_rfl) (by rfl) (fun _ _ _ _ h => h) ⟨_, fun w' => by go_simp; (try simp only [wk_, Int.toNat_natCast, if_pos hbk]); with_reducible rfl, _, by simp only [Act.put, sA, sB, sC, i64_w, i32_w]; rfl, ?_⟩
       iterate 2 refine tV rfl rfl (by kernel_rfl) (by rfl) (fun _ _ _ _ h => h) hHeld ⟨_, fun w' s => by go_simp; with_reducible rfl, _, by simp only [Act.put, sA, sB, sC, i64_w, i32_w]; rfl, ?_⟩
       iterate 2 refine pV rfl rfl (by kernel_rfl) (by rfl) (fun _ _ _ _ h => h) ⟨_, fun w' => by go_simp; with_reducible rfl, _, by simp only [Act.put, sA, sB, sC, i64_w, i32_w]; rfl, ?_⟩
       refine dV (by kernel_rfl) ?_
       have HE : As (sdPos out d out.length = k) := ⟨by rw [← HP.out, HK1.out, sdPos_succ, HOE.out, if_neg (by have := HNL.out; omega)]⟩
       obtain ⟨be, hbe⟩ : ∃ be, (oe.f0 == d.f0 && (oe.f1 == d.f1 && oe.f2 == d.f2)) = be := ⟨_, rfl⟩
       have hins : sdIns out d = if be = true then out else out.take k ++ d :: out.drop k := by
        unfold sdIns sdAt eqD
        rw [HE.out, show k - 1 = k1 by have := HK1.out; omega, HOE.out, hbe]
        simp [hp0]
       have HI := As.mk hins
       clear hins
       rw [hbe]
       clear hbe
       cases be with
       | true =>
        go_wp2
        go_roundw
        case rel => exact ⟨q + 1, out, by go_num, by omega, ⟨by have := HL.out; omega⟩, ⟨by have h_ := HS.out; rw [HI.out, if_pos rfl] at h_; exact h_⟩, HO3, HB3⟩
        case measure => simp [intOf]; omega
       | false =>
        have HQ : As (sdIns out d = out.take k ++ d :: out.drop k) := ⟨by rw [HI.out, if_neg (by simp)]⟩
        clear HI HE HP hlt HNL HOE wk_ hbk HK1 hp0 hp0I hkm
        go_wp2_with (first | ((with_reducible refine gate_builtin (b := .append) (xs := #[.tmp 45, .tmp 47]) rfl ?_); at_builtin; refine print_append_cells (w0 := w) w.heap.size rfl (.tmp 45) (.tmp 47) 24 41 (.agg #[(.int .i64 0), (.int .i64 0), (.bool false)]) 3 24 rfl Try.underlying24 info41 rfl (by decide) (by decide) _ out.length (encD out) [.int .i64 0, .int .i64 0, .bool false] rfl rfl rfl (by simp [Value.oneCell']) HO3.out HB3.out (below_size HB3.out) (by have := HL.out; omega) ?_; intro v1 w8 ho hb hg hat; have HX8 := As.mk (blk_grown HX3.out hg (fun h_ => HN.out gb h_.symm rfl)); have HN8 : As (∀ kk, v1.ownBlock = some kk → kk ≠ gb) := ⟨offNext HX3.out HN.out hat⟩; have HB8 := As.mk hb; have HO8 := As.mk ho; clear ho hb hg hat HO3 HX3 HB3))
        clear HN
        obtain ⟨_, ho_⟩ := HO8.out
        rcases ho_ with ⟨_, h0_⟩ | ⟨g8, cap8, cur8, rfl, hgB_, hgh_, hcm_, hcx_, hcs_, htk_⟩
        ·omega
        have HW8 := As.mk hgh_
        have HT8 := As.mk htk_
        have HZ8 := As.mk hcs_
        have HC8 := As.mk hgB_
        have HM8 := As.mk hcx_
        clear hgh_ htk_ hcs_ hgB_ hcx_ HO8
        have hcm_I : (out.length : Int) + 1 ≤ (cap8 : Int) := by omega
        have wk_ : wrap64 ((k : Int) + 1) = (k : Int) + 1 := by have := HL.out; unfold wrap64; omega
        go_wp2_with fail
        replace HW8 : As (w8.drew.heap[g8]? = _) := HW8
        replace HX8 : As (w8.drew.heap[gb]? = _) := HX8
        replace HB8 := As.mk (below_drew1 HB8.out)
        have h03_ : (0 : Int) ≤ (k : Int) + 1 := by omega
        have h06_ : (k : Int) ≤ (out.length : Int) + 1 := by omega
        have hck_ : ¬ cap8 = k := by omega
        obtain ⟨A1, hA1_⟩ : ∃ A1 : Addr, (if cap8 = k + 1 then some (⟨g8, 0, none⟩ : Addr) else some ⟨g8, (k + 1) * 3, none⟩) = some A1 := by split <;> exact ⟨_, rfl⟩
        refine sV [(0,49),(1,50),(2,51),(3,52),(4,53),(5,54),(6,55),(7,56)] (fun _ => True) [] (by kernel_rfl) rfl trivial (fun hHeld => ?_)
        generalize World.drew w8 = w9 at HX8 HW8 HB8 hHeld ⊢
        iterate 7 refine pV rfl rfl (by kernel_rfl) (by rfl) (fun _ _ _ _ h => h) ⟨_, fun w' => by go_simp; with_reducible rfl, _, by simp only [Act.put, sA, sB, sC, i64_w, i32_w]; rfl, ?_⟩
        by_cases hkm : k < out.length
        ·have hA : A1 = ⟨g8, (k + 1) * 3, none⟩ := by rw [if_neg (by omega)] at hA1_; exact (Option.some.inj hA1_).symm
         subst hA
         clear hA1_
         obtain ⟨nw, hnw⟩ : ∃ nw : Array Value, (cur8.toList.take ((k + 1) * 3) ++ encD (out.drop k) ++ cur8.toList.drop ((k + 1) * 3 + (encD (out.drop k)).length)).toArray = nw := ⟨_, rfl⟩
         have hcopy : (Builtin.copy_ #[24, 24] 3 #[.slice (some ⟨g8, (k + 1) * 3, none⟩) (out.length - k) (cap8 - (k + 1)), .slice (some ⟨g8, k * 3, none⟩) (out.length + 1 - k) (cap8 - k)]).run Try.prog w9 = .ok (.int .i64 ((out.length - k : Nat) : Int)) (w9.setRow g8 nw) := by
          have h_ := run_copy_cells (P := Try.prog) w9 24 24 3 41 g8 ((k + 1) * 3) (out.length - k) (cap8 - (k + 1)) ⟨g8, k * 3, none⟩ (out.length + 1 - k) (cap8 - k) 3 cur8 41 (encD (out.drop k)) Try.underlying24 rfl HW8.out (by rw [encD_length, List.length_drop, show Nat.min (out.length + 1 - k) (out.length - k) = out.length - k from Nat.min_eq_right (by omega)]) (fun j v hj => by rw [addr_add]; exact (blk_cell HW8.out (k * 3 + j)).trans (copySrc rfl HT8.out j v hj)) (by rw [encD_length, List.length_drop, HZ8.out]; omega) (fun v hv => encD_one _ v hv)
          rw [hnw, show Nat.min (out.length + 1 - k) (out.length - k) = out.length - k from Nat.min_eq_right (by omega)] at h_
          exact h_
         refine oV (N := some 56) rfl rfl (by kernel_rfl) (by decide) (fun K hK => ?_)
         refine value_ (w1 := w9.setRow g8 nw) (v := .int .i64 ((out.length - k : Nat) : Int)) (by rfl) rfl ?_ ?_
         ·go_simp
         refine hK.out _ _ trivial (fun hHeld => ?_)
         clear hK K
         refine nV ⟨_, by show Act.put _ (some 56) _ = _; simp only [Act.put, sA, sB, sC, i64_w, i32_w]; rfl, ?_⟩
         refine dV (by kernel_rfl) ?_
         obtain ⟨X, hX, hXt, hXs⟩ := copied_row HZ8.out hcm_ hkm rfl rfl HT8.out
         rw [hnw] at hXt hXs
         have HWa := As.mk (setRow_heap w9 g8 cur8 nw 41 (0, 0) HW8.out)
         have HXa := As.mk ((setRow_other w9 g8 gb nw (fun h => HN8.out g8 rfl h.symm)).trans HX8.out)
         have HBa := As.mk (belowRow HB8.out HC8.out nw)
         clear hcopy hnw HW8 HX8 HB8 HT8 HZ8
         generalize w9.setRow g8 nw = w10 at HWa HXa HBa ⊢
         obtain ⟨b0_, b1_, b2_⟩ := boxCells HXa.out
         have hbk12_ : 0 ≤ (k : Int) ∧ (k : Int) < (out.length : Int) + 1 := by omega
         have HST := As.mk (sdStored (d := d) HWa.out HC8.out hcm_ HM8.out hXs hX hXt hk HQ.out)
         have hfit_ : k * 3 + 3 ≤ nw.size := by rw [hXs]; omega
         have HFI := As.mk hfit_
         have HBb := As.mk (belowCells (o := k * 3) (vs := [.int .i64 d.f0, .int .i64 d.f1, .bool d.f2]) HBa.out HC8.out)
         clear hXs hX hXt hfit_ HXa HBa
         go_wp2_with (first | ((with_reducible refine gate_store (t := 41) (p := 60) (v := .tmp 59) rfl ?_); refine storeOp rfl rfl 41 (.tmp 60) (.tmp 59) rfl g8 (k * 3) (.agg #[.int .i64 d.f0, .int .i64 d.f1, .bool d.f2]) [.int .i64 d.f0, .int .i64 d.f1, .bool d.f2] ?ha rfl rfl rfl (by simp [Value.oneCell']) HWa.out HFI.out ?_; (case ha => first | rfl | (go_simp; done) | (go_simp; rfl)); intro w39 hw; rw [← hw] at HST HBb; clear hw HWa b0_ b1_ b2_))
         clear hbk12_
         go_roundw
         case rel => exact ⟨q + 1, sdIns out d, by go_num, by omega, ⟨by have := HL.out; have := HST.out.1; omega⟩, HS, ⟨by rw [HST.out.1]; exact HST.out.2⟩, HBb⟩
         case measure => simp [intOf]; omega
        ·have hke : k = out.length := by omega
         refine one_ (i := 7) (N := (some 56)) #[true, true, true, true, true, true, true, true] rfl rfl (by kernel_rfl) (by decide) (fun K hK => ?_)
         refine value_ (w1 := w9) (v := .int .i64 0) (by rfl) rfl ?_ ?_
         ·go_simp
          rw [run_copy_zero (elem := 41) w9 24 24 3 A1 _ _ _ _ Try.underlying24 rfl]
          rfl
         refine hK.out _ _ trivial (fun hHeld => ?_)
         clear hK K
         refine norm_ (a' := ?_) ?_ ?_
         rotate_left
         ·show Act.put _ (some 56) _ = _
          simp only [Act.put, sA, sB, sC, i64_w, i32_w]
          rfl
         refine done_ (by kernel_rfl) ?_
         have HWa := HW8
         have HXa := HX8
         have HBa := HB8
         obtain ⟨X, hX, hXt, hXs⟩ : ∃ X : List Value, X.length = 3 ∧ cur8.toList.take ((out.length + 1) * 3) = encD (out.take k) ++ X ++ encD (out.drop k) ∧ cur8.size = cap8 * 3 := ⟨[.int .i64 0, .int .i64 0, .bool false], rfl, by rw [hke, List.take_length, List.drop_length, encD_nil, List.append_nil]; exact HT8.out, HZ8.out⟩
         clear HW8 HX8 HB8 HT8 HZ8 hke hkm hA1_
         obtain ⟨b0_, b1_, b2_⟩ := boxCells HXa.out
         have hbk12_ : 0 ≤ (k : Int) ∧ (k : Int) < (out.length : Int) + 1 := by omega
         have HST := As.mk (sdStored (d := d) HWa.out HC8.out hcm_ HM8.out hXs hX hXt hk HQ.out)
         have hfit_ : k * 3 + 3 ≤ cur8.size := by rw [hXs]; omega
         have HFI := As.mk hfit_
         have HBb := As.mk (belowCells (o := k * 3) (vs := [.int .i64 d.f0, .int .i64 d.f1, .bool d.f2]) HBa.out HC8.out)
         clear hXs hX hXt hfit_ HXa HBa
         go_wp2_with (first | ((with_reducible refine gate_store (t := 41) (p := 60) (v := .tmp 59) rfl ?_); refine storeOp rfl rfl 41 (.tmp 60) (.tmp 59) rfl g8 (k * 3) (.agg #[.int .i64 d.f0, .int .i64 d.f1, .bool d.f2]) [.int .i64 d.f0, .int .i64 d.f1, .bool d.f2] ?ha rfl rfl rfl (by simp [Value.oneCell']) HWa.out HFI.out ?_; (case ha => first | rfl | (go_simp; done) | (go_simp; rfl)); intro w39 hw; rw [← hw] at HST HBb; clear hw HWa b0_ b1_ b2_))
         clear hbk12_
         go_roundw
         case rel => exact ⟨q + 1, sdIns out d, by go_num, by omega, ⟨by have := HL.out; have := HST.out.1; omega⟩, HS, ⟨by rw [HST.out.1]; exact HST.out.2⟩, HBb⟩
         case measure => simp [intOf]; omega
   ·have hok' : okD d = false := by simpa using hok
    rw [if_neg hok] at HS1
    have HS := As.mk HS1
    have HK := As.mk hok'
    clear HS1 hok hok'
    go_wp2_with (go_at_call 126; refine (ok_calls d false _ HK.out).mono ?_; rintro e w2 ⟨rfl, hb⟩; have HO2 := As.mk (pw_own_below (HO.out.alloc (.cells #[.int .i64 d.f0, .int .i64 d.f1, .bool d.f2] 41 (0, 0))) hb); have HB2 := As.mk (below_step (below_alloc HB.out _) hb); clear hb)
    go_roundw
    case rel => exact ⟨q + 1, out, by go_num, by omega, ⟨by have := HL.out; omega⟩, HS, HO2, HB2⟩
    case measure => simp [intOf]; omega
  ·go_wp2
   go_ret
   have hqe : q = l0.length := by omega
   have HS1 := HS.out
   rw [hqe, List.drop_length] at HS1
   have e : out = sdRun l0 [] := HS1
   exact ⟨_, rfl, e ▸ R41_of_own HO.out (fun _ _ => trivial), HB.out⟩
def i_SortDominoes.f (k : Nat) (l0 : List (S41)) : Option ((List (S41))) := if l0.length < 5864062014805 then some (sdRun l0 []) else none
theorem i_SortDominoes.mono : ∀ l0 k, LeO (i_SortDominoes.f k l0) (i_SortDominoes.f (k + 1) l0) := fun _ _ => LeO.refl _
theorem i_SortDominoes.calls (k : Nat) (A0 : Option Addr) (c0 : Nat) (l0 : List (S41)) (r : List (S41)) (w : World) (hr0 : Kd.C k41 w A0 l0.length l0) (hc0 : l0.length ≤ c0) (h : i_SortDominoes.f k l0 = some r) :
  Calls Try.prog 60 #[.slice A0 l0.length c0] w fun e w' => ∃ v0_ : Value, e = .returned (v0_) ∧ Kd.R k41 41 w' w.heap.size (fun _ => True) v0_ r ∧ Below w.heap.size w w' := by
 unfold i_SortDominoes.f at h
 split at h
 ·rename_i hl
  obtain rfl := Option.some.inj h
  exact sort_calls A0 c0 l0 w hr0 hc0 hl
 ·cases h
end Go.Proofs.Ytnfnlmilmpaofaa.PFnExactTreeOfTiling
end
namespace Go.Proofs.Ytnfnlmilmpaofaa.PFnExactTreeOfTiling
open Go.RowKit Go.Proofs.YtnfnlmilmpaofaaW.PrintWords Go.Proofs.YtnfnlmilmpaofaaW.PrintLast Go.Proofs.YtnfnlmilmpaofaaW.PrintMore
attribute [local go_sem] max2_int min2_int max_two min_two max_three min_three max_four min_four
set_option linter.unusedVariables false
attribute [local go_sem high] cell_bk frozen_bk
set_option linter.unusedSimpArgs false
def i_Link_posts.f (a0_0 : Int) (a0_1 : Int) (a0_2 : Bool) (a1 : Int) : Option (Int × Int) := if a0_2 = true then (some (wrap64 ((wrap64 (a0_1 * a1)) + a0_0), wrap64 ((wrap64 ((wrap64 (a0_1 * a1)) + a0_0)) + a1))) else (some (wrap64 ((wrap64 (a0_1 * a1)) + a0_0), wrap64 ((wrap64 ((wrap64 (a0_1 * a1)) + a0_0)) + 1)))
set_option maxRecDepth 100000 in
theorem i_Link_posts.calls (a0_0 : Int) (a0_1 : Int) (a0_2 : Bool) (a1 : Int) (r1 : Int) (r2 : Int) (w : World) (h : i_Link_posts.f a0_0 a0_1 a0_2 a1 = some (r1, r2)) :
  Calls Try.prog 137 #[.agg #[.int .i64 a0_0, .int .i64 a0_1, .bool a0_2], .int .i64 a1] w fun e w' => e = .returned (.tuple #[.int .i64 r1, .int .i64 r2]) ∧ Below w.heap.size w w' := by
 have hu50 := Try.underlying50
 have HB : Up w w := ⟨Below.refl _ _⟩
 have H : (if a0_2 = true then (some (wrap64 ((wrap64 (a0_1 * a1)) + a0_0), wrap64 ((wrap64 ((wrap64 (a0_1 * a1)) + a0_0)) + a1))) else (some (wrap64 ((wrap64 (a0_1 * a1)) + a0_0), wrap64 ((wrap64 ((wrap64 (a0_1 * a1)) + a0_0)) + 1)))) = some (r1, r2) := h
 clear h
 replace H := bT H; rcases H with ⟨rfl, H⟩ | ⟨rfl, H⟩
 ·simp only [Option.some.injEq, Prod.mk.injEq] at H
  obtain ⟨rfl, rfl⟩ := H
  go_enter Try.func137, Try.ntmps137
  go_wp2_with (first | ((with_reducible refine gD 2 rfl ?_); refine bxE rfl #[.int .i64 a0_0, .int .i64 a0_1, .bool true] 50 ?_ ?_; (focus first | (go_simp; done) | (go_simp; rfl)); intro gb120 _ w4 _ _))
  go_ret2
  exact ⟨by first | rfl | (simp [*, errW_none, errW_some] <;> rfl), uw w⟩
 ·simp only [Option.some.injEq, Prod.mk.injEq] at H
  obtain ⟨rfl, rfl⟩ := H
  go_enter Try.func137, Try.ntmps137
  go_wp2_with (first | ((with_reducible refine gD 2 rfl ?_); refine bxE rfl #[.int .i64 a0_0, .int .i64 a0_1, .bool false] 50 ?_ ?_; (focus first | (go_simp; done) | (go_simp; rfl)); intro gb120 _ w6 _ _))
  go_ret2
  exact ⟨by first | rfl | (simp [*, errW_none, errW_some] <;> rfl), uw w⟩
mutual
def i_rooted.l0 : Nat → Int → List (S50) → List Int → Int → Int → Option (List Int)
 | 0, _, _, _, _, _ => none
 | k + 1, x0, x2, x7, x17, x18 => if x18 < x17 then (if x7.length < 17592186044416 then (i_rooted.l0 k x0 x2 (x7 ++ [(-1)]) x17 (wrap64 (x18 + 1))) else (none)) else (if 0 < (x7.length : Int) then (i_rooted.l1 k x0 x2 (x7.set (0 : Int).toNat 0) (([0] : List Int))) else (none))
def i_rooted.l1 : Nat → Int → List (S50) → List Int → List Int → Option (List Int)
 | 0, _, _, _, _ => none
 | k + 1, x0, x2, x7, x8 => if (x8.length : Int) > 0 then (if 0 < (x8.length : Int) then (if 1 ≤ (x8.length : Int) then (i_rooted.l2 k x0 x2 x7 (x8.drop (1 : Int).toNat) (rd x8 0) x2 (x2.length : Int) 0) else (none)) else (none)) else (some x7)
def i_rooted.l2 : Nat → Int → List (S50) → List Int → List Int → Int → List (S50) → Int → Int → Option (List Int)
 | 0, _, _, _, _, _, _, _, _ => none
 | k + 1, x0, x2, x7, x8, x9, x35, x36, x37 => if x37 < x36 then (if 0 ≤ x37 then (if x37 < (x35.length : Int) then ((i_Link_posts.f ((rd_T50 x35 x37).f0) ((rd_T50 x35 x37).f1) ((rd_T50 x35 x37).f2) x0).bind fun bt137 => (if bt137.2 = x9 then (i_rooted.j3 k x0 x2 x7 x8 x9 bt137.2 bt137.1 x35 x36 x37) else (i_rooted.j3 k x0 x2 x7 x8 x9 bt137.1 bt137.2 x35 x36 x37))) else (none)) else (none)) else (i_rooted.l1 k x0 x2 x7 x8)
def i_rooted.j3 : Nat → Int → List (S50) → List Int → List Int → Int → Int → Int → List (S50) → Int → Int → Option (List Int)
 | 0, _, _, _, _, _, _, _, _, _, _ => none
 | k + 1, x0, x2, x7, x8, x9, x12, x13, x35, x36, x37 => if x12 = x9 then (if 0 ≤ x13 then (if x13 < (x7.length : Int) then (i_rooted.j4 k x0 x2 x7 x8 x9 x13 x35 x36 x37 (decide ((rd x7 x13) < 0))) else (none)) else (none)) else (i_rooted.j4 k x0 x2 x7 x8 x9 x13 x35 x36 x37 false)
def i_rooted.j4 : Nat → Int → List (S50) → List Int → List Int → Int → Int → List (S50) → Int → Int → Bool → Option (List Int)
 | 0, _, _, _, _, _, _, _, _, _, _ => none
 | k + 1, x0, x2, x7, x8, x9, x13, x35, x36, x37, x61 => if x61 = true then (if 0 ≤ x13 then (if x13 < (x7.length : Int) then (if x8.length < 17592186044416 then (i_rooted.l2 k x0 x2 (x7.set (x13 : Int).toNat x9) (x8 ++ [x13]) x9 x35 x36 (wrap64 (x37 + 1))) else (none)) else (none)) else (none)) else (i_rooted.l2 k x0 x2 x7 x8 x9 x35 x36 (wrap64 (x37 + 1)))
end
def i_rooted.f (k : Nat) (a0 : Int) (a1 : Int) (l2 : List (S50)) : Option (List Int) := i_rooted.l0 k a0 l2 (([] : List Int)) (wrap64 (a0 * a1)) 0
theorem i_rooted.mono_l : ∀ k, (∀ y0 y1 y2 y3 y4, LeO (i_rooted.l0 k y0 y1 y2 y3 y4) (i_rooted.l0 (k + 1) y0 y1 y2 y3 y4)) ∧ (∀ y0 y1 y2 y3, LeO (i_rooted.l1 k y0 y1 y2 y3) (i_rooted.l1 (k + 1) y0 y1 y2 y3)) ∧ (∀ y0 y1 y2 y3 y4 y5 y6 y7, LeO (i_rooted.l2 k y0 y1 y2 y3 y4 y5 y6 y7) (i_rooted.l2 (k + 1) y0 y1 y2 y3 y4 y5 y6 y7)) ∧ (∀ y0 y1 y2 y3 y4 y5 y6 y7 y8 y9, LeO (i_rooted.j3 k y0 y1 y2 y3 y4 y5 y6 y7 y8 y9) (i_rooted.j3 (k + 1) y0 y1 y2 y3 y4 y5 y6 y7 y8 y9)) ∧ (∀ y0 y1 y2 y3 y4 y5 y6 y7 y8 y9, LeO (i_rooted.j4 k y0 y1 y2 y3 y4 y5 y6 y7 y8 y9) (i_rooted.j4 (k + 1) y0 y1 y2 y3 y4 y5 y6 y7 y8 y9))
 | 0 => ⟨fun _ _ _ _ _ r h => by simp [i_rooted.l0] at h, fun _ _ _ _ r h => by simp [i_rooted.l1] at h, fun _ _ _ _ _ _ _ _ r h => by simp [i_rooted.l2] at h, fun _ _ _ _ _ _ _ _ _ _ r h => by simp [i_rooted.j3] at h, fun _ _ _ _ _ _ _ _ _ _ r h => by simp [i_rooted.j4] at h⟩
 | k + 1 => by
  obtain ⟨ih0, ih1, ih2, ih3, ih4⟩ := i_rooted.mono_l k
  refine ⟨?_, ?_, ?_, ?_, ?_⟩ <;> intros
  all_goals first | unfold i_rooted.l0 | unfold i_rooted.l1 | unfold i_rooted.l2 | unfold i_rooted.j3 | unfold i_rooted.j4
  all_goals repeat' with_reducible first
  | exact ih0 _ _ _ _ _
  | exact ih1 _ _ _ _
  | exact ih2 _ _ _ _ _ _ _ _
  | exact ih3 _ _ _ _ _ _ _ _ _ _
  | exact ih4 _ _ _ _ _ _ _ _ _ _
  | exact LeO.refl _
  | exact LeO.none _
  | refine LeO.ite ?_ ?_
  | refine LeO.bind ?_ (fun _ => ?_)
theorem i_rooted.mono : ∀ a0 a1 a2 k, LeO (i_rooted.f k a0 a1 a2) (i_rooted.f (k + 1) a0 a1 a2) := by
 intro a0 a1 a2 k
 obtain ⟨ih0, ih1, ih2, ih3, ih4⟩ := i_rooted.mono_l k
 unfold i_rooted.f
 repeat' with_reducible first
 | exact ih0 _ _ _ _ _
 | exact ih1 _ _ _ _
 | exact ih2 _ _ _ _ _ _ _ _
 | exact ih3 _ _ _ _ _ _ _ _ _ _
 | exact ih4 _ _ _ _ _ _ _ _ _ _
 | exact LeO.refl _
 | exact LeO.none _
 | refine LeO.ite ?_ ?_
 | refine LeO.bind ?_ (fun _ => ?_)
set_option maxRecDepth 100000 in
theorem i_rooted.calls (k : Nat) (a0 : Int) (a1 : Int) (A2 : Option Addr) (c2 : Nat) (l2 : List (S50)) (r : List Int) (w : World) (hr2 : Kd.C k50 w A2 l2.length l2) (hc2 : l2.length ≤ c2) (h : i_rooted.f k a0 a1 l2 = some r) :
  Calls Try.prog 78 #[.int .i64 a0, .int .i64 a1, .slice A2 l2.length c2] w fun e w' => ∃ v0_ : Value, e = .returned (v0_) ∧ Kd.R (Kd.int .i64) 3 w' w.heap.size (fun _ => True) v0_ r ∧ Below w.heap.size w w' := by
 have hu50 := Try.underlying50
 have HR2 := As.mk hr2
 have HC2 := As.mk hc2
 clear hr2 hc2
 have HB : Up w w := ⟨Below.refl _ _⟩
 have H : (i_rooted.l0 k a0 l2 (([] : List Int)) (wrap64 (a0 * a1)) 0) = some r := h
 clear h
 obtain ⟨y121, hy121⟩ : ∃ y_ : List Int, y_ = (([] : List Int)) := ⟨_, rfl⟩
 replace H : (i_rooted.l0 k a0 l2 y121 (wrap64 (a0 * a1)) 0) = some r := by first | (rw [hy121]; with_reducible exact H) | (have H2_ := (Option.bind_some _ _).symm.trans H; rw [hy121]; with_reducible exact H2_) | (have H2_ := (Option.bind_some _ _).symm.trans H; with_reducible exact H2_) | with_reducible exact H | (rw [hy121]; exact H) | exact H
 have Ny121 := As.mk hy121
 clear hy121
 have H' := As.mk H
 clear H
 go_enter Try.func78, Try.ntmps78
 go_wp2_with (first | ((with_reducible refine gate_dst (N := 14) rfl ?_); refine Kd.R_lit (Kd.int .i64) _ 3 ?hg (N := 14) ?hd (xs := ([] : List Int)) (inner := []) (ok := fun _ => True) (okp := fun _ => True) ?hr ?hp (fun _ hk => hk) trivial (Below.refl _ _) (Nat.le_refl _) (by simp) ?_; (case hd => rfl); (case hg => rfl); (case hr => first | (go_simp; done) | (go_simp; rfl)); (case hp => exact (Reps.none _ _)); intro v122 w4 ho5 hb hg_ hnew_; clear hg_ hnew_; (first | rw [← Ny121.out] at ho5 | (simp only [Int.reduceToNat] at ho5; rw [← Ny121.out] at ho5)); have := Stp.mk hb; have HO123 := As.mk (Kd.R_lower ho5 (below_size (uw w))); clear hb ho5))
 go_loopg [7, 18] k (fun kq v7 v18 w' => ∃ (x7_1 : List Int) (x18_1 : Int), v18 = .int .i64 x18_1 ∧ As (i_rooted.l0 kq a0 l2 x7_1 (wrap64 (a0 * a1)) x18_1 = some r) ∧ As (kq ≤ k) ∧ As (Kd.R (Kd.int .i64) 3 w' w.heap.size (fun _ => True) v7 x7_1) ∧ Up w w')
 case atStart => exact ⟨(y121), (0), (by first | rfl | (simp; done) | (simp [*]; done)), H', ⟨Nat.le_refl _⟩, ⟨rX HO123.out⟩, ⟨uw w⟩⟩
 case round =>
  clear H'
  obtain ⟨x7_1, x18_1, rfl, HA, HK1, HO_7, HB⟩ := hrel
  cases gk with
  | zero => exact absurd HA.out (by simp [i_rooted.l0])
  | succ k1 =>
   have H := HA.out
   clear HA
   simp only [i_rooted.l0] at H
   by_cases c6 : x18_1 < (wrap64 (a0 * a1))
   ·rw [if_pos c6] at H
    have c6b0 : decide (x18_1 < (wrap64 (a0 * a1))) = true := decide_eq_true c6
    clear c6
    by_cases c7 : x7_1.length < 17592186044416
    ·rw [if_pos c7] at H
     have LMc7 := As.mk c7
     clear c7
     obtain ⟨y124, hy124⟩ : ∃ y_ : List Int, y_ = (x7_1 ++ [(-1)]) := ⟨_, rfl⟩
     replace H : (i_rooted.l0 k1 a0 l2 y124 (wrap64 (a0 * a1)) (wrap64 (x18_1 + 1))) = some r := by first | (rw [hy124]; with_reducible exact H) | (have H2_ := (Option.bind_some _ _).symm.trans H; rw [hy124]; with_reducible exact H2_) | (have H2_ := (Option.bind_some _ _).symm.trans H; with_reducible exact H2_) | with_reducible exact H | (rw [hy124]; exact H) | exact H
     have Ny124 := As.mk hy124
     clear hy124
     have H' := As.mk H
     clear H
     go_wp2_with (first | ((with_reducible refine gate_builtin (b := .append) (xs := #[.tmp 20, .tmp 21]) rfl ?_); at_builtin; refine Kd.R_append (Kd.int .i64) (w0 := w) w.heap.size rfl (.tmp 20) (.tmp 21) 31 3 (.int .i64 0) 8 rfl Try.underlying31 info3 rfl (by decide) (by omega) u7 x7_1 (-1) [.int .i64 (-1)] (fun _ => True) (fun _ => False) rfl rfl ?aP (fun _ hk => hk.elim) ?aF ?aO ?aB ?aS ?aL ?_; (case aP => exact rfl); (case aB => exact (uw w)); (case aF => exact (fun _ _ => trivial)); (case aO => exact (rX HO_7.out)); (case aS => exact (below_size (uw w))); (case aL => have := LMc7.out; omega); intro v125 w8 ho hb hg hat; rw [← Ny124.out] at ho; have n0_ := Up.mk (hb); have n1_ := As.mk (ho); clear HO_7; have HB := n0_; have HO126 := n1_; clear n0_ n1_; clear ho hb hg hat))
     go_roundg k1
     case measure => have := HK1.out; omega
     case rel => exact ⟨(y124), (wrap64 (x18_1 + 1)), (by first | rfl | (simp; done) | (simp [*]; done)), H', ⟨by have := HK1.out; omega⟩, ⟨rX HO126.out⟩, ⟨uw w⟩⟩
    ·rw [if_neg c7] at H
     exact absurd H (by simp)
   ·rw [if_neg c6] at H
    have c6b0 : decide (x18_1 < (wrap64 (a0 * a1))) = false := decide_eq_false c6
    clear c6
    by_cases c9 : 0 < (x7_1.length : Int)
    ·rw [if_pos c9] at H
     have c9b0 : decide (0 < (x7_1.length : Int)) = true := decide_eq_true c9
     have c9b1 : decide (0 < x7_1.length) = true := decide_eq_true (by omega)
     clear c9
     obtain ⟨y127, hy127⟩ : ∃ y_ : List Int, y_ = (x7_1.set (0 : Int).toNat 0) := ⟨_, rfl⟩
     replace H : (i_rooted.l1 k1 a0 l2 y127 (([0] : List Int))) = some r := by first | (rw [hy127]; with_reducible exact H) | (have H2_ := (Option.bind_some _ _).symm.trans H; rw [hy127]; with_reducible exact H2_) | (have H2_ := (Option.bind_some _ _).symm.trans H; with_reducible exact H2_) | with_reducible exact H | (rw [hy127]; exact H) | exact H
     have Ny127 := As.mk hy127
     clear hy127
     obtain ⟨y128, hy128⟩ : ∃ y_ : List Int, y_ = (([0] : List Int)) := ⟨_, rfl⟩
     replace H : (i_rooted.l1 k1 a0 l2 y127 y128) = some r := by first | (rw [hy128]; with_reducible exact H) | (have H2_ := (Option.bind_some _ _).symm.trans H; rw [hy128]; with_reducible exact H2_) | (have H2_ := (Option.bind_some _ _).symm.trans H; with_reducible exact H2_) | with_reducible exact H | (rw [hy128]; exact H) | exact H
     have Ny128 := As.mk hy128
     clear hy128
     have H' := As.mk H
     clear H
     have p10 : 0 ≤ (0 : Int) := (by omega)
     have q10 : (0 : Int) < ((x7_1.length : Int) : Int) := oD
     have qi10 : (0 < x7_1.length) = True := eq_true (by omega)
     obtain ⟨go10, co10, eo10, gb10, gl10, cl10, HG10⟩ := Kd.R_form HO_7.out (by omega)
     (first | cases eo10 | (injection eo10 with ea_ en_ ec_; (first | subst ea_ | (injection ea_ with ea_; subst ea_)); subst ec_; clear en_))
     have GB10 := As.mk gb10
     have GG10 := As.mk HG10
     clear gb10 gl10 HG10
     obtain ⟨hx10_0, hf10_0⟩ := Kd.R_celln 0 HO_7.out (0 : Int) p10 q10
     (try rw [show ((0 : Int)).toNat = 0 from rfl] at hx10_0)
     (try simp only [Nat.reduceMul, Nat.zero_mul, Nat.zero_add, Nat.reduceAdd] at hx10_0)
     (try rw [show ((0 : Int)).toNat = 0 from rfl] at hf10_0)
     (try simp only [Nat.reduceMul, Nat.zero_mul, Nat.zero_add, Nat.reduceAdd] at hf10_0)
     replace p10 := eq_true p10
     replace q10 := eq_true q10
     have HP11 := Kd.R_putg HO_7.out (0 : Int) 0
     go_wp2_with (first | ((with_reducible refine gate_store (t := 3) (p := 25) rfl ?_); refine store_event (t := 3) (p := 25) (v := ?vo_w12) (w1 := (wr.setCell ⟨go10, (0 : Int).toNat, none⟩ (.int .i64 0))) ?hg ?ho ?hn ?hr ?_; (case ho => rfl); (case hg => rfl); (case hn => rfl); (case hr => first | (go_simp; done) | (go_simp; rfl)); intro w12 hw; have hg : wr.grownBy w12 (some go10) := (by rw [hw]; exact HP11.2); have hp_ : Kd.R (Kd.int .i64) 3 w12 w.heap.size (fun _ => True) (.slice (some ⟨go10, 0, none⟩) x7_1.length co10) y127 := (by rw [hw, Ny127.out]; exact HP11.1); clear HP11; replace HO_7 := As.mk (hp_); have HB := Up.mk ((by rw [hw]; exact below_set ((uw w (w := wr))) GB10.out : Below w.heap.size w w12)); clear hg hw hp_) | ((with_reducible refine gate_dst (N := 26) rfl ?_); refine Kd.R_lit (Kd.int .i64) _ 3 ?hg (N := 26) ?hd (xs := ([0] : List Int)) (inner := [.int .i64 0]) (ok := fun _ => True) (okp := fun _ => True) ?hr ?hp (fun _ hk => hk) trivial (Below.refl _ _) (Nat.le_refl _) (by simp) ?_; (case hd => rfl); (case hg => rfl); (case hr => first | (go_simp; done) | (go_simp; rfl)); (case hp => exact (Reps.one (show Kd.M (Kd.int .i64) _ _ _ 0 [.int .i64 0] from rfl) (Reps.none _ _))); intro v129 w13 ho14 hb hg_ hnew_; clear hg_ hnew_; (first | rw [← Ny128.out] at ho14 | (simp only [Int.reduceToNat] at ho14; rw [← Ny128.out] at ho14)); have := Stp.mk hb; have n0_ := As.mk (Kd.R_elder' (rX HO_7.out) (Kd.R_base ho14) hb); have n1_ := As.mk (Kd.R_lower (Kd.R_new' ho14 (Kd.R_lt (rX HO_7.out))) (below_size (uw w))); clear HO_7; have HO_7 := n0_; have HO130 := n1_; clear n0_ n1_; clear hb ho14))
     go_loopg [8] k1 (fun kq v8 w' => ∃ (x7_2 : List Int) (x8_2 : List Int), As (i_rooted.l1 kq a0 l2 x7_2 x8_2 = some r) ∧ As (kq ≤ k1) ∧ As (Kd.R (Kd.int .i64) 3 w' w.heap.size (fun k_ => some k_ ≠ (v8 : Value).ownBlock) (.slice (some ⟨go10, 0, none⟩) x7_1.length co10) x7_2) ∧ As (Kd.Q (Kd.int .i64) 3 w' w.heap.size (fun k_ => some k_ ≠ ((.slice (some ⟨go10, 0, none⟩) x7_1.length co10) : Value).ownBlock) v8 x8_2) ∧ Up w w')
     case atStart => exact ⟨(y127), (y128), H', ⟨Nat.le_refl _⟩, ⟨by (with_reducible repeat (first | apply Kd.R_alloc | apply Kd.R_drewN | apply Kd.R_drew)); exact Kd.R_mono HO_7.out (fun _ hk => hk.2)⟩, ⟨Kd.Q_of_R (by (with_reducible repeat (first | apply Kd.R_alloc | apply Kd.R_drewN | apply Kd.R_drew)); exact Kd.R_mono HO130.out (fun _ hk => hk.2))⟩, ⟨uw w⟩⟩
     case round =>
      clear H'
      try clear c6
      try clear c6b0
      try clear c9
      try clear c9b0
      try clear c9b1
      try clear p10
      try clear q10
      try clear qi10
      try clear hx10_0
      try clear p10
      try clear q10
      obtain ⟨x7_2, x8_2, HA, HK2, HO_7, HO_8, HB⟩ := hrel
      have hl7_2 := (Kd.R_reads' HO_7.out).1
      rw [hl7_2] at HO_7
      (try simp only [hl7_2])
      (try simp only [hl7_2] at HO_8)
      cases gk with
      | zero => exact absurd HA.out (by simp [i_rooted.l1])
      | succ k2 =>
       have H := HA.out
       clear HA
       simp only [i_rooted.l1] at H
       by_cases c15 : (x8_2.length : Int) > 0
       ·rw [if_pos c15] at H
        have c15b0 : decide (0 < (x8_2.length : Int)) = true := decide_eq_true c15
        have c15b1 : decide (0 < x8_2.length) = true := decide_eq_true (by omega)
        clear c15
        by_cases c16 : 0 < (x8_2.length : Int)
        ·rw [if_pos c16] at H
         have c16b0 : decide (0 < (x8_2.length : Int)) = true := decide_eq_true c16
         have c16b1 : decide (0 < x8_2.length) = true := decide_eq_true (by omega)
         clear c16
         by_cases c17 : 1 ≤ (x8_2.length : Int)
         ·rw [if_pos c17] at H
          have c17b0 := eq_true c17
          have c17b1 : decide (1 ≤ (x8_2.length : Int)) = true := decide_eq_true c17
          clear c17
          obtain ⟨y132, hy132⟩ : ∃ y_ : List Int, y_ = (x8_2.drop (1 : Int).toNat) := ⟨_, rfl⟩
          replace H : (i_rooted.l2 k2 a0 l2 x7_2 y132 (rd x8_2 0) l2 (l2.length : Int) 0) = some r := by first | (rw [hy132]; with_reducible exact H) | (have H2_ := (Option.bind_some _ _).symm.trans H; rw [hy132]; with_reducible exact H2_) | (have H2_ := (Option.bind_some _ _).symm.trans H; with_reducible exact H2_) | with_reducible exact H | (rw [hy132]; exact H) | exact H
          have Ny132 := As.mk hy132
          clear hy132
          have H' := As.mk H
          clear H
          obtain ⟨Ao18, co18, eo18, _⟩ := Kd.Q_slice HO_8.out
          subst eo18
          have p131 : 0 ≤ (0 : Int) := (by omega)
          have q131 : 0 < (x8_2.length : Int) := oD
          obtain ⟨ad131, e131, hx131_0⟩ := Kd.at_int (Kd.Q_reads' HO_8.out).2.2 0 p131 q131
          cases e131
          have qi131 : (0 < x8_2.length) = True := eq_true (by omega)
          (try rw [show ((0 : Int)).toNat = 0 from rfl] at hx131_0)
          (try rw [Addr.add_zero'] at hx131_0)
          replace p131 := eq_true p131
          replace q131 := eq_true q131
          have q19 : (1 : Int) ≤ ((x8_2.length : Int) : Int) := oD
          obtain ⟨i019, hi019, _, hsz19, _⟩ := info_parts info3
          have hcut19 := cut_from (P := Try.prog) 31 3 .i64 Try.underlying31 hi019 1 hsz19 (some ad131) x8_2.length co18 1 (by omega) q19
          have hr19 := Kd.Q_drop (k := (1 : Int).toNat) HO_8.out (by omega)
          obtain ⟨A19, hA19⟩ : ∃ A1, A1 = (if co18 = (1 : Int).toNat then (some ad131) else ((some ad131) : Option Addr).map (·.add ((1 : Int).toNat * 1))) := ⟨_, rfl⟩
          obtain ⟨c19, hc19⟩ : ∃ c1, c1 = co18 - (1 : Int).toNat := ⟨_, rfl⟩
          have hy19 : y132.length = x8_2.length - (1 : Int).toNat := (by rw [Ny132.out, List.length_drop])
          rw [← Ny132.out] at hr19
          rw [← hy19, ← hA19, ← hc19] at hcut19
          replace hr19 : Kd.Q (Kd.int .i64) 3 wr w.heap.size (fun k_ => some k_ ≠ (.slice (some ⟨go10, 0, none⟩) x7_2.length co10 : Value).ownBlock) (.slice A19 y132.length c19) y132 := (by rw [hA19, hc19, hy19]; exact hr19)
          have HE19 : As ((Value.slice A19 y132.length c19).ownBlock = (.slice (some ad131) x8_2.length co18 : Value).ownBlock) := ⟨by rw [hA19]; split <;> (cases ((some ad131) : Option Addr) <;> rfl)⟩
          clear hy19 hi019 hsz19 HO_8 hA19 hc19
          have HO134 := As.mk hr19
          clear hr19
          replace q19 := eq_true q19
          have n_ := As.mk (Kd.R_mono (ok' := fun k_ => some k_ ≠ (.slice A19 y132.length c19 : Value).ownBlock) HO_7.out (fun k_ hk => (by rw [HE19.out]; exact hk)))
          clear HO_7
          have HO_7 := n_
          clear n_
          go_wp2
          go_loopg [8, 37] k2 (fun kq v8 v37 w' => ∃ (x7_3 : List Int) (x8_3 : List Int) (x37_3 : Int), v37 = .int .i64 x37_3 ∧ As (i_rooted.l2 kq a0 l2 x7_3 x8_3 (rd x8_2 0) l2 (l2.length : Int) x37_3 = some r) ∧ As (kq ≤ k2) ∧ As (Kd.R (Kd.int .i64) 3 w' w.heap.size (fun k_ => some k_ ≠ (v8 : Value).ownBlock) (.slice (some ⟨go10, 0, none⟩) x7_2.length co10) x7_3) ∧ As (Kd.Q (Kd.int .i64) 3 w' w.heap.size (fun k_ => some k_ ≠ ((.slice (some ⟨go10, 0, none⟩) x7_2.length co10) : Value).ownBlock) v8 x8_3) ∧ Up w w')
          case atStart => exact ⟨(x7_2), (y132), (0), (by first | rfl | (simp; done) | (simp [*]; done)), H', ⟨Nat.le_refl _⟩, ⟨by (try simp only [hl7_2]); (with_reducible repeat (first | apply Kd.R_alloc | apply Kd.R_drewN | apply Kd.R_drew)); exact HO_7.out⟩, ⟨by (try simp only [hl7_2]); (with_reducible repeat (first | apply Kd.Q_alloc | apply Kd.Q_drewN | apply Kd.Q_drew)); exact HO134.out⟩, ⟨uw w⟩⟩
          case round =>
           clear H'
           try clear c6
           try clear c6b0
           try clear c9
           try clear c9b0
           try clear c9b1
           try clear p10
           try clear q10
           try clear qi10
           try clear c15
           try clear c15b0
           try clear c15b1
           try clear c16
           try clear c16b0
           try clear c16b1
           try clear c17
           try clear c17b0
           try clear c17b1
           try clear c19
           try clear q19
           try clear hx10_0
           try clear hx131_0
           try clear p10
           try clear p131
           try clear q10
           try clear q131
           try clear q19
           obtain ⟨x7_3, x8_3, x37_3, rfl, HA, HK3, HO_7, HO_8, HB⟩ := hrel
           have hl7_3 := (Kd.R_reads' HO_7.out).1
           rw [hl7_3] at HO_7
           (try simp only [hl7_3])
           (try simp only [hl7_3] at HO_8)
           cases gk with
           | zero => exact absurd HA.out (by simp [i_rooted.l2])
           | succ k3 =>
            have H := HA.out
            clear HA
            simp only [i_rooted.l2] at H
            by_cases c20 : x37_3 < (l2.length : Int)
            ·rw [if_pos c20] at H
             have c20b0 : decide (x37_3 < (l2.length : Int)) = true := decide_eq_true c20
             clear c20
             by_cases c21 : 0 ≤ x37_3
             ·rw [if_pos c21] at H
              have c21b0 : decide (0 ≤ x37_3) = true := decide_eq_true c21
              clear c21
              by_cases c22 : x37_3 < (l2.length : Int)
              ·rw [if_pos c22] at H
               have c22b0 : decide (x37_3 < (l2.length : Int)) = true := decide_eq_true c22
               clear c22
               obtain ⟨⟨t137, t138⟩, A23, H⟩ := bI H
               dsimp only at H
               have HC24 := As.mk H
               clear H
               have p135 : 0 ≤ (x37_3 : Int) := oD
               have q135 : x37_3 < (l2.length : Int) := oD
               obtain ⟨ad135, e135, hx135_0, hx135_1, hx135_2⟩ := at_T50 HR2.out x37_3 p135 q135
               cases e135
               replace hx135_0 := cx wr hx135_0
               replace hx135_1 := cx wr hx135_1
               replace hx135_2 := cx wr hx135_2
               replace p135 := eq_true p135
               replace q135 := eq_true q135
               go_upto_if 49 with (first | ((with_reducible refine gD 11 rfl ?_); refine bxE rfl #[.int .i64 0, .int .i64 0, .bool false] 50 ?_ ?_; (focus first | (go_simp; done) | (go_simp; rfl)); intro gb136 _ w25 sb _; have hb := sb.out; have hg := nw gb136; have hbox := bk gb136 (w := w25); replace HO_7 := hB HO_7 hb; replace HO_8 := As.mk (Kd.Q_below (by (with_reducible repeat (first | apply Kd.Q_alloc | apply Kd.Q_drewN | apply Kd.Q_drew)); exact HO_8.out) hb); clear hb hg hbox) | ((with_reducible refine gC 137 rfl ?_); refine gK (some 44) rfl rfl Try.func137 (by kernel_rfl) rfl #[.agg #[.int .i64 ((rd_T50 l2 x37_3).f0), .int .i64 ((rd_T50 l2 x37_3).f1), .bool ((rd_T50 l2 x37_3).f2)], .int .i64 a0] rfl (by (try simp only [sD, sE, sF]); first | done | rfl) (i_Link_posts.calls ((rd_T50 l2 x37_3).f0) ((rd_T50 l2 x37_3).f1) ((rd_T50 l2 x37_3).f2) a0 t137 t138 _ A23.out) ?_; intro w27 sb; have hb := sb.out; replace HO_7 := As.mk (Kd.R_below (by (with_reducible repeat (first | apply Kd.R_alloc | apply Kd.R_drewN | apply Kd.R_drew)); exact (Kd.R_mono (Kd.R_far (p := ⟨gb136, 2, none⟩) (Kd.R_far (p := ⟨gb136, 1, none⟩) (Kd.R_far (p := ⟨gb136, 0, none⟩) (Kd.R_types HO_7.out (bk gb136) (by decide)) (fun _ hk => hk.2) (.int .i64 ((rd_T50 l2 x37_3).f0))) (fun _ hk => hk.2) (.int .i64 ((rd_T50 l2 x37_3).f1))) (fun _ hk => hk.2) (.bool ((rd_T50 l2 x37_3).f2))) (fun _ h_ => h_.1))) hb); replace HO_8 := As.mk (Kd.Q_below (by (with_reducible repeat (first | apply Kd.Q_alloc | apply Kd.Q_drewN | apply Kd.Q_drew)); exact (Kd.Q_mono (Kd.Q_far (p := ⟨gb136, 2, none⟩) (Kd.Q_far (p := ⟨gb136, 1, none⟩) (Kd.Q_far (p := ⟨gb136, 0, none⟩) (Kd.Q_types HO_8.out (bk gb136) (by decide)) (fun _ hk => hk.2) (.int .i64 ((rd_T50 l2 x37_3).f0))) (fun _ hk => hk.2) (.int .i64 ((rd_T50 l2 x37_3).f1))) (fun _ hk => hk.2) (.bool ((rd_T50 l2 x37_3).f2))) (fun _ h_ => h_.1))) hb)))
               (try simp only [Act.put, List.setIfInBounds_toArray, List.set_cons_zero, List.set_cons_succ])
               go_cut [12, 13] (fun v12 v13 wc => ∃ (kq : Nat) (x12_23 : Int) (x13_23 : Int), v12 = .int .i64 x12_23 ∧ v13 = .int .i64 x13_23 ∧ As (i_rooted.j3 kq a0 l2 x7_3 x8_3 (rd x8_2 0) x12_23 x13_23 l2 (l2.length : Int) x37_3 = some r) ∧ As (kq ≤ k3) ∧ As (Kd.R (Kd.int .i64) 3 wc w.heap.size (fun k_ => some k_ ≠ (u8 : Value).ownBlock) (.slice (some ⟨go10, 0, none⟩) x7_3.length co10) x7_3) ∧ As (Kd.Q (Kd.int .i64) 3 wc w.heap.size (fun k_ => some k_ ≠ ((.slice (some ⟨go10, 0, none⟩) x7_3.length co10) : Value).ownBlock) u8 x8_3) ∧ Bk wc gb136 (.cells #[.int .i64 ((rd_T50 l2 x37_3).f0), .int .i64 ((rd_T50 l2 x37_3).f1), .bool ((rd_T50 l2 x37_3).f2)] 50 (0, 0)) ∧ Up w wc)
               case first =>
                have H := HC24.out
                clear HC24
                by_cases c28 : t138 = (rd x8_2 0)
                ·rw [if_pos c28] at H
                 have c28b0 : (t138 == (rd x8_2 0)) = true := beq_iff_eq.mpr c28
                 have c28b1 : (t138 != (rd x8_2 0)) = false := bne_eq_false_iff_eq.mpr c28
                 clear c28
                 (first | rw [c28b0] | (simp only [i64_w, i32_w]; rw [c28b0]) | skip)
                 have H' := As.mk H
                 clear H
                 go_wp2
                 go_meet
                 case rel => exact ⟨_, (t138), (t137), (by first | rfl | (simp; done) | (simp [*]; done)), (by first | rfl | (simp; done) | (simp [*]; done)), H', ⟨by have := HK1.out; have := HK2.out; have := HK3.out; first | omega | exact Nat.le_refl _⟩, ⟨by (try simp only [hl7_2]); (try simp only [hl7_3]); (with_reducible repeat (first | apply Kd.R_alloc | apply Kd.R_drewN | apply Kd.R_drew)); exact HO_7.out⟩, ⟨by (try simp only [hl7_2]); (try simp only [hl7_3]); (with_reducible repeat (first | apply Kd.Q_alloc | apply Kd.Q_drewN | apply Kd.Q_drew)); exact HO_8.out⟩, ⟨by (try simp only [hl7_2]); (try simp only [hl7_3]); (with_reducible repeat (first | refine blk_drewN ?_ _ | refine blk_drew ?_ | refine blk_alloc ?_ _)); exact (bk gb136)⟩, ⟨uw w⟩⟩
                ·rw [if_neg c28] at H
                 have c28b0 : (t138 == (rd x8_2 0)) = false := beq_eq_false_iff_ne.mpr c28
                 have c28b1 : (t138 != (rd x8_2 0)) = true := bne_iff_ne.mpr c28
                 (first | rw [c28b0] | (simp only [i64_w, i32_w]; rw [c28b0]) | skip)
                 have H' := As.mk H
                 clear H
                 go_wp2
                 go_meet
                 case rel => exact ⟨_, (t137), (t138), (by first | rfl | (simp; done) | (simp [*]; done)), (by first | rfl | (simp; done) | (simp [*]; done)), H', ⟨by have := HK1.out; have := HK2.out; have := HK3.out; first | omega | exact Nat.le_refl _⟩, ⟨by (try simp only [hl7_2]); (try simp only [hl7_3]); (with_reducible repeat (first | apply Kd.R_alloc | apply Kd.R_drewN | apply Kd.R_drew)); exact HO_7.out⟩, ⟨by (try simp only [hl7_2]); (try simp only [hl7_3]); (with_reducible repeat (first | apply Kd.Q_alloc | apply Kd.Q_drewN | apply Kd.Q_drew)); exact HO_8.out⟩, ⟨by (try simp only [hl7_2]); (try simp only [hl7_3]); (with_reducible repeat (first | refine blk_drewN ?_ _ | refine blk_drew ?_ | refine blk_alloc ?_ _)); exact (bk gb136)⟩, ⟨uw w⟩⟩
               case rest =>
                clear HC24
                try clear c6
                try clear c6b0
                try clear c9
                try clear c9b0
                try clear c9b1
                try clear p10
                try clear q10
                try clear qi10
                try clear c15
                try clear c15b0
                try clear c15b1
                try clear c16
                try clear c16b0
                try clear c16b1
                try clear c17
                try clear c17b0
                try clear c17b1
                try clear c19
                try clear q19
                try clear c20
                try clear c20b0
                try clear c21
                try clear c21b0
                try clear c22
                try clear c22b0
                try clear hx10_0
                try clear hx131_0
                try clear hx135_0
                try clear hx135_1
                try clear hx135_2
                try clear p10
                try clear p131
                try clear p135
                try clear q10
                try clear q131
                try clear q135
                try clear q19
                obtain ⟨kq, x12_23, x13_23, rfl, rfl, HA, HJ23, HO_7, HO_8, BK136, HB⟩ := hcut
                cases kq with
                | zero => exact absurd HA.out (by simp [i_rooted.j3])
                | succ kj23 =>
                 have H := HA.out
                 clear HA
                 simp only [i_rooted.j3] at H
                 have HC29 := As.mk H
                 clear H
                 go_upto_region 17 with (fail)
                 go_cut [61] (fun v61 wc => ∃ (kq : Nat) (x61_28 : Bool), v61 = .bool x61_28 ∧ As (i_rooted.j4 kq a0 l2 x7_3 x8_3 (rd x8_2 0) x13_23 l2 (l2.length : Int) x37_3 x61_28 = some r) ∧ As (kq ≤ kj23) ∧ As (Kd.R (Kd.int .i64) 3 wc w.heap.size (fun k_ => some k_ ≠ (u8 : Value).ownBlock) (.slice (some ⟨go10, 0, none⟩) x7_3.length co10) x7_3) ∧ As (Kd.Q (Kd.int .i64) 3 wc w.heap.size (fun k_ => some k_ ≠ ((.slice (some ⟨go10, 0, none⟩) x7_3.length co10) : Value).ownBlock) u8 x8_3) ∧ Bk wc gb136 (.cells #[.int .i64 ((rd_T50 l2 x37_3).f0), .int .i64 ((rd_T50 l2 x37_3).f1), .bool ((rd_T50 l2 x37_3).f2)] 50 (0, 0)) ∧ Up w wc)
                 case first =>
                  have H := HC29.out
                  clear HC29
                  by_cases c30 : x12_23 = (rd x8_2 0)
                  ·rw [if_pos c30] at H
                   have c30b0 : (x12_23 == (rd x8_2 0)) = true := beq_iff_eq.mpr c30
                   have c30b1 : (x12_23 != (rd x8_2 0)) = false := bne_eq_false_iff_eq.mpr c30
                   clear c30
                   (first | rw [c30b0] | (simp only [i64_w, i32_w]; rw [c30b0]) | skip)
                   by_cases c31 : 0 ≤ x13_23
                   ·rw [if_pos c31] at H
                    have c31b0 : decide (0 ≤ x13_23) = true := decide_eq_true c31
                    clear c31
                    by_cases c32 : x13_23 < (x7_3.length : Int)
                    ·rw [if_pos c32] at H
                     have c32b0 : decide (x13_23 < (x7_3.length : Int)) = true := decide_eq_true c32
                     clear c32
                     have H' := As.mk H
                     clear H
                     have p139 : 0 ≤ (x13_23 : Int) := oD
                     have q139 : x13_23 < (x7_3.length : Int) := oD
                     obtain ⟨ad139, e139, hx139_0⟩ := Kd.at_int (Kd.R_reads' HO_7.out).2.2 x13_23 p139 q139
                     obtain rfl : (⟨go10, 0, none⟩ : Addr) = ad139 := (by injection e139)
                     (first | simp only [add_plain] at hx139_0 | simp only [add_at] at hx139_0 | simp only [Addr.add, Nat.zero_add] at hx139_0 | skip)
                     replace p139 := eq_true p139
                     replace q139 := eq_true q139
                     go_wp2
                     go_meet
                     case rel => exact ⟨_, (decide ((rd x7_3 x13_23) < 0)), (by first | rfl | (simp; done) | (simp [*]; done)), H', ⟨by have := HK1.out; have := HK2.out; have := HK3.out; have := HJ23.out; first | omega | exact Nat.le_refl _⟩, ⟨by (try simp only [hl7_2]); (try simp only [hl7_3]); (with_reducible repeat (first | apply Kd.R_alloc | apply Kd.R_drewN | apply Kd.R_drew)); exact HO_7.out⟩, ⟨by (try simp only [hl7_2]); (try simp only [hl7_3]); (with_reducible repeat (first | apply Kd.Q_alloc | apply Kd.Q_drewN | apply Kd.Q_drew)); exact HO_8.out⟩, ⟨by (try simp only [hl7_2]); (try simp only [hl7_3]); (with_reducible repeat (first | refine blk_drewN ?_ _ | refine blk_drew ?_ | refine blk_alloc ?_ _)); exact (bk gb136)⟩, ⟨uw w⟩⟩
                    ·rw [if_neg c32] at H
                     exact absurd H (by simp)
                   ·rw [if_neg c31] at H
                    exact absurd H (by simp)
                  ·rw [if_neg c30] at H
                   have c30b0 : (x12_23 == (rd x8_2 0)) = false := beq_eq_false_iff_ne.mpr c30
                   have c30b1 : (x12_23 != (rd x8_2 0)) = true := bne_iff_ne.mpr c30
                   (first | rw [c30b0] | (simp only [i64_w, i32_w]; rw [c30b0]) | skip)
                   have H' := As.mk H
                   clear H
                   go_wp2
                   go_meet
                   case rel => exact ⟨_, (false), (by first | rfl | (simp; done) | (simp [*]; done)), H', ⟨by have := HK1.out; have := HK2.out; have := HK3.out; have := HJ23.out; first | omega | exact Nat.le_refl _⟩, ⟨by (try simp only [hl7_2]); (try simp only [hl7_3]); (with_reducible repeat (first | apply Kd.R_alloc | apply Kd.R_drewN | apply Kd.R_drew)); exact HO_7.out⟩, ⟨by (try simp only [hl7_2]); (try simp only [hl7_3]); (with_reducible repeat (first | apply Kd.Q_alloc | apply Kd.Q_drewN | apply Kd.Q_drew)); exact HO_8.out⟩, ⟨by (try simp only [hl7_2]); (try simp only [hl7_3]); (with_reducible repeat (first | refine blk_drewN ?_ _ | refine blk_drew ?_ | refine blk_alloc ?_ _)); exact (bk gb136)⟩, ⟨uw w⟩⟩
                 case rest =>
                  clear HC29
                  try clear c6
                  try clear c6b0
                  try clear c9
                  try clear c9b0
                  try clear c9b1
                  try clear p10
                  try clear q10
                  try clear qi10
                  try clear c15
                  try clear c15b0
                  try clear c15b1
                  try clear c16
                  try clear c16b0
                  try clear c16b1
                  try clear c17
                  try clear c17b0
                  try clear c17b1
                  try clear c19
                  try clear q19
                  try clear c20
                  try clear c20b0
                  try clear c21
                  try clear c21b0
                  try clear c22
                  try clear c22b0
                  try clear hx10_0
                  try clear hx131_0
                  try clear hx135_0
                  try clear hx135_1
                  try clear hx135_2
                  try clear p10
                  try clear p131
                  try clear p135
                  try clear q10
                  try clear q131
                  try clear q135
                  try clear q19
                  obtain ⟨kq, x61_28, rfl, HA, HJ28, HO_7, HO_8, BK136, HB⟩ := hcut
                  cases kq with
                  | zero => exact absurd HA.out (by simp [i_rooted.j4])
                  | succ kj28 =>
                   have H := HA.out
                   clear HA
                   simp only [i_rooted.j4] at H
                   replace H := bT H; rcases H with ⟨rfl, H⟩ | ⟨rfl, H⟩
                   ·by_cases c34 : 0 ≤ x13_23
                    ·rw [if_pos c34] at H
                     have c34b0 : decide (0 ≤ x13_23) = true := decide_eq_true c34
                     clear c34
                     by_cases c35 : x13_23 < (x7_3.length : Int)
                     ·rw [if_pos c35] at H
                      have c35b0 : decide (x13_23 < (x7_3.length : Int)) = true := decide_eq_true c35
                      clear c35
                      obtain ⟨y140, hy140⟩ : ∃ y_ : List Int, y_ = (x7_3.set (x13_23 : Int).toNat (rd x8_2 0)) := ⟨_, rfl⟩
                      replace H : (if x8_3.length < 17592186044416 then (i_rooted.l2 kj28 a0 l2 y140 (x8_3 ++ [x13_23]) (rd x8_2 0) l2 (l2.length : Int) (wrap64 (x37_3 + 1))) else (none)) = some r := by first | (rw [hy140]; with_reducible exact H) | (have H2_ := (Option.bind_some _ _).symm.trans H; rw [hy140]; with_reducible exact H2_) | (have H2_ := (Option.bind_some _ _).symm.trans H; with_reducible exact H2_) | with_reducible exact H | (rw [hy140]; exact H) | exact H
                      have Ny140 := As.mk hy140
                      clear hy140
                      by_cases c37 : x8_3.length < 17592186044416
                      ·rw [if_pos c37] at H
                       have LMc37 := As.mk c37
                       clear c37
                       obtain ⟨y141, hy141⟩ : ∃ y_ : List Int, y_ = (x8_3 ++ [x13_23]) := ⟨_, rfl⟩
                       replace H : (i_rooted.l2 kj28 a0 l2 y140 y141 (rd x8_2 0) l2 (l2.length : Int) (wrap64 (x37_3 + 1))) = some r := by first | (rw [hy141]; with_reducible exact H) | (have H2_ := (Option.bind_some _ _).symm.trans H; rw [hy141]; with_reducible exact H2_) | (have H2_ := (Option.bind_some _ _).symm.trans H; with_reducible exact H2_) | with_reducible exact H | (rw [hy141]; exact H) | exact H
                       have Ny141 := As.mk hy141
                       clear hy141
                       have H' := As.mk H
                       clear H
                       have p36 : 0 ≤ (x13_23 : Int) := oD
                       have q36 : (x13_23 : Int) < ((x7_3.length : Int) : Int) := oD
                       obtain ⟨hx36_0, hf36_0⟩ := Kd.R_celln 0 HO_7.out (x13_23 : Int) p36 q36
                       replace p36 := eq_true p36
                       replace q36 := eq_true q36
                       have HP38 := Kd.R_putg HO_7.out (x13_23 : Int) (rd x8_2 0)
                       go_wp2_with (first | ((with_reducible refine gate_store (t := 3) (p := 65) rfl ?_); refine store_event (t := 3) (p := 65) (v := ?vo_w39) (w1 := (wc.setCell ⟨go10, (x13_23 : Int).toNat, none⟩ (.int .i64 (rd x8_2 0)))) ?hg ?ho ?hn ?hr ?_; (case ho => rfl); (case hg => rfl); (case hn => rfl); (case hr => first | (go_simp; done) | (go_simp; rfl)); intro w39 hw; have hg : wc.grownBy w39 (some go10) := (by rw [hw]; exact HP38.2); have hp_ : Kd.R (Kd.int .i64) 3 w39 w.heap.size (fun k_ => some k_ ≠ (u8 : Value).ownBlock) (.slice (some ⟨go10, 0, none⟩) x7_3.length co10) y140 := (by rw [hw, Ny140.out]; exact HP38.1); clear HP38; have n0_ := As.mk (hp_); have n1_ := As.mk (Kd.Q_after (v := (.slice (some ⟨go10, 0, none⟩) x7_3.length co10)) (v1 := (.slice (some ⟨go10, 0, none⟩) x7_3.length co10)) (ok := (fun _ => True)) (by (with_reducible repeat (first | apply Kd.Q_alloc | apply Kd.Q_drewN | apply Kd.Q_drew)); exact Kd.Q_mono HO_8.out (fun _ hk => ⟨trivial, hk⟩)) hg (.inl rfl)); have n2_ := Bk.mk (blk_grown (g := gb136) (o := .cells #[.int .i64 ((rd_T50 l2 x37_3).f0), .int .i64 ((rd_T50 l2 x37_3).f1), .bool ((rd_T50 l2 x37_3).f2)] 50 (0, 0)) (bkr gb136 (by rfl)) hg (Kd.R_ne HO_7.out (bk gb136) (by decide))); have n3_ := Up.mk ((by rw [hw]; exact below_set ((uw w (w := wc))) GB10.out : Below w.heap.size w w39)); clear HO_7; clear HO_8; have HO_7 := n0_; have HO_8 := n1_; have BK136 := n2_; have HB := n3_; clear n0_ n1_ n2_ n3_; clear hg hw hp_) | ((with_reducible refine gate_builtin (b := .append) (xs := #[.tmp 66, .tmp 68]) rfl ?_); at_builtin; refine Kd.Q_append (Kd.int .i64) (w0 := w) w.heap.size rfl (.tmp 66) (.tmp 68) 31 3 (.int .i64 0) 8 rfl Try.underlying31 info3 rfl (by decide) (by omega) u8 x8_3 x13_23 [.int .i64 x13_23] (fun k_ => some k_ ≠ (.slice (some ⟨go10, 0, none⟩) x7_3.length co10 : Value).ownBlock) (fun _ => False) rfl rfl ?aP (fun _ hk => hk.elim) ?aF ?aO ?aB ?aS ?aL ?_; (case aP => exact rfl); (case aB => exact (uw w)); (case aF => exact (fun k_ hk => Kd.fresh' (Kd.R_lt (rX HO_7.out)) k_ hk)); (case aO => exact (by (with_reducible repeat (first | apply Kd.Q_alloc | apply Kd.Q_drewN | apply Kd.Q_drew)); exact Kd.Q_mono HO_8.out (fun _ hk => hk.2))); (case aS => exact (below_size (uw w))); (case aL => have := LMc37.out; omega); intro v142 w40 ho hb hg hat; rw [← Ny141.out] at ho; have n0_ := As.mk (Kd.R_after (ok := (fun _ => True)) (by (with_reducible repeat (first | apply Kd.R_alloc | apply Kd.R_drewN | apply Kd.R_drew)); exact Kd.R_mono HO_7.out (fun _ hk => ⟨trivial, hk⟩)) hg hat); have n1_ := Bk.mk (blk_grown (g := gb136) (o := .cells #[.int .i64 ((rd_T50 l2 x37_3).f0), .int .i64 ((rd_T50 l2 x37_3).f1), .bool ((rd_T50 l2 x37_3).f2)] 50 (0, 0)) (bkr gb136 (by rfl)) hg (Kd.Q_ne HO_8.out (bk gb136) (by decide))); have n2_ := Up.mk (hb); have n3_ := As.mk (ho); clear HO_7; clear HO_8; have HO_7 := n0_; have BK136 := n1_; have HB := n2_; have HO143 := n3_; clear n0_ n1_ n2_ n3_; clear ho hb hg hat))
                       (try simp only [← hl7_3])
                       go_roundg kj28
                       case measure => have := HK1.out; have := HK2.out; have := HK3.out; have := HJ23.out; have := HJ28.out; omega
                       case rel => exact ⟨(y140), (y141), (wrap64 (x37_3 + 1)), (by first | rfl | (simp; done) | (simp [*]; done)), H', ⟨by have := HK1.out; have := HK2.out; have := HK3.out; have := HJ23.out; have := HJ28.out; omega⟩, ⟨by (try simp only [hl7_2]); (try simp only [hl7_3]); (with_reducible repeat (first | apply Kd.R_alloc | apply Kd.R_drewN | apply Kd.R_drew)); exact Kd.R_mono HO_7.out (fun _ hk => hk.2)⟩, ⟨by (try simp only [hl7_2]); (try simp only [hl7_3]); (with_reducible repeat (first | apply Kd.Q_alloc | apply Kd.Q_drewN | apply Kd.Q_drew)); exact HO143.out⟩, ⟨uw w⟩⟩
                      ·rw [if_neg c37] at H
                       exact absurd H (by simp)
                     ·rw [if_neg c35] at H
                      exact absurd H (by simp)
                    ·rw [if_neg c34] at H
                     exact absurd H (by simp)
                   ·have H' := As.mk H
                    clear H
                    go_wp2
                    (try simp only [← hl7_3])
                    go_roundg kj28
                    case measure => have := HK1.out; have := HK2.out; have := HK3.out; have := HJ23.out; have := HJ28.out; omega
                    case rel => exact ⟨(x7_3), (x8_3), (wrap64 (x37_3 + 1)), (by first | rfl | (simp; done) | (simp [*]; done)), H', ⟨by have := HK1.out; have := HK2.out; have := HK3.out; have := HJ23.out; have := HJ28.out; omega⟩, ⟨by (try simp only [hl7_2]); (try simp only [hl7_3]); (with_reducible repeat (first | apply Kd.R_alloc | apply Kd.R_drewN | apply Kd.R_drew)); exact HO_7.out⟩, ⟨by (try simp only [hl7_2]); (try simp only [hl7_3]); (with_reducible repeat (first | apply Kd.Q_alloc | apply Kd.Q_drewN | apply Kd.Q_drew)); exact HO_8.out⟩, ⟨uw w⟩⟩
              ·rw [if_neg c22] at H
               exact absurd H (by simp)
             ·rw [if_neg c21] at H
              exact absurd H (by simp)
            ·rw [if_neg c20] at H
             have c20b0 : decide (x37_3 < (l2.length : Int)) = false := decide_eq_false c20
             clear c20
             have H' := As.mk H
             clear H
             go_wp2
             (try simp only [← hl7_2, ← hl7_3])
             go_roundg k3
             case measure => have := HK1.out; have := HK2.out; have := HK3.out; omega
             case rel => exact ⟨(x7_3), (x8_3), H', ⟨by have := HK1.out; have := HK2.out; have := HK3.out; omega⟩, ⟨by (try simp only [hl7_2]); (try simp only [hl7_3]); (with_reducible repeat (first | apply Kd.R_alloc | apply Kd.R_drewN | apply Kd.R_drew)); exact HO_7.out⟩, ⟨by (try simp only [hl7_2]); (try simp only [hl7_3]); (with_reducible repeat (first | apply Kd.Q_alloc | apply Kd.Q_drewN | apply Kd.Q_drew)); exact HO_8.out⟩, ⟨uw w⟩⟩
         ·rw [if_neg c17] at H
          exact absurd H (by simp)
        ·rw [if_neg c16] at H
         exact absurd H (by simp)
       ·rw [if_neg c15] at H
        have c15b0 : decide (0 < (x8_2.length : Int)) = false := decide_eq_false c15
        have c15b1 : decide (0 < x8_2.length) = false := decide_eq_false (by omega)
        clear c15
        obtain rfl := Option.some.inj H
        obtain ⟨Ao41, co41, eo41, _⟩ := Kd.Q_slice HO_8.out
        subst eo41
        go_wp2
        go_ret
        exact ⟨_, by first | rfl | (simp [*, errW_none, errW_some] <;> rfl), by (with_reducible repeat (first | apply Kd.R_alloc | apply Kd.R_drewN | apply Kd.R_drew)); exact Kd.R_mono HO_7.out (fun _ hk => trivial), uw w⟩
    ·rw [if_neg c9] at H
     exact absurd H (by simp)
def i_GridOk.f (a0 : Int) (a1 : Int) : Option (Bool) := (i_within.f a0 1 4).bind fun t144 => (if t144 = true then ((i_within.f a1 1 4).bind fun t145 => (some t145)) else (some false))
set_option maxRecDepth 100000 in
theorem i_GridOk.calls (a0 : Int) (a1 : Int) (r : Bool) (w : World) (h : i_GridOk.f a0 a1 = some r) :
  Calls Try.prog 81 #[.int .i64 a0, .int .i64 a1] w fun e w' => e = .returned (.bool r) ∧ Drawn0 w w' := by
 have H : ((i_within.f a0 1 4).bind fun t144 => (if t144 = true then ((i_within.f a1 1 4).bind fun t145 => (some t145)) else (some false))) = some r := h
 clear h
 obtain ⟨t144, A3, H⟩ := bI H
 replace H := bT H; rcases H with ⟨rfl, H⟩ | ⟨rfl, H⟩
 ·obtain ⟨t145, A5, H⟩ := bI H
  obtain rfl := Option.some.inj H
  go_enter Try.func81, Try.ntmps81
  go_wp2_with (first | ((with_reducible refine gC 56 rfl ?_); refine goesL_ (some 6) rfl rfl Try.func56 (by kernel_rfl) rfl #[.int .i64 a0, .int .i64 1, .int .i64 4] rfl (by (try simp only [sD, sE, sF]); first | done | rfl) ?_; (with_reducible refine (i_within.calls a0 1 4 true _ A3.out).mono ?_); rintro e w' ⟨rfl, ⟨nd, rfl⟩⟩; refine ⟨_, rfl, ?_⟩) | (go_at_call 56; (with_reducible refine (i_within.calls a1 1 4 t145 _ A5.out).mono ?_); rintro e w' ⟨rfl, ⟨nd, rfl⟩⟩))
  go_ret
  exact ⟨by first | rfl | (simp; done) | (simp [*]; done), by repeat (first | exact Drawn0.refl _ | apply Drawn0.step)⟩
 ·obtain rfl := Option.some.inj H
  go_enter Try.func81, Try.ntmps81
  go_wp2_with (first | ((with_reducible refine gC 56 rfl ?_); refine goesL_ (some 6) rfl rfl Try.func56 (by kernel_rfl) rfl #[.int .i64 a0, .int .i64 1, .int .i64 4] rfl (by (try simp only [sD, sE, sF]); first | done | rfl) ?_; (with_reducible refine (i_within.calls a0 1 4 false _ A3.out).mono ?_); rintro e w' ⟨rfl, ⟨nd, rfl⟩⟩; refine ⟨_, rfl, ?_⟩))
  go_ret
  exact ⟨by first | rfl | (simp; done) | (simp [*]; done), by repeat (first | exact Drawn0.refl _ | apply Drawn0.step)⟩
mutual
def i_LinksOf.l0 : Nat → Int → Int → List (S50) → Int → Int → Option ((List (S50)))
 | 0, _, _, _, _, _ => none
 | k + 1, x0, x1, x5, x13, x14 => if x14 < x13 then (i_LinksOf.l1 k x0 x1 x5 x14 x13 x14 x0 0) else (some x5)
def i_LinksOf.l1 : Nat → Int → Int → List (S50) → Int → Int → Int → Int → Int → Option ((List (S50)))
 | 0, _, _, _, _, _, _, _, _ => none
 | k + 1, x0, x1, x5, x6, x13, x14, x17, x18 => if x18 < x17 then (if (wrap64 (x18 + 1)) < x0 then (if x5.length < 5864062014805 then (i_LinksOf.j2 k x0 x1 (x5 ++ [(⟨x18, x6, false⟩ : S50)]) x6 x18 x13 x14 x17 x18) else (none)) else (i_LinksOf.j2 k x0 x1 x5 x6 x18 x13 x14 x17 x18)) else (i_LinksOf.l0 k x0 x1 x5 x13 (wrap64 (x14 + 1)))
def i_LinksOf.j2 : Nat → Int → Int → List (S50) → Int → Int → Int → Int → Int → Int → Option ((List (S50)))
 | 0, _, _, _, _, _, _, _, _, _ => none
 | k + 1, x0, x1, x5, x6, x7, x13, x14, x17, x18 => if (wrap64 (x6 + 1)) < x1 then (if x5.length < 5864062014805 then (i_LinksOf.l1 k x0 x1 (x5 ++ [(⟨x7, x6, true⟩ : S50)]) x6 x13 x14 x17 (wrap64 (x18 + 1))) else (none)) else (i_LinksOf.l1 k x0 x1 x5 x6 x13 x14 x17 (wrap64 (x18 + 1)))
end
def i_LinksOf.f (k : Nat) (a0 : Int) (a1 : Int) : Option ((List (S50))) := (i_GridOk.f a0 a1).bind fun t146 => (if t146 = true then (i_LinksOf.l0 k a0 a1 (([] : List (S50))) a1 0) else (some ([] : List (S50))))
theorem i_LinksOf.mono_l : ∀ k, (∀ y0 y1 y2 y3 y4, LeO (i_LinksOf.l0 k y0 y1 y2 y3 y4) (i_LinksOf.l0 (k + 1) y0 y1 y2 y3 y4)) ∧ (∀ y0 y1 y2 y3 y4 y5 y6 y7, LeO (i_LinksOf.l1 k y0 y1 y2 y3 y4 y5 y6 y7) (i_LinksOf.l1 (k + 1) y0 y1 y2 y3 y4 y5 y6 y7)) ∧ (∀ y0 y1 y2 y3 y4 y5 y6 y7 y8, LeO (i_LinksOf.j2 k y0 y1 y2 y3 y4 y5 y6 y7 y8) (i_LinksOf.j2 (k + 1) y0 y1 y2 y3 y4 y5 y6 y7 y8))
 | 0 => ⟨fun _ _ _ _ _ r h => by simp [i_LinksOf.l0] at h, fun _ _ _ _ _ _ _ _ r h => by simp [i_LinksOf.l1] at h, fun _ _ _ _ _ _ _ _ _ r h => by simp [i_LinksOf.j2] at h⟩
 | k + 1 => by
  obtain ⟨ih0, ih1, ih2⟩ := i_LinksOf.mono_l k
  refine ⟨?_, ?_, ?_⟩ <;> intros
  all_goals first | unfold i_LinksOf.l0 | unfold i_LinksOf.l1 | unfold i_LinksOf.j2
  all_goals repeat' with_reducible first
  | exact ih0 _ _ _ _ _
  | exact ih1 _ _ _ _ _ _ _ _
  | exact ih2 _ _ _ _ _ _ _ _ _
  | exact LeO.refl _
  | exact LeO.none _
  | refine LeO.ite ?_ ?_
  | refine LeO.bind ?_ (fun _ => ?_)
theorem i_LinksOf.mono : ∀ a0 a1 k, LeO (i_LinksOf.f k a0 a1) (i_LinksOf.f (k + 1) a0 a1) := by
 intro a0 a1 k
 obtain ⟨ih0, ih1, ih2⟩ := i_LinksOf.mono_l k
 unfold i_LinksOf.f
 repeat' with_reducible first
 | exact ih0 _ _ _ _ _
 | exact ih1 _ _ _ _ _ _ _ _
 | exact ih2 _ _ _ _ _ _ _ _ _
 | exact LeO.refl _
 | exact LeO.none _
 | refine LeO.ite ?_ ?_
 | refine LeO.bind ?_ (fun _ => ?_)
set_option maxRecDepth 100000 in
theorem i_LinksOf.calls (k : Nat) (a0 : Int) (a1 : Int) (r : List (S50)) (w : World) (h : i_LinksOf.f k a0 a1 = some r) :
  Calls Try.prog 82 #[.int .i64 a0, .int .i64 a1] w fun e w' => ∃ v0_ : Value, e = .returned (v0_) ∧ Kd.R k50 50 w' w.heap.size (fun _ => True) v0_ r ∧ Below w.heap.size w w' := by
 have hu50 := Try.underlying50
 have HB : Up w w := ⟨Below.refl _ _⟩
 have H : ((i_GridOk.f a0 a1).bind fun t146 => (if t146 = true then (i_LinksOf.l0 k a0 a1 (([] : List (S50))) a1 0) else (some ([] : List (S50))))) = some r := h
 clear h
 obtain ⟨t146, A3, H⟩ := bI H
 replace H := bT H; rcases H with ⟨rfl, H⟩ | ⟨rfl, H⟩
 ·obtain ⟨y147, hy147⟩ : ∃ y_ : List (S50), y_ = (([] : List (S50))) := ⟨_, rfl⟩
  replace H : (i_LinksOf.l0 k a0 a1 y147 a1 0) = some r := by first | (rw [hy147]; with_reducible exact H) | (have H2_ := (Option.bind_some _ _).symm.trans H; rw [hy147]; with_reducible exact H2_) | (have H2_ := (Option.bind_some _ _).symm.trans H; with_reducible exact H2_) | with_reducible exact H | (rw [hy147]; exact H) | exact H
  have Ny147 := As.mk hy147
  clear hy147
  have H' := As.mk H
  clear H
  go_enter Try.func82, Try.ntmps82
  go_wp2_with (first | ((with_reducible refine gC 81 rfl ?_); refine goesL_ (some 10) rfl rfl Try.func81 (by kernel_rfl) rfl #[.int .i64 a0, .int .i64 a1] rfl (by (try simp only [sD, sE, sF]); first | done | rfl) ?_; (with_reducible refine (i_GridOk.calls a0 a1 true _ A3.out).mono ?_); rintro e w' ⟨rfl, ⟨nd, rfl⟩⟩; refine ⟨_, rfl, ?_⟩) | ((with_reducible refine gate_dst (N := 12) rfl ?_); refine Kd.R_lit k50 _ 50 ?hg (N := 12) ?hd (xs := ([] : List (S50))) (inner := []) (ok := fun _ => True) (okp := fun _ => True) ?hr ?hp (fun _ hk => hk) trivial (Below.refl _ _) (Nat.le_refl _) (by simp) ?_; (case hd => rfl); (case hg => rfl); (case hr => first | (go_simp; done) | (go_simp; rfl)); (case hp => exact (Reps.none _ _)); intro v148 w5 ho6 hb hg_ hnew_; clear hg_ hnew_; (first | rw [← Ny147.out] at ho6 | (simp only [Int.reduceToNat] at ho6; rw [← Ny147.out] at ho6)); have := Stp.mk hb; have HO149 := As.mk (Kd.R_lower ho6 (below_size (uw w))); clear hb ho6))
  go_loopg [5, 14] k (fun kq v5 v14 w' => ∃ (x5_1 : List (S50)) (x14_1 : Int), v14 = .int .i64 x14_1 ∧ As (i_LinksOf.l0 kq a0 a1 x5_1 a1 x14_1 = some r) ∧ As (kq ≤ k) ∧ As (Kd.R k50 50 w' w.heap.size (fun _ => True) v5 x5_1) ∧ Up w w')
  case atStart => exact ⟨(y147), (0), (by first | rfl | (simp; done) | (simp [*]; done)), H', ⟨Nat.le_refl _⟩, ⟨rX HO149.out⟩, ⟨uw w⟩⟩
  case round =>
   clear H'
   try clear c4
   obtain ⟨x5_1, x14_1, rfl, HA, HK1, HO_5, HB⟩ := hrel
   cases gk with
   | zero => exact absurd HA.out (by simp [i_LinksOf.l0])
   | succ k1 =>
    have H := HA.out
    clear HA
    simp only [i_LinksOf.l0] at H
    by_cases c7 : x14_1 < a1
    ·rw [if_pos c7] at H
     have c7b0 : decide (x14_1 < a1) = true := decide_eq_true c7
     clear c7
     have H' := As.mk H
     clear H
     go_wp2
     go_loopg [5, 18] k1 (fun kq v5 v18 w' => ∃ (x5_2 : List (S50)) (x18_2 : Int), v18 = .int .i64 x18_2 ∧ As (i_LinksOf.l1 kq a0 a1 x5_2 x14_1 a1 x14_1 a0 x18_2 = some r) ∧ As (kq ≤ k1) ∧ As (Kd.R k50 50 w' w.heap.size (fun _ => True) v5 x5_2) ∧ Up w w')
     case atStart => exact ⟨(x5_1), (0), (by first | rfl | (simp; done) | (simp [*]; done)), H', ⟨Nat.le_refl _⟩, ⟨rX HO_5.out⟩, ⟨uw w⟩⟩
     case round =>
      clear H'
      try clear c4
      try clear c7
      try clear c7b0
      obtain ⟨x5_2, x18_2, rfl, HA, HK2, HO_5, HB⟩ := hrel
      cases gk with
      | zero => exact absurd HA.out (by simp [i_LinksOf.l1])
      | succ k2 =>
       have H := HA.out
       clear HA
       simp only [i_LinksOf.l1] at H
       by_cases c8 : x18_2 < a0
       ·rw [if_pos c8] at H
        have c8b0 : decide (x18_2 < a0) = true := decide_eq_true c8
        clear c8
        have HC9 := As.mk H
        clear H
        go_upto_if 24 with (fail)
        go_cut [5] (fun v5 wc => ∃ (kq : Nat) (x5_8 : List (S50)), As (i_LinksOf.j2 kq a0 a1 x5_8 x14_1 x18_2 a1 x14_1 a0 x18_2 = some r) ∧ As (kq ≤ k2) ∧ As (Kd.R k50 50 wc w.heap.size (fun _ => True) v5 x5_8) ∧ Up w wc)
        case first =>
         have H := HC9.out
         clear HC9
         by_cases c10 : (wrap64 (x18_2 + 1)) < a0
         ·rw [if_pos c10] at H
          have c10b0 : decide ((wrap64 (x18_2 + 1)) < a0) = true := decide_eq_true c10
          clear c10
          (first | rw [c10b0] | (simp only [i64_w, i32_w]; rw [c10b0]) | skip)
          by_cases c11 : x5_2.length < 5864062014805
          ·rw [if_pos c11] at H
           have LMc11 := As.mk c11
           clear c11
           obtain ⟨y150, hy150⟩ : ∃ y_ : List (S50), y_ = (x5_2 ++ [(⟨x18_2, x14_1, false⟩ : S50)]) := ⟨_, rfl⟩
           replace H : (i_LinksOf.j2 k2 a0 a1 y150 x14_1 x18_2 a1 x14_1 a0 x18_2) = some r := by first | (rw [hy150]; with_reducible exact H) | (have H2_ := (Option.bind_some _ _).symm.trans H; rw [hy150]; with_reducible exact H2_) | (have H2_ := (Option.bind_some _ _).symm.trans H; with_reducible exact H2_) | with_reducible exact H | (rw [hy150]; exact H) | exact H
           have Ny150 := As.mk hy150
           clear hy150
           have H' := As.mk H
           clear H
           go_wp2_with (first | ((with_reducible refine gate_builtin (b := .append) (xs := #[.tmp 25, .tmp 29]) rfl ?_); at_builtin; refine Kd.R_append k50 (w0 := w) w.heap.size rfl (.tmp 25) (.tmp 29) 44 50 (.agg #[(.int .i64 0), (.int .i64 0), (.bool false)]) 24 rfl Try.underlying44 info50 rfl (by decide) (by omega) u5 x5_2 (⟨x18_2, x14_1, false⟩ : S50) [.int .i64 x18_2, .int .i64 x14_1, .bool false] (fun _ => True) (fun _ => False) rfl rfl ?aP (fun _ hk => hk.elim) ?aF ?aO ?aB ?aS ?aL ?_; (case aP => exact k50_mkM _ _ _ (⟨x18_2, x14_1, false⟩ : S50)); (case aB => exact (uw w)); (case aF => exact (fun _ _ => trivial)); (case aO => exact (rX HO_5.out)); (case aS => exact (below_size (uw w))); (case aL => have := LMc11.out; omega); intro v151 w12 ho hb hg hat; rw [← Ny150.out] at ho; have n0_ := Up.mk (hb); have n1_ := As.mk (ho); clear HO_5; have HB := n0_; have HO152 := n1_; clear n0_ n1_; clear ho hb hg hat))
           go_meet
           case rel => exact ⟨_, (y150), H', ⟨by have := HK1.out; have := HK2.out; first | omega | exact Nat.le_refl _⟩, ⟨rX HO152.out⟩, ⟨uw w⟩⟩
          ·rw [if_neg c11] at H
           exact absurd H (by simp)
         ·rw [if_neg c10] at H
          have c10b0 : decide ((wrap64 (x18_2 + 1)) < a0) = false := decide_eq_false c10
          clear c10
          (first | rw [c10b0] | (simp only [i64_w, i32_w]; rw [c10b0]) | skip)
          have H' := As.mk H
          clear H
          go_wp2
          go_meet
          case rel => exact ⟨_, (x5_2), H', ⟨by have := HK1.out; have := HK2.out; first | omega | exact Nat.le_refl _⟩, ⟨rX HO_5.out⟩, ⟨uw w⟩⟩
        case rest =>
         clear HC9
         try clear c4
         try clear c7
         try clear c7b0
         try clear c8
         try clear c8b0
         obtain ⟨kq, x5_8, HA, HJ8, HO_5, HB⟩ := hcut
         cases kq with
         | zero => exact absurd HA.out (by simp [i_LinksOf.j2])
         | succ kj8 =>
          have H := HA.out
          clear HA
          simp only [i_LinksOf.j2] at H
          by_cases c13 : (wrap64 (x14_1 + 1)) < a1
          ·rw [if_pos c13] at H
           have c13b0 : decide ((wrap64 (x14_1 + 1)) < a1) = true := decide_eq_true c13
           clear c13
           by_cases c14 : x5_8.length < 5864062014805
           ·rw [if_pos c14] at H
            have LMc14 := As.mk c14
            clear c14
            obtain ⟨y153, hy153⟩ : ∃ y_ : List (S50), y_ = (x5_8 ++ [(⟨x18_2, x14_1, true⟩ : S50)]) := ⟨_, rfl⟩
            replace H : (i_LinksOf.l1 kj8 a0 a1 y153 x14_1 a1 x14_1 a0 (wrap64 (x18_2 + 1))) = some r := by first | (rw [hy153]; with_reducible exact H) | (have H2_ := (Option.bind_some _ _).symm.trans H; rw [hy153]; with_reducible exact H2_) | (have H2_ := (Option.bind_some _ _).symm.trans H; with_reducible exact H2_) | with_reducible exact H | (rw [hy153]; exact H) | exact H
            have Ny153 := As.mk hy153
            clear hy153
            have H' := As.mk H
            clear H
            go_wp2_with (first | ((with_reducible refine gate_builtin (b := .append) (xs := #[.tmp 35, .tmp 39]) rfl ?_); at_builtin; refine Kd.R_append k50 (w0 := w) w.heap.size rfl (.tmp 35) (.tmp 39) 44 50 (.agg #[(.int .i64 0), (.int .i64 0), (.bool false)]) 24 rfl Try.underlying44 info50 rfl (by decide) (by omega) u5 x5_8 (⟨x18_2, x14_1, true⟩ : S50) [.int .i64 x18_2, .int .i64 x14_1, .bool true] (fun _ => True) (fun _ => False) rfl rfl ?aP (fun _ hk => hk.elim) ?aF ?aO ?aB ?aS ?aL ?_; (case aP => exact k50_mkM _ _ _ (⟨x18_2, x14_1, true⟩ : S50)); (case aB => exact (uw w)); (case aF => exact (fun _ _ => trivial)); (case aO => exact (rX HO_5.out)); (case aS => exact (below_size (uw w))); (case aL => have := LMc14.out; omega); intro v154 w15 ho hb hg hat; rw [← Ny153.out] at ho; have n0_ := Up.mk (hb); have n1_ := As.mk (ho); clear HO_5; have HB := n0_; have HO155 := n1_; clear n0_ n1_; clear ho hb hg hat))
            go_roundg kj8
            case measure => have := HK1.out; have := HK2.out; have := HJ8.out; omega
            case rel => exact ⟨(y153), (wrap64 (x18_2 + 1)), (by first | rfl | (simp; done) | (simp [*]; done)), H', ⟨by have := HK1.out; have := HK2.out; have := HJ8.out; omega⟩, ⟨rX HO155.out⟩, ⟨uw w⟩⟩
           ·rw [if_neg c14] at H
            exact absurd H (by simp)
          ·rw [if_neg c13] at H
           have c13b0 : decide ((wrap64 (x14_1 + 1)) < a1) = false := decide_eq_false c13
           clear c13
           have H' := As.mk H
           clear H
           go_wp2
           go_roundg kj8
           case measure => have := HK1.out; have := HK2.out; have := HJ8.out; omega
           case rel => exact ⟨(x5_8), (wrap64 (x18_2 + 1)), (by first | rfl | (simp; done) | (simp [*]; done)), H', ⟨by have := HK1.out; have := HK2.out; have := HJ8.out; omega⟩, ⟨rX HO_5.out⟩, ⟨uw w⟩⟩
       ·rw [if_neg c8] at H
        have c8b0 : decide (x18_2 < a0) = false := decide_eq_false c8
        clear c8
        have H' := As.mk H
        clear H
        go_wp2
        go_roundg k2
        case measure => have := HK1.out; have := HK2.out; omega
        case rel => exact ⟨(x5_2), (wrap64 (x14_1 + 1)), (by first | rfl | (simp; done) | (simp [*]; done)), H', ⟨by have := HK1.out; have := HK2.out; omega⟩, ⟨rX HO_5.out⟩, ⟨uw w⟩⟩
    ·rw [if_neg c7] at H
     have c7b0 : decide (x14_1 < a1) = false := decide_eq_false c7
     clear c7
     obtain rfl := Option.some.inj H
     go_wp2
     go_ret
     exact ⟨_, by first | rfl | (simp [*, errW_none, errW_some] <;> rfl), rX HO_5.out, uw w⟩
 ·obtain rfl := Option.some.inj H
  go_enter Try.func82, Try.ntmps82
  go_wp2_with (first | ((with_reducible refine gC 81 rfl ?_); refine goesL_ (some 10) rfl rfl Try.func81 (by kernel_rfl) rfl #[.int .i64 a0, .int .i64 a1] rfl (by (try simp only [sD, sE, sF]); first | done | rfl) ?_; (with_reducible refine (i_GridOk.calls a0 a1 false _ A3.out).mono ?_); rintro e w' ⟨rfl, ⟨nd, rfl⟩⟩; refine ⟨_, rfl, ?_⟩))
  go_ret
  exact ⟨_, by first | rfl | (simp [*, errW_none, errW_some] <;> rfl), by first | exact Kd.R_nil _ _ _ _ _ | exact Kd.N_nil _ _ _ _ _ | exact Kd.V_nil _ _ _ _ _ | exact Kd.Q_nil _ _ _ _ _ | exact Kd.S_nil _ _ _ _ _, uw w⟩
end Go.Proofs.Ytnfnlmilmpaofaa.PFnExactTreeOfTiling
namespace Go.Proofs.Ytnfnlmilmpaofaa.PFnExactTreeOfTiling
open Go.RowKit Go.Proofs.YtnfnlmilmpaofaaW.PrintWords Go.Proofs.YtnfnlmilmpaofaaW.PrintLast Go.Proofs.YtnfnlmilmpaofaaW.PrintMore
attribute [local go_sem] max2_int min2_int max_two min_two max_three min_three max_four min_four
set_option linter.unusedVariables false
attribute [local go_sem high] cell_bk frozen_bk
set_option linter.unusedSimpArgs false
attribute [local go_sem high] eqA50
def i_linkIndex.l0 : Nat → List (S50) → Int → Int → Int → Int → Bool → Option (Int)
 | 0, _, _, _, _, _, _ => none
 | k + 1, x7, x8, x9, x157000, x157001, x157002 => if x9 < x8 then (if 0 ≤ x9 then (if x9 < (x7.length : Int) then (if (((rd_T50 x7 x9).f0) == x157000 && (((rd_T50 x7 x9).f1) == x157001 && (((rd_T50 x7 x9).f2) == x157002))) = true then (some x9) else (i_linkIndex.l0 k x7 x8 (wrap64 (x9 + 1)) x157000 x157001 x157002)) else (none)) else (none)) else (some (-1))
def i_linkIndex.f (k : Nat) (l0 : List (S50)) (a1_0 : Int) (a1_1 : Int) (a1_2 : Bool) : Option (Int) := i_linkIndex.l0 k l0 (l0.length : Int) 0 a1_0 a1_1 a1_2
theorem i_linkIndex.mono_l : ∀ k, (∀ y0 y1 y2 y3 y4 y5, LeO (i_linkIndex.l0 k y0 y1 y2 y3 y4 y5) (i_linkIndex.l0 (k + 1) y0 y1 y2 y3 y4 y5))
 | 0 => fun _ _ _ _ _ _ r h => by simp [i_linkIndex.l0] at h
 | k + 1 => by
  have ih0 := i_linkIndex.mono_l k
  ·intro y0 y1 y2 y3 y4 y5
   unfold i_linkIndex.l0
   repeat' with_reducible first
   | exact ih0 _ _ _ _ _ _
   | exact LeO.refl _
   | exact LeO.none _
   | refine LeO.ite ?_ ?_
   | refine LeO.bind ?_ (fun _ => ?_)
theorem i_linkIndex.mono : ∀ a0 a1 a2 a3 k, LeO (i_linkIndex.f k a0 a1 a2 a3) (i_linkIndex.f (k + 1) a0 a1 a2 a3) := by
 intro a0 a1 a2 a3 k
 have ih0 := i_linkIndex.mono_l k
 unfold i_linkIndex.f
 repeat' with_reducible first
 | exact ih0 _ _ _ _ _ _
 | exact LeO.refl _
 | exact LeO.none _
 | refine LeO.ite ?_ ?_
 | refine LeO.bind ?_ (fun _ => ?_)
set_option maxRecDepth 100000 in
theorem i_linkIndex.calls (k : Nat) (A0 : Option Addr) (c0 : Nat) (l0 : List (S50)) (a1_0 : Int) (a1_1 : Int) (a1_2 : Bool) (r : Int) (w : World) (hr0 : Kd.C k50 w A0 l0.length l0) (hc0 : l0.length ≤ c0) (h : i_linkIndex.f k l0 a1_0 a1_1 a1_2 = some r) :
  Calls Try.prog 135 #[.slice A0 l0.length c0, .agg #[.int .i64 a1_0, .int .i64 a1_1, .bool a1_2]] w fun e w' => e = .returned (.int .i64 r) ∧ Below w.heap.size w w' := by
 have hu50 := Try.underlying50
 have HR0 := As.mk hr0
 have HC0 := As.mk hc0
 clear hr0 hc0
 have HB : Up w w := ⟨Below.refl _ _⟩
 have H : (i_linkIndex.l0 k l0 (l0.length : Int) 0 a1_0 a1_1 a1_2) = some r := h
 clear h
 have H' := As.mk H
 clear H
 go_enter Try.func135, Try.ntmps135
 go_wp2_with (first | ((with_reducible refine gD 3 rfl ?_); refine bxE rfl #[.int .i64 a1_0, .int .i64 a1_1, .bool a1_2] 50 ?_ ?_; (focus first | (go_simp; done) | (go_simp; rfl)); intro gb156 _ w3 _ _))
 go_loopg [9] k (fun kq v9 w' => ∃ (x9_1 : Int), v9 = .int .i64 x9_1 ∧ As (i_linkIndex.l0 kq l0 (l0.length : Int) x9_1 a1_0 a1_1 a1_2 = some r) ∧ As (kq ≤ k) ∧ Bk w' gb156 (.cells #[.int .i64 a1_0, .int .i64 a1_1, .bool a1_2] 50 (0, 0)) ∧ Up w w')
 case atStart => exact ⟨(0), (by first | rfl | (simp; done) | (simp [*]; done)), H', ⟨Nat.le_refl _⟩, bM (by rfl), ⟨uw w⟩⟩
 case round =>
  clear H'
  obtain ⟨x9_1, rfl, HA, HK1, BK156, HB⟩ := hrel
  cases gk with
  | zero => exact absurd HA.out (by simp [i_linkIndex.l0])
  | succ k1 =>
   have H := HA.out
   clear HA
   simp only [i_linkIndex.l0] at H
   by_cases c4 : x9_1 < (l0.length : Int)
   ·rw [if_pos c4] at H
    have c4b0 : decide (x9_1 < (l0.length : Int)) = true := decide_eq_true c4
    clear c4
    by_cases c5 : 0 ≤ x9_1
    ·rw [if_pos c5] at H
     have c5b0 : decide (0 ≤ x9_1) = true := decide_eq_true c5
     clear c5
     by_cases c6 : x9_1 < (l0.length : Int)
     ·rw [if_pos c6] at H
      have c6b0 : decide (x9_1 < (l0.length : Int)) = true := decide_eq_true c6
      clear c6
      by_cases c7 : (((rd_T50 l0 x9_1).f0) == a1_0 && (((rd_T50 l0 x9_1).f1) == a1_1 && (((rd_T50 l0 x9_1).f2) == a1_2))) = true
      ·rw [if_pos c7] at H
       have c7b0 : (((rd_T50 l0 x9_1).f0) == a1_0 && (((rd_T50 l0 x9_1).f1) == a1_1 && (((rd_T50 l0 x9_1).f2) == a1_2))) = true := c7
       (try (have c7b1 : decide (((rd_T50 l0 x9_1).f0) = a1_0 && (((rd_T50 l0 x9_1).f1) == a1_1 && (((rd_T50 l0 x9_1).f2) == a1_2))) = true := by simpa using c7))
       (try (have c7b2 : (((rd_T50 l0 x9_1).f0) == a1_0 && (((rd_T50 l0 x9_1).f1) == a1_1 && (((rd_T50 l0 x9_1).f2) == a1_2))) = true := by simpa using c7))
       clear c7
       obtain rfl := Option.some.inj H
       have p157 : 0 ≤ (x9_1 : Int) := oD
       have q157 : x9_1 < (l0.length : Int) := oD
       obtain ⟨ad157, e157, hx157_0, hx157_1, hx157_2⟩ := at_T50 HR0.out x9_1 p157 q157
       cases e157
       replace hx157_0 := cx wr hx157_0
       replace hx157_1 := cx wr hx157_1
       replace hx157_2 := cx wr hx157_2
       replace p157 := eq_true p157
       replace q157 := eq_true q157
       go_wp2_with (first | ((with_reducible refine gD 6 rfl ?_); refine bxE rfl #[.int .i64 0, .int .i64 0, .bool false] 50 ?_ ?_; (focus first | (go_simp; done) | (go_simp; rfl)); intro gb158 _ w8 _ _))
       go_ret
       exact ⟨by first | rfl | (simp [*, errW_none, errW_some] <;> rfl), uw w⟩
      ·rw [if_neg c7] at H
       have c7b0 : (((rd_T50 l0 x9_1).f0) == a1_0 && (((rd_T50 l0 x9_1).f1) == a1_1 && (((rd_T50 l0 x9_1).f2) == a1_2))) = false := by simpa using c7
       (try (have c7b1 : decide (((rd_T50 l0 x9_1).f0) = a1_0 && (((rd_T50 l0 x9_1).f1) == a1_1 && (((rd_T50 l0 x9_1).f2) == a1_2))) = false := by simpa using c7))
       (try (have c7b2 : (((rd_T50 l0 x9_1).f0) == a1_0 && (((rd_T50 l0 x9_1).f1) == a1_1 && (((rd_T50 l0 x9_1).f2) == a1_2))) = false := by simpa using c7))
       (try (have c7b3 : ¬ (((rd_T50 l0 x9_1).f0) = a1_0 && (((rd_T50 l0 x9_1).f1) == a1_1 && (((rd_T50 l0 x9_1).f2) == a1_2))) := by simpa using c7))
       clear c7
       have H' := As.mk H
       clear H
       have p157 : 0 ≤ (x9_1 : Int) := oD
       have q157 : x9_1 < (l0.length : Int) := oD
       obtain ⟨ad157, e157, hx157_0, hx157_1, hx157_2⟩ := at_T50 HR0.out x9_1 p157 q157
       cases e157
       replace hx157_0 := cx wr hx157_0
       replace hx157_1 := cx wr hx157_1
       replace hx157_2 := cx wr hx157_2
       replace p157 := eq_true p157
       replace q157 := eq_true q157
       go_wp2_with (first | ((with_reducible refine gD 6 rfl ?_); refine bxE rfl #[.int .i64 0, .int .i64 0, .bool false] 50 ?_ ?_; (focus first | (go_simp; done) | (go_simp; rfl)); intro gb158 _ w12 _ _))
       go_roundg k1
       case measure => have := HK1.out; omega
       case rel => exact ⟨(wrap64 (x9_1 + 1)), (by first | rfl | (simp; done) | (simp [*]; done)), H', ⟨by have := HK1.out; omega⟩, bM (by rfl), ⟨uw w⟩⟩
     ·rw [if_neg c6] at H
      exact absurd H (by simp)
    ·rw [if_neg c5] at H
     exact absurd H (by simp)
   ·rw [if_neg c4] at H
    have c4b0 : decide (x9_1 < (l0.length : Int)) = false := decide_eq_false c4
    clear c4
    obtain rfl := Option.some.inj H
    go_wp2
    go_ret
    exact ⟨by first | rfl | (simp [*, errW_none, errW_some] <;> rfl), uw w⟩
end Go.Proofs.Ytnfnlmilmpaofaa.PFnExactTreeOfTiling
namespace Go.Proofs.Ytnfnlmilmpaofaa.PFnExactTreeOfTiling
open Go.RowKit Go.Proofs.YtnfnlmilmpaofaaW.PrintWords Go.Proofs.YtnfnlmilmpaofaaW.PrintLast Go.Proofs.YtnfnlmilmpaofaaW.PrintMore
attribute [local go_sem] max2_int min2_int max_two min_two max_three min_three max_four min_four
set_option linter.unusedVariables false
attribute [local go_sem high] cell_bk frozen_bk
set_option linter.unusedSimpArgs false
def i_indexOf.l0 : Nat → Int → List Int → Int → Int → Option (Int)
 | 0, _, _, _, _ => none
 | k + 1, x1, x7, x8, x9 => if x9 < x8 then (if 0 ≤ x9 then (if x9 < (x7.length : Int) then (if (rd x7 x9) = x1 then (some x9) else (i_indexOf.l0 k x1 x7 x8 (wrap64 (x9 + 1)))) else (none)) else (none)) else (some (-1))
def i_indexOf.f (k : Nat) (l0 : List Int) (a1 : Int) : Option (Int) := i_indexOf.l0 k a1 l0 (l0.length : Int) 0
theorem i_indexOf.mono_l : ∀ k, (∀ y0 y1 y2 y3, LeO (i_indexOf.l0 k y0 y1 y2 y3) (i_indexOf.l0 (k + 1) y0 y1 y2 y3))
 | 0 => fun _ _ _ _ r h => by simp [i_indexOf.l0] at h
 | k + 1 => by
  have ih0 := i_indexOf.mono_l k
  ·intro y0 y1 y2 y3
   unfold i_indexOf.l0
   repeat' with_reducible first
   | exact ih0 _ _ _ _
   | exact LeO.refl _
   | exact LeO.none _
   | refine LeO.ite ?_ ?_
   | refine LeO.bind ?_ (fun _ => ?_)
theorem i_indexOf.mono : ∀ a0 a1 k, LeO (i_indexOf.f k a0 a1) (i_indexOf.f (k + 1) a0 a1) := by
 intro a0 a1 k
 have ih0 := i_indexOf.mono_l k
 unfold i_indexOf.f
 repeat' with_reducible first
 | exact ih0 _ _ _ _
 | exact LeO.refl _
 | exact LeO.none _
 | refine LeO.ite ?_ ?_
 | refine LeO.bind ?_ (fun _ => ?_)
set_option maxRecDepth 100000 in
theorem i_indexOf.calls (k : Nat) (A0 : Option Addr) (c0 : Nat) (l0 : List Int) (a1 : Int) (r : Int) (w : World) (hr0 : Kd.C (Kd.int .i64) w A0 l0.length l0) (hc0 : l0.length ≤ c0) (h : i_indexOf.f k l0 a1 = some r) :
  Calls Try.prog 136 #[.slice A0 l0.length c0, .int .i64 a1] w fun e w' => e = .returned (.int .i64 r) ∧ Drawn0 w w' := by
 have HR0 := As.mk hr0
 have HC0 := As.mk hc0
 clear hr0 hc0
 have H : (i_indexOf.l0 k a1 l0 (l0.length : Int) 0) = some r := h
 clear h
 have H' := As.mk H
 clear H
 go_enter Try.func136, Try.ntmps136
 go_wp2
 go_loopg [9] k (fun kq v9 w' => ∃ (x9_1 : Int), v9 = .int .i64 x9_1 ∧ As (i_indexOf.l0 kq a1 l0 (l0.length : Int) x9_1 = some r) ∧ As (kq ≤ k) ∧ Drawn0 w w')
 case atStart => exact ⟨(0), (by first | rfl | (simp; done) | (simp [*]; done)), H', ⟨Nat.le_refl _⟩, by repeat (first | exact Drawn0.refl _ | apply Drawn0.step)⟩
 case round =>
  clear H'
  obtain ⟨x9_1, rfl, HA, HK1, ⟨m1, rfl⟩⟩ := hrel
  cases gk with
  | zero => exact absurd HA.out (by simp [i_indexOf.l0])
  | succ k1 =>
   have H := HA.out
   clear HA
   simp only [i_indexOf.l0] at H
   by_cases c3 : x9_1 < (l0.length : Int)
   ·rw [if_pos c3] at H
    have c3b0 : decide (x9_1 < (l0.length : Int)) = true := decide_eq_true c3
    clear c3
    by_cases c4 : 0 ≤ x9_1
    ·rw [if_pos c4] at H
     have c4b0 : decide (0 ≤ x9_1) = true := decide_eq_true c4
     clear c4
     by_cases c5 : x9_1 < (l0.length : Int)
     ·rw [if_pos c5] at H
      have c5b0 : decide (x9_1 < (l0.length : Int)) = true := decide_eq_true c5
      clear c5
      by_cases c6 : (rd l0 x9_1) = a1
      ·rw [if_pos c6] at H
       have c6b0 : ((rd l0 x9_1) == a1) = true := beq_iff_eq.mpr c6
       have c6b1 : ((rd l0 x9_1) != a1) = false := bne_eq_false_iff_eq.mpr c6
       clear c6
       obtain rfl := Option.some.inj H
       have p159 : 0 ≤ (x9_1 : Int) := oD
       have q159 : x9_1 < (l0.length : Int) := oD
       obtain ⟨ad159, e159, hx159_0⟩ := Kd.at_int HR0.out x9_1 p159 q159
       cases e159
       replace p159 := eq_true p159
       replace q159 := eq_true q159
       go_wp2
       go_ret
       exact ⟨by first | rfl | (simp; done) | (simp [*]; done), by repeat (first | exact Drawn0.refl _ | apply Drawn0.step)⟩
      ·rw [if_neg c6] at H
       have c6b0 : ((rd l0 x9_1) == a1) = false := beq_eq_false_iff_ne.mpr c6
       have c6b1 : ((rd l0 x9_1) != a1) = true := bne_iff_ne.mpr c6
       have H' := As.mk H
       clear H
       have p159 : 0 ≤ (x9_1 : Int) := oD
       have q159 : x9_1 < (l0.length : Int) := oD
       obtain ⟨ad159, e159, hx159_0⟩ := Kd.at_int HR0.out x9_1 p159 q159
       cases e159
       replace p159 := eq_true p159
       replace q159 := eq_true q159
       go_wp2
       go_roundg k1
       case measure => have := HK1.out; omega
       case rel => exact ⟨(wrap64 (x9_1 + 1)), (by first | rfl | (simp; done) | (simp [*]; done)), H', ⟨by have := HK1.out; omega⟩, by repeat (first | exact Drawn0.refl _ | apply Drawn0.step)⟩
     ·rw [if_neg c5] at H
      exact absurd H (by simp)
    ·rw [if_neg c4] at H
     exact absurd H (by simp)
   ·rw [if_neg c3] at H
    have c3b0 : decide (x9_1 < (l0.length : Int)) = false := decide_eq_false c3
    clear c3
    obtain rfl := Option.some.inj H
    go_wp2
    go_ret
    exact ⟨by first | rfl | (simp; done) | (simp [*]; done), by repeat (first | exact Drawn0.refl _ | apply Drawn0.step)⟩
mutual
def i_IsTree.j0 : Nat → Int → Int → List (S50) → Bool → Option (Bool)
 | 0, _, _, _, _ => none
 | k + 1, x0, x1, x2, x22 => if x22 = true then (some false) else ((i_LinksOf.f k x0 x1).bind fun t161 => (i_IsTree.l0 k x0 x1 x2 t161 x2 (x2.length : Int) 0))
def i_IsTree.l0 : Nat → Int → Int → List (S50) → List (S50) → List (S50) → Int → Int → Option (Bool)
 | 0, _, _, _, _, _, _, _ => none
 | k + 1, x0, x1, x2, x7, x26, x27, x28 => if x28 < x27 then (if 0 ≤ x28 then (if x28 < (x26.length : Int) then ((i_linkIndex.f k x7 ((rd_T50 x26 x28).f0) ((rd_T50 x26 x28).f1) ((rd_T50 x26 x28).f2)).bind fun t166 => (if t166 < 0 then (i_IsTree.j2 k x0 x1 x2 x7 x26 x27 x28 true) else ((i_linkIndex.f k x2 ((rd_T50 x26 x28).f0) ((rd_T50 x26 x28).f1) ((rd_T50 x26 x28).f2)).bind fun t167 => (i_IsTree.j2 k x0 x1 x2 x7 x26 x27 x28 (t167 != x28))))) else (none)) else (none)) else ((i_rooted.f k x0 x1 x2).bind fun t168 => ((i_indexOf.f k t168 (-1)).bind fun t171 => (some (decide (t171 < 0)))))
def i_IsTree.j2 : Nat → Int → Int → List (S50) → List (S50) → List (S50) → Int → Int → Bool → Option (Bool)
 | 0, _, _, _, _, _, _, _, _ => none
 | k + 1, x0, x1, x2, x7, x26, x27, x28, x43 => if x43 = true then (some false) else (i_IsTree.l0 k x0 x1 x2 x7 x26 x27 (wrap64 (x28 + 1)))
end
def i_IsTree.f (k : Nat) (a0 : Int) (a1 : Int) (l2 : List (S50)) : Option (Bool) := (i_GridOk.f a0 a1).bind fun t160 => (if t160 = true then (i_IsTree.j0 k a0 a1 l2 ((l2.length : Int) != (wrap64 ((wrap64 (a0 * a1)) - 1)))) else (i_IsTree.j0 k a0 a1 l2 true))
theorem i_IsTree.mono_l : ∀ k, (∀ y0 y1 y2 y3, LeO (i_IsTree.j0 k y0 y1 y2 y3) (i_IsTree.j0 (k + 1) y0 y1 y2 y3)) ∧ (∀ y0 y1 y2 y3 y4 y5 y6, LeO (i_IsTree.l0 k y0 y1 y2 y3 y4 y5 y6) (i_IsTree.l0 (k + 1) y0 y1 y2 y3 y4 y5 y6)) ∧ (∀ y0 y1 y2 y3 y4 y5 y6 y7, LeO (i_IsTree.j2 k y0 y1 y2 y3 y4 y5 y6 y7) (i_IsTree.j2 (k + 1) y0 y1 y2 y3 y4 y5 y6 y7))
 | 0 => ⟨fun _ _ _ _ r h => by simp [i_IsTree.j0] at h, fun _ _ _ _ _ _ _ r h => by simp [i_IsTree.l0] at h, fun _ _ _ _ _ _ _ _ r h => by simp [i_IsTree.j2] at h⟩
 | k + 1 => by
  obtain ⟨ih0, ih1, ih2⟩ := i_IsTree.mono_l k
  refine ⟨?_, ?_, ?_⟩ <;> intros
  all_goals first | unfold i_IsTree.j0 | unfold i_IsTree.l0 | unfold i_IsTree.j2
  all_goals repeat' with_reducible first
  | exact ih0 _ _ _ _
  | exact ih1 _ _ _ _ _ _ _
  | exact ih2 _ _ _ _ _ _ _ _
  | exact i_LinksOf.mono _ _ _
  | exact i_indexOf.mono _ _ _
  | exact i_linkIndex.mono _ _ _ _ _
  | exact i_rooted.mono _ _ _ _
  | exact LeO.refl _
  | exact LeO.none _
  | refine LeO.ite ?_ ?_
  | refine LeO.bind ?_ (fun _ => ?_)
theorem i_IsTree.mono : ∀ a0 a1 a2 k, LeO (i_IsTree.f k a0 a1 a2) (i_IsTree.f (k + 1) a0 a1 a2) := by
 intro a0 a1 a2 k
 obtain ⟨ih0, ih1, ih2⟩ := i_IsTree.mono_l k
 unfold i_IsTree.f
 repeat' with_reducible first
 | exact ih0 _ _ _ _
 | exact ih1 _ _ _ _ _ _ _
 | exact ih2 _ _ _ _ _ _ _ _
 | exact i_LinksOf.mono _ _ _
 | exact i_indexOf.mono _ _ _
 | exact i_linkIndex.mono _ _ _ _ _
 | exact i_rooted.mono _ _ _ _
 | exact LeO.refl _
 | exact LeO.none _
 | refine LeO.ite ?_ ?_
 | refine LeO.bind ?_ (fun _ => ?_)
set_option maxRecDepth 100000 in
theorem i_IsTree.calls (k : Nat) (a0 : Int) (a1 : Int) (A2 : Option Addr) (c2 : Nat) (l2 : List (S50)) (r : Bool) (w : World) (hr2 : Kd.C k50 w A2 l2.length l2) (hc2 : l2.length ≤ c2) (h : i_IsTree.f k a0 a1 l2 = some r) :
  Calls Try.prog 77 #[.int .i64 a0, .int .i64 a1, .slice A2 l2.length c2] w fun e w' => e = .returned (.bool r) ∧ Below w.heap.size w w' := by
 have hu50 := Try.underlying50
 have HR2 := As.mk hr2
 have HC2 := As.mk hc2
 clear hr2 hc2
 have HB : Up w w := ⟨Below.refl _ _⟩
 have H : ((i_GridOk.f a0 a1).bind fun t160 => (if t160 = true then (i_IsTree.j0 k a0 a1 l2 ((l2.length : Int) != (wrap64 ((wrap64 (a0 * a1)) - 1)))) else (i_IsTree.j0 k a0 a1 l2 true))) = some r := h
 clear h
 have HC4 := As.mk H
 clear H
 go_enter Try.func77, Try.ntmps77
 go_upto_region 1 with (fail)
 go_cut [22] (fun v22 wc => ∃ (kq : Nat) (x22_3 : Bool), v22 = .bool x22_3 ∧ As (i_IsTree.j0 kq a0 a1 l2 x22_3 = some r) ∧ As (kq ≤ k) ∧ Up w wc)
 case first =>
  have H := HC4.out
  clear HC4
  obtain ⟨t160, A5, H⟩ := bI H
  replace H := bT H; rcases H with ⟨rfl, H⟩ | ⟨rfl, H⟩
  ·have H' := As.mk H
   clear H
   go_wp2_with (first | ((with_reducible refine gC 81 rfl ?_); refine goesL_ (some 12) rfl rfl Try.func81 (by kernel_rfl) rfl #[.int .i64 a0, .int .i64 a1] rfl (by (try simp only [sD, sE, sF]); first | done | rfl) ?_; (with_reducible refine (i_GridOk.calls a0 a1 true _ A5.out).mono ?_); rintro e w' ⟨rfl, ⟨nd, rfl⟩⟩; refine ⟨_, rfl, ?_⟩))
   go_meet
   case rel => exact ⟨_, (((l2.length : Int) != (wrap64 ((wrap64 (a0 * a1)) - 1)))), (by first | rfl | (simp; done) | (simp [*]; done)), H', ⟨by first | omega | exact Nat.le_refl _⟩, ⟨uw w⟩⟩
  ·have H' := As.mk H
   clear H
   go_wp2_with (first | ((with_reducible refine gC 81 rfl ?_); refine goesL_ (some 12) rfl rfl Try.func81 (by kernel_rfl) rfl #[.int .i64 a0, .int .i64 a1] rfl (by (try simp only [sD, sE, sF]); first | done | rfl) ?_; (with_reducible refine (i_GridOk.calls a0 a1 false _ A5.out).mono ?_); rintro e w' ⟨rfl, ⟨nd, rfl⟩⟩; refine ⟨_, rfl, ?_⟩))
   go_meet
   case rel => exact ⟨_, (true), (by first | rfl | (simp; done) | (simp [*]; done)), H', ⟨by first | omega | exact Nat.le_refl _⟩, ⟨uw w⟩⟩
 case rest =>
  clear HC4
  obtain ⟨kq, x22_3, rfl, HA, HJ3, HB⟩ := hcut
  cases kq with
  | zero => exact absurd HA.out (by simp [i_IsTree.j0])
  | succ kj3 =>
   have H := HA.out
   clear HA
   simp only [i_IsTree.j0] at H
   replace H := bT H; rcases H with ⟨rfl, H⟩ | ⟨rfl, H⟩
   ·obtain rfl := Option.some.inj H
    go_wp2
    go_ret
    exact ⟨by first | rfl | (simp [*, errW_none, errW_some] <;> rfl), uw w⟩
   ·obtain ⟨t161, A8, H⟩ := bI H
    have H' := As.mk H
    clear H
    go_wp2_with (first | ((with_reducible refine gC 82 rfl ?_); refine goesL_ (some 25) rfl rfl Try.func82 (by kernel_rfl) rfl #[.int .i64 a0, .int .i64 a1] rfl (by (try simp only [sD, sE, sF]); first | done | rfl) ?_; (with_reducible refine (i_LinksOf.calls kj3 a0 a1 t161 _ A8.out).mono ?_); rintro e w9 ⟨v162, rfl, ho0, hb⟩; refine ⟨_, rfl, ?_⟩; have := Stp.mk hb; have HO163 := As.mk (Kd.R_lower ho0 (below_size (uw w))); (try clear ho0)))
    go_loopg [28] kj3 (fun kq v28 w' => ∃ (x28_2 : Int), v28 = .int .i64 x28_2 ∧ As (i_IsTree.l0 kq a0 a1 l2 t161 l2 (l2.length : Int) x28_2 = some r) ∧ As (kq ≤ kj3) ∧ As (Kd.R k50 50 w' w.heap.size (fun _ => True) v162 t161) ∧ Up w w')
    case atStart => exact ⟨(0), (by first | rfl | (simp; done) | (simp [*]; done)), H', ⟨Nat.le_refl _⟩, ⟨rX HO163.out⟩, ⟨uw w⟩⟩
    case round =>
     clear H'
     try clear c7
     obtain ⟨x28_2, rfl, HA, HK2, HO_7, HB⟩ := hrel
     cases gk with
     | zero => exact absurd HA.out (by simp [i_IsTree.l0])
     | succ k2 =>
      have H := HA.out
      clear HA
      simp only [i_IsTree.l0] at H
      by_cases c10 : x28_2 < (l2.length : Int)
      ·rw [if_pos c10] at H
       have c10b0 : decide (x28_2 < (l2.length : Int)) = true := decide_eq_true c10
       clear c10
       by_cases c11 : 0 ≤ x28_2
       ·rw [if_pos c11] at H
        have c11b0 : decide (0 ≤ x28_2) = true := decide_eq_true c11
        clear c11
        by_cases c12 : x28_2 < (l2.length : Int)
        ·rw [if_pos c12] at H
         have c12b0 : decide (x28_2 < (l2.length : Int)) = true := decide_eq_true c12
         clear c12
         have HC13 := As.mk H
         clear H
         have p164 : 0 ≤ (x28_2 : Int) := oD
         have q164 : x28_2 < (l2.length : Int) := oD
         obtain ⟨ad164, e164, hx164_0, hx164_1, hx164_2⟩ := at_T50 HR2.out x28_2 p164 q164
         cases e164
         replace hx164_0 := cx wr hx164_0
         replace hx164_1 := cx wr hx164_1
         replace hx164_2 := cx wr hx164_2
         replace p164 := eq_true p164
         replace q164 := eq_true q164
         go_upto_region 7 with (first | ((with_reducible refine gD 9 rfl ?_); (try (refine gate_guard (by rfl) ?_; dsimp only)); refine bxE rfl #[.int .i64 0, .int .i64 0, .bool false] 50 ?_ ?_; (focus first | (go_simp; done) | (go_simp; rfl)); intro gb165 _ w14 sb _; have hb := sb.out; have hg := nw gb165; have hbox := bk gb165 (w := w14); replace HO_7 := As.mk (Kd.R_below (Kd.R_elderB (rX HO_7.out) gb165 (Nat.le_of_eq hg.symm)) hb); clear hb hg hbox))
         (try simp only [Act.put, List.setIfInBounds_toArray, List.set_cons_zero, List.set_cons_succ])
         go_cut [43] (fun v43 wc => ∃ (kq : Nat) (x43_12 : Bool), v43 = .bool x43_12 ∧ As (i_IsTree.j2 kq a0 a1 l2 t161 l2 (l2.length : Int) x28_2 x43_12 = some r) ∧ As (kq ≤ k2) ∧ As (Kd.R k50 50 wc w.heap.size (fun k_ => k_ ≠ gb165) v162 t161) ∧ Bk wc gb165 (.cells #[.int .i64 ((rd_T50 l2 x28_2).f0), .int .i64 ((rd_T50 l2 x28_2).f1), .bool ((rd_T50 l2 x28_2).f2)] 50 (0, 0)) ∧ Up w wc)
         case first =>
          have H := HC13.out
          clear HC13
          obtain ⟨t166, A16, H⟩ := bI H
          by_cases c17 : t166 < 0
          ·rw [if_pos c17] at H
           have c17b0 : decide (t166 < 0) = true := decide_eq_true c17
           clear c17
           (first | rw [c17b0] | (simp only [i64_w, i32_w]; rw [c17b0]) | skip)
           have H' := As.mk H
           clear H
           obtain ⟨Ao19, co19, eo19⟩ := Kd.R_slice HO_7.out
           subst eo19
           go_wp2_with (first | ((with_reducible refine gC 135 rfl ?_); refine goesL_ (some 35) rfl rfl Try.func135 (by kernel_rfl) rfl #[.slice Ao19 t161.length co19, .agg #[.int .i64 ((rd_T50 l2 x28_2).f0), .int .i64 ((rd_T50 l2 x28_2).f1), .bool ((rd_T50 l2 x28_2).f2)]] rfl (by (try simp only [sD, sE, sF]); first | done | rfl) ?_; (with_reducible refine (i_linkIndex.calls k2 _ _ t161 ((rd_T50 l2 x28_2).f0) ((rd_T50 l2 x28_2).f1) ((rd_T50 l2 x28_2).f2) t166 _ ?side1 ?side2 A16.out).mono ?_); (case side1 => refine (Kd.R_reads' (e := 50) (base := w.heap.size) (ok := fun k_ => (True ∧ k_ ≠ gb165)) (n := t161.length) (c := co19) ?_).2.2; exact (by (with_reducible repeat (first | apply Kd.R_alloc | apply Kd.R_drewN | apply Kd.R_drew)); exact (Kd.R_mono (Kd.R_far (p := ⟨gb165, 2, none⟩) (Kd.R_far (p := ⟨gb165, 1, none⟩) (Kd.R_far (p := ⟨gb165, 0, none⟩) (Kd.R_mono HO_7.out (fun k_ hk => (⟨hk, hk.2⟩ : _ ∧ k_ ≠ gb165))) (fun _ hk => hk.2) (.int .i64 ((rd_T50 l2 x28_2).f0))) (fun _ hk => hk.2) (.int .i64 ((rd_T50 l2 x28_2).f1))) (fun _ hk => hk.2) (.bool ((rd_T50 l2 x28_2).f2))) (fun _ h_ => h_.1)))); (case side2 => exact (Kd.R_reads' HO_7.out).2.1); rintro e w20 ⟨rfl, hb⟩; refine ⟨_, rfl, ?_⟩; have := Stp.mk hb; replace HO_7 := As.mk (Kd.R_below (by (with_reducible repeat (first | apply Kd.R_alloc | apply Kd.R_drewN | apply Kd.R_drew)); exact (Kd.R_mono (Kd.R_far (p := ⟨gb165, 2, none⟩) (Kd.R_far (p := ⟨gb165, 1, none⟩) (Kd.R_far (p := ⟨gb165, 0, none⟩) (Kd.R_mono HO_7.out (fun k_ hk => (⟨hk, hk.2⟩ : _ ∧ k_ ≠ gb165))) (fun _ hk => hk.2) (.int .i64 ((rd_T50 l2 x28_2).f0))) (fun _ hk => hk.2) (.int .i64 ((rd_T50 l2 x28_2).f1))) (fun _ hk => hk.2) (.bool ((rd_T50 l2 x28_2).f2))) (fun _ h_ => h_.1))) hb)))
           go_meet
           case rel => exact ⟨_, (true), (by first | rfl | (simp; done) | (simp [*]; done)), H', ⟨by have := HJ3.out; have := HK2.out; first | omega | exact Nat.le_refl _⟩, ⟨by (with_reducible repeat (first | apply Kd.R_alloc | apply Kd.R_drewN | apply Kd.R_drew)); exact Kd.R_mono HO_7.out (fun _ hk => hk.2)⟩, bM (by rfl), ⟨uw w⟩⟩
          ·rw [if_neg c17] at H
           have c17b0 : decide (t166 < 0) = false := decide_eq_false c17
           clear c17
           (first | rw [c17b0] | (simp only [i64_w, i32_w]; rw [c17b0]) | skip)
           obtain ⟨t167, A21, H⟩ := bI H
           have H' := As.mk H
           clear H
           obtain ⟨Ao23, co23, eo23⟩ := Kd.R_slice HO_7.out
           subst eo23
           go_wp2_with (first | ((with_reducible refine gC 135 rfl ?_); refine goesL_ (some 35) rfl rfl Try.func135 (by kernel_rfl) rfl #[.slice Ao23 t161.length co23, .agg #[.int .i64 ((rd_T50 l2 x28_2).f0), .int .i64 ((rd_T50 l2 x28_2).f1), .bool ((rd_T50 l2 x28_2).f2)]] rfl (by (try simp only [sD, sE, sF]); first | done | rfl) ?_; (with_reducible refine (i_linkIndex.calls k2 _ _ t161 ((rd_T50 l2 x28_2).f0) ((rd_T50 l2 x28_2).f1) ((rd_T50 l2 x28_2).f2) t166 _ ?side1 ?side2 A16.out).mono ?_); (case side1 => refine (Kd.R_reads' (e := 50) (base := w.heap.size) (ok := fun k_ => (True ∧ k_ ≠ gb165)) (n := t161.length) (c := co23) ?_).2.2; exact (by (with_reducible repeat (first | apply Kd.R_alloc | apply Kd.R_drewN | apply Kd.R_drew)); exact (Kd.R_mono (Kd.R_far (p := ⟨gb165, 2, none⟩) (Kd.R_far (p := ⟨gb165, 1, none⟩) (Kd.R_far (p := ⟨gb165, 0, none⟩) (Kd.R_mono HO_7.out (fun k_ hk => (⟨hk, hk.2⟩ : _ ∧ k_ ≠ gb165))) (fun _ hk => hk.2) (.int .i64 ((rd_T50 l2 x28_2).f0))) (fun _ hk => hk.2) (.int .i64 ((rd_T50 l2 x28_2).f1))) (fun _ hk => hk.2) (.bool ((rd_T50 l2 x28_2).f2))) (fun _ h_ => h_.1)))); (case side2 => exact (Kd.R_reads' HO_7.out).2.1); rintro e w24 ⟨rfl, hb⟩; refine ⟨_, rfl, ?_⟩; have := Stp.mk hb; replace HO_7 := As.mk (Kd.R_below (by (with_reducible repeat (first | apply Kd.R_alloc | apply Kd.R_drewN | apply Kd.R_drew)); exact (Kd.R_mono (Kd.R_far (p := ⟨gb165, 2, none⟩) (Kd.R_far (p := ⟨gb165, 1, none⟩) (Kd.R_far (p := ⟨gb165, 0, none⟩) (Kd.R_mono HO_7.out (fun k_ hk => (⟨hk, hk.2⟩ : _ ∧ k_ ≠ gb165))) (fun _ hk => hk.2) (.int .i64 ((rd_T50 l2 x28_2).f0))) (fun _ hk => hk.2) (.int .i64 ((rd_T50 l2 x28_2).f1))) (fun _ hk => hk.2) (.bool ((rd_T50 l2 x28_2).f2))) (fun _ h_ => h_.1))) hb)) | (go_at_call 135; (with_reducible refine (i_linkIndex.calls k2 _ _ l2 ((rd_T50 l2 x28_2).f0) ((rd_T50 l2 x28_2).f1) ((rd_T50 l2 x28_2).f2) t167 _ ?side1 ?side2 A21.out).mono ?_); (case side1 => exact (Kd.C_below HR2.out (uw w))); (case side2 => exact HC2.out); rintro e w26 ⟨rfl, hb⟩; have := Stp.mk hb; replace HO_7 := hB HO_7 hb))
           go_meet
           case rel => exact ⟨_, ((t167 != x28_2)), (by first | rfl | (simp; done) | (simp [*]; done)), H', ⟨by have := HJ3.out; have := HK2.out; first | omega | exact Nat.le_refl _⟩, ⟨by (with_reducible repeat (first | apply Kd.R_alloc | apply Kd.R_drewN | apply Kd.R_drew)); exact Kd.R_mono HO_7.out (fun _ hk => hk.2)⟩, bM (by rfl), ⟨uw w⟩⟩
         case rest =>
          clear HC13
          try clear c7
          try clear c10
          try clear c10b0
          try clear c11
          try clear c11b0
          try clear c12
          try clear c12b0
          try clear hx164_0
          try clear hx164_1
          try clear hx164_2
          try clear p164
          try clear q164
          obtain ⟨kq, x43_12, rfl, HA, HJ12, HO_7, BK165, HB⟩ := hcut
          cases kq with
          | zero => exact absurd HA.out (by simp [i_IsTree.j2])
          | succ kj12 =>
           have H := HA.out
           clear HA
           simp only [i_IsTree.j2] at H
           replace H := bT H; rcases H with ⟨rfl, H⟩ | ⟨rfl, H⟩
           ·obtain rfl := Option.some.inj H
            go_wp2
            go_ret
            exact ⟨by first | rfl | (simp [*, errW_none, errW_some] <;> rfl), uw w⟩
           ·have H' := As.mk H
            clear H
            go_wp2
            go_roundg kj12
            case measure => have := HJ3.out; have := HK2.out; have := HJ12.out; omega
            case rel => exact ⟨(wrap64 (x28_2 + 1)), (by first | rfl | (simp; done) | (simp [*]; done)), H', ⟨by have := HJ3.out; have := HK2.out; have := HJ12.out; omega⟩, ⟨by (with_reducible repeat (first | apply Kd.R_alloc | apply Kd.R_drewN | apply Kd.R_drew)); exact Kd.R_mono HO_7.out (fun _ hk => trivial)⟩, ⟨uw w⟩⟩
        ·rw [if_neg c12] at H
         exact absurd H (by simp)
       ·rw [if_neg c11] at H
        exact absurd H (by simp)
      ·rw [if_neg c10] at H
       have c10b0 : decide (x28_2 < (l2.length : Int)) = false := decide_eq_false c10
       clear c10
       obtain ⟨t168, A28, H⟩ := bI H
       obtain ⟨t171, A29, H⟩ := bI H
       obtain rfl := Option.some.inj H
       go_wp2_with (first | ((with_reducible refine gC 78 rfl ?_); refine goesL_ (some 48) rfl rfl Try.func78 (by kernel_rfl) rfl #[.int .i64 a0, .int .i64 a1, .slice A2 l2.length c2] rfl (by (try simp only [sD, sE, sF]); first | done | rfl) ?_; (with_reducible refine (i_rooted.calls k2 a0 a1 _ _ l2 t168 _ ?side1 ?side2 A28.out).mono ?_); (case side1 => exact (Kd.C_below HR2.out (uw w))); (case side2 => exact HC2.out); rintro e w30 ⟨v169, rfl, ho0, hb⟩; refine ⟨_, rfl, ?_⟩; have := Stp.mk hb; replace HO_7 := hB HO_7 hb; have HO170 := As.mk (Kd.R_lower ho0 (below_size (uw w))); (try clear ho0); obtain ⟨Ao31, co31, eo31⟩ := Kd.R_slice HO170.out; subst eo31) | ((with_reducible refine gC 136 rfl ?_); refine goesL_ (some 49) rfl rfl Try.func136 (by kernel_rfl) rfl #[.slice Ao31 t168.length co31, .int .i64 (-1)] rfl (by (try simp only [sD, sE, sF]); first | done | rfl) ?_; (with_reducible refine (i_indexOf.calls k2 _ _ t168 (-1) t171 _ ?side1 ?side2 A29.out).mono ?_); (case side1 => repeat (first | exact (Kd.R_reads' HO170.out).2.2 | (with_reducible refine Kd.C_alloc ?_ _) | (with_reducible refine Kd.C_drewN ?_ _) | (with_reducible refine Kd.C_drew ?_))); (case side2 => exact (Kd.R_reads' HO170.out).2.1); rintro e w' ⟨rfl, ⟨nd, rfl⟩⟩; refine ⟨_, rfl, ?_⟩))
       go_ret
       exact ⟨by first | rfl | (simp [*, errW_none, errW_some] <;> rfl), uw w⟩
def i_size.f (a0 : Int) : Option (Int) := some (mx a0 (wrap64 (-a0)))
set_option maxRecDepth 100000 in
theorem i_size.calls (a0 : Int) (r : Int) (w : World) (h : i_size.f a0 = some r) :
  Calls Try.prog 162 #[.int .i64 a0] w fun e w' => e = .returned (.int .i64 r) ∧ Below w.heap.size w w' := by
 have HB : Up w w := ⟨Below.refl _ _⟩
 have H : (some (mx a0 (wrap64 (-a0)))) = some r := h
 clear h
 obtain ⟨ji2, hji2⟩ : ∃ j_ : Int, (mx a0 (wrap64 (-a0))) = j_ := ⟨_, rfl⟩
 replace H : (some ji2) = some r := by first | (rw [hji2] at H; exact H) | (simp only [hji2] at H ⊢; exact H)
 have hji2_ : (if a0 < (wrap64 (-a0)) then (wrap64 (-a0)) else a0) = ji2 := hji2
 obtain rfl := Option.some.inj H
 go_enter Try.func162, Try.ntmps162
 go_wp2
 go_ret
 exact ⟨by first | rfl | (simp [errW_none, errW_some] <;> rfl) | (simp only [← hji2]; first | rfl | (simp [errW_none, errW_some] <;> rfl)) | (simp [*, errW_none, errW_some] <;> rfl), uw w⟩
def i_AreNeighbors.f (a0_0 : Int) (a0_1 : Int) (a1_0 : Int) (a1_1 : Int) : Option (Bool) := (i_CellOk.f a0_0 a0_1).bind fun t174 => (if t174 = true then ((i_CellOk.f a1_0 a1_1).bind fun t175 => (if t175 = true then ((i_size.f (wrap64 (a0_0 - a1_0))).bind fun t176 => ((i_size.f (wrap64 (a0_1 - a1_1))).bind fun t177 => (some ((wrap64 (t176 + t177)) == 1)))) else (some false))) else (some false))
def i_AreNeighbors.T1 : Bool × List (List Nat × List Nat) := (true, [([], []), ([0], [0]), ([1, 1], [1]), ([2], [2]), ([3, 2, 2], [2, 3]), ([2, 4], [2, 4]), ([5, 4], [5]), ([6], [6]), ([7, 6], [6, 7]), ([6], [6]), ([9, 6], [6, 9]), ([8, 10, 6], [6, 8, 10]), ([11, 6, 6], [6, 11]), ([6], [6]), ([13, 6], [6, 13]), ([6], [6]), ([15, 6], [6, 15]), ([14, 16, 6], [6, 14, 16]), ([17, 12, 6], [6, 17]), ([12, 18, 6], [6, 12, 18]), ([19, 6], [6, 19]), ([6, 20], [6, 20]), ([21, 18, 0, 1, 2, 3, 4, 5, 6, 7, 8, 9, 10, 11, 12, 13, 14, 15, 16, 17, 18, 19, 20, 21], [21])])
def i_AreNeighbors.B1 : List Nat := [0, 1, 3, 7, 15, 31, 63, 127, 255, 127, 639, 2047, 4095, 127, 8319, 127, 32895, 123007, 262143, 524287, 1048575, 2097151, 4194303]
theorem i_AreNeighbors.tab1 : rtab .any (opsOf Try.f138 1) = i_AreNeighbors.T1 := by kernel_rfl
theorem i_AreNeighbors.bits1 : waitsOk i_AreNeighbors.T1.2 i_AreNeighbors.B1 = true := by kernel_rfl
set_option maxRecDepth 100000 in
theorem i_AreNeighbors.calls (a0_0 : Int) (a0_1 : Int) (a1_0 : Int) (a1_1 : Int) (r : Bool) (w : World) (h : i_AreNeighbors.f a0_0 a0_1 a1_0 a1_1 = some r) :
  Calls Try.prog 138 #[.agg #[.int .i64 a0_0, .int .i64 a0_1], .agg #[.int .i64 a1_0, .int .i64 a1_1]] w fun e w' => e = .returned (.bool r) ∧ Below w.heap.size w w' := by
 have hu39 := Try.underlying39
 have HB : Up w w := ⟨Below.refl _ _⟩
 have H : ((i_CellOk.f a0_0 a0_1).bind fun t174 => (if t174 = true then ((i_CellOk.f a1_0 a1_1).bind fun t175 => (if t175 = true then ((i_size.f (wrap64 (a0_0 - a1_0))).bind fun t176 => ((i_size.f (wrap64 (a0_1 - a1_1))).bind fun t177 => (some ((wrap64 (t176 + t177)) == 1)))) else (some false))) else (some false))) = some r := h
 clear h
 obtain ⟨t174, A3, H⟩ := bI H
 replace H := bT H; rcases H with ⟨rfl, H⟩ | ⟨rfl, H⟩
 ·obtain ⟨t175, A5, H⟩ := bI H
  replace H := bT H; rcases H with ⟨rfl, H⟩ | ⟨rfl, H⟩
  ·obtain ⟨t176, A7, H⟩ := bI H
   obtain ⟨t177, A8, H⟩ := bI H
   obtain rfl := Option.some.inj H
   go_enter Try.func138, Try.ntmps138
   try go_wp2_with (first | ((with_reducible refine gD 2 rfl ?_); refine bxE rfl #[.int .i64 a0_0, .int .i64 a0_1] 39 ?_ ?_; (focus first | (go_simp; done) | (go_simp; rfl)); intro gb172 _ w9 _ _) | ((with_reducible refine gD 3 rfl ?_); refine bxE rfl #[.int .i64 a1_0, .int .i64 a1_1] 39 ?_ ?_; (focus first | (go_simp; done) | (go_simp; rfl)); intro gb173 _ w10 _ _))
   refine sV [(0,5),(1,6),(2,7),(3,8),(4,9),(5,10),(6,11),(7,12),(9,14),(13,18),(15,20),(8,13),(10,15),(11,16),(14,19),(16,21),(17,22),(12,17),(18,23),(19,24),(20,25),(21,26),(22,4)] (fun w' => w'.cell? ⟨gb172, 0, none⟩ = some (.int .i64 a0_0) ∧ w'.cell? ⟨gb172, 1, none⟩ = some (.int .i64 a0_1) ∧ w'.cell? ⟨gb173, 0, none⟩ = some (.int .i64 a1_0) ∧ w'.cell? ⟨gb173, 1, none⟩ = some (.int .i64 a1_1)) [] (by kernel_rfl) rfl ⟨cl gb172 0 (by rfl), cl gb172 1 (by rfl), cl gb173 0 (by rfl), cl gb173 1 (by rfl)⟩ (fun hHeld => ?_); refine wTW i_AreNeighbors.tab1 i_AreNeighbors.bits1 (fun HT_ HW_ => ?_)
   have hd_ := stD w10
   generalize w10.drew = w11 at hd_ hHeld ⊢
   refine tV rfl rfl (take_ofW HT_.out HW_.out (by kernel_rfl)) (by rfl) (fun _ _ _ _ h => h) hHeld ⟨_, fun w' s => by go_simp; with_reducible rfl, _, by simp only [Act.put, sA, sB, sC, i64_w, i32_w]; rfl, ?_⟩
   refine oV (N := some 6) rfl rfl (one_of HT_.out (by kernel_rfl)) (by decide) (fun K hK => ?_)
   refine goes_ Try.func130 (by kernel_rfl) rfl #[.agg #[.int .i64 a0_0, .int .i64 a0_1]] (by rfl) rfl rfl (by (try simp only [sD, sE, sF]); first | done | rfl) ?_
   with_reducible refine (i_CellOk.calls a0_0 a0_1 true _ A3.out).mono ?_
   rintro e w12 ⟨rfl, hb⟩
   refine ⟨_, rfl, ?_⟩
   have := Stp.mk hb
   refine hK.out _ _ ⟨cl gb172 0 (by rfl), cl gb172 1 (by rfl), cl gb173 0 (by rfl), cl gb173 1 (by rfl)⟩ (fun hHeld => ?_)
   clear hK K
   refine nV ⟨_, by show Act.put _ (some 6) _ = _; simp only [Act.put, sA, sB, sC, i64_w, i32_w]; rfl, ?_⟩
   refine pV rfl rfl (any_of HT_.out (by kernel_rfl)) (by rfl) (fun _ _ _ _ h => h) ⟨_, fun w' => by go_simp; with_reducible rfl, _, by simp only [Act.put, sA, sB, sC, i64_w, i32_w]; rfl, ?_⟩
   refine tV rfl rfl (take_ofW HT_.out HW_.out (by kernel_rfl)) (by rfl) (fun _ _ _ _ h => h) hHeld ⟨_, fun w' s => by go_simp; with_reducible rfl, _, by simp only [Act.put, sA, sB, sC, i64_w, i32_w]; rfl, ?_⟩
   refine oV (N := some 9) rfl rfl (one_of HT_.out (by kernel_rfl)) (by decide) (fun K hK => ?_)
   refine goes_ Try.func130 (by kernel_rfl) rfl #[.agg #[.int .i64 a1_0, .int .i64 a1_1]] (by rfl) rfl rfl (by (try simp only [sD, sE, sF]); first | done | rfl) ?_
   with_reducible refine (i_CellOk.calls a1_0 a1_1 true _ A5.out).mono ?_
   rintro e w13 ⟨rfl, hb⟩
   refine ⟨_, rfl, ?_⟩
   have := Stp.mk hb
   refine hK.out _ _ ⟨cl gb172 0 (by rfl), cl gb172 1 (by rfl), cl gb173 0 (by rfl), cl gb173 1 (by rfl)⟩ (fun hHeld => ?_)
   clear hK K
   refine nV ⟨_, by show Act.put _ (some 9) _ = _; simp only [Act.put, sA, sB, sC, i64_w, i32_w]; rfl, ?_⟩
   iterate 6 refine pV rfl rfl (any_of HT_.out (by kernel_rfl)) (by rfl) (fun _ _ _ _ h => h) ⟨_, fun w' => by go_simp; with_reducible rfl, _, by simp only [Act.put, sA, sB, sC, i64_w, i32_w]; rfl, ?_⟩
   iterate 2 refine tV rfl rfl (take_ofW HT_.out HW_.out (by kernel_rfl)) (by rfl) (fun _ _ _ _ h => h) hHeld ⟨_, fun w' s => by go_simp; with_reducible rfl, _, by simp only [Act.put, sA, sB, sC, i64_w, i32_w]; rfl, ?_⟩
   refine pV rfl rfl (any_of HT_.out (by kernel_rfl)) (by rfl) (fun _ _ _ _ h => h) ⟨_, fun w' => by go_simp; with_reducible rfl, _, by simp only [Act.put, sA, sB, sC, i64_w, i32_w]; rfl, ?_⟩
   iterate 2 refine tV rfl rfl (take_ofW HT_.out HW_.out (by kernel_rfl)) (by rfl) (fun _ _ _ _ h => h) hHeld ⟨_, fun w' s => by go_simp; with_reducible rfl, _, by simp only [Act.put, sA, sB, sC, i64_w, i32_w]; rfl, ?_⟩
   refine pV rfl rfl (any_of HT_.out (by kernel_rfl)) (by rfl) (fun _ _ _ _ h => h) ⟨_, fun w' => by go_simp; with_reducible rfl, _, by simp only [Act.put, sA, sB, sC, i64_w, i32_w]; rfl, ?_⟩
   refine oV (N := some 17) rfl rfl (one_of HT_.out (by kernel_rfl)) (by decide) (fun K hK => ?_)
   refine goes_ Try.func162 (by kernel_rfl) rfl #[.int .i64 (wrap64 (a0_0 - a1_0))] (by rfl) rfl rfl (by (try simp only [sD, sE, sF]); first | done | rfl) ?_
   with_reducible refine (i_size.calls (wrap64 (a0_0 - a1_0)) t176 _ A7.out).mono ?_
   rintro e w14 ⟨rfl, hb⟩
   refine ⟨_, rfl, ?_⟩
   have := Stp.mk hb
   refine hK.out _ _ ⟨cl gb172 0 (by rfl), cl gb172 1 (by rfl), cl gb173 0 (by rfl), cl gb173 1 (by rfl)⟩ (fun hHeld => ?_)
   clear hK K
   refine nV ⟨_, by show Act.put _ (some 17) _ = _; simp only [Act.put, sA, sB, sC, i64_w, i32_w]; rfl, ?_⟩
   refine oV (N := some 23) rfl rfl (one_of HT_.out (by kernel_rfl)) (by decide) (fun K hK => ?_)
   refine goes_ Try.func162 (by kernel_rfl) rfl #[.int .i64 (wrap64 (a0_1 - a1_1))] (by rfl) rfl rfl (by (try simp only [sD, sE, sF]); first | done | rfl) ?_
   with_reducible refine (i_size.calls (wrap64 (a0_1 - a1_1)) t177 _ A8.out).mono ?_
   rintro e w15 ⟨rfl, hb⟩
   refine ⟨_, rfl, ?_⟩
   have := Stp.mk hb
   refine hK.out _ _ ⟨cl gb172 0 (by rfl), cl gb172 1 (by rfl), cl gb173 0 (by rfl), cl gb173 1 (by rfl)⟩ (fun hHeld => ?_)
   clear hK K
   refine nV ⟨_, by show Act.put _ (some 23) _ = _; simp only [Act.put, sA, sB, sC, i64_w, i32_w]; rfl, ?_⟩
   iterate 4 refine pV rfl rfl (any_of HT_.out (by kernel_rfl)) (by rfl) (fun _ _ _ _ h => h) ⟨_, fun w' => by go_simp; with_reducible rfl, _, by simp only [Act.put, sA, sB, sC, i64_w, i32_w]; rfl, ?_⟩
   refine dV (done_of HT_.out (by kernel_rfl)) ?_
   try go_wp2
   go_ret
   exact ⟨by first | rfl | (simp [*, errW_none, errW_some] <;> rfl), uw w⟩
  ·obtain rfl := Option.some.inj H
   go_enter Try.func138, Try.ntmps138
   try go_wp2_with (first | ((with_reducible refine gD 2 rfl ?_); refine bxE rfl #[.int .i64 a0_0, .int .i64 a0_1] 39 ?_ ?_; (focus first | (go_simp; done) | (go_simp; rfl)); intro gb172 _ w16 _ _) | ((with_reducible refine gD 3 rfl ?_); refine bxE rfl #[.int .i64 a1_0, .int .i64 a1_1] 39 ?_ ?_; (focus first | (go_simp; done) | (go_simp; rfl)); intro gb173 _ w17 _ _))
   refine sV [(0,5),(1,6),(2,7),(3,8),(4,9),(5,10),(6,11),(7,12),(8,13),(9,14),(10,15),(11,16),(12,17),(13,18),(14,19),(15,20),(16,21),(17,22),(18,23),(19,24),(20,25),(21,26),(22,4)] (fun w' => w'.cell? ⟨gb172, 0, none⟩ = some (.int .i64 a0_0) ∧ w'.cell? ⟨gb172, 1, none⟩ = some (.int .i64 a0_1) ∧ w'.cell? ⟨gb173, 0, none⟩ = some (.int .i64 a1_0) ∧ w'.cell? ⟨gb173, 1, none⟩ = some (.int .i64 a1_1)) [] (by kernel_rfl) rfl ⟨cl gb172 0 (by rfl), cl gb172 1 (by rfl), cl gb173 0 (by rfl), cl gb173 1 (by rfl)⟩ (fun hHeld => ?_); refine wTW i_AreNeighbors.tab1 i_AreNeighbors.bits1 (fun HT_ HW_ => ?_)
   have hd_ := stD w17
   generalize w17.drew = w18 at hd_ hHeld ⊢
   refine tV rfl rfl (take_ofW HT_.out HW_.out (by kernel_rfl)) (by rfl) (fun _ _ _ _ h => h) hHeld ⟨_, fun w' s => by go_simp; with_reducible rfl, _, by simp only [Act.put, sA, sB, sC, i64_w, i32_w]; rfl, ?_⟩
   refine oV (N := some 6) rfl rfl (one_of HT_.out (by kernel_rfl)) (by decide) (fun K hK => ?_)
   refine goes_ Try.func130 (by kernel_rfl) rfl #[.agg #[.int .i64 a0_0, .int .i64 a0_1]] (by rfl) rfl rfl (by (try simp only [sD, sE, sF]); first | done | rfl) ?_
   with_reducible refine (i_CellOk.calls a0_0 a0_1 true _ A3.out).mono ?_
   rintro e w19 ⟨rfl, hb⟩
   refine ⟨_, rfl, ?_⟩
   have := Stp.mk hb
   refine hK.out _ _ ⟨cl gb172 0 (by rfl), cl gb172 1 (by rfl), cl gb173 0 (by rfl), cl gb173 1 (by rfl)⟩ (fun hHeld => ?_)
   clear hK K
   refine nV ⟨_, by show Act.put _ (some 6) _ = _; simp only [Act.put, sA, sB, sC, i64_w, i32_w]; rfl, ?_⟩
   refine pV rfl rfl (any_of HT_.out (by kernel_rfl)) (by rfl) (fun _ _ _ _ h => h) ⟨_, fun w' => by go_simp; with_reducible rfl, _, by simp only [Act.put, sA, sB, sC, i64_w, i32_w]; rfl, ?_⟩
   refine tV rfl rfl (take_ofW HT_.out HW_.out (by kernel_rfl)) (by rfl) (fun _ _ _ _ h => h) hHeld ⟨_, fun w' s => by go_simp; with_reducible rfl, _, by simp only [Act.put, sA, sB, sC, i64_w, i32_w]; rfl, ?_⟩
   refine oV (N := some 9) rfl rfl (one_of HT_.out (by kernel_rfl)) (by decide) (fun K hK => ?_)
   refine goes_ Try.func130 (by kernel_rfl) rfl #[.agg #[.int .i64 a1_0, .int .i64 a1_1]] (by rfl) rfl rfl (by (try simp only [sD, sE, sF]); first | done | rfl) ?_
   with_reducible refine (i_CellOk.calls a1_0 a1_1 false _ A5.out).mono ?_
   rintro e w20 ⟨rfl, hb⟩
   refine ⟨_, rfl, ?_⟩
   have := Stp.mk hb
   refine hK.out _ _ ⟨cl gb172 0 (by rfl), cl gb172 1 (by rfl), cl gb173 0 (by rfl), cl gb173 1 (by rfl)⟩ (fun hHeld => ?_)
   clear hK K
   refine nV ⟨_, by show Act.put _ (some 9) _ = _; simp only [Act.put, sA, sB, sC, i64_w, i32_w]; rfl, ?_⟩
   iterate 2 refine pV rfl rfl (any_of HT_.out (by kernel_rfl)) (by rfl) (fun _ _ _ _ h => h) ⟨_, fun w' => by go_simp; with_reducible rfl, _, by simp only [Act.put, sA, sB, sC, i64_w, i32_w]; rfl, ?_⟩
   iterate 14 refine fV rfl rfl (any_of HT_.out (by kernel_rfl)) (by rfl) (fun _ _ _ _ h => h) ⟨_, by simp only [Act.put, sA, sB, sC, i64_w, i32_w]; rfl, ?_⟩
   iterate 2 refine pV rfl rfl (any_of HT_.out (by kernel_rfl)) (by rfl) (fun _ _ _ _ h => h) ⟨_, fun w' => by go_simp; with_reducible rfl, _, by simp only [Act.put, sA, sB, sC, i64_w, i32_w]; rfl, ?_⟩
   refine dV (done_of HT_.out (by kernel_rfl)) ?_
   try go_wp2
   go_ret
   exact ⟨by first | rfl | (simp [*, errW_none, errW_some] <;> rfl), uw w⟩
 ·obtain rfl := Option.some.inj H
  go_enter Try.func138, Try.ntmps138
  try go_wp2_with (first | ((with_reducible refine gD 2 rfl ?_); refine bxE rfl #[.int .i64 a0_0, .int .i64 a0_1] 39 ?_ ?_; (focus first | (go_simp; done) | (go_simp; rfl)); intro gb172 _ w21 _ _) | ((with_reducible refine gD 3 rfl ?_); refine bxE rfl #[.int .i64 a1_0, .int .i64 a1_1] 39 ?_ ?_; (focus first | (go_simp; done) | (go_simp; rfl)); intro gb173 _ w22 _ _))
  refine sV [(0,5),(1,6),(2,7),(3,8),(4,9),(5,10),(6,11),(7,12),(8,13),(9,14),(10,15),(11,16),(12,17),(13,18),(14,19),(15,20),(16,21),(17,22),(18,23),(19,24),(20,25),(21,26),(22,4)] (fun w' => w'.cell? ⟨gb172, 0, none⟩ = some (.int .i64 a0_0) ∧ w'.cell? ⟨gb172, 1, none⟩ = some (.int .i64 a0_1)) [] (by kernel_rfl) rfl ⟨cl gb172 0 (by rfl), cl gb172 1 (by rfl)⟩ (fun hHeld => ?_); refine wTW i_AreNeighbors.tab1 i_AreNeighbors.bits1 (fun HT_ HW_ => ?_)
  have hd_ := stD w22
  generalize w22.drew = w23 at hd_ hHeld ⊢
  refine tV rfl rfl (take_ofW HT_.out HW_.out (by kernel_rfl)) (by rfl) (fun _ _ _ _ h => h) hHeld ⟨_, fun w' s => by go_simp; with_reducible rfl, _, by simp only [Act.put, sA, sB, sC, i64_w, i32_w]; rfl, ?_⟩
  refine oV (N := some 6) rfl rfl (one_of HT_.out (by kernel_rfl)) (by decide) (fun K hK => ?_)
  refine goes_ Try.func130 (by kernel_rfl) rfl #[.agg #[.int .i64 a0_0, .int .i64 a0_1]] (by rfl) rfl rfl (by (try simp only [sD, sE, sF]); first | done | rfl) ?_
  with_reducible refine (i_CellOk.calls a0_0 a0_1 false _ A3.out).mono ?_
  rintro e w24 ⟨rfl, hb⟩
  refine ⟨_, rfl, ?_⟩
  have := Stp.mk hb
  refine hK.out _ _ ⟨cl gb172 0 (by rfl), cl gb172 1 (by rfl)⟩ (fun hHeld => ?_)
  clear hK K
  refine nV ⟨_, by show Act.put _ (some 6) _ = _; simp only [Act.put, sA, sB, sC, i64_w, i32_w]; rfl, ?_⟩
  refine pV rfl rfl (any_of HT_.out (by kernel_rfl)) (by rfl) (fun _ _ _ _ h => h) ⟨_, fun w' => by go_simp; with_reducible rfl, _, by simp only [Act.put, sA, sB, sC, i64_w, i32_w]; rfl, ?_⟩
  iterate 2 refine fV rfl rfl (any_of HT_.out (by kernel_rfl)) (by rfl) (fun _ _ _ _ h => h) ⟨_, by simp only [Act.put, sA, sB, sC, i64_w, i32_w]; rfl, ?_⟩
  iterate 2 refine pV rfl rfl (any_of HT_.out (by kernel_rfl)) (by rfl) (fun _ _ _ _ h => h) ⟨_, fun w' => by go_simp; with_reducible rfl, _, by simp only [Act.put, sA, sB, sC, i64_w, i32_w]; rfl, ?_⟩
  iterate 14 refine fV rfl rfl (any_of HT_.out (by kernel_rfl)) (by rfl) (fun _ _ _ _ h => h) ⟨_, by simp only [Act.put, sA, sB, sC, i64_w, i32_w]; rfl, ?_⟩
  iterate 2 refine pV rfl rfl (any_of HT_.out (by kernel_rfl)) (by rfl) (fun _ _ _ _ h => h) ⟨_, fun w' => by go_simp; with_reducible rfl, _, by simp only [Act.put, sA, sB, sC, i64_w, i32_w]; rfl, ?_⟩
  refine dV (done_of HT_.out (by kernel_rfl)) ?_
  try go_wp2
  go_ret
  exact ⟨by first | rfl | (simp [*, errW_none, errW_some] <;> rfl), uw w⟩
def i_DominoOver.f (a0_0 : Int) (a0_1 : Int) (a1_0 : Int) (a1_1 : Int) : Option (Int × Int × Bool × Bool) := (i_AreNeighbors.f a0_0 a0_1 a1_0 a1_1).bind fun t181 => (if t181 = true then (some (mn a0_0 a1_0, mn a0_1 a1_1, (a0_0 == a1_0), true)) else (some (0, 0, false, false)))
set_option maxRecDepth 100000 in
theorem i_DominoOver.calls (a0_0 : Int) (a0_1 : Int) (a1_0 : Int) (a1_1 : Int) (r1 : Int) (r2 : Int) (r3 : Bool) (r4 : Bool) (w : World) (h : i_DominoOver.f a0_0 a0_1 a1_0 a1_1 = some (r1, r2, r3, r4)) :
  Calls Try.prog 79 #[.agg #[.int .i64 a0_0, .int .i64 a0_1], .agg #[.int .i64 a1_0, .int .i64 a1_1]] w fun e w' => e = .returned (.tuple #[.agg #[.int .i64 r1, .int .i64 r2, .bool r3], .bool r4]) ∧ Below w.heap.size w w' := by
 have hu39 := Try.underlying39
 have hu41 := Try.underlying41
 have HB : Up w w := ⟨Below.refl _ _⟩
 have H : ((i_AreNeighbors.f a0_0 a0_1 a1_0 a1_1).bind fun t181 => (if t181 = true then (some (mn a0_0 a1_0, mn a0_1 a1_1, (a0_0 == a1_0), true)) else (some (0, 0, false, false)))) = some (r1, r2, r3, r4) := h
 clear h
 obtain ⟨t181, A3, H⟩ := bI H
 replace H := bT H; rcases H with ⟨rfl, H⟩ | ⟨rfl, H⟩
 ·obtain ⟨ji5, hji5⟩ : ∃ j_ : Int, (mn a0_0 a1_0) = j_ := ⟨_, rfl⟩
  replace H : (some (ji5, mn a0_1 a1_1, (a0_0 == a1_0), true)) = some (r1, r2, r3, r4) := by first | (rw [hji5] at H; exact H) | (simp only [hji5] at H ⊢; exact H)
  (try rw [hji5] at A3)
  have hji5_ : (if a1_0 < a0_0 then a1_0 else a0_0) = ji5 := hji5
  obtain ⟨ji6, hji6⟩ : ∃ j_ : Int, (mn a0_1 a1_1) = j_ := ⟨_, rfl⟩
  replace H : (some (ji5, ji6, (a0_0 == a1_0), true)) = some (r1, r2, r3, r4) := by first | (rw [hji6] at H; exact H) | (simp only [hji6] at H ⊢; exact H)
  (try rw [hji6] at A3)
  have hji6_ : (if a1_1 < a0_1 then a1_1 else a0_1) = ji6 := hji6
  simp only [Option.some.injEq, Prod.mk.injEq] at H
  obtain ⟨rfl, rfl, rfl, rfl⟩ := H
  go_enter Try.func79, Try.ntmps79
  go_wp2_with (first | ((with_reducible refine gD 2 rfl ?_); refine bxE rfl #[.int .i64 a0_0, .int .i64 a0_1] 39 ?_ ?_; (focus first | (go_simp; done) | (go_simp; rfl)); intro gb178 _ w7 _ _) | ((with_reducible refine gD 3 rfl ?_); refine bxE rfl #[.int .i64 a1_0, .int .i64 a1_1] 39 ?_ ?_; (focus first | (go_simp; done) | (go_simp; rfl)); intro gb179 _ w8 _ _) | ((with_reducible refine gD 4 rfl ?_); refine bxE rfl #[.int .i64 0, .int .i64 0, .bool false] 41 ?_ ?_; (focus first | (go_simp; done) | (go_simp; rfl)); intro gb180 _ w9 _ _) | ((with_reducible refine gC 138 rfl ?_); refine gK (some 8) rfl rfl Try.func138 (by kernel_rfl) rfl #[.agg #[.int .i64 a0_0, .int .i64 a0_1], .agg #[.int .i64 a1_0, .int .i64 a1_1]] rfl (by (try simp only [sD, sE, sF]); first | done | rfl) (i_AreNeighbors.calls a0_0 a0_1 a1_0 a1_1 true _ A3.out) ?_; intro w15 _))
  refine bodyPost_ret (results_ct rfl _ _ gb180 41 #[.int .i64 ji5, .int .i64 ji6, .bool (a0_0 == a1_0)] (0, 0) _ rfl (bkr gb180 (by rfl)) Try.underlying41 rfl (by kernel_rfl)) rfl ?_
  exact ⟨by first | rfl | (simp [errW_none, errW_some] <;> rfl) | (simp only [← hji5, ← hji6]; first | rfl | (simp [errW_none, errW_some] <;> rfl)) | (simp [*, errW_none, errW_some] <;> rfl), uw w⟩
 ·simp only [Option.some.injEq, Prod.mk.injEq] at H
  obtain ⟨rfl, rfl, rfl, rfl⟩ := H
  go_enter Try.func79, Try.ntmps79
  go_wp2_with (first | ((with_reducible refine gD 2 rfl ?_); refine bxE rfl #[.int .i64 a0_0, .int .i64 a0_1] 39 ?_ ?_; (focus first | (go_simp; done) | (go_simp; rfl)); intro gb178 _ w19 _ _) | ((with_reducible refine gD 3 rfl ?_); refine bxE rfl #[.int .i64 a1_0, .int .i64 a1_1] 39 ?_ ?_; (focus first | (go_simp; done) | (go_simp; rfl)); intro gb179 _ w20 _ _) | ((with_reducible refine gD 4 rfl ?_); refine bxE rfl #[.int .i64 0, .int .i64 0, .bool false] 41 ?_ ?_; (focus first | (go_simp; done) | (go_simp; rfl)); intro gb180 _ w21 _ _) | ((with_reducible refine gC 138 rfl ?_); refine gK (some 8) rfl rfl Try.func138 (by kernel_rfl) rfl #[.agg #[.int .i64 a0_0, .int .i64 a0_1], .agg #[.int .i64 a1_0, .int .i64 a1_1]] rfl (by (try simp only [sD, sE, sF]); first | done | rfl) (i_AreNeighbors.calls a0_0 a0_1 a1_0 a1_1 false _ A3.out) ?_; intro w27 _))
  refine bodyPost_ret (results_ct rfl _ _ gb180 41 #[.int .i64 0, .int .i64 0, .bool false] (0, 0) _ rfl (bkr gb180 (by rfl)) Try.underlying41 rfl (by kernel_rfl)) rfl ?_
  exact ⟨by first | rfl | (simp [*, errW_none, errW_some] <;> rfl), uw w⟩
end Go.Proofs.Ytnfnlmilmpaofaa.PFnExactTreeOfTiling
namespace Go.Proofs.Ytnfnlmilmpaofaa.PFnExactTreeOfTiling
open Go.RowKit Go.Proofs.YtnfnlmilmpaofaaW.PrintWords Go.Proofs.YtnfnlmilmpaofaaW.PrintLast Go.Proofs.YtnfnlmilmpaofaaW.PrintMore
attribute [local go_sem] max2_int min2_int max_two min_two max_three min_three max_four min_four
set_option linter.unusedVariables false
set_option linter.unusedSimpArgs false
def openB (ls : List S50) (x y : Int) : Bool := !(ls.any fun e => e.f0 == wrap64 (Int.tdiv x 2) && (e.f1 == wrap64 (Int.tdiv y 2) && e.f2 == (Int.tmod y 2 == 1)))
theorem lnk_l0 (ls : List S50) (a b : Int) (c : Bool) (hl : ls.length < 4611686018427387904) : ∀ m i : Nat, i + m = ls.length →
  ∃ r, i_linkIndex.l0 (m + 1) ls (ls.length : Int) (i : Int) a b c = some r ∧ decide (r < 0) = !((ls.drop i).any fun e => e.f0 == a && (e.f1 == b && e.f2 == c))
 | 0, i, h => by
  refine ⟨-1, ?_, ?_⟩
  ·unfold i_linkIndex.l0
   rw [if_neg (by omega)]
  ·rw [List.drop_eq_nil_of_le (by omega)]
   rfl
 | m + 1, i, h => by
  have hi : i < ls.length := by omega
  have hd : ls.drop i = rd_T50 ls (i : Int) :: ls.drop (i + 1) := by
   rw [List.drop_eq_getElem_cons hi]
   congr 1
   unfold rd_T50
   rw [Int.toNat_natCast, List.getD_eq_getElem?_getD, List.getElem?_eq_getElem hi]
   rfl
  rw [hd, List.any_cons]
  unfold i_linkIndex.l0
  rw [if_pos (by omega), if_pos (by omega), if_pos (by omega)]
  by_cases he : ((rd_T50 ls (i : Int)).f0 == a && ((rd_T50 ls (i : Int)).f1 == b && (rd_T50 ls (i : Int)).f2 == c)) = true
  ·rw [if_pos he, he]
   refine ⟨_, rfl, ?_⟩
   simp
  ·rw [if_neg he, Bool.eq_false_iff.mpr he, Bool.false_or]
   have hw : wrap64 ((i : Int) + 1) = ((i + 1 : Nat) : Int) := by unfold wrap64; omega
   rw [hw]
   exact lnk_l0 ls a b c hl m (i + 1) (by omega)
theorem lnk_some (ls : List S50) (a b : Int) (c : Bool) (hl : ls.length < 4611686018427387904) :
  ∃ r, i_linkIndex.f (ls.length + 1) ls a b c = some r ∧ decide (r < 0) = !(ls.any fun e => e.f0 == a && (e.f1 == b && e.f2 == c)) := by
 have h := lnk_l0 ls a b c hl ls.length 0 (by omega)
 exact h
set_option maxHeartbeats 4000000 in
set_option maxRecDepth 100000 in
theorem open_calls (x y : Int) (bL : Nat) (AL : Option Addr) (cL : Nat) (ls : List S50) (w : World) (hb : w.heap[bL]? = some (.cells #[.slice AL ls.length cL] 44 (0, 0))) (hr : Kd.C k50 w AL ls.length ls) (hc : ls.length ≤ cL) (hl : ls.length < 4611686018427387904) :
  Calls Try.prog 139 #[.agg #[.int .i64 x, .int .i64 y], .pointer (some ⟨bL, 0, none⟩)] w fun e w' => e = .returned (.bool (openB ls x y)) ∧ Below w.heap.size w w' := by
 obtain ⟨r_, hr_, hd_⟩ := lnk_some ls (wrap64 (Int.tdiv x 2)) (wrap64 (Int.tdiv y 2)) (Int.tmod y 2 == 1) hl
 have HD := As.mk hd_
 have HR := As.mk hr_
 have HC := As.mk hr
 clear hd_ hr_ hr
 have c2_ := cell_of_one (blk_alloc (blk_alloc hb (.cells #[.int .i64 x, .int .i64 y] 39)) (.cells #[.int .i64 (wrap64 (Int.tdiv x 2)), .int .i64 (wrap64 (Int.tdiv y 2)), .bool (Int.tmod y 2 == 1)] 50))
 have HB := As.mk (below_alloc (below_alloc (Below.refl w.heap.size w) (.cells #[.int .i64 x, .int .i64 y] 39)) (.cells #[.int .i64 (wrap64 (Int.tdiv x 2)), .int .i64 (wrap64 (Int.tdiv y 2)), .bool (Int.tmod y 2 == 1)] 50))
 clear hb
 go_enter Try.func139, Try.ntmps139
 go_wp2_with (go_at_call 135; refine (i_linkIndex.calls (ls.length + 1) AL cL ls (wrap64 (Int.tdiv x 2)) (wrap64 (Int.tdiv y 2)) (Int.tmod y 2 == 1) r_ _ (Kd.C_below HC.out HB.out) hc HR.out).mono ?_; rintro e w2 ⟨rfl, hb2⟩; replace HB := As.mk (below_step HB.out hb2); clear hb2)
 go_ret
 refine ⟨?_, HB.out⟩
 unfold openB
 rw [← HD.out]
 rfl
def encC (xs : List S39) : List Value := xs.flatMap fun d => [.int .i64 d.f0, .int .i64 d.f1]
theorem encC_cons (d : S39) (xs : List S39) : encC (d :: xs) = [.int .i64 d.f0, .int .i64 d.f1] ++ encC xs := by simp [encC]
theorem encC_append (xs ys : List S39) : encC (xs ++ ys) = encC xs ++ encC ys := by simp [encC]
theorem encC_length : ∀ xs : List S39, (encC xs).length = xs.length * 2
 | [] => rfl
 | d :: r => by rw [encC_cons, List.length_append, encC_length r]; simp; omega
theorem encC_set (xs : List S39) (f : Nat) (h : f < xs.length) (c : S39) : encC (xs.set f c) = (encC xs).take (f * 2) ++ [.int .i64 c.f0, .int .i64 c.f1] ++ (encC xs).drop (f * 2 + 2) := by
 have e0 : xs.set f c = xs.take f ++ c :: xs.drop (f + 1) := by rw [List.set_eq_take_append_cons_drop, if_pos h]
 have h1 : xs = xs.take f ++ xs[f] :: xs.drop (f + 1) := by
  have := (List.take_append_drop f xs).symm
  rw [List.drop_eq_getElem_cons h] at this
  exact this
 have hl : (encC (xs.take f)).length = f * 2 := by rw [encC_length, List.length_take, Nat.min_eq_left (Nat.le_of_lt h)]
 have e1 : encC xs = encC (xs.take f) ++ ([.int .i64 xs[f].f0, .int .i64 xs[f].f1] ++ encC (xs.drop (f + 1))) := by
  have := congrArg encC h1
  rw [encC_append, encC_cons] at this
  exact this
 rw [e0, encC_append, encC_cons]
 rw [e1, List.take_left' hl, ← List.append_assoc, ← List.append_assoc, List.drop_left' (by rw [List.length_append, hl]; rfl)]
theorem encC_zero : ∀ n : Nat, encC (List.replicate n ⟨0, 0⟩) = List.replicate (n * 2) (.int .i64 0)
 | 0 => rfl
 | n + 1 => by rw [List.replicate_succ, encC_cons, encC_zero n, show (n + 1) * 2 = n * 2 + 1 + 1 by omega, List.replicate_succ, List.replicate_succ]; rfl
theorem made_two (n : Nat) : madeCells #[.int .i64 0, .int .i64 0] n = (List.replicate n (Value.int .i64 0)).toArray := by
 apply Array.ext'
 apply List.ext_getElem?
 intro j
 by_cases hj : j < n
 ·have : j % 2 = 0 ∨ j % 2 = 1 := by omega
  rcases this with h | h <;> simp [madeCells, hj, h]
 ·simp [madeCells, hj]
def sidesC : Array Value := #[.int .i64 0, .int .i64 (-1), .int .i64 (-1), .int .i64 0, .int .i64 1, .int .i64 0, .int .i64 0, .int .i64 1]
def owSide : Nat → Int × Int
 | 0 => (0, -1)
 | 1 => (-1, 0)
 | 2 => (1, 0)
 | _ => (0, 1)
structure OW (w0 w : World) (bL go gk gs : Nat) (vl : Value) (out : List S39) (kn : List Bool) : Prop where
 hL : w.heap[bL]? = some (.cells #[vl] 44 (0, 0))
 ho : w.heap[go]? = some (.cells (encC out).toArray 39 (0, 0))
 hk : w.heap[gk]? = some (.cells (kn.map Value.bool).toArray 4 (0, 0))
 hs : w.heap[gs]? = some (.cells sidesC 39 (0, 0))
 hb : Below w0.heap.size w0 w
 ne : gs ≠ go
 bo : w0.heap.size ≤ go
 bk : w0.heap.size ≤ gk
section
variable {w0 w w1 : World} {bL go gk gs : Nat} {vl : Value} {out : List S39} {kn : List Bool}
theorem OW.below (h : OW w0 w bL go gk gs vl out kn) (hb : Below w.heap.size w w1) : OW w0 w1 bL go gk gs vl out kn :=
 ⟨blk_below h.hL hb, blk_below h.ho hb, blk_below h.hk hb, blk_below h.hs hb, below_step h.hb hb, h.ne, h.bo, h.bk⟩
theorem OW.alloc (h : OW w0 w bL go gk gs vl out kn) (o : Obj) : OW w0 (w.alloc o) bL go gk gs vl out kn := h.below (below_alloc (Below.refl _ _) o)
theorem OW.drew (h : OW w0 w bL go gk gs vl out kn) : OW w0 w.drew bL go gk gs vl out kn := h.below (below_drew1 (Below.refl _ _))
theorem OW.cellK (h : OW w0 w bL go gk gs vl out kn) {f : Nat} (hf : f < kn.length) : w.cell? ⟨gk, f, none⟩ = some (.bool (kn.getD f false)) := by
 rw [blk_cell h.hk f]
 simp [List.getD_eq_getElem?_getD, hf]
theorem OW.freeK (h : OW w0 w bL go gk gs vl out kn) (f : Nat) : w.frozen? ⟨gk, f, none⟩ = false := blk_frozen h.hk f
theorem OW.cellS (h : OW w0 w bL go gk gs vl out kn) {j : Nat} (hj : j < 4) : w.cell? ⟨gs, j * 2, none⟩ = some (.int .i64 (owSide j).1) ∧ w.cell? ⟨gs, j * 2 + 1, none⟩ = some (.int .i64 (owSide j).2) := by
 rw [blk_cell h.hs, blk_cell h.hs]
 match j, hj with
 | 0, _ => exact ⟨rfl, rfl⟩
 | 1, _ => exact ⟨rfl, rfl⟩
 | 2, _ => exact ⟨rfl, rfl⟩
 | 3, _ => exact ⟨rfl, rfl⟩
theorem OW.setK (h : OW w0 w bL go gk gs vl out kn) {f : Nat} (hf : f < kn.length) : OW w0 (w.setCell ⟨gk, f, none⟩ (.bool true)) bL go gk gs vl out (kn.set f true) := by
 have e := setCell_eq_setRow w gk f _ 4 (0, 0) (.bool true) h.hk
 rw [e]
 have a1 : bL ≠ gk := blk_ne h.hL h.hk (by decide)
 have a2 : go ≠ gk := blk_ne h.ho h.hk (by decide)
 have a3 : gs ≠ gk := blk_ne h.hs h.hk (by decide)
 refine ⟨(setRow_other w gk bL _ a1).trans h.hL, (setRow_other w gk go _ a2).trans h.ho, ?_, (setRow_other w gk gs _ a3).trans h.hs, ?_, h.ne, h.bo, h.bk⟩
 ·rw [setRow_heap w gk _ _ 4 (0, 0) h.hk]
  simp [List.map_set]
 ·exact h.hb.trans ⟨rfl, rfl, rfl, by simp [World.setRow], fun k hk => setRow_other w gk k _ (by have := h.bk; omega)⟩
theorem OW.setO (h : OW w0 w bL go gk gs vl out kn) {f : Nat} (hf : f < out.length) (c : S39) : OW w0 (w.setCells go (f * 2) [.int .i64 c.f0, .int .i64 c.f1]) bL go gk gs vl (out.set f c) kn := by
 obtain ⟨cur', g1, g2, g3⟩ := setCells_row [.int .i64 c.f0, .int .i64 c.f1] (f * 2) w _ h.ho (by simp [encC_length]; omega)
 have e : cur' = (encC (out.set f c)).toArray := by
  apply Array.ext'
  rw [g3, encC_set out f hf c]
  rfl
 rw [e] at g1
 have a1 : bL ≠ go := blk_ne h.hL h.ho (by decide)
 have a2 : gk ≠ go := blk_ne h.hk h.ho (by decide)
 obtain ⟨s1, s2, s3, s4⟩ := setCells_same go [.int .i64 c.f0, .int .i64 c.f1] (f * 2) w
 refine ⟨(setCells_far _ _ bL a1).trans h.hL, g1, (setCells_far _ _ gk a2).trans h.hk, (setCells_far _ _ gs h.ne).trans h.hs, ?_, h.ne, h.bo, h.bk⟩
 exact h.hb.trans ⟨s1, s2, s3, by rw [s4]; exact Nat.le_refl _, fun k hk => setCells_far _ _ k (by have := h.bo; omega)⟩
end
abbrev OSt := List S39 × List Bool × Bool
/-- One side of one face. -/
def owStep (W H : Nat) (ls : List S50) (f j : Nat) (s : OSt) : OSt :=
 if (!(s.2.1.getD f false) && (openB ls (2 * ((f % W : Nat) : Int) + 1 + (owSide j).1) (2 * ((f / W : Nat) : Int) + 1 + (owSide j).2) &&
   (decide (((f % W : Nat) : Int) + (owSide j).1 < 0) || decide (((f / W : Nat) : Int) + (owSide j).2 < 0) || decide ((W : Int) ≤ ((f % W : Nat) : Int) + (owSide j).1) || decide ((H : Int) ≤ ((f / W : Nat) : Int) + (owSide j).2) ||
    s.2.1.getD ((((f / W : Nat) : Int) + (owSide j).2) * (W : Int) + (((f % W : Nat) : Int) + (owSide j).1)).toNat false))) = true
 then (s.1.set f ⟨2 * ((f % W : Nat) : Int) + 1 + (owSide j).1, 2 * ((f / W : Nat) : Int) + 1 + (owSide j).2⟩, s.2.1.set f true, true) else s
/-- The last m sides of a face; the last m faces; passes. -/
def owSides (W H : Nat) (ls : List S50) (f : Nat) : Nat → OSt → OSt
 | 0, s => s
 | m + 1, s => owSides W H ls f m (owStep W H ls f (3 - m) s)
def owFaces (W H : Nat) (ls : List S50) : Nat → OSt → OSt
 | 0, s => s
 | m + 1, s => owFaces W H ls m (owSides W H ls (W * H - 1 - m) 4 s)
def owAll (W H : Nat) (ls : List S50) : Nat → OSt → Option (List S39)
 | 0, _ => none
 | k + 1, s => if s.2.2 = true then owAll W H ls k (owFaces W H ls (W * H) (s.1, s.2.1, false)) else some s.1
theorem owStep_len (W H : Nat) (ls : List S50) (f j : Nat) (s : OSt) : (owStep W H ls f j s).1.length = s.1.length ∧ (owStep W H ls f j s).2.1.length = s.2.1.length := by
 unfold owStep
 split <;> simp
theorem owSides_len (W H : Nat) (ls : List S50) (f : Nat) : ∀ m s, (owSides W H ls f m s).1.length = s.1.length ∧ (owSides W H ls f m s).2.1.length = s.2.1.length
 | 0, s => ⟨rfl, rfl⟩
 | m + 1, s => by
  have h := owSides_len W H ls f m (owStep W H ls f (3 - m) s)
  have h' := owStep_len W H ls f (3 - m) s
  exact ⟨h.1.trans h'.1, h.2.trans h'.2⟩
def OUt2 : Bool × List (List Nat × List Nat) := (true, [([], []), ([], []), ([0, 1], [0, 1]), ([2, 2], [2]), ([], []), ([], []), ([4, 5], [4, 5]), ([6, 6], [6]), ([3, 0, 1, 2, 3], [3]), ([7, 8, 0, 1, 2, 3, 4, 5, 6, 7, 8], [7])])
def OUb2 : List Nat := [0, 0, 3, 7, 0, 0, 48, 112, 15, 511]
theorem OUtab2 : rtab .any (opsOf Try.f80 2) = OUt2 := by kernel_rfl
theorem OUbits2 : waitsOk OUt2.2 OUb2 = true := by kernel_rfl
theorem mkC (n : Nat) (hn : n ≤ 9) : ∀ W : World, (Instr.makeSlice 29 (.int .i64 (n : Int)) (.int .i64 (n : Int))).run Try.prog W = .ok (.slice (some ⟨W.heap.size, 0, none⟩) n n) (W.alloc (.cells (madeCells #[.int .i64 0, .int .i64 0] (n * 2)) 39 (0, 0))) := by
 intro W
 obtain ⟨i, hi, hz⟩ := Option.map_eq_some_iff.1 info39
 simp only [Prod.mk.injEq] at hz
 have h := run_make (P := Try.prog) (w := W) 29 39 i _ Try.underlying29 hi hz.1 .i64 .i64 (n : Int) (n : Int) (by omega) (by omega) (by rw [hz.2.2]; omega) (by omega)
 rw [hz.2.1, Int.toNat_natCast] at h
 exact h
theorem wrap3 (x : Nat) (d : Int) (hx : x ≤ 9) (h1 : -1 ≤ d) (h2 : d ≤ 1) : wrap64 (wrap64 (wrap64 (2 * (x : Int)) + 1) + d) = 2 * (x : Int) + 1 + d := by
 have e1 : wrap64 (2 * (x : Int)) = 2 * (x : Int) := by unfold wrap64; omega
 have e2 : wrap64 (2 * (x : Int) + 1) = 2 * (x : Int) + 1 := by unfold wrap64; omega
 rw [e1, e2]
 unfold wrap64
 omega
theorem wrapS (z : Int) (h1 : -10 ≤ z) (h2 : z ≤ 10) : wrap64 z = z := by unfold wrap64; omega
theorem vw_lt {W H n g : Nat} {u v : Int} (hn : n = W * H) (h1 : ¬ u < 0) (h2 : ¬ v < 0) (h3 : ¬ (W : Int) ≤ u) (h4 : ¬ (H : Int) ≤ v) (hg : v * (W : Int) + u = (g : Int)) : g < n := by
 obtain ⟨a, rfl⟩ := Int.eq_ofNat_of_zero_le (show 0 ≤ u by omega)
 obtain ⟨b, rfl⟩ := Int.eq_ofNat_of_zero_le (show 0 ≤ v by omega)
 have h5 : b + 1 ≤ H := by omega
 have h6 : (b + 1) * W ≤ H * W := Nat.mul_le_mul_right _ h5
 have h7 : ((b * W + a : Nat) : Int) = (g : Int) := by rw [← hg]; push_cast; rfl
 have h8 : b * W + a = g := by exact_mod_cast h7
 rw [hn, Nat.mul_comm W H]
 rw [Nat.add_mul, Nat.one_mul] at h6
 omega
theorem owStep_val {W H f j x y : Nat} {ls : List S50} {out : List S39} {kn : List Bool} {ag : Bool} {dx dy u v : Int} (hx : f % W = x) (hy : f / W = y) (hdx : (owSide j).1 = dx) (hdy : (owSide j).2 = dy) (hu : u = (x : Int) + dx) (hv : v = (y : Int) + dy) :
  owStep W H ls f j (out, kn, ag) = if (!(kn.getD f false) && (openB ls (2 * (x : Int) + 1 + dx) (2 * (y : Int) + 1 + dy) && (decide (u < 0) || decide (v < 0) || decide ((W : Int) ≤ u) || decide ((H : Int) ≤ v) || kn.getD (v * (W : Int) + u).toNat false))) = true then (out.set f ⟨2 * (x : Int) + 1 + dx, 2 * (y : Int) + 1 + dy⟩, kn.set f true, true) else (out, kn, ag) := by
 subst hx; subst hy; subst hdx; subst hdy; subst hu; subst hv
 rfl
theorem cell_of_two {w : World} {b : Nat} {t : TypeId} {a c : Value} (h : w.heap[b]? = some (.cells #[a, c] t (0, 0))) : w.cell? ⟨b, 0, none⟩ = some a ∧ w.cell? ⟨b, 1, none⟩ = some c := ⟨(blk_cell h 0).trans rfl, (blk_cell h 1).trans rfl⟩
theorem owSide_bd {j : Nat} {dx dy : Int} (hx : (owSide j).1 = dx) (hy : (owSide j).2 = dy) : -1 ≤ dx ∧ dx ≤ 1 ∧ -1 ≤ dy ∧ dy ≤ 1 := by
 subst hx
 subst hy
 match j with
 | 0 => decide
 | 1 => decide
 | 2 => decide
 | k + 3 => exact (by decide : -1 ≤ (0 : Int) ∧ (0 : Int) ≤ 1 ∧ -1 ≤ (1 : Int) ∧ (1 : Int) ≤ 1)
theorem owStart {w W : World} {xo xk n : Nat} {vl : Value} (fL : W.heap[w.heap.size]? = some (.cells #[vl] 44 (0, 0))) (fB : Below w.heap.size w W)
  (fo : W.heap[xo]? = some (.cells (madeCells #[.int .i64 0, .int .i64 0] (n * 2)) 39 (0, 0)) ∧ w.heap.size ≤ xo) (fk : W.heap[xk]? = some (.cells (madeCells #[.bool false] n) 4 (0, 0)) ∧ w.heap.size ≤ xk) :
  OW w (W.alloc (.cells sidesC 39 (0, 0))) w.heap.size xo xk W.heap.size vl (List.replicate n ⟨0, 0⟩) (List.replicate n false) := by
 have e : madeCells #[.bool false] n = ((List.replicate n false).map Value.bool).toArray := by
  apply Array.ext'
  rw [toList_madeCells_one]
  simp
 refine ⟨blk_alloc fL _, ?_, ?_, blk_new W _, below_alloc fB _, ?_, fo.2, fk.2⟩
 ·rw [encC_zero, ← made_two]
  exact blk_alloc fo.1 _
 ·rw [← e]
  exact blk_alloc fk.1 _
 ·have := blk_lt fo.1
  omega
def OPost (w : World) (o : List S39) : Ending → World → Prop := fun e w' => ∃ v0_ : Value, e = .returned (v0_) ∧ Kd.R k39 39 w' w.heap.size (fun _ => True) v0_ o ∧ Below w.heap.size w w'
theorem owRow {w w1 : World} {bL go gk gs n : Nat} {vl : Value} {out : List S39} {kn : List Bool} (h : OW w w1 bL go gk gs vl out kn) (hl : out.length = n) (hn9 : n ≤ 9) : Kd.R k39 39 w1 w.heap.size (fun _ => True) (.slice (some ⟨go, 0, none⟩) n n) out := by
 subst hl
 refine ⟨fun _ _ => trivial, encC out, ⟨encC_length out, Or.inr ⟨go, out.length, _, rfl, h.bo, h.ho, Nat.le_refl _, by unfold maxLen; omega, by rw [List.size_toArray, encC_length]; rfl, ?_⟩⟩, encC_length out, fun j p hj => ?_⟩
 ·rw [List.take_of_length_le (by show (encC out).length ≤ out.length * 2; rw [encC_length]; exact Nat.le_refl _)]
 ·have hk := (List.getElem?_eq_some_iff.1 hj).1
  have hp : out[j] = p := (List.getElem?_eq_some_iff.1 hj).2
  have e0 : out = out.take j ++ out[j] :: out.drop (j + 1) := by
   have := (List.take_append_drop j out).symm
   rw [List.drop_eq_getElem_cons hk] at this
   exact this
  have e1 := congrArg encC e0
  rw [encC_append, encC_cons] at e1
  have hl : (encC (out.take j)).length = j * 2 := by rw [encC_length, List.length_take, Nat.min_eq_left (Nat.le_of_lt hk)]
  have e : ((encC out).drop (j * 2)).take 2 = [.int .i64 p.f0, .int .i64 p.f1] := by
   rw [e1, List.drop_left' hl, hp]
   rfl
  show k39.M w1 _ _ p (((encC out).drop (j * 2)).take 2)
  rw [e]
  exact k39_mkM _ _ _ p
set_option maxRecDepth 100000 in
theorem out_calls (a0 a1 : Int) (W H n : Nat) (hW : wrap64 (a0 - 1) = (W : Int)) (hH : wrap64 (a1 - 1) = (H : Int)) (hWH : wrap64 ((W : Int) * (H : Int)) = (n : Int)) (hn : n = W * H) (hW3 : W ≤ 3) (hH3 : H ≤ 3) (k : Nat) (A2 : Option Addr) (c2 : Nat) (ls : List S50) (r : List S39) (w : World)
  (hr2 : Kd.C k50 w A2 ls.length ls) (hc2 : ls.length ≤ c2) (hl2 : ls.length < 4611686018427387904) (h : owAll W H ls k (List.replicate n ⟨0, 0⟩, List.replicate n false, true) = some r) :
  Calls Try.prog 80 #[.int .i64 a0, .int .i64 a1, .slice A2 ls.length c2] w (OPost w r) := by
 have HA := As.mk h
 have HR := As.mk hr2
 have HN := As.mk hn
 have HW := As.mk (And.intro hW3 hH3)
 have HC := As.mk hc2
 have HL := As.mk hl2
 clear h hr2 hn hW3 hH3 hc2 hl2
 go_enter Try.func80, Try.ntmps80
 go_wp2_with fail
 rw [hW, hH]
 obtain ⟨W0, hW0⟩ : ∃ W0, W0 = w.alloc (.cells #[.slice A2 ls.length c2] 44) := ⟨_, rfl⟩
 have fL : As (W0.drew.heap[w.heap.size]? = some (.cells #[.slice A2 ls.length c2] 44 (0, 0))) := ⟨by rw [hW0]; exact blk_drew (blk_new w _)⟩
 have fB : As (Below w.heap.size w W0.drew) := ⟨by rw [hW0]; exact below_drew1 (below_alloc (Below.refl _ _) _)⟩
 rw [← hW0]
 clear hW0 hW hH
 have hn9 : n ≤ 9 := by rw [HN.out]; have := Nat.mul_le_mul HW.out.1 HW.out.2; omega
 refine start_ (n := 10) (S := fun w' => True) (ds := []) #[false, false, false, false, false, false, false, false, false, false] (by kernel_rfl) rfl rfl trivial (fun hHeld => ?_)
 generalize World.drew W0 = W1 at fL fB hHeld ⊢
 refine inv_at [0, 1, 2, 3, 4, 5, 6, 7, 8, 9] (fun a0_ b a w' => ∃ (xo : Nat) (xk : Nat) (m3_ : Value) (m7_ : Value) (m8_ : Value) (m9_ : Value), a = putSel a0_ b [(0, 27, .int .i64 (W : Int)), (1, 28, .int .i64 (H : Int)), (2, 29, .int .i64 (n : Int)), (3, 30, m3_), (4, 31, .int .i64 (W : Int)), (5, 32, .int .i64 (H : Int)), (6, 33, .int .i64 (n : Int)), (7, 34, m7_), (8, 9, m8_), (9, 10, m9_)] ∧ (w'.heap[w.heap.size]? = some (.cells #[.slice A2 ls.length c2] 44 (0, 0))) ∧ (Below w.heap.size w w') ∧ (b 3 = true → (w'.heap[xo]? = some (.cells (madeCells #[.int .i64 0, .int .i64 0] (n * 2)) 39 (0, 0)) ∧ w.heap.size ≤ xo)) ∧ (b 7 = true → (w'.heap[xk]? = some (.cells (madeCells #[.bool false] n) 4 (0, 0)) ∧ w.heap.size ≤ xk)) ∧ (b 3 = true → (m3_ : Value) = .slice (some ⟨xo, 0, none⟩) n n) ∧ (b 7 = true → (m7_ : Value) = .slice (some ⟨xk, 0, none⟩) n n) ∧ (b 8 = true → (m8_ : Value) = .slice (some ⟨xo, 0, none⟩) n n) ∧ (b 9 = true → (m9_ : Value) = .slice (some ⟨xk, 0, none⟩) n n)) (T := OUt2) (B := OUb2) OUtab2 OUbits2 (by kernel_rfl) (by kernel_rfl) ?_ ?_ ?_
 ·exact ⟨0, 0, .bool false, .bool false, .bool false, .bool false, by simp only [putSel, Bool.false_eq_true, if_false], fL.out, fB.out, fun h_ => absurd h_ (by decide), fun h_ => absurd h_ (by decide), fun h_ => absurd h_ (by decide), fun h_ => absurd h_ (by decide), fun h_ => absurd h_ (by decide), fun h_ => absurd h_ (by decide)⟩
 ·skip
  clear fB fL
  refine steps_cons ?_ ?_
  ·rintro b a w' ⟨xo, xk, m3_, m7_, m8_, m9_, ha, Q_fL, Q_fB, Q_fo, Q_fk, Q_X3_, Q_X7_, Q_X8_, Q_X9_⟩ hb_ hon hoff
   refine ⟨_, rfl, fun K hK => ?_⟩
   have e7 : a.tmps[7]? = some (.int .i64 (W : Int)) := by rw [ha]; exact (putSel_off rfl).trans rfl
   replace ha := As.mk ha
   have fL := As.mk Q_fL
   have fB := As.mk Q_fB
   refine value_ (w1 := w') (v := .int .i64 (W : Int)) (by rfl) rfl ?_ ?_
   ·go_simp
    (try simp only [i64_w, hWH])
    try rfl
   refine hK.out _ _ ⟨xo, xk, m3_, m7_, m8_, m9_, (by rw [ha.out]; exact putSel_upk 0 hb_ rfl rfl rfl), Q_fL, Q_fB, fun h0_ => absurd ((hoff 3 (by kernel_rfl)).symm.trans h0_) (by decide), Q_fk, fun h0_ => absurd ((hoff 3 (by kernel_rfl)).symm.trans h0_) (by decide), Q_X7_, fun h0_ => absurd ((hoff 8 (by kernel_rfl)).symm.trans h0_) (by decide), fun h0_ => absurd ((hoff 9 (by kernel_rfl)).symm.trans h0_) (by decide)⟩
  refine steps_cons ?_ ?_
  ·rintro b a w' ⟨xo, xk, m3_, m7_, m8_, m9_, ha, Q_fL, Q_fB, Q_fo, Q_fk, Q_X3_, Q_X7_, Q_X8_, Q_X9_⟩ hb_ hon hoff
   refine ⟨_, rfl, fun K hK => ?_⟩
   have e8 : a.tmps[8]? = some (.int .i64 (H : Int)) := by rw [ha]; exact (putSel_off rfl).trans rfl
   replace ha := As.mk ha
   have fL := As.mk Q_fL
   have fB := As.mk Q_fB
   refine value_ (w1 := w') (v := .int .i64 (H : Int)) (by rfl) rfl ?_ ?_
   ·go_simp
    (try simp only [i64_w, hWH])
    try rfl
   refine hK.out _ _ ⟨xo, xk, m3_, m7_, m8_, m9_, (by rw [ha.out]; exact putSel_upk 1 hb_ rfl rfl rfl), Q_fL, Q_fB, fun h0_ => absurd ((hoff 3 (by kernel_rfl)).symm.trans h0_) (by decide), Q_fk, fun h0_ => absurd ((hoff 3 (by kernel_rfl)).symm.trans h0_) (by decide), Q_X7_, fun h0_ => absurd ((hoff 8 (by kernel_rfl)).symm.trans h0_) (by decide), fun h0_ => absurd ((hoff 9 (by kernel_rfl)).symm.trans h0_) (by decide)⟩
  refine steps_cons ?_ ?_
  ·rintro b a w' ⟨xo, xk, m3_, m7_, m8_, m9_, ha, Q_fL, Q_fB, Q_fo, Q_fk, Q_X3_, Q_X7_, Q_X8_, Q_X9_⟩ hb_ hon hoff
   refine ⟨_, rfl, fun K hK => ?_⟩
   have e27 : a.tmps[27]? = some (.int .i64 (W : Int)) := by rw [ha]; exact putSel_on (e := (0, 27, .int .i64 (W : Int))) 0 rfl rfl (hon 0 (by kernel_rfl)) rfl
   have e28 : a.tmps[28]? = some (.int .i64 (H : Int)) := by rw [ha]; exact putSel_on (e := (1, 28, .int .i64 (H : Int))) 1 rfl rfl (hon 1 (by kernel_rfl)) rfl
   replace ha := As.mk ha
   have fL := As.mk Q_fL
   have fB := As.mk Q_fB
   refine value_ (w1 := w') (v := .int .i64 (n : Int)) (by rfl) rfl ?_ ?_
   ·go_simp
    (try simp only [i64_w, hWH])
    try rfl
   refine hK.out _ _ ⟨xo, xk, m3_, m7_, m8_, m9_, (by rw [ha.out]; exact putSel_upk 2 hb_ rfl rfl rfl), Q_fL, Q_fB, fun h0_ => absurd ((hoff 3 (by kernel_rfl)).symm.trans h0_) (by decide), Q_fk, fun h0_ => absurd ((hoff 3 (by kernel_rfl)).symm.trans h0_) (by decide), Q_X7_, fun h0_ => absurd ((hoff 8 (by kernel_rfl)).symm.trans h0_) (by decide), fun h0_ => absurd ((hoff 9 (by kernel_rfl)).symm.trans h0_) (by decide)⟩
  refine steps_cons ?_ ?_
  ·rintro b a w' ⟨xo, xk, m3_, m7_, m8_, m9_, ha, Q_fL, Q_fB, Q_fo, Q_fk, Q_X3_, Q_X7_, Q_X8_, Q_X9_⟩ hb_ hon hoff
   refine ⟨_, rfl, fun K hK => ?_⟩
   have e29 : a.tmps[29]? = some (.int .i64 (n : Int)) := by rw [ha]; exact putSel_on (e := (2, 29, .int .i64 (n : Int))) 2 rfl rfl (hon 2 (by kernel_rfl)) rfl
   replace ha := As.mk ha
   have fL := As.mk Q_fL
   have fB := As.mk Q_fB
   have hmk := mkC n (by omega)
   refine value_ (w1 := w'.alloc (.cells (madeCells #[.int .i64 0, .int .i64 0] (n * 2)) 39 (0, 0))) (v := .slice (some ⟨w'.heap.size, 0, none⟩) n n) (by rfl) rfl ?_ ?_
   ·go_simp
   refine hK.out _ _ ⟨w'.heap.size, xk, (.slice (some ⟨w'.heap.size, 0, none⟩) n n), m7_, m8_, m9_, (by rw [ha.out]; exact putSel_upk 3 hb_ rfl rfl rfl), blk_alloc fL.out _, below_alloc fB.out _, fun _ => ⟨blk_new w' _, below_size fB.out⟩, fun h0_ => ⟨blk_alloc (Q_fk h0_).1 _, (Q_fk h0_).2⟩, fun _ => rfl, Q_X7_, fun h0_ => absurd ((hoff 8 (by kernel_rfl)).symm.trans h0_) (by decide), fun h0_ => absurd ((hoff 9 (by kernel_rfl)).symm.trans h0_) (by decide)⟩
  refine steps_cons ?_ ?_
  ·rintro b a w' ⟨xo, xk, m3_, m7_, m8_, m9_, ha, Q_fL, Q_fB, Q_fo, Q_fk, Q_X3_, Q_X7_, Q_X8_, Q_X9_⟩ hb_ hon hoff
   refine ⟨_, rfl, fun K hK => ?_⟩
   have e7 : a.tmps[7]? = some (.int .i64 (W : Int)) := by rw [ha]; exact (putSel_off rfl).trans rfl
   replace ha := As.mk ha
   have fL := As.mk Q_fL
   have fB := As.mk Q_fB
   refine value_ (w1 := w') (v := .int .i64 (W : Int)) (by rfl) rfl ?_ ?_
   ·go_simp
    (try simp only [i64_w, hWH])
    try rfl
   refine hK.out _ _ ⟨xo, xk, m3_, m7_, m8_, m9_, (by rw [ha.out]; exact putSel_upk 4 hb_ rfl rfl rfl), Q_fL, Q_fB, Q_fo, fun h0_ => absurd ((hoff 7 (by kernel_rfl)).symm.trans h0_) (by decide), Q_X3_, fun h0_ => absurd ((hoff 7 (by kernel_rfl)).symm.trans h0_) (by decide), Q_X8_, fun h0_ => absurd ((hoff 9 (by kernel_rfl)).symm.trans h0_) (by decide)⟩
  refine steps_cons ?_ ?_
  ·rintro b a w' ⟨xo, xk, m3_, m7_, m8_, m9_, ha, Q_fL, Q_fB, Q_fo, Q_fk, Q_X3_, Q_X7_, Q_X8_, Q_X9_⟩ hb_ hon hoff
   refine ⟨_, rfl, fun K hK => ?_⟩
   have e8 : a.tmps[8]? = some (.int .i64 (H : Int)) := by rw [ha]; exact (putSel_off rfl).trans rfl
   replace ha := As.mk ha
   have fL := As.mk Q_fL
   have fB := As.mk Q_fB
   refine value_ (w1 := w') (v := .int .i64 (H : Int)) (by rfl) rfl ?_ ?_
   ·go_simp
    (try simp only [i64_w, hWH])
    try rfl
   refine hK.out _ _ ⟨xo, xk, m3_, m7_, m8_, m9_, (by rw [ha.out]; exact putSel_upk 5 hb_ rfl rfl rfl), Q_fL, Q_fB, Q_fo, fun h0_ => absurd ((hoff 7 (by kernel_rfl)).symm.trans h0_) (by decide), Q_X3_, fun h0_ => absurd ((hoff 7 (by kernel_rfl)).symm.trans h0_) (by decide), Q_X8_, fun h0_ => absurd ((hoff 9 (by kernel_rfl)).symm.trans h0_) (by decide)⟩
  refine steps_cons ?_ ?_
  ·rintro b a w' ⟨xo, xk, m3_, m7_, m8_, m9_, ha, Q_fL, Q_fB, Q_fo, Q_fk, Q_X3_, Q_X7_, Q_X8_, Q_X9_⟩ hb_ hon hoff
   refine ⟨_, rfl, fun K hK => ?_⟩
   have e31 : a.tmps[31]? = some (.int .i64 (W : Int)) := by rw [ha]; exact putSel_on (e := (4, 31, .int .i64 (W : Int))) 4 rfl rfl (hon 4 (by kernel_rfl)) rfl
   have e32 : a.tmps[32]? = some (.int .i64 (H : Int)) := by rw [ha]; exact putSel_on (e := (5, 32, .int .i64 (H : Int))) 5 rfl rfl (hon 5 (by kernel_rfl)) rfl
   replace ha := As.mk ha
   have fL := As.mk Q_fL
   have fB := As.mk Q_fB
   refine value_ (w1 := w') (v := .int .i64 (n : Int)) (by rfl) rfl ?_ ?_
   ·go_simp
    (try simp only [i64_w, hWH])
    try rfl
   refine hK.out _ _ ⟨xo, xk, m3_, m7_, m8_, m9_, (by rw [ha.out]; exact putSel_upk 6 hb_ rfl rfl rfl), Q_fL, Q_fB, Q_fo, fun h0_ => absurd ((hoff 7 (by kernel_rfl)).symm.trans h0_) (by decide), Q_X3_, fun h0_ => absurd ((hoff 7 (by kernel_rfl)).symm.trans h0_) (by decide), Q_X8_, fun h0_ => absurd ((hoff 9 (by kernel_rfl)).symm.trans h0_) (by decide)⟩
  refine steps_cons ?_ ?_
  ·rintro b a w' ⟨xo, xk, m3_, m7_, m8_, m9_, ha, Q_fL, Q_fB, Q_fo, Q_fk, Q_X3_, Q_X7_, Q_X8_, Q_X9_⟩ hb_ hon hoff
   refine ⟨_, rfl, fun K hK => ?_⟩
   have e33 : a.tmps[33]? = some (.int .i64 (n : Int)) := by rw [ha]; exact putSel_on (e := (6, 33, .int .i64 (n : Int))) 6 rfl rfl (hon 6 (by kernel_rfl)) rfl
   replace ha := As.mk ha
   have fL := As.mk Q_fL
   have fB := As.mk Q_fB
   have hmk := print_make_of (P := Try.prog) 89 4 (.bool false) 1 Try.underlying89 info4 rfl (by decide) n (by omega)
   refine value_ (w1 := w'.alloc (.cells (madeCells #[.bool false] n) 4 (0, 0))) (v := .slice (some ⟨w'.heap.size, 0, none⟩) n n) (by rfl) rfl ?_ ?_
   ·go_simp
   refine hK.out _ _ ⟨xo, w'.heap.size, m3_, (.slice (some ⟨w'.heap.size, 0, none⟩) n n), m8_, m9_, (by rw [ha.out]; exact putSel_upk 7 hb_ rfl rfl rfl), blk_alloc fL.out _, below_alloc fB.out _, fun h0_ => ⟨blk_alloc (Q_fo h0_).1 _, (Q_fo h0_).2⟩, fun _ => ⟨blk_new w' _, below_size fB.out⟩, Q_X3_, fun _ => rfl, Q_X8_, fun h0_ => absurd ((hoff 9 (by kernel_rfl)).symm.trans h0_) (by decide)⟩
  refine steps_cons ?_ ?_
  ·rintro b a w' ⟨xo, xk, m3_, m7_, m8_, m9_, ha, Q_fL, Q_fB, Q_fo, Q_fk, Q_X3_, Q_X7_, Q_X8_, Q_X9_⟩ hb_ hon hoff
   refine ⟨_, rfl, fun K hK => ?_⟩
   have e30 : a.tmps[30]? = some (m3_) := by rw [ha]; exact putSel_on (e := (3, 30, m3_)) 3 rfl rfl (hon 3 (by kernel_rfl)) rfl
   rw [Q_X3_ (hon 3 (by kernel_rfl))] at e30
   replace ha := As.mk ha
   have fL := As.mk Q_fL
   have fB := As.mk Q_fB
   have fo := As.mk (Q_fo (hon 3 (by kernel_rfl)))
   refine value_ (w1 := w') (v := .slice (some ⟨xo, 0, none⟩) n n) (by rfl) rfl ?_ ?_
   ·go_simp
    (try simp only [i64_w, hWH])
    try rfl
   refine hK.out _ _ ⟨xo, xk, m3_, m7_, (.slice (some ⟨xo, 0, none⟩) n n), m9_, (by rw [ha.out]; exact putSel_upk 8 hb_ rfl rfl rfl), Q_fL, Q_fB, Q_fo, Q_fk, Q_X3_, Q_X7_, fun _ => rfl, fun h0_ => absurd ((hoff 9 (by kernel_rfl)).symm.trans h0_) (by decide)⟩
  refine steps_cons ?_ ?_
  ·rintro b a w' ⟨xo, xk, m3_, m7_, m8_, m9_, ha, Q_fL, Q_fB, Q_fo, Q_fk, Q_X3_, Q_X7_, Q_X8_, Q_X9_⟩ hb_ hon hoff
   refine ⟨_, rfl, fun K hK => ?_⟩
   have e34 : a.tmps[34]? = some (m7_) := by rw [ha]; exact putSel_on (e := (7, 34, m7_)) 7 rfl rfl (hon 7 (by kernel_rfl)) rfl
   rw [Q_X7_ (hon 7 (by kernel_rfl))] at e34
   replace ha := As.mk ha
   have fL := As.mk Q_fL
   have fB := As.mk Q_fB
   have fo := As.mk (Q_fo (hon 3 (by kernel_rfl)))
   have fk := As.mk (Q_fk (hon 7 (by kernel_rfl)))
   refine value_ (w1 := w') (v := .slice (some ⟨xk, 0, none⟩) n n) (by rfl) rfl ?_ ?_
   ·go_simp
    (try simp only [i64_w, hWH])
    try rfl
   refine hK.out _ _ ⟨xo, xk, m3_, m7_, m8_, (.slice (some ⟨xk, 0, none⟩) n n), (by rw [ha.out]; exact putSel_upk 9 hb_ rfl rfl rfl), Q_fL, Q_fB, Q_fo, Q_fk, Q_X3_, Q_X7_, Q_X8_, fun _ => rfl⟩
  exact steps_nil
 ·rintro b a w' hall ⟨xo, xk, m3_, m7_, m8_, m9_, ha, Q_fL, Q_fB, Q_fo, Q_fk, Q_X3_, Q_X7_, Q_X8_, Q_X9_⟩
  clear fB fL
  have hb0_ := hall 0 (by kernel_rfl)
  have hb1_ := hall 1 (by kernel_rfl)
  have hb2_ := hall 2 (by kernel_rfl)
  have hb3_ := hall 3 (by kernel_rfl)
  have hb4_ := hall 4 (by kernel_rfl)
  have hb5_ := hall 5 (by kernel_rfl)
  have hb6_ := hall 6 (by kernel_rfl)
  have hb7_ := hall 7 (by kernel_rfl)
  have hb8_ := hall 8 (by kernel_rfl)
  have hb9_ := hall 9 (by kernel_rfl)
  subst ha
  obtain rfl := Q_X3_ hb3_
  obtain rfl := Q_X7_ hb7_
  obtain rfl := Q_X8_ hb8_
  obtain rfl := Q_X9_ hb9_
  simp only [putSel, hb0_, hb1_, hb2_, hb3_, hb4_, hb5_, hb6_, hb7_, hb8_, hb9_, if_true, Act.put, List.setIfInBounds_toArray, List.set_cons_zero, List.set_cons_succ]
  have fL := As.mk Q_fL
  clear Q_fL
  have fB := As.mk Q_fB
  clear Q_fB
  have fo := As.mk (Q_fo hb3_)
  clear Q_fo
  have fk := As.mk (Q_fk hb7_)
  clear Q_fk
  clear hall hb0_ hb1_ hb2_ hb3_ hb4_ hb5_ hb6_ hb7_ hb8_ hb9_
  have HM0 := As.mk (owStart fL.out fB.out fo.out fk.out)
  clear fL fB fo fk Q_X3_ Q_X7_ Q_X8_ Q_X9_ hHeld
  go_wp2_with fail
  obtain ⟨ws, hws⟩ : ∃ ws, w'.alloc (.cells sidesC 39 (0, 0)) = ws := ⟨_, rfl⟩
  have HM1 := HM0
  rw [hws] at HM1
  rw [show w'.alloc (.cells #[.int .i64 0, .int .i64 (-1), .int .i64 (-1), .int .i64 0, .int .i64 1, .int .i64 0, .int .i64 0, .int .i64 1] 39) = ws from hws]
  clear HM0 hws
  generalize w'.heap.size = xs at HM1 ⊢
  generalize w.heap.size = bL at HM1 ⊢
  go_loopg [13] k (fun kq v wr => ∃ (out : List S39) (kn : List Bool) (ag : Bool), v = .bool ag ∧ As (out.length = n ∧ kn.length = n) ∧ As (owAll W H ls kq (out, kn, ag) = some r) ∧ As (OW w wr bL xo xk xs (.slice A2 ls.length c2) out kn))
  case atStart => exact ⟨_, _, true, rfl, ⟨by simp, by simp⟩, HA, HM1⟩
  case round =>
   clear HM1 HA
   obtain ⟨out, kn, ag, rfl, HLn, HA, HM⟩ := hrel
   cases gk with
   | zero => exact absurd HA.out (by simp [owAll])
   | succ k1 =>
    cases ag with
    | false =>
     have e : some out = some r := HA.out
     obtain rfl := Option.some.inj e
     go_wp2
     go_ret
     exact ⟨_, rfl, owRow HM.out HLn.out.1 hn9, HM.out.hb⟩
    | true =>
     have HA1 : As (owAll W H ls k1 (owFaces W H ls n (out, kn, false)) = some r) := ⟨by rw [HN.out]; exact HA.out⟩
     clear HA
     go_wp2_with fail
     go_loopw [13, 44] (fun v13 v44 wr1 => ∃ (f m : Nat) (out1 : List S39) (kn1 : List Bool) (ag1 : Bool), v13 = .bool ag1 ∧ v44 = .int .i64 (f : Int) ∧ f + m = n ∧ As (out1.length = n ∧ kn1.length = n) ∧ As (owFaces W H ls m (out1, kn1, ag1) = owFaces W H ls n (out, kn, false)) ∧ As (OW w wr1 bL xo xk xs (.slice A2 ls.length c2) out1 kn1)) (fun _ v44 _ => n - (intOf v44).toNat)
     case atStart => exact ⟨0, n, out, kn, false, rfl, rfl, by omega, HLn, ⟨rfl⟩, HM⟩
     case round =>
      clear HM HLn
      obtain ⟨f, m, out1, kn1, ag1, rfl, rfl, hfm, HLn, HF, HM1⟩ := hrel
      by_cases hf : f < n
      ·obtain ⟨m, rfl⟩ : ∃ m1, m = m1 + 1 := ⟨m - 1, by omega⟩
       have hW0 : 0 < W := Nat.pos_of_ne_zero (fun h0 => by rw [HN.out, h0, Nat.zero_mul] at hf; omega)
       have HF1 : As (owFaces W H ls m (owSides W H ls f 4 (out1, kn1, ag1)) = owFaces W H ls n (out, kn, false)) := ⟨by have h_ := HF.out; rw [owFaces, ← HN.out, show n - 1 - m = f by omega] at h_; exact h_⟩
       clear HF
       obtain ⟨x, hx⟩ : ∃ x, f % W = x := ⟨_, rfl⟩
       obtain ⟨y, hy⟩ : ∃ y, f / W = y := ⟨_, rfl⟩
       have HXY := As.mk (And.intro hx hy)
       have tm_ : (f : Int).tmod (W : Int) = (x : Int) := by rw [Int.tmod_eq_emod_of_nonneg (by omega), ← hx]; simp
       have td_ : (f : Int).tdiv (W : Int) = (y : Int) := by rw [Int.tdiv_eq_ediv_of_nonneg (by omega), ← hy]; simp
       have hxW : x < W := by rw [← hx]; exact Nat.mod_lt _ hW0
       have hyH : y < H := by rw [← hy]; exact (Nat.div_lt_iff_lt_mul hW0).2 (by rw [Nat.mul_comm, ← HN.out]; exact hf)
       have hW3 := HW.out.1
       have hH3 := HW.out.2
       have wy_ : wrap64 (y : Int) = (y : Int) := by unfold wrap64; omega
       have hWi : ¬ W = 0 := by omega
       clear hx hy hW3 hH3
       go_wp2_with fail
       have HM2 := As.mk HM1.out.drew
       clear HM1
       refine start_ (n := 8) (S := fun _ => True) (ds := []) #[false, false, false, false, false, false, false, false] (by kernel_rfl) rfl rfl trivial (fun hHeld => ?_)
       generalize World.drew wr = w3 at HM2 hHeld ⊢
       refine pure_ (i := 0) (N := (some 47)) (v := ?_) (a' := ?_) #[true, false, false, false, false, false, false, false] rfl rfl (by kernel_rfl) (fun _ _ _ h => h) (Or.inl ⟨by rfl, ?_⟩) ?_ ?_
       rotate_left
       ·intro w'
        go_simp
        with_reducible rfl
       rotate_left
       ·simp only [Act.put, sA, sB, sC, i64_w, i32_w]
        rfl
       refine pure_ (i := 1) (N := (some 48)) (v := ?_) (a' := ?_) #[true, true, false, false, false, false, false, false] rfl rfl (by kernel_rfl) (fun _ _ _ h => h) (Or.inl ⟨by rfl, ?_⟩) ?_ ?_
       rotate_left
       ·intro w'
        go_simp
        with_reducible rfl
       rotate_left
       ·simp only [Act.put, sA, sB, sC, i64_w, i32_w]
        rfl
       refine pure_ (i := 2) (N := (some 49)) (v := ?_) (a' := ?_) #[true, true, true, false, false, false, false, false] rfl rfl (by kernel_rfl) (fun _ _ _ h => h) (Or.inl ⟨by rfl, ?_⟩) ?_ ?_
       rotate_left
       ·intro w'
        go_simp
        try simp only [i64_w, tm_]
        with_reducible rfl
       rotate_left
       ·simp only [Act.put, sA, sB, sC, i64_w, i32_w]
        rfl
       refine pure_ (i := 3) (N := (some 50)) (v := ?_) (a' := ?_) #[true, true, true, true, false, false, false, false] rfl rfl (by kernel_rfl) (fun _ _ _ h => h) (Or.inl ⟨by rfl, ?_⟩) ?_ ?_
       rotate_left
       ·intro w'
        go_simp
        with_reducible rfl
       rotate_left
       ·simp only [Act.put, sA, sB, sC, i64_w, i32_w]
        rfl
       refine pure_ (i := 4) (N := (some 51)) (v := ?_) (a' := ?_) #[true, true, true, true, true, false, false, false] rfl rfl (by kernel_rfl) (fun _ _ _ h => h) (Or.inl ⟨by rfl, ?_⟩) ?_ ?_
       rotate_left
       ·intro w'
        go_simp
        with_reducible rfl
       rotate_left
       ·simp only [Act.put, sA, sB, sC, i64_w, i32_w]
        rfl
       refine pure_ (i := 5) (N := (some 52)) (v := ?_) (a' := ?_) #[true, true, true, true, true, true, false, false] rfl rfl (by kernel_rfl) (fun _ _ _ h => h) (Or.inl ⟨by rfl, ?_⟩) ?_ ?_
       rotate_left
       ·intro w'
        go_simp
        try simp only [i64_w, td_, wy_]
        with_reducible rfl
       rotate_left
       ·simp only [Act.put, sA, sB, sC, i64_w, i32_w]
        rfl
       refine pure_ (i := 6) (N := (some 15)) (v := ?_) (a' := ?_) #[true, true, true, true, true, true, true, false] rfl rfl (by kernel_rfl) (fun _ _ _ h => h) (Or.inl ⟨by rfl, ?_⟩) ?_ ?_
       rotate_left
       ·intro w'
        go_simp
        with_reducible rfl
       rotate_left
       ·simp only [Act.put, sA, sB, sC, i64_w, i32_w]
        rfl
       refine pure_ (i := 7) (N := (some 16)) (v := ?_) (a' := ?_) #[true, true, true, true, true, true, true, true] rfl rfl (by kernel_rfl) (fun _ _ _ h => h) (Or.inl ⟨by rfl, ?_⟩) ?_ ?_
       rotate_left
       ·intro w'
        go_simp
        with_reducible rfl
       rotate_left
       ·simp only [Act.put, sA, sB, sC, i64_w, i32_w]
        rfl
       refine done_ (by kernel_rfl) ?_
       clear tm_ td_ wy_ hWi
       go_wp2_with fail
       go_loopw [13, 55] (fun v13 v55 wr1 => ∃ (j m2 : Nat) (out2 : List S39) (kn2 : List Bool) (ag2 : Bool), v13 = .bool ag2 ∧ v55 = .int .i64 (j : Int) ∧ j + m2 = 4 ∧ As (out2.length = n ∧ kn2.length = n) ∧ As (owSides W H ls f m2 (out2, kn2, ag2) = owSides W H ls f 4 (out1, kn1, ag1)) ∧ As (OW w wr1 bL xo xk xs (.slice A2 ls.length c2) out2 kn2)) (fun _ v55 _ => 4 - (intOf v55).toNat)
       case atStart => exact ⟨0, 4, out1, kn1, ag1, rfl, rfl, rfl, HLn, ⟨rfl⟩, HM2⟩
       case round =>
        clear HM2 HLn
        obtain ⟨j, m2, out2, kn2, ag2, rfl, rfl, hjm, HLn, HS, HM2⟩ := hrel
        by_cases hj : j < 4
        ·obtain ⟨m2, rfl⟩ : ∃ m1, m2 = m1 + 1 := ⟨m2 - 1, by omega⟩
         have HS1 : As (owSides W H ls f m2 (owStep W H ls f j (out2, kn2, ag2)) = owSides W H ls f 4 (out1, kn1, ag1)) := ⟨by have h_ := HS.out; rw [owSides, show 3 - m2 = j by omega] at h_; exact h_⟩
         clear HS
         obtain ⟨s0_, s1_⟩ := HM2.out.cellS hj
         obtain ⟨dx, hdx⟩ : ∃ dx, (owSide j).1 = dx := ⟨_, rfl⟩
         obtain ⟨dy, hdy⟩ : ∃ dy, (owSide j).2 = dy := ⟨_, rfl⟩
         rw [hdx] at s0_
         rw [hdy] at s1_
         have hd1 : -1 ≤ dx ∧ dx ≤ 1 ∧ -1 ≤ dy ∧ dy ≤ 1 := owSide_bd hdx hdy
         have HD := As.mk (And.intro hdx hdy)
         clear hdx hdy
         go_wp2_with fail
         have HX := As.mk (blk_drew (blk_new wr (.cells #[.int .i64 dx, .int .i64 dy] 39 (0, 0))))
         have HM4 := As.mk (HM2.out.alloc (.cells #[.int .i64 dx, .int .i64 dy] 39 (0, 0))).drew
         clear HM2 s0_ s1_
         generalize wr.heap.size = gd at HX ⊢
         obtain ⟨w4, hw4⟩ : ∃ w4, wr.alloc (.cells #[.int .i64 dx, .int .i64 dy] 39 (0, 0)) = w4 := ⟨_, rfl⟩
         rw [hw4] at HX HM4
         rw [show wr.alloc (.cells #[.int .i64 dx, .int .i64 dy] 39) = w4 from hw4]
         clear hw4
         obtain ⟨u, hu_⟩ : ∃ u, wrap64 ((x : Int) + dx) = u := ⟨_, rfl⟩
         obtain ⟨v, hv_⟩ : ∃ v, wrap64 ((y : Int) + dy) = v := ⟨_, rfl⟩
         have hu : u = (x : Int) + dx := by rw [← hu_]; have := HW.out.1; exact wrapS _ (by omega) (by omega)
         have hv : v = (y : Int) + dy := by rw [← hv_]; have := HW.out.2; exact wrapS _ (by omega) (by omega)
         have HUV := As.mk (And.intro hu hv)
         clear hu hv
         refine start_ (n := 10) (S := fun w' => w'.cell? ⟨gd, 0, none⟩ = some (.int .i64 dx) ∧ w'.cell? ⟨gd, 1, none⟩ = some (.int .i64 dy)) (ds := []) #[false, false, false, false, false, false, false, false, false, false] (by kernel_rfl) rfl rfl ⟨(blk_cell HX.out 0).trans rfl, (blk_cell HX.out 1).trans rfl⟩ (fun hHeld => ?_)
         generalize World.drew w4 = w5 at HM4 HX hHeld ⊢
         refine pure_ (i := 0) (N := (some 59)) (v := ?_) (a' := ?_) #[true, false, false, false, false, false, false, false, false, false] rfl rfl (by kernel_rfl) (fun _ _ _ h => h) (Or.inl ⟨by rfl, ?_⟩) ?_ ?_
         rotate_left
         ·intro w'
          go_simp
          with_reducible rfl
         rotate_left
         ·simp only [Act.put, sA, sB, sC, i64_w, i32_w]
          rfl
         refine pure_ (i := 1) (N := (some 60)) (v := ?_) (a' := ?_) #[true, true, false, false, false, false, false, false, false, false] rfl rfl (by kernel_rfl) (fun _ _ _ h => h) (Or.inl ⟨by rfl, ?_⟩) ?_ ?_
         rotate_left
         ·intro w'
          go_simp
          with_reducible rfl
         rotate_left
         ·simp only [Act.put, sA, sB, sC, i64_w, i32_w]
          rfl
         refine take_ (i := 2) (N := (some 61)) (v := ?_) (a' := ?_) #[true, true, true, false, false, false, false, false, false, false] rfl rfl (by kernel_rfl) (fun _ _ _ h => h) (Or.inl ⟨by rfl, ?_⟩) hHeld ?_ ?_
         rotate_left
         ·rintro w' ⟨s0, s1⟩
          go_simp
          with_reducible rfl
         rotate_left
         ·simp only [Act.put, sA, sB, sC, i64_w, i32_w]
          rfl
         refine pure_ (i := 3) (N := (some 62)) (v := ?_) (a' := ?_) #[true, true, true, true, false, false, false, false, false, false] rfl rfl (by kernel_rfl) (fun _ _ _ h => h) (Or.inl ⟨by rfl, ?_⟩) ?_ ?_
         rotate_left
         ·intro w'
          go_simp
          try simp only [i64_w, hu_]
          with_reducible rfl
         rotate_left
         ·simp only [Act.put, sA, sB, sC, i64_w, i32_w]
          rfl
         refine pure_ (i := 4) (N := (some 63)) (v := ?_) (a' := ?_) #[true, true, true, true, true, false, false, false, false, false] rfl rfl (by kernel_rfl) (fun _ _ _ h => h) (Or.inl ⟨by rfl, ?_⟩) ?_ ?_
         rotate_left
         ·intro w'
          go_simp
          with_reducible rfl
         rotate_left
         ·simp only [Act.put, sA, sB, sC, i64_w, i32_w]
          rfl
         refine pure_ (i := 5) (N := (some 64)) (v := ?_) (a' := ?_) #[true, true, true, true, true, true, false, false, false, false] rfl rfl (by kernel_rfl) (fun _ _ _ h => h) (Or.inl ⟨by rfl, ?_⟩) ?_ ?_
         rotate_left
         ·intro w'
          go_simp
          with_reducible rfl
         rotate_left
         ·simp only [Act.put, sA, sB, sC, i64_w, i32_w]
          rfl
         refine take_ (i := 6) (N := (some 65)) (v := ?_) (a' := ?_) #[true, true, true, true, true, true, true, false, false, false] rfl rfl (by kernel_rfl) (fun _ _ _ h => h) (Or.inl ⟨by rfl, ?_⟩) hHeld ?_ ?_
         rotate_left
         ·rintro w' ⟨s0, s1⟩
          go_simp
          with_reducible rfl
         rotate_left
         ·simp only [Act.put, sA, sB, sC, i64_w, i32_w]
          rfl
         refine pure_ (i := 7) (N := (some 66)) (v := ?_) (a' := ?_) #[true, true, true, true, true, true, true, true, false, false] rfl rfl (by kernel_rfl) (fun _ _ _ h => h) (Or.inl ⟨by rfl, ?_⟩) ?_ ?_
         rotate_left
         ·intro w'
          go_simp
          try simp only [i64_w, hv_]
          with_reducible rfl
         rotate_left
         ·simp only [Act.put, sA, sB, sC, i64_w, i32_w]
          rfl
         refine pure_ (i := 8) (N := (some 19)) (v := ?_) (a' := ?_) #[true, true, true, true, true, true, true, true, true, false] rfl rfl (by kernel_rfl) (fun _ _ _ h => h) (Or.inl ⟨by rfl, ?_⟩) ?_ ?_
         rotate_left
         ·intro w'
          go_simp
          with_reducible rfl
         rotate_left
         ·simp only [Act.put, sA, sB, sC, i64_w, i32_w]
          rfl
         refine pure_ (i := 9) (N := (some 20)) (v := ?_) (a' := ?_) #[true, true, true, true, true, true, true, true, true, true] rfl rfl (by kernel_rfl) (fun _ _ _ h => h) (Or.inl ⟨by rfl, ?_⟩) ?_ ?_
         rotate_left
         ·intro w'
          go_simp
          with_reducible rfl
         rotate_left
         ·simp only [Act.put, sA, sB, sC, i64_w, i32_w]
          rfl
         refine done_ (by kernel_rfl) ?_
         clear hu_ hv_
         obtain ⟨kf, hkf⟩ : ∃ kf, kn2.getD f false = kf := ⟨_, rfl⟩
         have HKF := As.mk hkf
         have hbf : 0 ≤ (f : Int) ∧ (f : Int) < (n : Int) := by omega
         have ck_ : ∀ o, (World.alloc w5 o).cell? ⟨xk, f, none⟩ = some (.bool kf) := fun o => by rw [← hkf]; exact (HM4.out.alloc o).cellK (by rw [HLn.out.2]; exact hf)
         have cx_ := cell_of_two HX.out
         obtain ⟨d0_, d1_⟩ := cx_
         clear hkf
         obtain ⟨e1, he1⟩ : ∃ e, wrap64 (wrap64 (wrap64 (2 * (x : Int)) + 1) + dx) = e := ⟨_, rfl⟩
         obtain ⟨e2, he2⟩ : ∃ e, wrap64 (wrap64 (wrap64 (2 * (y : Int)) + 1) + dy) = e := ⟨_, rfl⟩
         have HE : As (e1 = 2 * (x : Int) + 1 + dx ∧ e2 = 2 * (y : Int) + 1 + dy) := ⟨by have := HW.out; exact ⟨by rw [← he1]; exact wrap3 x dx (by omega) hd1.1 hd1.2.1, by rw [← he2]; exact wrap3 y dy (by omega) hd1.2.2.1 hd1.2.2.2⟩⟩
         have HV : As (owStep W H ls f j (out2, kn2, ag2) = if (!kf && (openB ls e1 e2 && (decide (u < 0) || decide (v < 0) || decide ((W : Int) ≤ u) || decide ((H : Int) ≤ v) || kn2.getD (v * (W : Int) + u).toNat false))) = true then (out2.set f ⟨e1, e2⟩, kn2.set f true, true) else (out2, kn2, ag2)) := ⟨by rw [HE.out.1, HE.out.2, ← HKF.out]; exact owStep_val HXY.out.1 HXY.out.2 HD.out.1 HD.out.2 HUV.out.1 HUV.out.2⟩
         obtain ⟨ob, hob⟩ : ∃ ob, openB ls e1 e2 = ob := ⟨_, rfl⟩
         have HOB := As.mk hob
         clear hob
         have hway : u < 0 ∨ (¬ u < 0 ∧ v < 0) ∨ (¬ u < 0 ∧ ¬ v < 0 ∧ (W : Int) ≤ u) ∨ (¬ u < 0 ∧ ¬ v < 0 ∧ ¬ (W : Int) ≤ u ∧ (H : Int) ≤ v) ∨ (¬ u < 0 ∧ ¬ v < 0 ∧ ¬ (W : Int) ≤ u ∧ ¬ (H : Int) ≤ v) := by omega
         rcases hway with h1 | ⟨h1, h2⟩ | ⟨h1, h2, h3⟩ | ⟨h1, h2, h3, h4⟩ | ⟨h1, h2, h3, h4⟩
         ·cases kf with
          | true =>
           go_wp2
           go_roundw
           case rel => exact ⟨j + 1, m2, out2, kn2, ag2, rfl, by go_num, by omega, HLn, ⟨by have h_ := HS1.out; rw [HV.out, if_neg (by simp)] at h_; exact h_⟩, ⟨HM4.out.alloc _⟩⟩
           case measure => simp [intOf]; omega
          | false =>
           go_wp2_with fail
           (try rw [he1])
           (try rw [he2])
           refine (open_calls e1 e2 bL A2 c2 ls _ (HM4.out.alloc _).hL (Kd.C_below HR.out (HM4.out.alloc _).hb) HC.out HL.out).mono ?_
           rintro e w6 ⟨rfl, hb6⟩
           have HM6 := As.mk ((HM4.out.alloc (.cells #[.int .i64 e1, .int .i64 e2] 39 (0, 0))).below hb6)
           have HX6 := As.mk (blk_below (blk_new w5 (.cells #[.int .i64 e1, .int .i64 e2] 39 (0, 0))) hb6)
           clear hb6 ck_ d0_ d1_ he1 he2
           rw [HOB.out]
           generalize w5.heap.size = gc at HX6 ⊢
           cases ob with
           | false =>
            go_wp2
            go_roundw
            case rel => exact ⟨j + 1, m2, out2, kn2, ag2, rfl, by go_num, by omega, HLn, ⟨by have h_ := HS1.out; rw [HV.out, HOB.out, if_neg (by simp)] at h_; exact h_⟩, ⟨HM6.out⟩⟩
            case measure => simp [intOf]; omega
           | true =>
            obtain ⟨x0_, x1_⟩ := cell_of_two HX6.out
            have ck6_ : w6.cell? ⟨xk, f, none⟩ = some (.bool false) := by rw [← HKF.out]; exact HM6.out.cellK (by rw [HLn.out.2]; exact hf)
            have hfi : f * 2 + [Value.int .i64 e1, Value.int .i64 e2].length ≤ (encC out2).toArray.size := by rw [List.size_toArray, encC_length, HLn.out.1]; simp; omega
            have HFI := As.mk hfi
            clear hfi
            go_wp2_with (first | ((with_reducible refine gate_store (t := 39) (p := 124) (v := .tmp 123) rfl ?_); refine storeOp rfl rfl 39 (.tmp 124) (.tmp 123) rfl xo (f * 2) (.agg #[.int .i64 e1, .int .i64 e2]) [.int .i64 e1, .int .i64 e2] ?ha rfl rfl rfl (by simp [Value.oneCell']) HM6.out.ho HFI.out ?_; (case ha => first | rfl | (go_simp; done) | (go_simp; rfl)); intro w7 hw; have HM7 : As (OW w w7 bL xo xk xs (.slice A2 ls.length c2) (out2.set f ⟨e1, e2⟩) kn2) := ⟨by rw [hw]; exact HM6.out.setO (by rw [HLn.out.1]; exact hf) ⟨e1, e2⟩⟩; have ck7_ := HM7.out.cellK (f := f) (by rw [HLn.out.2]; exact hf); have fk7_ := HM7.out.freeK f; clear hw x0_ x1_ ck6_))
            go_roundw
            case rel => exact ⟨j + 1, m2, out2.set f ⟨e1, e2⟩, kn2.set f true, true, rfl, by go_num, by omega, ⟨by rw [List.length_set, List.length_set]; exact HLn.out⟩, ⟨by have h_ := HS1.out; rw [HV.out, HOB.out, if_pos (by simp [h1])] at h_; exact h_⟩, ⟨HM7.out.setK (by rw [HLn.out.2]; exact hf)⟩⟩
            case measure => simp [intOf]; omega
         ·cases kf with
          | true =>
           go_wp2
           go_roundw
           case rel => exact ⟨j + 1, m2, out2, kn2, ag2, rfl, by go_num, by omega, HLn, ⟨by have h_ := HS1.out; rw [HV.out, if_neg (by simp)] at h_; exact h_⟩, ⟨HM4.out.alloc _⟩⟩
           case measure => simp [intOf]; omega
          | false =>
           go_wp2_with fail
           (try rw [he1])
           (try rw [he2])
           refine (open_calls e1 e2 bL A2 c2 ls _ (HM4.out.alloc _).hL (Kd.C_below HR.out (HM4.out.alloc _).hb) HC.out HL.out).mono ?_
           rintro e w6 ⟨rfl, hb6⟩
           have HM6 := As.mk ((HM4.out.alloc (.cells #[.int .i64 e1, .int .i64 e2] 39 (0, 0))).below hb6)
           have HX6 := As.mk (blk_below (blk_new w5 (.cells #[.int .i64 e1, .int .i64 e2] 39 (0, 0))) hb6)
           clear hb6 ck_ d0_ d1_ he1 he2
           rw [HOB.out]
           generalize w5.heap.size = gc at HX6 ⊢
           cases ob with
           | false =>
            go_wp2
            go_roundw
            case rel => exact ⟨j + 1, m2, out2, kn2, ag2, rfl, by go_num, by omega, HLn, ⟨by have h_ := HS1.out; rw [HV.out, HOB.out, if_neg (by simp)] at h_; exact h_⟩, ⟨HM6.out⟩⟩
            case measure => simp [intOf]; omega
           | true =>
            obtain ⟨x0_, x1_⟩ := cell_of_two HX6.out
            have ck6_ : w6.cell? ⟨xk, f, none⟩ = some (.bool false) := by rw [← HKF.out]; exact HM6.out.cellK (by rw [HLn.out.2]; exact hf)
            have hfi : f * 2 + [Value.int .i64 e1, Value.int .i64 e2].length ≤ (encC out2).toArray.size := by rw [List.size_toArray, encC_length, HLn.out.1]; simp; omega
            have HFI := As.mk hfi
            clear hfi
            go_wp2_with (first | ((with_reducible refine gate_store (t := 39) (p := 124) (v := .tmp 123) rfl ?_); refine storeOp rfl rfl 39 (.tmp 124) (.tmp 123) rfl xo (f * 2) (.agg #[.int .i64 e1, .int .i64 e2]) [.int .i64 e1, .int .i64 e2] ?ha rfl rfl rfl (by simp [Value.oneCell']) HM6.out.ho HFI.out ?_; (case ha => first | rfl | (go_simp; done) | (go_simp; rfl)); intro w7 hw; have HM7 : As (OW w w7 bL xo xk xs (.slice A2 ls.length c2) (out2.set f ⟨e1, e2⟩) kn2) := ⟨by rw [hw]; exact HM6.out.setO (by rw [HLn.out.1]; exact hf) ⟨e1, e2⟩⟩; have ck7_ := HM7.out.cellK (f := f) (by rw [HLn.out.2]; exact hf); have fk7_ := HM7.out.freeK f; clear hw x0_ x1_ ck6_))
            go_roundw
            case rel => exact ⟨j + 1, m2, out2.set f ⟨e1, e2⟩, kn2.set f true, true, rfl, by go_num, by omega, ⟨by rw [List.length_set, List.length_set]; exact HLn.out⟩, ⟨by have h_ := HS1.out; rw [HV.out, HOB.out, if_pos (by simp [h1, h2])] at h_; exact h_⟩, ⟨HM7.out.setK (by rw [HLn.out.2]; exact hf)⟩⟩
            case measure => simp [intOf]; omega
         ·cases kf with
          | true =>
           go_wp2
           go_roundw
           case rel => exact ⟨j + 1, m2, out2, kn2, ag2, rfl, by go_num, by omega, HLn, ⟨by have h_ := HS1.out; rw [HV.out, if_neg (by simp)] at h_; exact h_⟩, ⟨HM4.out.alloc _⟩⟩
           case measure => simp [intOf]; omega
          | false =>
           go_wp2_with fail
           (try rw [he1])
           (try rw [he2])
           refine (open_calls e1 e2 bL A2 c2 ls _ (HM4.out.alloc _).hL (Kd.C_below HR.out (HM4.out.alloc _).hb) HC.out HL.out).mono ?_
           rintro e w6 ⟨rfl, hb6⟩
           have HM6 := As.mk ((HM4.out.alloc (.cells #[.int .i64 e1, .int .i64 e2] 39 (0, 0))).below hb6)
           have HX6 := As.mk (blk_below (blk_new w5 (.cells #[.int .i64 e1, .int .i64 e2] 39 (0, 0))) hb6)
           clear hb6 ck_ d0_ d1_ he1 he2
           rw [HOB.out]
           generalize w5.heap.size = gc at HX6 ⊢
           cases ob with
           | false =>
            go_wp2
            go_roundw
            case rel => exact ⟨j + 1, m2, out2, kn2, ag2, rfl, by go_num, by omega, HLn, ⟨by have h_ := HS1.out; rw [HV.out, HOB.out, if_neg (by simp)] at h_; exact h_⟩, ⟨HM6.out⟩⟩
            case measure => simp [intOf]; omega
           | true =>
            obtain ⟨x0_, x1_⟩ := cell_of_two HX6.out
            have ck6_ : w6.cell? ⟨xk, f, none⟩ = some (.bool false) := by rw [← HKF.out]; exact HM6.out.cellK (by rw [HLn.out.2]; exact hf)
            have hfi : f * 2 + [Value.int .i64 e1, Value.int .i64 e2].length ≤ (encC out2).toArray.size := by rw [List.size_toArray, encC_length, HLn.out.1]; simp; omega
            have HFI := As.mk hfi
            clear hfi
            go_wp2_with (first | ((with_reducible refine gate_store (t := 39) (p := 124) (v := .tmp 123) rfl ?_); refine storeOp rfl rfl 39 (.tmp 124) (.tmp 123) rfl xo (f * 2) (.agg #[.int .i64 e1, .int .i64 e2]) [.int .i64 e1, .int .i64 e2] ?ha rfl rfl rfl (by simp [Value.oneCell']) HM6.out.ho HFI.out ?_; (case ha => first | rfl | (go_simp; done) | (go_simp; rfl)); intro w7 hw; have HM7 : As (OW w w7 bL xo xk xs (.slice A2 ls.length c2) (out2.set f ⟨e1, e2⟩) kn2) := ⟨by rw [hw]; exact HM6.out.setO (by rw [HLn.out.1]; exact hf) ⟨e1, e2⟩⟩; have ck7_ := HM7.out.cellK (f := f) (by rw [HLn.out.2]; exact hf); have fk7_ := HM7.out.freeK f; clear hw x0_ x1_ ck6_))
            go_roundw
            case rel => exact ⟨j + 1, m2, out2.set f ⟨e1, e2⟩, kn2.set f true, true, rfl, by go_num, by omega, ⟨by rw [List.length_set, List.length_set]; exact HLn.out⟩, ⟨by have h_ := HS1.out; rw [HV.out, HOB.out, if_pos (by simp [h1, h2, h3])] at h_; exact h_⟩, ⟨HM7.out.setK (by rw [HLn.out.2]; exact hf)⟩⟩
            case measure => simp [intOf]; omega
         ·cases kf with
          | true =>
           go_wp2
           go_roundw
           case rel => exact ⟨j + 1, m2, out2, kn2, ag2, rfl, by go_num, by omega, HLn, ⟨by have h_ := HS1.out; rw [HV.out, if_neg (by simp)] at h_; exact h_⟩, ⟨HM4.out.alloc _⟩⟩
           case measure => simp [intOf]; omega
          | false =>
           go_wp2_with fail
           (try rw [he1])
           (try rw [he2])
           refine (open_calls e1 e2 bL A2 c2 ls _ (HM4.out.alloc _).hL (Kd.C_below HR.out (HM4.out.alloc _).hb) HC.out HL.out).mono ?_
           rintro e w6 ⟨rfl, hb6⟩
           have HM6 := As.mk ((HM4.out.alloc (.cells #[.int .i64 e1, .int .i64 e2] 39 (0, 0))).below hb6)
           have HX6 := As.mk (blk_below (blk_new w5 (.cells #[.int .i64 e1, .int .i64 e2] 39 (0, 0))) hb6)
           clear hb6 ck_ d0_ d1_ he1 he2
           rw [HOB.out]
           generalize w5.heap.size = gc at HX6 ⊢
           cases ob with
           | false =>
            go_wp2
            go_roundw
            case rel => exact ⟨j + 1, m2, out2, kn2, ag2, rfl, by go_num, by omega, HLn, ⟨by have h_ := HS1.out; rw [HV.out, HOB.out, if_neg (by simp)] at h_; exact h_⟩, ⟨HM6.out⟩⟩
            case measure => simp [intOf]; omega
           | true =>
            obtain ⟨x0_, x1_⟩ := cell_of_two HX6.out
            have ck6_ : w6.cell? ⟨xk, f, none⟩ = some (.bool false) := by rw [← HKF.out]; exact HM6.out.cellK (by rw [HLn.out.2]; exact hf)
            have hfi : f * 2 + [Value.int .i64 e1, Value.int .i64 e2].length ≤ (encC out2).toArray.size := by rw [List.size_toArray, encC_length, HLn.out.1]; simp; omega
            have HFI := As.mk hfi
            clear hfi
            go_wp2_with (first | ((with_reducible refine gate_store (t := 39) (p := 124) (v := .tmp 123) rfl ?_); refine storeOp rfl rfl 39 (.tmp 124) (.tmp 123) rfl xo (f * 2) (.agg #[.int .i64 e1, .int .i64 e2]) [.int .i64 e1, .int .i64 e2] ?ha rfl rfl rfl (by simp [Value.oneCell']) HM6.out.ho HFI.out ?_; (case ha => first | rfl | (go_simp; done) | (go_simp; rfl)); intro w7 hw; have HM7 : As (OW w w7 bL xo xk xs (.slice A2 ls.length c2) (out2.set f ⟨e1, e2⟩) kn2) := ⟨by rw [hw]; exact HM6.out.setO (by rw [HLn.out.1]; exact hf) ⟨e1, e2⟩⟩; have ck7_ := HM7.out.cellK (f := f) (by rw [HLn.out.2]; exact hf); have fk7_ := HM7.out.freeK f; clear hw x0_ x1_ ck6_))
            go_roundw
            case rel => exact ⟨j + 1, m2, out2.set f ⟨e1, e2⟩, kn2.set f true, true, rfl, by go_num, by omega, ⟨by rw [List.length_set, List.length_set]; exact HLn.out⟩, ⟨by have h_ := HS1.out; rw [HV.out, HOB.out, if_pos (by simp [h1, h2, h3, h4])] at h_; exact h_⟩, ⟨HM7.out.setK (by rw [HLn.out.2]; exact hf)⟩⟩
            case measure => simp [intOf]; omega
         ·cases kf with
          | true =>
           go_wp2
           go_roundw
           case rel => exact ⟨j + 1, m2, out2, kn2, ag2, rfl, by go_num, by omega, HLn, ⟨by have h_ := HS1.out; rw [HV.out, if_neg (by simp)] at h_; exact h_⟩, ⟨HM4.out.alloc _⟩⟩
           case measure => simp [intOf]; omega
          | false =>
           go_wp2_with fail
           (try rw [he1])
           (try rw [he2])
           refine (open_calls e1 e2 bL A2 c2 ls _ (HM4.out.alloc _).hL (Kd.C_below HR.out (HM4.out.alloc _).hb) HC.out HL.out).mono ?_
           rintro e w6 ⟨rfl, hb6⟩
           have HM6 := As.mk ((HM4.out.alloc (.cells #[.int .i64 e1, .int .i64 e2] 39 (0, 0))).below hb6)
           have HX6 := As.mk (blk_below (blk_new w5 (.cells #[.int .i64 e1, .int .i64 e2] 39 (0, 0))) hb6)
           clear hb6 ck_ d0_ d1_ he1 he2
           rw [HOB.out]
           generalize w5.heap.size = gc at HX6 ⊢
           cases ob with
           | false =>
            go_wp2
            go_roundw
            case rel => exact ⟨j + 1, m2, out2, kn2, ag2, rfl, by go_num, by omega, HLn, ⟨by have h_ := HS1.out; rw [HV.out, HOB.out, if_neg (by simp)] at h_; exact h_⟩, ⟨HM6.out⟩⟩
            case measure => simp [intOf]; omega
           | true =>
            obtain ⟨x0_, x1_⟩ := cell_of_two HX6.out
            have ck6_ : w6.cell? ⟨xk, f, none⟩ = some (.bool false) := by rw [← HKF.out]; exact HM6.out.cellK (by rw [HLn.out.2]; exact hf)
            have hfi : f * 2 + [Value.int .i64 e1, Value.int .i64 e2].length ≤ (encC out2).toArray.size := by rw [List.size_toArray, encC_length, HLn.out.1]; simp; omega
            have HFI := As.mk hfi
            clear hfi
            have hvw := Int.mul_nonneg (show (0 : Int) ≤ v by omega) (show (0 : Int) ≤ W by omega)
            obtain ⟨g, hg⟩ : ∃ g : Nat, v * (W : Int) + u = (g : Int) := ⟨(v * (W : Int) + u).toNat, (Int.toNat_of_nonneg (by omega)).symm⟩
            have hgn : g < n := vw_lt HN.out (by omega) (by omega) (by omega) (by omega) hg
            have h112 : wrap64 (v * (W : Int)) = v * (W : Int) := wrapS _ (by omega) (by omega)
            have h114 : wrap64 (v * (W : Int) + u) = (g : Int) := by rw [hg]; exact wrapS _ (by omega) (by omega)
            clear hvw
            have hbg : 0 ≤ (g : Int) ∧ (g : Int) < (n : Int) := by omega
            obtain ⟨kg, hkg⟩ : ∃ kg, kn2.getD g false = kg := ⟨_, rfl⟩
            have cg6_ : w6.cell? ⟨xk, g, none⟩ = some (.bool kg) := by rw [← hkg]; exact HM6.out.cellK (by rw [HLn.out.2]; exact hgn)
            have HV2 := HV.out
            rw [hg, Int.toNat_natCast, hkg] at HV2
            have HV := As.mk HV2
            clear HV2 hg hkg
            cases kg with
            | false =>
             go_wp2
             go_roundw
             case rel => exact ⟨j + 1, m2, out2, kn2, ag2, rfl, by go_num, by omega, HLn, ⟨by have h_ := HS1.out; rw [HV.out, HOB.out, if_neg (by simp [h1, h2, h3, h4])] at h_; exact h_⟩, ⟨HM6.out⟩⟩
             case measure => simp [intOf]; omega
            | true =>
             go_wp2_with (first | ((with_reducible refine gate_store (t := 39) (p := 124) (v := .tmp 123) rfl ?_); refine storeOp rfl rfl 39 (.tmp 124) (.tmp 123) rfl xo (f * 2) (.agg #[.int .i64 e1, .int .i64 e2]) [.int .i64 e1, .int .i64 e2] ?ha rfl rfl rfl (by simp [Value.oneCell']) HM6.out.ho HFI.out ?_; (case ha => first | rfl | (go_simp; done) | (go_simp; rfl)); intro w7 hw; have HM7 : As (OW w w7 bL xo xk xs (.slice A2 ls.length c2) (out2.set f ⟨e1, e2⟩) kn2) := ⟨by rw [hw]; exact HM6.out.setO (by rw [HLn.out.1]; exact hf) ⟨e1, e2⟩⟩; have ck7_ := HM7.out.cellK (f := f) (by rw [HLn.out.2]; exact hf); have fk7_ := HM7.out.freeK f; clear hw cg6_ x0_ x1_ ck6_))
             go_roundw
             case rel => exact ⟨j + 1, m2, out2.set f ⟨e1, e2⟩, kn2.set f true, true, rfl, by go_num, by omega, ⟨by rw [List.length_set, List.length_set]; exact HLn.out⟩, ⟨by have h_ := HS1.out; rw [HV.out, HOB.out, if_pos (by simp [h1, h2, h3, h4])] at h_; exact h_⟩, ⟨HM7.out.setK (by rw [HLn.out.2]; exact hf)⟩⟩
             case measure => simp [intOf]; omega
        ·obtain rfl : m2 = 0 := by omega
         have HF2 : As (owFaces W H ls m (out2, kn2, ag2) = owFaces W H ls n (out, kn, false)) := ⟨by have h_ := HS.out; rw [owSides] at h_; rw [h_]; exact HF1.out⟩
         go_wp2
         go_roundw
         case rel => exact ⟨f + 1, m, out2, kn2, ag2, rfl, by go_num, by omega, HLn, HF2, HM2⟩
         case measure => simp [intOf]; omega
      ·obtain rfl : m = 0 := by omega
       have HA2 : As (owAll W H ls k1 (out1, kn1, ag1) = some r) := ⟨by have h_ := HF.out; rw [owFaces] at h_; rw [h_]; exact HA1.out⟩
       go_wp2
       go_roundg k1
       case measure => omega
       case rel => exact ⟨out1, kn1, ag1, rfl, HLn, HA2, HM1⟩
theorem owAll_mono (W H : Nat) (ls : List S50) : ∀ (k : Nat) (s : OSt), LeO (owAll W H ls k s) (owAll W H ls (k + 1) s)
 | 0, s => LeO.none _
 | k + 1, s => by
  unfold owAll
  refine LeO.ite ?_ ?_
  ·exact owAll_mono W H ls k _
  ·exact LeO.refl _
def i_outward.f (k : Nat) (a0 : Int) (a1 : Int) (l2 : List (S50)) : Option ((List (S39))) :=
 if 1 ≤ a0 ∧ a0 ≤ 4 ∧ 1 ≤ a1 ∧ a1 ≤ 4 ∧ l2.length < 4611686018427387904 then
  owAll (a0 - 1).toNat (a1 - 1).toNat l2 k (List.replicate ((a0 - 1).toNat * (a1 - 1).toNat) ⟨0, 0⟩, List.replicate ((a0 - 1).toNat * (a1 - 1).toNat) false, true)
 else none
theorem i_outward.mono : ∀ a0 a1 l2 k, LeO (i_outward.f k a0 a1 l2) (i_outward.f (k + 1) a0 a1 l2) := by
 intro a0 a1 l2 k
 unfold i_outward.f
 refine LeO.ite ?_ (LeO.refl _)
 exact owAll_mono _ _ _ _ _
theorem i_outward.calls (k : Nat) (a0 : Int) (a1 : Int) (A2 : Option Addr) (c2 : Nat) (l2 : List (S50)) (r : List (S39)) (w : World) (hr2 : Kd.C k50 w A2 l2.length l2) (hc2 : l2.length ≤ c2) (h : i_outward.f k a0 a1 l2 = some r) :
  Calls Try.prog 80 #[.int .i64 a0, .int .i64 a1, .slice A2 l2.length c2] w fun e w' => ∃ v0_ : Value, e = .returned (v0_) ∧ Kd.R k39 39 w' w.heap.size (fun _ => True) v0_ r ∧ Below w.heap.size w w' := by
 unfold i_outward.f at h
 split at h
 ·rename_i hb
  obtain ⟨h1, h2, h3, h4, h5⟩ := hb
  generalize hW : (a0 - 1).toNat = W at h
  generalize hH : (a1 - 1).toNat = H at h
  have hW3 : W ≤ 3 := by omega
  have hH3 : H ≤ 3 := by omega
  have h9 : W * H ≤ 3 * 3 := Nat.mul_le_mul hW3 hH3
  have e : (W : Int) * (H : Int) = ((W * H : Nat) : Int) := by push_cast; rfl
  refine out_calls a0 a1 W H (W * H) (by unfold wrap64; omega) (by unfold wrap64; omega) ?_ rfl hW3 hH3 k A2 c2 l2 r w hr2 hc2 h5 h
  rw [e]
  exact wrapS _ (by omega) (by omega)
 ·cases h
end Go.Proofs.Ytnfnlmilmpaofaa.PFnExactTreeOfTiling
