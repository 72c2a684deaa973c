/- FnExactTreeOfTiling holds: the program's TreeOfTiling returns what the reference's returns, for all arguments. No condition but the row's own. -/
import Derived.Deep.Slices
import Derived.Deep.Strs
import Derived.Deep.Fields
import Derived.ChangeSame
import Derived.SizedLaws
import Derived.Test.YtnfnlmilmpaofaaRows
import Derived.WalkKit
import Derived.ProofKit
import Derived.OpenShut
import Derived.ShutString
import Derived.ChangeOld
import Derived.Below
import Derived.Test.YtnfnlmilmpaofaaTA1
import Derived.Test.YtnfnlmilmpaofaaTB1
import Derived.Test.YtnfnlmilmpaofaaTB2
import Derived.Test.YtnfnlmilmpaofaaTB3
import Derived.Test.YtnfnlmilmpaofaaTB4
import Derived.Test.YtnfnlmilmpaofaaTC1
namespace Go.Proofs.Ytnfnlmilmpaofaa.Xyb
open Go.ChangeShapes Go.WideShapes Go.Deep
section
variable {H : Type} {enc : TypeId × Value → H} {P : Program} {w : World} {base : Nat} {spare : Nat → Bool} {held : Bool}
/-- A slice of structs of two whole numbers and a bool: its elements; its length in its datum. -/
theorem open_xyb {t e : TypeId} {f0 f1 f2 : Field} {A : Option Addr} {len cap : Nat} {d : DataW H} {p : List MemPlace} (ht : P.underlying t = some (.slice e)) (he : P.underlying e = some (.struct #[f0, f1, f2])) (hone : oneCellFields P #[f0, f1, f2] = true) (hC : P.cellsOf e = 3)
    (u0 : P.underlying f0.type = some (.int .i64)) (u1 : P.underlying f1.type = some (.int .i64)) (u2 : P.underlying f2.type = some .bool) (h : DataW.Trod enc P w base spare held t (.slice A len cap) d p) :
    len ≤ cap ∧ len ≤ maxLen ∧ (len = 0 ∨ ∃ el sp, d = .slice el sp ∧ el.length = len) ∧ ∃ zs : List (Int × Int × Bool), zs.length = len ∧ (0 < len → ∃ ad, A = some ad ∧ ∀ j z, zs[j]? = some z →
      w.cell? (ad.add (j * 3 + 0)) = some (.int .i64 z.1) ∧ w.cell? (ad.add (j * 3 + 1)) = some (.int .i64 z.2.1) ∧ w.cell? (ad.add (j * 3 + 2)) = some (.bool z.2.2)) ∧
      ∀ z ∈ zs, (Lit.int .i64 z.1).wf = true ∧ (Lit.int .i64 z.2.1).wf = true := by
  obtain ⟨fuel, hf⟩ := h
  rcases open_slice ht hf with ⟨hcs, _⟩ | ⟨a, l, c, m, n, D, Pl, hcs, _, hl, hm, hmm, hx, hi⟩
  · simp [Value.cells] at hcs
    obtain ⟨rfl, rfl, rfl⟩ := hcs
    exact ⟨Nat.le_refl _, by unfold maxLen; omega, .inl rfl, [], rfl, fun h => absurd h (by omega), fun z hz => by cases hz⟩
  · simp [Value.cells] at hcs
    obtain ⟨rfl, rfl, rfl⟩ := hcs
    have hlm : len ≤ m := by rw [hmm]; split <;> omega
    obtain ⟨o0, c0⟩ := hone_of hone 0 f0 rfl
    obtain ⟨o1, c1⟩ := hone_of hone 1 f1 rfl
    obtain ⟨o2, c2⟩ := hone_of hone 2 f2 rfl
    have each : ∀ i, i < len → ∃ z : Int × Int × Bool, (w.cell? (a.add (i * 3 + 0)) = some (.int .i64 z.1) ∧ w.cell? (a.add (i * 3 + 1)) = some (.int .i64 z.2.1) ∧ w.cell? (a.add (i * 3 + 2)) = some (.bool z.2.2)) ∧ (Lit.int .i64 z.1).wf = true ∧ (Lit.int .i64 z.2.1).wf = true := by
      intro i hil
      obtain ⟨cs', h1, h2⟩ := hi i (by omega)
      rw [hC] at h1
      obtain ⟨_, hlen, hcell⟩ := World.cells?_some h1
      obtain ⟨y0, y1, y2, n', _, _, g0, g1, g2⟩ := trod_struct3 he h2
      rw [o0, c0] at g0
      rw [o1, c1] at g1
      rw [o2, c2] at g2
      match cs', hlen with
      | [v0, v1, v2], _ =>
        obtain ⟨z0, e0, _, k0⟩ := DataW.trod_int u0 g0
        obtain ⟨z1, e1, _, k1⟩ := DataW.trod_int u1 g1
        obtain ⟨z2, e2, _⟩ := DataW.trod_bool u2 g2
        have q0 := hcell 0 (by omega)
        have q1 := hcell 1 (by omega)
        have q2 := hcell 2 (by omega)
        rw [add_add] at q0 q1 q2
        simp at e0 e1 e2
        subst e0; subst e1; subst e2
        exact ⟨(z0, z1, z2), ⟨by simpa using q0, by simpa using q1, by simpa using q2⟩, k0, k1⟩
    obtain ⟨q, hq⟩ := choose_lt each
    refine ⟨hl, by omega, .inr ⟨_, _, (Prod.mk.inj hx).1, by simp⟩, (List.range len).map q, by simp, fun _ => ⟨a, rfl, fun j z hj => ?_⟩, fun z hz => ?_⟩
    · have hjl : j < len := by
        have := (List.getElem?_eq_some_iff.1 hj).1
        simpa using this
      rw [List.getElem?_map, List.getElem?_range hjl] at hj
      obtain rfl := Option.some.inj hj
      exact (hq j hjl).1
    · obtain ⟨j, hj, rfl⟩ := List.mem_map.1 hz
      exact (hq j (List.mem_range.1 hj)).2
end
end Go.Proofs.Ytnfnlmilmpaofaa.Xyb
section
namespace Go.Proofs.Ytnfnlmilmpaofaa.fnExactTreeOfTiling
open Go.ChangeShapes Go.WideShapes Go.ChangeAt Go.RowKit
set_option linter.unusedVariables false
theorem own : ownKnob Try.prog.godebug = none := by kernel_rfl
theorem laidOut : laidOutB Try.prog = true := by kernel_rfl
open PFnExactTreeOfTiling Go.Proofs.YtnfnlmilmpaofaaW.PrintWords in
theorem row_of {W : World} {A : Option Addr} {len : Nat} (hm : len ≤ maxLen) {zs : List (Int × Int × Bool)} (hz : zs.length = len)
    (h : 0 < len → ∃ ad, A = some ad ∧ ∀ j z, zs[j]? = some z → W.cell? (ad.add (j * 3 + 0)) = some (.int .i64 z.1) ∧ W.cell? (ad.add (j * 3 + 1)) = some (.int .i64 z.2.1) ∧ W.cell? (ad.add (j * 3 + 2)) = some (.bool z.2.2)) :
    Kd.C k132 W A (zs.map fun z => (⟨z.1, z.2.1, z.2.2⟩ : S132)).length (zs.map fun z => (⟨z.1, z.2.1, z.2.2⟩ : S132)) := by
  subst hz
  refine ⟨rfl, by rw [List.length_map]; exact hm, fun h0 => ?_⟩
  rw [List.length_map] at h0
  obtain ⟨ad, e, hc⟩ := h h0
  refine ⟨ad, e, fun j p hj => ?_⟩
  rw [List.getElem?_map] at hj
  obtain ⟨z, hz, rfl⟩ := Option.map_eq_some_iff.1 hj
  obtain ⟨q0, q1, q2⟩ := hc j z hz
  refine ⟨_, rfl, k132_mk W _, fun i u hi => ?_⟩
  match i, hi with
  | 0, hi => obtain rfl := Option.some.inj hi; exact q0
  | 1, hi => obtain rfl := Option.some.inj hi; exact q1
  | 2, hi => obtain rfl := Option.some.inj hi; exact q2
set_option maxRecDepth 100000 in
theorem lifted (os : Os) (started : os.Started) (H : Type) (enc : TypeId × Value → H) :
    ReturnsInHanded {} Try.checked os 9 .any (Rows.fnExactTreeOfTilingSpec.pre6 enc Try.prog Try.f9 Rows.fnExactTreeOfTilingRow.domain false) (Rows.fnExactTreeOfTilingSpec.post enc Try.prog Try.f9 false true false false) := by
  refine returnsInHanded_of_change_sized (C := Try.checked) own started (by kernel_rfl) Try.func9
    (ChangeSpec.witness6 (enc := enc) (C := Try.checked) false ⟨#[], #[.int .i64 0, .int .i64 0, .slice none 0 0], []⟩ 8 (by kernel_rfl) (by kernel_rfl) (by kernel_rfl) (by kernel_rfl)) ?_
  intro W base args ds gs before hval0 hW hcnd hsz0 _
  have hsz : (DataW.weightsEach Try.prog (Try.f9.params.toList ++ Rows.fnExactTreeOfTilingSpec.plain.varTypes Try.prog) (ds ++ gs)).all (· ≤ reachBytes) = true := hsz0
  have hval : ∀ (j : Nat) t v, Try.f9.params[j]? = some t → args[j]? = some v → Value.okWide Try.prog W .any base t v := hval0
  have hW' := hW
  obtain ⟨p, q, hA0, hV, rfl, hfz, hnd⟩ := hW
  have hA : DataW.TrodAll enc Try.prog W 0 (fun _ => true) true Try.f9.params.toList args.toList ds p := hA0
  rw [Try.params9] at hA hval hsz
  obtain ⟨v0, vs0, d0, ds0, p0, q0, hargs, rfl, rfl, h0, r0⟩ := trodAll_cons hA
  obtain ⟨v1, vs1, d1, ds1, p1, q1, rfl, rfl, rfl, h1, r1⟩ := trodAll_cons r0
  obtain ⟨v2, vs2, d2, ds2, p2, q2, rfl, rfl, rfl, h2, r2⟩ := trodAll_cons r1
  obtain ⟨rfl, rfl, rfl⟩ := trodAll_nil r2
  obtain rfl : args = #[v0, v1, v2] := by cases args; simp_all
  obtain ⟨rfl, rfl⟩ := trodVars_none hV
  obtain ⟨a0, rfl, rfl, rfl, w0⟩ := open_int Try.underlying3 (hval 0 3 v0 rfl rfl) h0
  obtain ⟨a1, rfl, rfl, rfl, w1⟩ := open_int Try.underlying3 (hval 1 3 v1 rfl rfl) h1
  obtain ⟨a2, len2, cap2, rfl⟩ := okWide_slice Try.underlying69 (hval 2 69 v2 rfl rfl)
  have k2 := h2
  have lt2 : ∀ x ∈ p2, x.block < W.heap.size := by obtain ⟨m, hm⟩ := k2; exact DataW.trod_lt m _ _ _ hm
  obtain ⟨hlc, hlm, hds, zs, hzl, hzc, hzw⟩ := Xyb.open_xyb Try.underlying69 Try.underlying132 (by kernel_rfl) (by kernel_rfl) Try.underlying3 Try.underlying3 Try.underlying4 h2
  have hlen : len2 * 24 ≤ 140737488351232 := by
    rcases hds with h | ⟨el, sp, hd, hel⟩
    · omega
    · subst hd
      have z := sized_slice hsz (j := 2) (t := 69) rfl rfl Try.underlying69
      rw [show Try.prog.bytesOf 132 = 24 by kernel_rfl, hel] at z
      have : (140737488351232 : Nat) = reachBytes := rfl
      omega
  have hrow := row_of hlm hzl hzc
  have hcap : (zs.map fun z => (⟨z.1, z.2.1, z.2.2⟩ : PFnExactTreeOfTiling.S132)).length ≤ cap2 := by rw [List.length_map, hzl]; exact hlc
  have hll : (zs.map fun z => (⟨z.1, z.2.1, z.2.2⟩ : PFnExactTreeOfTiling.S132)).length = len2 := by rw [List.length_map, hzl]
  have hlen' : (zs.map fun z => (⟨z.1, z.2.1, z.2.2⟩ : PFnExactTreeOfTiling.S132)).length * 24 ≤ 140737488351232 := by rw [hll]; exact hlen
  clear hA0 hval0 hsz0 hsz
  generalize (zs.map fun z => (⟨z.1, z.2.1, z.2.2⟩ : PFnExactTreeOfTiling.S132)) = ls at hrow hcap hll hlen'
  subst hll
  obtain ⟨k, hp⟩ := Pure.FnExactTreeOfTiling a0 a1 ls hlen'
  refine (PFnExactTreeOfTiling.l_FnExactTreeOfTiling.calls k a0 a1 a2 cap2 ls true W hrow hcap hp).mono fun e W' ⟨he, bel⟩ => ?_
  subst he
  exact ⟨_, rfl, _, _, _, [], _, [], hW', trodAll_mk1 (shut_bool Try.underlying4 _), (trodAll_cons_mk (shut_int Try.underlying3 w0) (trodAll_cons_mk (shut_int Try.underlying3 w1) (trodAll_cons_mk (Below.trod laidOut (by kernel_rfl) (of_decide_eq_true (by kernel_rfl)) k2 bel lt2) trodAll_mk0))), rfl, bel.frame _, fun h => by cases h⟩
theorem over : Rows.fnExactTreeOfTilingRow.holds Try.pinned (OpenSpec.ofChange Rows.fnExactTreeOfTilingSpec) :=
  OpenClaim.holds_of_wide 9 Try.f9 rfl rfl rfl rfl rfl rfl rfl ⟨rfl, rfl, rfl, rfl, rfl⟩ rfl rfl rfl rfl rfl (by kernel_rfl) Try.func9 (by kernel_rfl)
    (of_decide_eq_true (by kernel_rfl)) (by unfold Func.isWrapper; first | (rw [if_pos (by decide +kernel)]; kernel_rfl) | (rw [if_neg (by decide +kernel)]; exact ⟨rfl, rfl⟩))
    (fun os started H enc _ => lifted os started H enc)
theorem proved : Rows.FnExactTreeOfTilingSaid := over
end Go.Proofs.Ytnfnlmilmpaofaa.fnExactTreeOfTiling
namespace Go.Proofs.Ytnfnlmilmpaofaa
/-- The row, under a short name, for the claim. -/
theorem fnExactTreeOfTiling_holds : Rows.FnExactTreeOfTilingSaid := fnExactTreeOfTiling.proved
end Go.Proofs.Ytnfnlmilmpaofaa
end
