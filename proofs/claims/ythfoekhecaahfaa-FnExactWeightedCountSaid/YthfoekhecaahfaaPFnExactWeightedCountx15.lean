-- Printed by our own program (wip/tools/hprint.py), a patched copy of the kit's printer; hand-written contracts are laid in.
import Derived.Test.YthfoekhecaahfaaPFnExactWeightedCountx0
import Derived.Test.YthfoekhecaahfaaPFnExactWeightedCountx8
import Derived.Test.YthfoekhecaahfaaPFnExactWeightedCountx12
import Derived.Test.YthfoekhecaahfaaPFnExactWeightedCountx14
namespace Go.Proofs.Ythfoekhecaahfaa.PFnExactWeightedCount
open Go.RowKit Go.Proofs.YthfoekhecaahfaaW.PrintWords Go.Proofs.YthfoekhecaahfaaW.PrintLast Go.Proofs.YthfoekhecaahfaaW.PrintMore
attribute [local go_sem] max2_int min2_int max_two min_two max_three min_three max_four min_four   -- for this text's walks alone
set_option linter.unusedVariables false
set_option linter.unusedSimpArgs false

/-! ### impl_ListAlternating: function 8 -/
abbrev LM := List (List Int)
abbrev LO := List (List (List Int))

def in01 (a : Int) : Bool := decide (0 ≤ a) && decide (a ≤ 1)
mutual
/-- The loop over x of the closure: matrix m, columns c, found o. -/
def rest.l0 : Nat → Nat → Nat → Int → Int → LM → List Int → LO → Option (LM × List Int × LO)
  | 0, _, _, _, _, _, _, _ => none
  | f + 1, n, k, s, x, m, c, o =>
    if x ≤ 1 then
      if (in01 (s + x) && in01 (wrap64 (rd c ((k % n : Nat) : Int) + x))) = true then
        (rest.f f n (k + 1) (s + x) (m.set (k / n) ((m.getD (k / n) []).set (k % n) x)) (c.set (k % n) (wrap64 (rd c ((k % n : Nat) : Int) + x))) o).bind fun r =>
          rest.l0 f n k s (x + 1) r.1 (r.2.1.set (k % n) (wrap64 (rd r.2.1 ((k % n : Nat) : Int) - x))) r.2.2
      else rest.l0 f n k s (x + 1) m c o
    else some (m, c, o)
/-- The closure. -/
def rest.f : Nat → Nat → Nat → Int → LM → List Int → LO → Option (LM × List Int × LO)
  | 0, _, _, _, _, _, _ => none
  | f + 1, n, k, s, m, c, o =>
    if (decide (0 < k) && decide (k % n = 0) && decide (s ≠ 1)) = true then some (m, c, o)
    else if k = n * n then
      (impl_IsAlternating.f f m).bind fun b => if b = true then (impl_copyRows.f f m).bind fun q => if o.length < 5864062014805 then some (m, c, o ++ [q]) else none else some (m, c, o)
    else rest.l0 f n k (if (decide (0 < k) && decide (k % n = 0)) = true then 0 else s) (-1) m c o
end

/-- The closure's memory: n, m, out, columns, rest; the rows of m. -/
structure LAst (w : World) (B : Nat) (bn bm bo bc br gm gc : Nat) (cm : Nat) (gr : List Nat) (n : Nat) (m : LM) (c : List Int) (vo : Value) (o : LO) : Prop where
  hn : w.heap[bn]? = some (.cells #[.int .i64 (n : Int)] 3 (0, 0))
  hm : w.heap[bm]? = some (.cells #[.slice (some ⟨gm, 0, none⟩) n cm] 27 (0, 0))
  hgm : ∃ cs : Array Value, w.heap[gm]? = some (.cells cs 31 (0, 0)) ∧ n ≤ cm ∧ ∀ j, j < n → cs[j]? = some (.slice (some ⟨gr.getD j 0, 0, none⟩) n n)
  hgr : ∀ j, j < n → w.heap[gr.getD j 0]? = some (.cells ((m.getD j []).map (Value.int .i64)).toArray 3 (0, 0)) ∧ (m.getD j []).length = n
  hc : w.heap[bc]? = some (.cells #[.slice (some ⟨gc, 0, none⟩) n n] 31 (0, 0))
  hgc : w.heap[gc]? = some (.cells (c.map (Value.int .i64)).toArray 3 (0, 0))
  hr : w.heap[br]? = some (.cells #[.func (.func 14) #[] #[.pointer (some ⟨bn, 0, none⟩), .pointer (some ⟨bm, 0, none⟩), .pointer (some ⟨bo, 0, none⟩), .pointer (some ⟨bc, 0, none⟩), .pointer (some ⟨br, 0, none⟩)]] 32 (0, 0))
  ho : w.heap[bo]? = some (.cells #[vo] 24 (0, 0))
  lm : m.length = n
  lc : c.length = n
  own : Kd.R (Kd.slice 31 (Kd.slice 3 (Kd.int .i64))) 27 w B (fun k_ => k_ ∉ bn :: bm :: bo :: bc :: br :: gm :: gc :: gr) vo o

theorem LAst.rows {w : World} {B bn bm bo bc br gm gc cm : Nat} {gr : List Nat} {n : Nat} {m : LM} {c : List Int} {vo : Value} {o : LO} (h : LAst w B bn bm bo bc br gm gc cm gr n m c vo o) (hn4 : n ≤ 4) : Kd.C (Kd.slice 3 (Kd.int .i64)) w (some ⟨gm, 0, none⟩) n m := by
  obtain ⟨cs, hg, hcm, hcs⟩ := h.hgm
  refine ⟨h.lm, by omega, fun hn0 => ⟨_, rfl, fun j p hj => ?_⟩⟩
  have hjn : j < n := by have := (List.getElem?_eq_some_iff.1 hj).1; rw [h.lm] at this; exact this
  obtain ⟨hr, hl⟩ := h.hgr j hjn
  have hp : m.getD j [] = p := by rw [List.getD_eq_getElem?_getD, hj]; rfl
  rw [hp] at hr hl
  refine ⟨[.slice (some ⟨gr.getD j 0, 0, none⟩) n n], rfl, ⟨some ⟨gr.getD j 0, 0, none⟩, n, by rw [hl], by omega, ?_⟩, ?_⟩
  · refine ⟨rfl, by omega, fun _ => ⟨_, rfl, fun i q hi => ⟨[.int .i64 q], rfl, rfl, fun i' u hu => ?_⟩⟩⟩
    match i', hu with
    | 0, hu =>
      simp only [List.getElem?_cons_zero, Option.some.injEq] at hu
      subst hu
      show w.cell? (Addr.add ⟨gr.getD j 0, 0, none⟩ (i * 1 + 0)) = _
      rw [Nat.mul_one, Nat.add_zero, add_plain]
      unfold World.cell?; rw [hr]; simp [hi]
    | i' + 1, hu => simp at hu
  · intro i u hu
    match i, hu with
    | 0, hu =>
      simp only [List.getElem?_cons_zero, Option.some.injEq] at hu
      subst hu
      show w.cell? (Addr.add ⟨gm, 0, none⟩ (j * 1 + 0)) = _
      rw [Nat.mul_one, Nat.add_zero, add_plain]
      unfold World.cell?; rw [hg]; exact hcs j hjn
    | i + 1, hu => simp at hu

theorem LAst.below {w w1 : World} {B bn bm bo bc br gm gc cm : Nat} {gr : List Nat} {n : Nat} {m : LM} {c : List Int} {vo : Value} {o : LO} (h : LAst w B bn bm bo bc br gm gc cm gr n m c vo o) (hb : Below w.heap.size w w1) : LAst w1 B bn bm bo bc br gm gc cm gr n m c vo o := by
  have mv : ∀ {b : Nat} {x : Obj}, w.heap[b]? = some x → w1.heap[b]? = some x := fun hx => (hb.block _ (lt_of_block hx)).trans hx
  obtain ⟨cs, hg, hcm, hcs⟩ := h.hgm
  exact ⟨mv h.hn, mv h.hm, ⟨cs, mv hg, hcm, hcs⟩, fun j hj => ⟨mv (h.hgr j hj).1, (h.hgr j hj).2⟩, mv h.hc, mv h.hgc, mv h.hr, mv h.ho, h.lm, h.lc, Kd.R_below h.own hb⟩

theorem LAst.alt {w : World} {B bn bm bo bc br gm gc cm : Nat} {gr : List Nat} {n : Nat} {m : LM} {c : List Int} {vo : Value} {o : LO} (h : LAst w B bn bm bo bc br gm gc cm gr n m c vo o) (hn4 : n ≤ 4) {f : Nat} {b : Bool} (hf : impl_IsAlternating.f f m = some b) :
    Calls Try.prog 15 #[.slice (some ⟨gm, 0, none⟩) n cm] w fun e w' => e = .returned (.bool b) ∧ Below w.heap.size w w' := by
  have hr := h.rows hn4
  obtain ⟨cs, hg, hcm, hcs⟩ := h.hgm
  have hl := h.lm
  clear h
  subst hl
  exact impl_IsAlternating.calls f _ _ m b w hr hcm hf

theorem LAst.copy {w : World} {B bn bm bo bc br gm gc cm : Nat} {gr : List Nat} {n : Nat} {m : LM} {c : List Int} {vo : Value} {o : LO} (h : LAst w B bn bm bo bc br gm gc cm gr n m c vo o) (hn4 : n ≤ 4) {f : Nat} {q : LM} (hf : impl_copyRows.f f m = some q) :
    Calls Try.prog 16 #[.slice (some ⟨gm, 0, none⟩) n cm] w fun e w' => ∃ v : Value, e = .returned v ∧ Kd.S (Kd.slice 3 (Kd.int .i64)) 31 w' w.heap.size (fun _ => True) v q ∧ Below w.heap.size w w' := by
  have hr := h.rows hn4
  obtain ⟨cs, hg, hcm, hcs⟩ := h.hgm
  have hl := h.lm
  clear h
  subst hl
  exact impl_copyRows.calls f _ _ m q w hr hcm hf
section
variable {w w1 w4 : World} {B bn bm bo bc br gm gc cm : Nat} {gr : List Nat} {n : Nat} {m : LM} {c : List Int} {vo v1 : Value} {o o1 : LO}
theorem LAst.lt (h : LAst w B bn bm bo bc br gm gc cm gr n m c vo o) (hgl : gr.length = n) : ∀ b, b ∈ bn :: bm :: bo :: bc :: br :: gm :: gc :: gr → b < w.heap.size := by
  intro b hb
  obtain ⟨cs, hg, _, _⟩ := h.hgm
  simp only [List.mem_cons] at hb
  rcases hb with rfl | rfl | rfl | rfl | rfl | rfl | rfl | hb
  · exact lt_of_block h.hn
  · exact lt_of_block h.hm
  · exact lt_of_block h.ho
  · exact lt_of_block h.hc
  · exact lt_of_block h.hr
  · exact lt_of_block hg
  · exact lt_of_block h.hgc
  · obtain ⟨j, hj, rfl⟩ := List.getElem_of_mem hb
    have := (h.hgr j (by omega)).1
    rw [List.getD_eq_getElem?_getD, List.getElem?_eq_getElem hj] at this
    exact lt_of_block this
theorem LAst.base_le (h : LAst w B bn bm bo bc br gm gc cm gr n m c vo o) (hBl : ∀ b, b ∈ bn :: bm :: bo :: bc :: br :: gm :: gc :: gr → B ≤ b) : B ≤ w.heap.size := by
  have h1 := lt_of_block h.hn
  have h2 := hBl bn (by simp)
  omega
theorem LAst.fresh (h : LAst w B bn bm bo bc br gm gc cm gr n m c vo o) (hgl : gr.length = n) : ∀ k, w.heap.size ≤ k → k ∉ bn :: bm :: bo :: bc :: br :: gm :: gc :: gr := fun k hk hm => by
  have := h.lt hgl k hm
  omega
theorem LAst.newer (h : LAst w B bn bm bo bc br gm gc cm gr n m c vo o) (hgl : gr.length = n) : ∀ k, w.heap.size ≤ k → (k ∉ bn :: bm :: bo :: bc :: br :: gm :: gc :: gr) ∧ some k ≠ vo.ownBlock := fun k hk => by
  refine ⟨h.fresh hgl k hk, fun he => ?_⟩
  have := Kd.R_lt h.own k he.symm
  omega
theorem LAst.off (h : LAst w B bn bm bo bc br gm gc cm gr n m c vo o) : ∀ b, b ∈ bn :: bm :: bo :: bc :: br :: gm :: gc :: gr → some b ≠ vo.ownBlock := fun b hb he => h.own.1 b he.symm hb
end

section
variable {w w1 w4 : World} {B bn bm bo bc br gm gc cm : Nat} {gr : List Nat} {n : Nat} {m : LM} {c : List Int} {vo v1 : Value} {o o1 : LO}
/-- Behind an append to what was found: all else stands; the new value is stored. -/
theorem LAst.push (h : LAst w B bn bm bo bc br gm gc cm gr n m c vo o) (hgl : gr.length = n) (hnd : (bn :: bm :: bo :: bc :: br :: gm :: gc :: gr).Nodup) (hg : w.grownBy w4 vo.ownBlock)
    (ho : Kd.R (Kd.slice 31 (Kd.slice 3 (Kd.int .i64))) 27 w4 B (fun k_ => k_ ∉ bn :: bm :: bo :: bc :: br :: gm :: gc :: gr) v1 o1) :
    w4.cell? ⟨bo, 0, none⟩ = some vo ∧ w4.frozen? ⟨bo, 0, none⟩ = false ∧ w4.cell? ⟨bm, 0, none⟩ = some (.slice (some ⟨gm, 0, none⟩) n cm) ∧
    LAst (w4.setCell ⟨bo, 0, none⟩ v1) B bn bm bo bc br gm gc cm gr n m c v1 o1 := by
  have mv : ∀ {b : Nat} {x : Obj}, b ∈ bn :: bm :: bo :: bc :: br :: gm :: gc :: gr → w.heap[b]? = some x → w4.heap[b]? = some x := fun hb hx => blk_grown hx hg (h.off _ hb)
  have hbo := mv (by simp) h.ho
  have ne : ∀ {b : Nat} {x : Obj}, b ∈ bn :: bm :: bo :: bc :: br :: gm :: gc :: gr → b ≠ bo → w.heap[b]? = some x → (w4.setCell ⟨bo, 0, none⟩ v1).heap[b]? = some x := fun hb hn hx => (Below.heap_setCell w4 ⟨bo, 0, none⟩ v1 _ hn).trans (mv hb hx)
  obtain ⟨cs, hgm, hcm, hcs⟩ := h.hgm
  simp only [List.nodup_cons, List.mem_cons, not_or] at hnd
  obtain ⟨⟨n1, n2, n3, n4, n5, n6, n7⟩, ⟨m1, m2, m3, m4, m5, m6⟩, ⟨o1_, o2, o3, o4, o5⟩, _⟩ := hnd
  refine ⟨cell_of_one hbo, free_of_one hbo, cell_of_one (mv (by simp) h.hm), ⟨ne (by simp) n2 h.hn, ne (by simp) m1 h.hm, ⟨cs, ne (by simp) (Ne.symm o3) hgm, hcm, hcs⟩, fun j hj => ⟨ne (by simp [List.getD_eq_getElem?_getD, show j < gr.length by omega]) ?_ (h.hgr j hj).1, (h.hgr j hj).2⟩, ne (by simp) (Ne.symm o1_) h.hc, ne (by simp) (Ne.symm o4) h.hgc, ne (by simp) (Ne.symm o2) h.hr, one_setCell hbo, h.lm, h.lc, ?_⟩⟩
  · intro he
    apply o5
    rw [← he, List.getD_eq_getElem?_getD, List.getElem?_eq_getElem (show j < gr.length by omega)]
    simp
  · exact Kd.R_far (p := ⟨bo, 0, none⟩) ho (fun k hk he => hk (by rw [he]; simp)) v1

theorem map_set {xs : List Int} {j : Nat} {x : Int} : (xs.map (Value.int .i64)).toArray.setIfInBounds j (.int .i64 x) = ((xs.set j x).map (Value.int .i64)).toArray := by
  rw [List.setIfInBounds_toArray, List.map_set]

/-- A store into the matrix. -/
theorem LAst.setM (h : LAst w B bn bm bo bc br gm gc cm gr n m c vo o) (hgl : gr.length = n) (hnd : (bn :: bm :: bo :: bc :: br :: gm :: gc :: gr).Nodup) (i j : Nat) (hi : i < n) (x : Int) :
    LAst (w.setCell ⟨gr.getD i 0, j, none⟩ (.int .i64 x)) B bn bm bo bc br gm gc cm gr n (m.set i ((m.getD i []).set j x)) c vo o := by
  have hmem : gr.getD i 0 ∈ gr := by
    rw [List.getD_eq_getElem?_getD, List.getElem?_eq_getElem (show i < gr.length by omega)]
    simp
  obtain ⟨cs, hgm, hcm, hcs⟩ := h.hgm
  have hnd0 := hnd
  simp only [List.nodup_cons, List.mem_cons, not_or] at hnd
  obtain ⟨⟨n1, n2, n3, n4, n5, n6, n7⟩, ⟨m1, m2, m3, m4, m5, m6⟩, ⟨o1_, o2, o3, o4, o5⟩, ⟨c1, c2, c3, c4⟩, ⟨r1, r2, r3⟩, ⟨g1, g2⟩, q1, hgn⟩ := hnd
  have ne : ∀ {b : Nat} {x_ : Obj}, b ∉ gr → w.heap[b]? = some x_ → (w.setCell ⟨gr.getD i 0, j, none⟩ (.int .i64 x)).heap[b]? = some x_ := fun hb hx => (Below.heap_setCell w ⟨gr.getD i 0, j, none⟩ _ _ (fun he => hb (by rw [he]; exact hmem))).trans hx
  refine ⟨ne n7 h.hn, ne m6 h.hm, ⟨cs, ne g2 hgm, hcm, hcs⟩, fun j' hj' => ?_, ne c4 h.hc, ne q1 h.hgc, ne r3 h.hr, ne o5 h.ho, by rw [List.length_set]; exact h.lm, h.lc, Kd.R_far (p := ⟨gr.getD i 0, j, none⟩) h.own (fun k hk he => hk (by rw [he]; simp only [List.mem_cons]; right; right; right; right; right; right; right; exact hmem)) _⟩
  by_cases hji : j' = i
  · subst hji
    have hl : j' < m.length := by rw [h.lm]; exact hi
    have e : (m.set j' ((m.getD j' []).set j x)).getD j' [] = (m.getD j' []).set j x := by rw [List.getD_eq_getElem?_getD, List.getElem?_set_self hl]; rfl
    rw [e]
    refine ⟨?_, by rw [List.length_set]; exact (h.hgr j' hi).2⟩
    rw [← map_set]
    exact blk_set (h.hgr j' hi).1 j _
  · have e : (m.set i ((m.getD i []).set j x)).getD j' [] = m.getD j' [] := by simp only [List.getD_eq_getElem?_getD, List.getElem?_set_ne (Ne.symm hji)]
    rw [e]
    refine ⟨(Below.heap_setCell w ⟨gr.getD i 0, j, none⟩ _ _ (fun he => hji ?_)).trans (h.hgr j' hj').1, (h.hgr j' hj').2⟩
    simp only [List.getD_eq_getElem?_getD, List.getElem?_eq_getElem (show j' < gr.length by omega), List.getElem?_eq_getElem (show i < gr.length by omega), Option.getD_some] at he
    exact (List.getElem_inj hgn).1 he

/-- A store into the columns' sums. -/
theorem LAst.setC (h : LAst w B bn bm bo bc br gm gc cm gr n m c vo o) (hgl : gr.length = n) (hnd : (bn :: bm :: bo :: bc :: br :: gm :: gc :: gr).Nodup) (j : Nat) (x : Int) :
    LAst (w.setCell ⟨gc, j, none⟩ (.int .i64 x)) B bn bm bo bc br gm gc cm gr n m (c.set j x) vo o := by
  obtain ⟨cs, hgm, hcm, hcs⟩ := h.hgm
  simp only [List.nodup_cons, List.mem_cons, not_or] at hnd
  obtain ⟨⟨n1, n2, n3, n4, n5, n6, n7⟩, ⟨m1, m2, m3, m4, m5, m6⟩, ⟨o1_, o2, o3, o4, o5⟩, ⟨c1, c2, c3, c4⟩, ⟨r1, r2, r3⟩, ⟨g1, g2⟩, q1, hgn⟩ := hnd
  have ne : ∀ {b : Nat} {x_ : Obj}, b ≠ gc → w.heap[b]? = some x_ → (w.setCell ⟨gc, j, none⟩ (.int .i64 x)).heap[b]? = some x_ := fun hb hx => (Below.heap_setCell w ⟨gc, j, none⟩ _ _ hb).trans hx
  refine ⟨ne n6 h.hn, ne m5 h.hm, ⟨cs, ne g1 hgm, hcm, hcs⟩, fun j' hj' => ⟨ne (fun he => q1 ?_) (h.hgr j' hj').1, (h.hgr j' hj').2⟩, ne c3 h.hc, ?_, ne r2 h.hr, ne o4 h.ho, h.lm, by rw [List.length_set]; exact h.lc, Kd.R_far (p := ⟨gc, j, none⟩) h.own (fun k hk he => hk (by rw [he]; simp)) _⟩
  · rw [← he, List.getD_eq_getElem?_getD, List.getElem?_eq_getElem (show j' < gr.length by omega)]
    simp
  · rw [← map_set]
    exact blk_set h.hgc j _
end
theorem LAst.drewN {w : World} {B bn bm bo bc br gm gc cm : Nat} {gr : List Nat} {n : Nat} {m : LM} {c : List Int} {vo : Value} {o : LO} (h : LAst w B bn bm bo bc br gm gc cm gr n m c vo o) (q : Nat) : LAst (w.drewN q) B bn bm bo bc br gm gc cm gr n m c vo o := h.below (pw_below_drewN (Below.refl _ _) q)
theorem pw_below_drewN' {B : Nat} {w W : World} (h : Below B w W) (n : Nat) : Below B w (W.drewN n) := ⟨h.os, h.tape, h.output, h.size, h.block⟩
theorem below_drewB {B : Nat} {w W : World} (h : Below B w W) : Below B w W.drew := ⟨h.os, h.tape, h.output, h.size, h.block⟩
theorem gr_mem {bn bm bo bc br gm gc n i : Nat} {gr : List Nat} (hgl : gr.length = n) (hi : i < n) : gr.getD i 0 ∈ bn :: bm :: bo :: bc :: br :: gm :: gc :: gr := by
  simp only [List.mem_cons]
  right; right; right; right; right; right; right
  rw [List.getD_eq_getElem?_getD, List.getElem?_eq_getElem (show i < gr.length by omega)]
  simp
theorem below_setB {B b : Nat} {w W : World} (h : Below B w W) (hb : B ≤ b) (j : Nat) (v : Value) : Below B w (W.setCell ⟨b, j, none⟩ v) := h.setCell hb v
theorem LAst.cellC {w : World} {B bn bm bo bc br gm gc cm : Nat} {gr : List Nat} {n : Nat} {m : LM} {c : List Int} {vo : Value} {o : LO} (h : LAst w B bn bm bo bc br gm gc cm gr n m c vo o) {j : Nat} (hj : j < n) : w.cell? ⟨gc, j, none⟩ = some (.int .i64 (rd c (j : Int))) := by
  unfold World.cell?
  rw [h.hgc]
  have : j < c.length := by rw [h.lc]; exact hj
  simp [rd, List.getElem?_eq_getElem this]
theorem LAst.drew {w : World} {B bn bm bo bc br gm gc cm : Nat} {gr : List Nat} {n : Nat} {m : LM} {c : List Int} {vo : Value} {o : LO} (h : LAst w B bn bm bo bc br gm gc cm gr n m c vo o) : LAst w.drew B bn bm bo bc br gm gc cm gr n m c vo o := h.below (below_drew (Below.refl _ _))
theorem LAst.cellM {w : World} {B bn bm bo bc br gm gc cm : Nat} {gr : List Nat} {n : Nat} {m : LM} {c : List Int} {vo : Value} {o : LO} (h : LAst w B bn bm bo bc br gm gc cm gr n m c vo o) {i : Nat} (hi : i < n) : w.cell? ⟨gm, i, none⟩ = some (.slice (some ⟨gr.getD i 0, 0, none⟩) n n) := by
  obtain ⟨cs, hg, _, hcs⟩ := h.hgm
  unfold World.cell?
  rw [hg]
  exact hcs i hi
theorem LAst.cellE {w : World} {B bn bm bo bc br gm gc cm : Nat} {gr : List Nat} {n : Nat} {m : LM} {c : List Int} {vo : Value} {o : LO} (h : LAst w B bn bm bo bc br gm gc cm gr n m c vo o) {i j : Nat} (hi : i < n) (hj : j < n) : ∃ x : Int, w.cell? ⟨gr.getD i 0, j, none⟩ = some (.int .i64 x) ∧ w.frozen? ⟨gr.getD i 0, j, none⟩ = false := by
  obtain ⟨hg, hl⟩ := h.hgr i hi
  have hj' : j < (m.getD i []).length := by omega
  refine ⟨(m.getD i [])[j], ?_, ?_⟩
  · unfold World.cell?
    rw [hg]
    simp only [List.getElem?_toArray, List.getElem?_map, List.getElem?_eq_getElem hj', Option.map_some]
    rfl
  · unfold World.frozen?
    rw [hg]
    simp
theorem LAst.freeC {w : World} {B bn bm bo bc br gm gc cm : Nat} {gr : List Nat} {n : Nat} {m : LM} {c : List Int} {vo : Value} {o : LO} (h : LAst w B bn bm bo bc br gm gc cm gr n m c vo o) (j : Nat) : w.frozen? ⟨gc, j, none⟩ = false := by
  unfold World.frozen?
  rw [h.hgc]
  simp
theorem within01 (a : Int) (w : World) : Calls Try.prog 13 #[.int .i64 a, .int .i64 0, .int .i64 1] w fun e w' => e = .returned (.bool (in01 a)) ∧ ∃ m, w' = w.drewN m := by
  refine (impl_within.calls a 0 1 (in01 a) w ?_).mono fun e w' ⟨he, hd⟩ => ⟨he, hd.out⟩
  unfold impl_within.f in01
  by_cases h : a ≥ 0
  · rw [if_pos h]; simp [show 0 ≤ a from h]
  · rw [if_neg h]; simp [show ¬ 0 ≤ a from h]
theorem in01_bd {a : Int} (h : in01 a = true) : 0 ≤ a ∧ a ≤ 1 := by
  unfold in01 at h
  simpa using h
theorem within_v {a : Int} {b : Bool} (w : World) (_ : True) (h : in01 a = b) : Calls Try.prog 13 #[.int .i64 a, .int .i64 0, .int .i64 1] w fun e w' => e = .returned (.bool b) ∧ ∃ m, w' = w.drewN m := by
  subst h
  exact within01 a w
set_option maxHeartbeats 2000000 in
set_option maxRecDepth 100000 in
theorem rest_calls (B bn bm bo bc br gm gc cm : Nat) (gr : List Nat) (n N : Nat) (hn1 : 1 ≤ n) (hn4 : n ≤ 4) (hN : N = n * n)
    (hnd : (bn :: bm :: bo :: bc :: br :: gm :: gc :: gr).Nodup) (hgl : gr.length = n) (hBl : ∀ b, b ∈ bn :: bm :: bo :: bc :: br :: gm :: gc :: gr → B ≤ b) :
    ∀ (f k : Nat) (K : Int) (s : Int) (m : LM) (c : List Int) (vo : Value) (o : LO) (m' : LM) (c' : List Int) (o' : LO) (w : World), K = (k : Int) → k ≤ N → 0 ≤ s → s ≤ 1 →
      LAst w B bn bm bo bc br gm gc cm gr n m c vo o → rest.f f n k s m c o = some (m', c', o') →
      Calls Try.prog 14 #[.int .i64 K, .int .i64 s, .pointer (some ⟨bn, 0, none⟩), .pointer (some ⟨bm, 0, none⟩), .pointer (some ⟨bo, 0, none⟩), .pointer (some ⟨bc, 0, none⟩), .pointer (some ⟨br, 0, none⟩)] w
        fun e w' => e = .returned (.tuple #[]) ∧ ∃ vo', LAst w' B bn bm bo bc br gm gc cm gr n m' c' vo' o' ∧ Below B w w' := by
  intro f
  induction f using Nat.strongRecOn with
  | _ f0 ih =>
  cases f0 with
  | zero =>
    intro k K s m c vo o m' c' o' w _ _ _ _ _ h
    simp [rest.f] at h
  | succ f =>
    intro k K s m c vo o m' c' o' w hKk hk hs0 hs1 hst h
    subst hKk
    have hN16 : N ≤ 16 := by
      have : n * n ≤ 4 * 4 := Nat.mul_le_mul hn4 hn4
      omega
    have hNk : N ≠ 0 := by rw [hN]; exact Nat.pos_iff_ne_zero.1 (Nat.mul_pos hn1 hn1)
    have hk16 : (k : Int) ≤ 16 := by omega
    have hnz : n ≠ 0 := by omega
    have hn1' : (1 : Int) ≤ (n : Int) := by omega
    have hn4' : (n : Int) ≤ 4 := by omega
    have hnn : Aside0 (wrap64 ((n : Int) * (n : Int)) = (N : Int)) := ⟨by
      have e : ((n : Int) * (n : Int)) = (N : Int) := by rw [hN]; simp
      rw [e]; unfold wrap64; omega⟩
    have HNN := Aside0.mk hN
    clear hN
    have IH := Aside0.mk ih
    clear ih
    have HST := Aside0.mk hst
    have cN := cell_of_one hst.hn
    have cM := cell_of_one hst.hm
    clear hst
    by_cases hk0 : 0 < k
    · have d0 : decide ((0 : Int) < (k : Int)) = true := by simp; omega
      by_cases hkn : k % n = 0
      · have d1 : (((k : Int) % (n : Int)) == 0) = true := by rw [beq_iff_eq]; omega
        by_cases hs : s = 1
        · subst hs
          by_cases hend : k = N
          · subst hend
            simp only [rest.f] at h
            rw [if_neg (by simp), if_pos HNN.out] at h
            obtain ⟨b, hb, h⟩ := Option.bind_eq_some_iff.mp h
            have hb' := Aside0.mk hb
            have dN : ((k : Int) == wrap64 ((n : Int) * (n : Int))) = true := by rw [beq_iff_eq, hnn.out]
            clear hb hkn HNN
            cases b with
            | false =>
              rw [if_neg (by simp)] at h
              simp only [Option.some.injEq, Prod.mk.injEq] at h
              obtain ⟨rfl, rfl, rfl⟩ := h
              go_enter Try.func14, Try.ntmps14
              go_wp2_with (go_at_call 15; refine (HST.out.alt hn4 hb'.out).mono ?_; rintro e w1 ⟨rfl, hb1⟩; have HB1 := Aside0.mk hb1; clear hb1)
              first | go_end0 | ((try simp only [Exit.inBlock, Exit.then]); refine bodyPost_ret (results_none rfl _ _ _) rfl ?_)
              exact ⟨rfl, vo, HST.out.below HB1.out, below_then (Below.refl _ _) (HST.out.base_le hBl) HB1.out⟩
            | true =>
              rw [if_pos rfl] at h
              obtain ⟨q, hq0, h⟩ := Option.bind_eq_some_iff.mp h
              have hq := Aside0.mk hq0
              clear hq0
              by_cases hlim : o.length < 5864062014805
              · rw [if_pos hlim] at h
                simp only [Option.some.injEq, Prod.mk.injEq] at h
                obtain ⟨rfl, rfl, rfl⟩ := h
                have ho1 := Aside0.mk hlim
                clear hlim
                go_enter Try.func14, Try.ntmps14
                go_wp2_with (go_at_call 15; refine (HST.out.alt hn4 hb'.out).mono ?_; rintro e w1 ⟨rfl, hb1⟩; have HB1 := Aside0.mk hb1; clear hb1)
                have HST2 := Aside0.mk (HST.out.below (below_drew HB1.out))
                have HB2 := Aside0.mk (below_then (Below.refl B w) (HST.out.base_le hBl) (below_drew HB1.out))
                refine start_ (n := 6) (S := fun w' => w'.cell? ⟨bo, 0, none⟩ = some vo ∧ w'.cell? ⟨bm, 0, none⟩ = some (.slice (some ⟨gm, 0, none⟩) n cm)) (ds := [5]) #[false, false, false, false, false, false] (by kernel_rfl) rfl rfl ⟨cell_of_one HST2.out.ho, cell_of_one HST2.out.hm⟩ (fun hHeld => ?_)
                generalize w1.drew = w2 at HST2 HB2 hHeld ⊢
                refine take_ (i := 0) (N := (some 27)) (v := ?_) (a' := ?_) #[true, false, false, false, false, false] rfl rfl (by kernel_rfl) (fun _ _ _ h => h) (Or.inl ⟨by rfl, ?_⟩) hHeld ?_ ?_
                rotate_left
                · rintro w' ⟨s0, s1⟩
                  go_simp
                  with_reducible rfl
                rotate_left
                · simp only [Act.put, List.setIfInBounds_toArray, List.set_cons_zero, List.set_cons_succ, i64_w, i32_w]
                  rfl
                refine take_ (i := 1) (N := (some 28)) (v := ?_) (a' := ?_) #[true, true, false, false, false, false] rfl rfl (by kernel_rfl) (fun _ _ _ h => h) (Or.inl ⟨by rfl, ?_⟩) hHeld ?_ ?_
                rotate_left
                · rintro w' ⟨s0, s1⟩
                  go_simp
                  with_reducible rfl
                rotate_left
                · simp only [Act.put, List.setIfInBounds_toArray, List.set_cons_zero, List.set_cons_succ, i64_w, i32_w]
                  rfl
                refine one_ (i := 2) (N := (some 29)) #[true, true, true, false, false, false] rfl rfl (by kernel_rfl) (by decide) (fun K hK => ?_)
                refine goes_ Try.func16 (by kernel_rfl) rfl #[.slice (some ⟨gm, 0, none⟩) n cm] (by rfl) rfl rfl (by (try simp only [List.map_toArray, List.map_cons, List.map_nil]); first | done | rfl | (simp only [List.length_drop, List.length_take]; rfl)) ?_
                with_reducible refine (HST2.out.copy hn4 hq.out).mono ?_
                rintro e w3 ⟨v29, rfl, ho3, hb3⟩
                refine ⟨_, rfl, ?_⟩
                have HST3 := Aside0.mk (HST2.out.below hb3)
                have HB3 := Aside0.mk (below_then HB2.out (HST2.out.base_le hBl) hb3)
                have HO3 := Aside0.mk (Kd.R_mono (ok' := fun k => w2.heap.size ≤ k) (Kd.R_bound (Kd.S_R ho3)) (fun k hk => hk.2.1))
                have HL3 := Aside0.mk (below_size hb3)
                clear ho3 hb3
                obtain ⟨A29, c29, rfl⟩ := Kd.R_slice HO3.out
                refine hK.out _ _ ⟨cell_of_one HST3.out.ho, cell_of_one HST3.out.hm⟩ (fun hHeld => ?_)
                clear hK K
                refine norm_ (a' := ?_) ?_ ?_
                rotate_left
                · show Act.put _ (some 29) _ = _
                  simp only [Act.put, List.setIfInBounds_toArray, List.set_cons_zero, List.set_cons_succ, i64_w, i32_w]
                  rfl
                refine one_ (i := 3) (N := (some 30)) #[true, true, true, true, false, false] rfl rfl (by kernel_rfl) (by decide) (fun K hK => ?_)
                refine value_ (w1 := ?_) (v := ?_) (by rfl) rfl ?_ ?_
                rotate_left 2
                · go_simp
                  constructor
                  · rfl
                  · rfl
                refine hK.out _ _ ⟨cell_of_one (blk_alloc HST3.out.ho _), cell_of_one (blk_alloc HST3.out.hm _)⟩ (fun hHeld => ?_)
                clear hK K
                refine norm_ (a' := ?_) ?_ ?_
                rotate_left
                · show Act.put _ (some 30) _ = _
                  simp only [Act.put, List.setIfInBounds_toArray, List.set_cons_zero, List.set_cons_succ, i64_w, i32_w]
                  rfl
                refine one_ (i := 4) (N := (some 31)) #[true, true, true, true, true, false] rfl rfl (by kernel_rfl) (by decide) (fun K hK => ?_)
                refine Kd.R_append_step (Kd.slice 31 (Kd.slice 3 (Kd.int .i64))) (w0 := w) B (by rfl) (.tmp 27) (.tmp 30) 24 27 (.slice none 0 0) 24 rfl Try.underlying24 info27 rfl (by decide) (by omega) vo o q [.slice A29 q.length c29] (fun k_ => k_ ∉ bn :: bm :: bo :: bc :: br :: gm :: gc :: gr) (fun k => w2.heap.size ≤ k) rfl rfl ?aP ?aK ?aF ?aO ?aB ?aS ?aL ?_
                (case aP => exact ⟨_, rfl, Kd.R_lower HO3.out (HST2.out.base_le hBl)⟩)
                (case aK => exact HST2.out.newer hgl)
                (case aF => exact HST3.out.fresh hgl)
                (case aO => exact HST3.out.own)
                (case aB => exact HB3.out)
                (case aS => exact HST3.out.base_le hBl)
                (case aL => have := ho1.out; omega)
                intro v31 w4 ho hb hg hat
                have HO4 := Aside0.mk ho
                have HB4 := Aside0.mk hb
                obtain ⟨cO4, fO4, cM4, HSTF0⟩ := HST3.out.push hgl hnd hg ho
                have HSTF := Aside0.mk HSTF0
                clear ho hb hg hat HSTF0
                obtain ⟨A31, c31, rfl⟩ := Kd.R_slice HO4.out
                refine hK.out _ _ ⟨cO4, cM4⟩ (fun hHeld => ?_)
                clear hK K
                refine norm_ (a' := ?_) ?_ ?_
                rotate_left
                · show Act.put _ (some 31) _ = _
                  simp only [Act.put, List.setIfInBounds_toArray, List.set_cons_zero, List.set_cons_succ, i64_w, i32_w]
                  rfl
                refine last_ (i := 5) (N := none) #[true, true, true, true, true, true] rfl rfl (by kernel_rfl) (by decide) (fun K hK => ?_)
                refine skip_ (w1 := ?_) (by rfl) rfl ?_ ?_
                rotate_left
                · go_simp
                  rfl
                refine hK.out _ _ ?_
                clear hK K
                refine done_ (by kernel_rfl) ?_
                go_wp2
                first | go_end0 | ((try simp only [Exit.inBlock, Exit.then]); refine bodyPost_ret (results_none rfl _ _ _) rfl ?_)
                refine ⟨rfl, .slice A31 (o.length + 1) c31, ?_, HB4.out.setCell (hBl bo (by simp)) _⟩
                have h_ := HSTF.out
                simp only [List.length_append, List.length_singleton] at h_
                exact h_
              · rw [if_neg hlim] at h
                exact absurd h (by simp)
          · have dN : ((k : Int) == wrap64 ((n : Int) * (n : Int))) = false := by rw [beq_eq_false_iff_ne, hnn.out]; omega
            have H : rest.l0 f n k 0 (-1) m c o = some (m', c', o') := by
              simp only [rest.f] at h
              rw [if_neg (by simp), if_neg (by rw [← HNN.out]; exact hend), if_pos (by simp [hk0, hkn])] at h
              exact h
            have H' := Aside0.mk H
            clear H h hkn
            obtain ⟨j, hj⟩ : ∃ j : Nat, j = k % n := ⟨_, rfl⟩
            have HJ := Aside0.mk hj
            have hjn : j < n := by rw [hj]; exact Nat.mod_lt _ hn1
            have hjI : Aside0 ((k : Int) % (n : Int) = (j : Int)) := ⟨by rw [hj]; rfl⟩
            have hjn' : (j : Int) < (n : Int) := by omega
            clear hj
            obtain ⟨i, hi⟩ : ∃ i : Nat, i = k / n := ⟨_, rfl⟩
            have HI := Aside0.mk hi
            have hiI : Aside0 ((k : Int) / (n : Int) = (i : Int)) := ⟨by rw [hi]; rfl⟩
            have hin : i < n := by
              rw [hi]
              have := HNN.out
              exact Nat.div_lt_of_lt_mul (by omega)
            have hin' : (i : Int) < (n : Int) := by omega
            clear hi
            go_enter Try.func14, Try.ntmps14
            go_wp2
            go_loopg [9] f (fun kq v9 w' => ∃ (x : Int) (m1 : LM) (c1 : List Int) (vo1 : Value) (o1 : LO), v9 = .int .i64 x ∧ Aside0 (-1 ≤ x ∧ x ≤ 2) ∧ Aside0 (rest.l0 kq n k 0 x m1 c1 o1 = some (m', c', o')) ∧ Aside0 (kq ≤ f) ∧ Aside0 (LAst w' B bn bm bo bc br gm gc cm gr n m1 c1 vo1 o1) ∧ Aside0 (Below B w w'))
            case atStart => exact ⟨-1, m, c, vo, o, rfl, ⟨by omega, by omega⟩, H', ⟨Nat.le_refl _⟩, HST, ⟨Below.refl _ _⟩⟩
            case round =>
              clear H' HST
              obtain ⟨x, m1, c1, vo1, o1, rfl, HX, HA, HK1, HST1, HB1⟩ := hrel
              cases gk with
              | zero => exact absurd HA.out (by simp [rest.l0])
              | succ k1 =>
                have H := HA.out
                clear HA
                simp only [rest.l0] at H
                simp only [Int.zero_add] at H
                have hx0 := HX.out.1
                have hx2 := HX.out.2
                clear HX
                by_cases hx : x ≤ 1
                · rw [if_pos hx] at H
                  rw [← HJ.out] at H
                  rw [← HI.out] at H
                  have cN1 := cell_of_one HST1.out.hn
                  have cM1 := cell_of_one HST1.out.hm
                  have cC1 := cell_of_one HST1.out.hc
                  have cR1 := cell_of_one HST1.out.hr
                  have cJ1 := HST1.out.cellC hjn
                  have tm_ : (k : Int).tmod (n : Int) = (j : Int) := by rw [Int.tmod_eq_emod_of_nonneg (by omega)]; exact hjI.out
                  have wi_ : wrap64 (i : Int) = (i : Int) := by unfold wrap64; omega
                  have wj_ : wrap64 (j : Int) = (j : Int) := by unfold wrap64; omega
                  have td_ : (k : Int).tdiv (n : Int) = (i : Int) := by rw [Int.tdiv_eq_ediv_of_nonneg (by omega)]; exact hiI.out
                  by_cases g1 : in01 (x) = true
                  · by_cases g2 : in01 (wrap64 (rd c1 (j : Int) + x)) = true
                    · rw [g1, g2, if_pos (by simp)] at H
                      obtain ⟨⟨m2, c2, o2⟩, A0, H⟩ := Option.bind_eq_some_iff.mp H
                      have AR := Aside0.mk A0
                      have H' := Aside0.mk H
                      clear H A0
                      have hs01 := in01_bd g1
                      have G1 := Aside0.mk g1
                      have G2 := Aside0.mk g2
                      clear g1 g2
                      go_wp2_with fail
                      go_big_quiet ((first | (go_at_call 13; exact Calls.quiet_of (within_v _ trivial G1.out)) | (go_at_call 13; exact Calls.quiet_of (within_v _ trivial G2.out))))
                      go_wp2_with fail
                      have HST2 := Aside0.mk (HST1.out.drewN nq).drew
                      have HB2 := Aside0.mk (below_drewB (pw_below_drewN' HB1.out nq))
                      have cN2 := cell_of_one HST2.out.hn
                      have cM2 := cell_of_one HST2.out.hm
                      obtain ⟨gi, hgi⟩ : ∃ gi, gr.getD i 0 = gi := ⟨_, rfl⟩
                      have cG2 := HST2.out.cellM hin
                      obtain ⟨ov, cE2, fE2⟩ := HST2.out.cellE hin hjn
                      rw [hgi] at cG2 cE2 fE2
                      have HGI := Aside0.mk hgi
                      clear hgi
                      refine start_ (n := 12) (S := fun w' => w'.cell? ⟨bm, 0, none⟩ = some (.slice (some ⟨gm, 0, none⟩) n cm) ∧ w'.cell? ⟨bn, 0, none⟩ = some (.int .i64 (n : Int)) ∧ w'.cell? ⟨gm, i, none⟩ = some (.slice (some ⟨gi, 0, none⟩) n n)) (ds := [11]) #[false, false, false, false, false, false, false, false, false, false, false, false] (by kernel_rfl) rfl rfl ⟨cM2, cN2, cG2⟩ (fun hHeld => ?_)
                      generalize (World.drewN wr nq).drew = w2 at HST2 HB2 cN2 cM2 cG2 cE2 fE2 hHeld ⊢
                      refine take_ (i := 0) (N := (some 51)) (v := ?_) (a' := ?_) #[true, false, false, false, false, false, false, false, false, false, false, false] rfl rfl (by kernel_rfl) (fun _ _ _ h => h) (Or.inl ⟨by rfl, ?_⟩) hHeld ?_ ?_
                      rotate_left
                      · rintro w' ⟨s0, s1, s2⟩
                        go_simp
                        with_reducible rfl
                      rotate_left
                      · simp only [Act.put, List.setIfInBounds_toArray, List.set_cons_zero, List.set_cons_succ, i64_w, i32_w]
                        rfl
                      refine pure_ (i := 1) (N := (some 52)) (v := ?_) (a' := ?_) #[true, true, false, false, false, false, false, false, false, false, false, false] rfl rfl (by kernel_rfl) (fun _ _ _ h => h) (Or.inl ⟨by rfl, ?_⟩) ?_ ?_
                      rotate_left
                      · intro w'
                        go_simp
                        with_reducible rfl
                      rotate_left
                      · simp only [Act.put, List.setIfInBounds_toArray, List.set_cons_zero, List.set_cons_succ, i64_w, i32_w]
                        rfl
                      refine take_ (i := 2) (N := (some 53)) (v := ?_) (a' := ?_) #[true, true, true, false, false, false, false, false, false, false, false, false] rfl rfl (by kernel_rfl) (fun _ _ _ h => h) (Or.inl ⟨by rfl, ?_⟩) hHeld ?_ ?_
                      rotate_left
                      · rintro w' ⟨s0, s1, s2⟩
                        go_simp
                        with_reducible rfl
                      rotate_left
                      · simp only [Act.put, List.setIfInBounds_toArray, List.set_cons_zero, List.set_cons_succ, i64_w, i32_w]
                        rfl
                      refine pure_ (i := 3) (N := (some 54)) (v := ?_) (a' := ?_) #[true, true, true, true, false, false, false, false, false, false, false, false] rfl rfl (by kernel_rfl) (fun _ _ _ h => h) (Or.inl ⟨by rfl, ?_⟩) ?_ ?_
                      rotate_left
                      · intro w'
                        go_simp
                        try simp only [i64_w, td_, wi_]
                        with_reducible rfl
                      rotate_left
                      · simp only [Act.put, List.setIfInBounds_toArray, List.set_cons_zero, List.set_cons_succ, i64_w, i32_w]
                        rfl
                      refine pure_ (i := 4) (N := (some 55)) (v := ?_) (a' := ?_) #[true, true, true, true, true, false, false, false, false, false, false, false] rfl rfl (by kernel_rfl) (fun _ _ _ h => h) (Or.inl ⟨by rfl, ?_⟩) ?_ ?_
                      rotate_left
                      · intro w'
                        go_simp
                        with_reducible rfl
                      rotate_left
                      · simp only [Act.put, List.setIfInBounds_toArray, List.set_cons_zero, List.set_cons_succ, i64_w, i32_w]
                        rfl
                      refine take_ (i := 5) (N := (some 56)) (v := ?_) (a' := ?_) #[true, true, true, true, true, true, false, false, false, false, false, false] rfl rfl (by kernel_rfl) (fun _ _ _ h => h) (Or.inl ⟨by rfl, ?_⟩) hHeld ?_ ?_
                      rotate_left
                      · rintro w' ⟨s0, s1, s2⟩
                        go_simp
                        with_reducible rfl
                      rotate_left
                      · simp only [Act.put, List.setIfInBounds_toArray, List.set_cons_zero, List.set_cons_succ, i64_w, i32_w]
                        rfl
                      refine pure_ (i := 6) (N := (some 57)) (v := ?_) (a' := ?_) #[true, true, true, true, true, true, true, false, false, false, false, false] rfl rfl (by kernel_rfl) (fun _ _ _ h => h) (Or.inl ⟨by rfl, ?_⟩) ?_ ?_
                      rotate_left
                      · intro w'
                        go_simp
                        with_reducible rfl
                      rotate_left
                      · simp only [Act.put, List.setIfInBounds_toArray, List.set_cons_zero, List.set_cons_succ, i64_w, i32_w]
                        rfl
                      refine take_ (i := 7) (N := (some 58)) (v := ?_) (a' := ?_) #[true, true, true, true, true, true, true, true, false, false, false, false] rfl rfl (by kernel_rfl) (fun _ _ _ h => h) (Or.inl ⟨by rfl, ?_⟩) hHeld ?_ ?_
                      rotate_left
                      · rintro w' ⟨s0, s1, s2⟩
                        go_simp
                        with_reducible rfl
                      rotate_left
                      · simp only [Act.put, List.setIfInBounds_toArray, List.set_cons_zero, List.set_cons_succ, i64_w, i32_w]
                        rfl
                      refine pure_ (i := 8) (N := (some 59)) (v := ?_) (a' := ?_) #[true, true, true, true, true, true, true, true, true, false, false, false] rfl rfl (by kernel_rfl) (fun _ _ _ h => h) (Or.inl ⟨by rfl, ?_⟩) ?_ ?_
                      rotate_left
                      · intro w'
                        go_simp
                        try simp only [i64_w, tm_, wj_]
                        with_reducible rfl
                      rotate_left
                      · simp only [Act.put, List.setIfInBounds_toArray, List.set_cons_zero, List.set_cons_succ, i64_w, i32_w]
                        rfl
                      refine pure_ (i := 9) (N := (some 60)) (v := ?_) (a' := ?_) #[true, true, true, true, true, true, true, true, true, true, false, false] rfl rfl (by kernel_rfl) (fun _ _ _ h => h) (Or.inl ⟨by rfl, ?_⟩) ?_ ?_
                      rotate_left
                      · intro w'
                        go_simp
                        with_reducible rfl
                      rotate_left
                      · simp only [Act.put, List.setIfInBounds_toArray, List.set_cons_zero, List.set_cons_succ, i64_w, i32_w]
                        rfl
                      refine pure_ (i := 10) (N := (some 61)) (v := ?_) (a' := ?_) #[true, true, true, true, true, true, true, true, true, true, true, false] rfl rfl (by kernel_rfl) (fun _ _ _ h => h) (Or.inl ⟨by rfl, ?_⟩) ?_ ?_
                      rotate_left
                      · intro w'
                        go_simp
                        with_reducible rfl
                      rotate_left
                      · simp only [Act.put, List.setIfInBounds_toArray, List.set_cons_zero, List.set_cons_succ, i64_w, i32_w]
                        rfl
                      refine last_ (i := 11) (N := none) #[true, true, true, true, true, true, true, true, true, true, true, true] rfl rfl (by kernel_rfl) (by decide) (fun K hK => ?_)
                      refine skip_ (w1 := ?_) (by rfl) rfl ?_ ?_
                      rotate_left
                      · go_simp
                        rfl
                      refine hK.out _ _ ?_
                      clear hK K
                      refine done_ (by kernel_rfl) ?_
                      have HST3 := Aside0.mk (HST2.out.setM hgl hnd i j hin x)
                      rw [HGI.out] at HST3
                      have HB3 := Aside0.mk (below_setB (b := gi) HB2.out (by rw [← HGI.out]; exact hBl _ (gr_mem hgl hin)) j (.int .i64 x))
                      clear HST2 HB2 cN2 cM2 cG2 cE2 fE2
                      go_wp2_with fail
                      generalize World.setCell w2 ⟨gi, j, none⟩ (.int .i64 x) = w3 at HST3 HB3 ⊢
                      have HST4 := Aside0.mk HST3.out.drew
                      have HB4 := Aside0.mk (below_drewB HB3.out)
                      have cN4 := cell_of_one HST4.out.hn
                      have cC4 := cell_of_one HST4.out.hc
                      have cE4 := HST4.out.cellC hjn
                      have fE4 := HST4.out.freeC j
                      clear HST3 HB3
                      refine start_ (n := 10) (S := fun w' => w'.cell? ⟨bc, 0, none⟩ = some (.slice (some ⟨gc, 0, none⟩) n n) ∧ w'.cell? ⟨bn, 0, none⟩ = some (.int .i64 (n : Int)) ∧ w'.cell? ⟨gc, j, none⟩ = some (.int .i64 (rd c1 (j : Int)))) (ds := [9]) #[false, false, false, false, false, false, false, false, false, false] (by kernel_rfl) rfl rfl ⟨cC4, cN4, cE4⟩ (fun hHeld => ?_)
                      generalize World.drew w3 = w4 at HST4 HB4 cN4 cC4 cE4 fE4 hHeld ⊢
                      refine take_ (i := 0) (N := (some 62)) (v := ?_) (a' := ?_) #[true, false, false, false, false, false, false, false, false, false] rfl rfl (by kernel_rfl) (fun _ _ _ h => h) (Or.inl ⟨by rfl, ?_⟩) hHeld ?_ ?_
                      rotate_left
                      · rintro w' ⟨s0, s1, s2⟩
                        go_simp
                        with_reducible rfl
                      rotate_left
                      · simp only [Act.put, List.setIfInBounds_toArray, List.set_cons_zero, List.set_cons_succ, i64_w, i32_w]
                        rfl
                      refine pure_ (i := 1) (N := (some 63)) (v := ?_) (a' := ?_) #[true, true, false, false, false, false, false, false, false, false] rfl rfl (by kernel_rfl) (fun _ _ _ h => h) (Or.inl ⟨by rfl, ?_⟩) ?_ ?_
                      rotate_left
                      · intro w'
                        go_simp
                        with_reducible rfl
                      rotate_left
                      · simp only [Act.put, List.setIfInBounds_toArray, List.set_cons_zero, List.set_cons_succ, i64_w, i32_w]
                        rfl
                      refine take_ (i := 2) (N := (some 64)) (v := ?_) (a' := ?_) #[true, true, true, false, false, false, false, false, false, false] rfl rfl (by kernel_rfl) (fun _ _ _ h => h) (Or.inl ⟨by rfl, ?_⟩) hHeld ?_ ?_
                      rotate_left
                      · rintro w' ⟨s0, s1, s2⟩
                        go_simp
                        with_reducible rfl
                      rotate_left
                      · simp only [Act.put, List.setIfInBounds_toArray, List.set_cons_zero, List.set_cons_succ, i64_w, i32_w]
                        rfl
                      refine pure_ (i := 3) (N := (some 65)) (v := ?_) (a' := ?_) #[true, true, true, true, false, false, false, false, false, false] rfl rfl (by kernel_rfl) (fun _ _ _ h => h) (Or.inl ⟨by rfl, ?_⟩) ?_ ?_
                      rotate_left
                      · intro w'
                        go_simp
                        try simp only [i64_w, tm_, wj_]
                        with_reducible rfl
                      rotate_left
                      · simp only [Act.put, List.setIfInBounds_toArray, List.set_cons_zero, List.set_cons_succ, i64_w, i32_w]
                        rfl
                      refine pure_ (i := 4) (N := (some 66)) (v := ?_) (a' := ?_) #[true, true, true, true, true, false, false, false, false, false] rfl rfl (by kernel_rfl) (fun _ _ _ h => h) (Or.inl ⟨by rfl, ?_⟩) ?_ ?_
                      rotate_left
                      · intro w'
                        go_simp
                        with_reducible rfl
                      rotate_left
                      · simp only [Act.put, List.setIfInBounds_toArray, List.set_cons_zero, List.set_cons_succ, i64_w, i32_w]
                        rfl
                      refine take_ (i := 5) (N := (some 67)) (v := ?_) (a' := ?_) #[true, true, true, true, true, true, false, false, false, false] rfl rfl (by kernel_rfl) (fun _ _ _ h => h) (Or.inl ⟨by rfl, ?_⟩) hHeld ?_ ?_
                      rotate_left
                      · rintro w' ⟨s0, s1, s2⟩
                        go_simp
                        with_reducible rfl
                      rotate_left
                      · simp only [Act.put, List.setIfInBounds_toArray, List.set_cons_zero, List.set_cons_succ, i64_w, i32_w]
                        rfl
                      refine pure_ (i := 6) (N := (some 68)) (v := ?_) (a' := ?_) #[true, true, true, true, true, true, true, false, false, false] rfl rfl (by kernel_rfl) (fun _ _ _ h => h) (Or.inl ⟨by rfl, ?_⟩) ?_ ?_
                      rotate_left
                      · intro w'
                        go_simp
                        with_reducible rfl
                      rotate_left
                      · simp only [Act.put, List.setIfInBounds_toArray, List.set_cons_zero, List.set_cons_succ, i64_w, i32_w]
                        rfl
                      refine pure_ (i := 7) (N := (some 69)) (v := ?_) (a' := ?_) #[true, true, true, true, true, true, true, true, false, false] rfl rfl (by kernel_rfl) (fun _ _ _ h => h) (Or.inl ⟨by rfl, ?_⟩) ?_ ?_
                      rotate_left
                      · intro w'
                        go_simp
                        try simp only [i64_w]
                        with_reducible rfl
                      rotate_left
                      · simp only [Act.put, List.setIfInBounds_toArray, List.set_cons_zero, List.set_cons_succ, i64_w, i32_w]
                        rfl
                      refine pure_ (i := 8) (N := (some 70)) (v := ?_) (a' := ?_) #[true, true, true, true, true, true, true, true, true, false] rfl rfl (by kernel_rfl) (fun _ _ _ h => h) (Or.inl ⟨by rfl, ?_⟩) ?_ ?_
                      rotate_left
                      · intro w'
                        go_simp
                        with_reducible rfl
                      rotate_left
                      · simp only [Act.put, List.setIfInBounds_toArray, List.set_cons_zero, List.set_cons_succ, i64_w, i32_w]
                        rfl
                      refine last_ (i := 9) (N := none) #[true, true, true, true, true, true, true, true, true, true] rfl rfl (by kernel_rfl) (by decide) (fun K hK => ?_)
                      refine skip_ (w1 := ?_) (by rfl) rfl ?_ ?_
                      rotate_left
                      · go_simp
                        rfl
                      refine hK.out _ _ ?_
                      clear hK K
                      refine done_ (by kernel_rfl) ?_
                      have HST5 := Aside0.mk (HST4.out.setC hgl hnd j (wrap64 (rd c1 (j : Int) + x)))
                      have HB5 := Aside0.mk (below_setB (b := gc) HB4.out (hBl gc (by simp)) j (.int .i64 (wrap64 (rd c1 (j : Int) + x))))
                      clear HST4 HB4 cN4 cC4 cE4 fE4
                      have cR5 := cell_of_one HST5.out.hr
                      have kk1 : ((k : Int) + 1) = ((k + 1 : Nat) : Int) := by omega
                      have KK1 := Aside0.mk kk1
                      clear kk1
                      go_wp2_with fail
                      refine (IH.out k1 (by have := HK1.out; omega) (k + 1) _ _ _ _ _ _ _ _ _ _ KK1.out (by omega) hs01.1 hs01.2 HST5.out AR.out).mono ?_
                      rintro e w6 ⟨rfl, vo2, hst6, hb6⟩
                      have HST7 := Aside0.mk hst6.drew
                      have HB7 := Aside0.mk (below_drewB (HB5.out.trans hb6))
                      have cN7 := cell_of_one HST7.out.hn
                      have cC7 := cell_of_one HST7.out.hc
                      have cE7 := HST7.out.cellC hjn
                      have fE7 := HST7.out.freeC j
                      clear HST5 HB5 cR5 hst6 hb6
                      go_wp2_with fail
                      refine start_ (n := 10) (S := fun w' => w'.cell? ⟨bc, 0, none⟩ = some (.slice (some ⟨gc, 0, none⟩) n n) ∧ w'.cell? ⟨bn, 0, none⟩ = some (.int .i64 (n : Int)) ∧ w'.cell? ⟨gc, j, none⟩ = some (.int .i64 (rd c2 (j : Int)))) (ds := [9]) #[false, false, false, false, false, false, false, false, false, false] (by kernel_rfl) rfl rfl ⟨cC7, cN7, cE7⟩ (fun hHeld => ?_)
                      generalize World.drew w6 = w7 at HST7 HB7 cN7 cC7 cE7 fE7 hHeld ⊢
                      refine take_ (i := 0) (N := (some 78)) (v := ?_) (a' := ?_) #[true, false, false, false, false, false, false, false, false, false] rfl rfl (by kernel_rfl) (fun _ _ _ h => h) (Or.inl ⟨by rfl, ?_⟩) hHeld ?_ ?_
                      rotate_left
                      · rintro w' ⟨s0, s1, s2⟩
                        go_simp
                        with_reducible rfl
                      rotate_left
                      · simp only [Act.put, List.setIfInBounds_toArray, List.set_cons_zero, List.set_cons_succ, i64_w, i32_w]
                        rfl
                      refine pure_ (i := 1) (N := (some 79)) (v := ?_) (a' := ?_) #[true, true, false, false, false, false, false, false, false, false] rfl rfl (by kernel_rfl) (fun _ _ _ h => h) (Or.inl ⟨by rfl, ?_⟩) ?_ ?_
                      rotate_left
                      · intro w'
                        go_simp
                        with_reducible rfl
                      rotate_left
                      · simp only [Act.put, List.setIfInBounds_toArray, List.set_cons_zero, List.set_cons_succ, i64_w, i32_w]
                        rfl
                      refine take_ (i := 2) (N := (some 80)) (v := ?_) (a' := ?_) #[true, true, true, false, false, false, false, false, false, false] rfl rfl (by kernel_rfl) (fun _ _ _ h => h) (Or.inl ⟨by rfl, ?_⟩) hHeld ?_ ?_
                      rotate_left
                      · rintro w' ⟨s0, s1, s2⟩
                        go_simp
                        with_reducible rfl
                      rotate_left
                      · simp only [Act.put, List.setIfInBounds_toArray, List.set_cons_zero, List.set_cons_succ, i64_w, i32_w]
                        rfl
                      refine pure_ (i := 3) (N := (some 81)) (v := ?_) (a' := ?_) #[true, true, true, true, false, false, false, false, false, false] rfl rfl (by kernel_rfl) (fun _ _ _ h => h) (Or.inl ⟨by rfl, ?_⟩) ?_ ?_
                      rotate_left
                      · intro w'
                        go_simp
                        try simp only [i64_w, tm_, wj_]
                        with_reducible rfl
                      rotate_left
                      · simp only [Act.put, List.setIfInBounds_toArray, List.set_cons_zero, List.set_cons_succ, i64_w, i32_w]
                        rfl
                      refine pure_ (i := 4) (N := (some 82)) (v := ?_) (a' := ?_) #[true, true, true, true, true, false, false, false, false, false] rfl rfl (by kernel_rfl) (fun _ _ _ h => h) (Or.inl ⟨by rfl, ?_⟩) ?_ ?_
                      rotate_left
                      · intro w'
                        go_simp
                        with_reducible rfl
                      rotate_left
                      · simp only [Act.put, List.setIfInBounds_toArray, List.set_cons_zero, List.set_cons_succ, i64_w, i32_w]
                        rfl
                      refine take_ (i := 5) (N := (some 83)) (v := ?_) (a' := ?_) #[true, true, true, true, true, true, false, false, false, false] rfl rfl (by kernel_rfl) (fun _ _ _ h => h) (Or.inl ⟨by rfl, ?_⟩) hHeld ?_ ?_
                      rotate_left
                      · rintro w' ⟨s0, s1, s2⟩
                        go_simp
                        with_reducible rfl
                      rotate_left
                      · simp only [Act.put, List.setIfInBounds_toArray, List.set_cons_zero, List.set_cons_succ, i64_w, i32_w]
                        rfl
                      refine pure_ (i := 6) (N := (some 84)) (v := ?_) (a' := ?_) #[true, true, true, true, true, true, true, false, false, false] rfl rfl (by kernel_rfl) (fun _ _ _ h => h) (Or.inl ⟨by rfl, ?_⟩) ?_ ?_
                      rotate_left
                      · intro w'
                        go_simp
                        with_reducible rfl
                      rotate_left
                      · simp only [Act.put, List.setIfInBounds_toArray, List.set_cons_zero, List.set_cons_succ, i64_w, i32_w]
                        rfl
                      refine pure_ (i := 7) (N := (some 85)) (v := ?_) (a' := ?_) #[true, true, true, true, true, true, true, true, false, false] rfl rfl (by kernel_rfl) (fun _ _ _ h => h) (Or.inl ⟨by rfl, ?_⟩) ?_ ?_
                      rotate_left
                      · intro w'
                        go_simp
                        try simp only [i64_w]
                        with_reducible rfl
                      rotate_left
                      · simp only [Act.put, List.setIfInBounds_toArray, List.set_cons_zero, List.set_cons_succ, i64_w, i32_w]
                        rfl
                      refine pure_ (i := 8) (N := (some 86)) (v := ?_) (a' := ?_) #[true, true, true, true, true, true, true, true, true, false] rfl rfl (by kernel_rfl) (fun _ _ _ h => h) (Or.inl ⟨by rfl, ?_⟩) ?_ ?_
                      rotate_left
                      · intro w'
                        go_simp
                        with_reducible rfl
                      rotate_left
                      · simp only [Act.put, List.setIfInBounds_toArray, List.set_cons_zero, List.set_cons_succ, i64_w, i32_w]
                        rfl
                      refine last_ (i := 9) (N := none) #[true, true, true, true, true, true, true, true, true, true] rfl rfl (by kernel_rfl) (by decide) (fun K hK => ?_)
                      refine skip_ (w1 := ?_) (by rfl) rfl ?_ ?_
                      rotate_left
                      · go_simp
                        rfl
                      refine hK.out _ _ ?_
                      clear hK K
                      refine done_ (by kernel_rfl) ?_
                      have HST8 := Aside0.mk (HST7.out.setC hgl hnd j (wrap64 (rd c2 (j : Int) - x)))
                      have HB8 := Aside0.mk (below_setB (b := gc) HB7.out (hBl gc (by simp)) j (.int .i64 (wrap64 (rd c2 (j : Int) - x))))
                      clear HST7 HB7 cN7 cC7 cE7 fE7
                      go_wp2
                      go_roundg k1
                      case measure => have := HK1.out; omega
                      case rel => exact ⟨x + 1, m2, _, vo2, o2, rfl, ⟨by omega, by omega⟩, H', ⟨by have := HK1.out; omega⟩, HST8, HB8⟩
                    · have g2f : in01 (wrap64 (rd c1 (j : Int) + x)) = false := by simpa using g2
                      rw [g1, g2f, if_neg (by simp)] at H
                      have H' := Aside0.mk H
                      have G1 := Aside0.mk g1
                      have G2 := Aside0.mk g2f
                      clear H g2 g1 g2f
                      go_wp2_with fail
                      go_big_quiet ((first | (go_at_call 13; exact Calls.quiet_of (within_v _ trivial G1.out)) | (go_at_call 13; exact Calls.quiet_of (within_v _ trivial G2.out))))
                      go_wp2
                      go_roundg k1
                      case measure => have := HK1.out; omega
                      case rel => exact ⟨x + 1, m1, c1, vo1, o1, rfl, ⟨by omega, by omega⟩, H', ⟨by have := HK1.out; omega⟩, ⟨HST1.out.drewN _⟩, ⟨pw_below_drewN' HB1.out _⟩⟩
                  · have g1f : in01 (x) = false := by simpa using g1
                    rw [g1f, Bool.false_and, if_neg (by simp)] at H
                    have H' := Aside0.mk H
                    have G1 := Aside0.mk g1f
                    clear H g1 g1f
                    go_wp2_with fail
                    go_big_quiet ((go_at_call 13; exact Calls.quiet_of (within_v _ trivial G1.out)))
                    go_wp2
                    go_roundg k1
                    case measure => have := HK1.out; omega
                    case rel => exact ⟨x + 1, m1, c1, vo1, o1, rfl, ⟨by omega, by omega⟩, H', ⟨by have := HK1.out; omega⟩, ⟨HST1.out.drewN _⟩, ⟨pw_below_drewN' HB1.out _⟩⟩
                · rw [if_neg hx] at H
                  simp only [Option.some.injEq, Prod.mk.injEq] at H
                  obtain ⟨rfl, rfl, rfl⟩ := H
                  go_wp2
                  first | go_end0 | ((try simp only [Exit.inBlock, Exit.then]); refine bodyPost_ret (results_none rfl _ _ _) rfl ?_)
                  first | exact ⟨rfl, vo1, HST1.out, HB1.out⟩ | exact ⟨rfl, ⟨vo1, HST1.out⟩, HB1.out⟩
        · have d2 : (s != 1) = true := by rw [bne_iff_ne]; exact hs
          have hr : (m, c, o) = (m', c', o') := by
            simp only [rest.f] at h
            rw [if_pos (by simp [hk0, hkn, hs])] at h
            exact Option.some.inj h
          simp only [Prod.mk.injEq] at hr
          obtain ⟨rfl, rfl, rfl⟩ := hr
          clear h hkn hs
          go_enter Try.func14, Try.ntmps14
          go_wp2
          first | go_end0 | ((try simp only [Exit.inBlock, Exit.then]); refine bodyPost_ret (results_none rfl _ _ _) rfl ?_)
          exact ⟨rfl, vo, HST.out, Below.refl _ _⟩
      · have d1 : (((k : Int) % (n : Int)) == 0) = false := by rw [beq_eq_false_iff_ne]; omega
        have hend : k ≠ N := by
          intro he
          rw [he, HNN.out] at hkn
          simp at hkn
        have dN : ((k : Int) == wrap64 ((n : Int) * (n : Int))) = false := by rw [beq_eq_false_iff_ne, hnn.out]; omega
        have H : rest.l0 f n k s (-1) m c o = some (m', c', o') := by
          simp only [rest.f] at h
          rw [if_neg (by simp [hkn]), if_neg (by rw [← HNN.out]; exact hend), if_neg (by simp [hkn])] at h
          exact h
        have H' := Aside0.mk H
        clear H h hkn
        obtain ⟨j, hj⟩ : ∃ j : Nat, j = k % n := ⟨_, rfl⟩
        have HJ := Aside0.mk hj
        have hjn : j < n := by rw [hj]; exact Nat.mod_lt _ hn1
        have hjI : Aside0 ((k : Int) % (n : Int) = (j : Int)) := ⟨by rw [hj]; rfl⟩
        have hjn' : (j : Int) < (n : Int) := by omega
        clear hj
        obtain ⟨i, hi⟩ : ∃ i : Nat, i = k / n := ⟨_, rfl⟩
        have HI := Aside0.mk hi
        have hiI : Aside0 ((k : Int) / (n : Int) = (i : Int)) := ⟨by rw [hi]; rfl⟩
        have hin : i < n := by
          rw [hi]
          have := HNN.out
          exact Nat.div_lt_of_lt_mul (by omega)
        have hin' : (i : Int) < (n : Int) := by omega
        clear hi
        go_enter Try.func14, Try.ntmps14
        go_wp2
        go_loopg [9] f (fun kq v9 w' => ∃ (x : Int) (m1 : LM) (c1 : List Int) (vo1 : Value) (o1 : LO), v9 = .int .i64 x ∧ Aside0 (-1 ≤ x ∧ x ≤ 2) ∧ Aside0 (rest.l0 kq n k s x m1 c1 o1 = some (m', c', o')) ∧ Aside0 (kq ≤ f) ∧ Aside0 (LAst w' B bn bm bo bc br gm gc cm gr n m1 c1 vo1 o1) ∧ Aside0 (Below B w w'))
        case atStart => exact ⟨-1, m, c, vo, o, rfl, ⟨by omega, by omega⟩, H', ⟨Nat.le_refl _⟩, HST, ⟨Below.refl _ _⟩⟩
        case round =>
          clear H' HST
          obtain ⟨x, m1, c1, vo1, o1, rfl, HX, HA, HK1, HST1, HB1⟩ := hrel
          cases gk with
          | zero => exact absurd HA.out (by simp [rest.l0])
          | succ k1 =>
            have H := HA.out
            clear HA
            simp only [rest.l0] at H
            have hx0 := HX.out.1
            have hx2 := HX.out.2
            clear HX
            by_cases hx : x ≤ 1
            · rw [if_pos hx] at H
              rw [← HJ.out] at H
              rw [← HI.out] at H
              have cN1 := cell_of_one HST1.out.hn
              have cM1 := cell_of_one HST1.out.hm
              have cC1 := cell_of_one HST1.out.hc
              have cR1 := cell_of_one HST1.out.hr
              have cJ1 := HST1.out.cellC hjn
              have tm_ : (k : Int).tmod (n : Int) = (j : Int) := by rw [Int.tmod_eq_emod_of_nonneg (by omega)]; exact hjI.out
              have wi_ : wrap64 (i : Int) = (i : Int) := by unfold wrap64; omega
              have wj_ : wrap64 (j : Int) = (j : Int) := by unfold wrap64; omega
              have td_ : (k : Int).tdiv (n : Int) = (i : Int) := by rw [Int.tdiv_eq_ediv_of_nonneg (by omega)]; exact hiI.out
              by_cases g1 : in01 (s + x) = true
              · by_cases g2 : in01 (wrap64 (rd c1 (j : Int) + x)) = true
                · rw [g1, g2, if_pos (by simp)] at H
                  obtain ⟨⟨m2, c2, o2⟩, A0, H⟩ := Option.bind_eq_some_iff.mp H
                  have AR := Aside0.mk A0
                  have H' := Aside0.mk H
                  clear H A0
                  have hs01 := in01_bd g1
                  have G1 := Aside0.mk g1
                  have G2 := Aside0.mk g2
                  clear g1 g2
                  go_wp2_with fail
                  go_big_quiet ((first | (go_at_call 13; exact Calls.quiet_of (within_v _ trivial G1.out)) | (go_at_call 13; exact Calls.quiet_of (within_v _ trivial G2.out))))
                  go_wp2_with fail
                  have HST2 := Aside0.mk (HST1.out.drewN nq).drew
                  have HB2 := Aside0.mk (below_drewB (pw_below_drewN' HB1.out nq))
                  have cN2 := cell_of_one HST2.out.hn
                  have cM2 := cell_of_one HST2.out.hm
                  obtain ⟨gi, hgi⟩ : ∃ gi, gr.getD i 0 = gi := ⟨_, rfl⟩
                  have cG2 := HST2.out.cellM hin
                  obtain ⟨ov, cE2, fE2⟩ := HST2.out.cellE hin hjn
                  rw [hgi] at cG2 cE2 fE2
                  have HGI := Aside0.mk hgi
                  clear hgi
                  refine start_ (n := 12) (S := fun w' => w'.cell? ⟨bm, 0, none⟩ = some (.slice (some ⟨gm, 0, none⟩) n cm) ∧ w'.cell? ⟨bn, 0, none⟩ = some (.int .i64 (n : Int)) ∧ w'.cell? ⟨gm, i, none⟩ = some (.slice (some ⟨gi, 0, none⟩) n n)) (ds := [11]) #[false, false, false, false, false, false, false, false, false, false, false, false] (by kernel_rfl) rfl rfl ⟨cM2, cN2, cG2⟩ (fun hHeld => ?_)
                  generalize (World.drewN wr nq).drew = w2 at HST2 HB2 cN2 cM2 cG2 cE2 fE2 hHeld ⊢
                  refine take_ (i := 0) (N := (some 51)) (v := ?_) (a' := ?_) #[true, false, false, false, false, false, false, false, false, false, false, false] rfl rfl (by kernel_rfl) (fun _ _ _ h => h) (Or.inl ⟨by rfl, ?_⟩) hHeld ?_ ?_
                  rotate_left
                  · rintro w' ⟨s0, s1, s2⟩
                    go_simp
                    with_reducible rfl
                  rotate_left
                  · simp only [Act.put, List.setIfInBounds_toArray, List.set_cons_zero, List.set_cons_succ, i64_w, i32_w]
                    rfl
                  refine pure_ (i := 1) (N := (some 52)) (v := ?_) (a' := ?_) #[true, true, false, false, false, false, false, false, false, false, false, false] rfl rfl (by kernel_rfl) (fun _ _ _ h => h) (Or.inl ⟨by rfl, ?_⟩) ?_ ?_
                  rotate_left
                  · intro w'
                    go_simp
                    with_reducible rfl
                  rotate_left
                  · simp only [Act.put, List.setIfInBounds_toArray, List.set_cons_zero, List.set_cons_succ, i64_w, i32_w]
                    rfl
                  refine take_ (i := 2) (N := (some 53)) (v := ?_) (a' := ?_) #[true, true, true, false, false, false, false, false, false, false, false, false] rfl rfl (by kernel_rfl) (fun _ _ _ h => h) (Or.inl ⟨by rfl, ?_⟩) hHeld ?_ ?_
                  rotate_left
                  · rintro w' ⟨s0, s1, s2⟩
                    go_simp
                    with_reducible rfl
                  rotate_left
                  · simp only [Act.put, List.setIfInBounds_toArray, List.set_cons_zero, List.set_cons_succ, i64_w, i32_w]
                    rfl
                  refine pure_ (i := 3) (N := (some 54)) (v := ?_) (a' := ?_) #[true, true, true, true, false, false, false, false, false, false, false, false] rfl rfl (by kernel_rfl) (fun _ _ _ h => h) (Or.inl ⟨by rfl, ?_⟩) ?_ ?_
                  rotate_left
                  · intro w'
                    go_simp
                    try simp only [i64_w, td_, wi_]
                    with_reducible rfl
                  rotate_left
                  · simp only [Act.put, List.setIfInBounds_toArray, List.set_cons_zero, List.set_cons_succ, i64_w, i32_w]
                    rfl
                  refine pure_ (i := 4) (N := (some 55)) (v := ?_) (a' := ?_) #[true, true, true, true, true, false, false, false, false, false, false, false] rfl rfl (by kernel_rfl) (fun _ _ _ h => h) (Or.inl ⟨by rfl, ?_⟩) ?_ ?_
                  rotate_left
                  · intro w'
                    go_simp
                    with_reducible rfl
                  rotate_left
                  · simp only [Act.put, List.setIfInBounds_toArray, List.set_cons_zero, List.set_cons_succ, i64_w, i32_w]
                    rfl
                  refine take_ (i := 5) (N := (some 56)) (v := ?_) (a' := ?_) #[true, true, true, true, true, true, false, false, false, false, false, false] rfl rfl (by kernel_rfl) (fun _ _ _ h => h) (Or.inl ⟨by rfl, ?_⟩) hHeld ?_ ?_
                  rotate_left
                  · rintro w' ⟨s0, s1, s2⟩
                    go_simp
                    with_reducible rfl
                  rotate_left
                  · simp only [Act.put, List.setIfInBounds_toArray, List.set_cons_zero, List.set_cons_succ, i64_w, i32_w]
                    rfl
                  refine pure_ (i := 6) (N := (some 57)) (v := ?_) (a' := ?_) #[true, true, true, true, true, true, true, false, false, false, false, false] rfl rfl (by kernel_rfl) (fun _ _ _ h => h) (Or.inl ⟨by rfl, ?_⟩) ?_ ?_
                  rotate_left
                  · intro w'
                    go_simp
                    with_reducible rfl
                  rotate_left
                  · simp only [Act.put, List.setIfInBounds_toArray, List.set_cons_zero, List.set_cons_succ, i64_w, i32_w]
                    rfl
                  refine take_ (i := 7) (N := (some 58)) (v := ?_) (a' := ?_) #[true, true, true, true, true, true, true, true, false, false, false, false] rfl rfl (by kernel_rfl) (fun _ _ _ h => h) (Or.inl ⟨by rfl, ?_⟩) hHeld ?_ ?_
                  rotate_left
                  · rintro w' ⟨s0, s1, s2⟩
                    go_simp
                    with_reducible rfl
                  rotate_left
                  · simp only [Act.put, List.setIfInBounds_toArray, List.set_cons_zero, List.set_cons_succ, i64_w, i32_w]
                    rfl
                  refine pure_ (i := 8) (N := (some 59)) (v := ?_) (a' := ?_) #[true, true, true, true, true, true, true, true, true, false, false, false] rfl rfl (by kernel_rfl) (fun _ _ _ h => h) (Or.inl ⟨by rfl, ?_⟩) ?_ ?_
                  rotate_left
                  · intro w'
                    go_simp
                    try simp only [i64_w, tm_, wj_]
                    with_reducible rfl
                  rotate_left
                  · simp only [Act.put, List.setIfInBounds_toArray, List.set_cons_zero, List.set_cons_succ, i64_w, i32_w]
                    rfl
                  refine pure_ (i := 9) (N := (some 60)) (v := ?_) (a' := ?_) #[true, true, true, true, true, true, true, true, true, true, false, false] rfl rfl (by kernel_rfl) (fun _ _ _ h => h) (Or.inl ⟨by rfl, ?_⟩) ?_ ?_
                  rotate_left
                  · intro w'
                    go_simp
                    with_reducible rfl
                  rotate_left
                  · simp only [Act.put, List.setIfInBounds_toArray, List.set_cons_zero, List.set_cons_succ, i64_w, i32_w]
                    rfl
                  refine pure_ (i := 10) (N := (some 61)) (v := ?_) (a' := ?_) #[true, true, true, true, true, true, true, true, true, true, true, false] rfl rfl (by kernel_rfl) (fun _ _ _ h => h) (Or.inl ⟨by rfl, ?_⟩) ?_ ?_
                  rotate_left
                  · intro w'
                    go_simp
                    with_reducible rfl
                  rotate_left
                  · simp only [Act.put, List.setIfInBounds_toArray, List.set_cons_zero, List.set_cons_succ, i64_w, i32_w]
                    rfl
                  refine last_ (i := 11) (N := none) #[true, true, true, true, true, true, true, true, true, true, true, true] rfl rfl (by kernel_rfl) (by decide) (fun K hK => ?_)
                  refine skip_ (w1 := ?_) (by rfl) rfl ?_ ?_
                  rotate_left
                  · go_simp
                    rfl
                  refine hK.out _ _ ?_
                  clear hK K
                  refine done_ (by kernel_rfl) ?_
                  have HST3 := Aside0.mk (HST2.out.setM hgl hnd i j hin x)
                  rw [HGI.out] at HST3
                  have HB3 := Aside0.mk (below_setB (b := gi) HB2.out (by rw [← HGI.out]; exact hBl _ (gr_mem hgl hin)) j (.int .i64 x))
                  clear HST2 HB2 cN2 cM2 cG2 cE2 fE2
                  go_wp2_with fail
                  generalize World.setCell w2 ⟨gi, j, none⟩ (.int .i64 x) = w3 at HST3 HB3 ⊢
                  have HST4 := Aside0.mk HST3.out.drew
                  have HB4 := Aside0.mk (below_drewB HB3.out)
                  have cN4 := cell_of_one HST4.out.hn
                  have cC4 := cell_of_one HST4.out.hc
                  have cE4 := HST4.out.cellC hjn
                  have fE4 := HST4.out.freeC j
                  clear HST3 HB3
                  refine start_ (n := 10) (S := fun w' => w'.cell? ⟨bc, 0, none⟩ = some (.slice (some ⟨gc, 0, none⟩) n n) ∧ w'.cell? ⟨bn, 0, none⟩ = some (.int .i64 (n : Int)) ∧ w'.cell? ⟨gc, j, none⟩ = some (.int .i64 (rd c1 (j : Int)))) (ds := [9]) #[false, false, false, false, false, false, false, false, false, false] (by kernel_rfl) rfl rfl ⟨cC4, cN4, cE4⟩ (fun hHeld => ?_)
                  generalize World.drew w3 = w4 at HST4 HB4 cN4 cC4 cE4 fE4 hHeld ⊢
                  refine take_ (i := 0) (N := (some 62)) (v := ?_) (a' := ?_) #[true, false, false, false, false, false, false, false, false, false] rfl rfl (by kernel_rfl) (fun _ _ _ h => h) (Or.inl ⟨by rfl, ?_⟩) hHeld ?_ ?_
                  rotate_left
                  · rintro w' ⟨s0, s1, s2⟩
                    go_simp
                    with_reducible rfl
                  rotate_left
                  · simp only [Act.put, List.setIfInBounds_toArray, List.set_cons_zero, List.set_cons_succ, i64_w, i32_w]
                    rfl
                  refine pure_ (i := 1) (N := (some 63)) (v := ?_) (a' := ?_) #[true, true, false, false, false, false, false, false, false, false] rfl rfl (by kernel_rfl) (fun _ _ _ h => h) (Or.inl ⟨by rfl, ?_⟩) ?_ ?_
                  rotate_left
                  · intro w'
                    go_simp
                    with_reducible rfl
                  rotate_left
                  · simp only [Act.put, List.setIfInBounds_toArray, List.set_cons_zero, List.set_cons_succ, i64_w, i32_w]
                    rfl
                  refine take_ (i := 2) (N := (some 64)) (v := ?_) (a' := ?_) #[true, true, true, false, false, false, false, false, false, false] rfl rfl (by kernel_rfl) (fun _ _ _ h => h) (Or.inl ⟨by rfl, ?_⟩) hHeld ?_ ?_
                  rotate_left
                  · rintro w' ⟨s0, s1, s2⟩
                    go_simp
                    with_reducible rfl
                  rotate_left
                  · simp only [Act.put, List.setIfInBounds_toArray, List.set_cons_zero, List.set_cons_succ, i64_w, i32_w]
                    rfl
                  refine pure_ (i := 3) (N := (some 65)) (v := ?_) (a' := ?_) #[true, true, true, true, false, false, false, false, false, false] rfl rfl (by kernel_rfl) (fun _ _ _ h => h) (Or.inl ⟨by rfl, ?_⟩) ?_ ?_
                  rotate_left
                  · intro w'
                    go_simp
                    try simp only [i64_w, tm_, wj_]
                    with_reducible rfl
                  rotate_left
                  · simp only [Act.put, List.setIfInBounds_toArray, List.set_cons_zero, List.set_cons_succ, i64_w, i32_w]
                    rfl
                  refine pure_ (i := 4) (N := (some 66)) (v := ?_) (a' := ?_) #[true, true, true, true, true, false, false, false, false, false] rfl rfl (by kernel_rfl) (fun _ _ _ h => h) (Or.inl ⟨by rfl, ?_⟩) ?_ ?_
                  rotate_left
                  · intro w'
                    go_simp
                    with_reducible rfl
                  rotate_left
                  · simp only [Act.put, List.setIfInBounds_toArray, List.set_cons_zero, List.set_cons_succ, i64_w, i32_w]
                    rfl
                  refine take_ (i := 5) (N := (some 67)) (v := ?_) (a' := ?_) #[true, true, true, true, true, true, false, false, false, false] rfl rfl (by kernel_rfl) (fun _ _ _ h => h) (Or.inl ⟨by rfl, ?_⟩) hHeld ?_ ?_
                  rotate_left
                  · rintro w' ⟨s0, s1, s2⟩
                    go_simp
                    with_reducible rfl
                  rotate_left
                  · simp only [Act.put, List.setIfInBounds_toArray, List.set_cons_zero, List.set_cons_succ, i64_w, i32_w]
                    rfl
                  refine pure_ (i := 6) (N := (some 68)) (v := ?_) (a' := ?_) #[true, true, true, true, true, true, true, false, false, false] rfl rfl (by kernel_rfl) (fun _ _ _ h => h) (Or.inl ⟨by rfl, ?_⟩) ?_ ?_
                  rotate_left
                  · intro w'
                    go_simp
                    with_reducible rfl
                  rotate_left
                  · simp only [Act.put, List.setIfInBounds_toArray, List.set_cons_zero, List.set_cons_succ, i64_w, i32_w]
                    rfl
                  refine pure_ (i := 7) (N := (some 69)) (v := ?_) (a' := ?_) #[true, true, true, true, true, true, true, true, false, false] rfl rfl (by kernel_rfl) (fun _ _ _ h => h) (Or.inl ⟨by rfl, ?_⟩) ?_ ?_
                  rotate_left
                  · intro w'
                    go_simp
                    try simp only [i64_w]
                    with_reducible rfl
                  rotate_left
                  · simp only [Act.put, List.setIfInBounds_toArray, List.set_cons_zero, List.set_cons_succ, i64_w, i32_w]
                    rfl
                  refine pure_ (i := 8) (N := (some 70)) (v := ?_) (a' := ?_) #[true, true, true, true, true, true, true, true, true, false] rfl rfl (by kernel_rfl) (fun _ _ _ h => h) (Or.inl ⟨by rfl, ?_⟩) ?_ ?_
                  rotate_left
                  · intro w'
                    go_simp
                    with_reducible rfl
                  rotate_left
                  · simp only [Act.put, List.setIfInBounds_toArray, List.set_cons_zero, List.set_cons_succ, i64_w, i32_w]
                    rfl
                  refine last_ (i := 9) (N := none) #[true, true, true, true, true, true, true, true, true, true] rfl rfl (by kernel_rfl) (by decide) (fun K hK => ?_)
                  refine skip_ (w1 := ?_) (by rfl) rfl ?_ ?_
                  rotate_left
                  · go_simp
                    rfl
                  refine hK.out _ _ ?_
                  clear hK K
                  refine done_ (by kernel_rfl) ?_
                  have HST5 := Aside0.mk (HST4.out.setC hgl hnd j (wrap64 (rd c1 (j : Int) + x)))
                  have HB5 := Aside0.mk (below_setB (b := gc) HB4.out (hBl gc (by simp)) j (.int .i64 (wrap64 (rd c1 (j : Int) + x))))
                  clear HST4 HB4 cN4 cC4 cE4 fE4
                  have cR5 := cell_of_one HST5.out.hr
                  have kk1 : ((k : Int) + 1) = ((k + 1 : Nat) : Int) := by omega
                  have KK1 := Aside0.mk kk1
                  clear kk1
                  go_wp2_with fail
                  refine (IH.out k1 (by have := HK1.out; omega) (k + 1) _ _ _ _ _ _ _ _ _ _ KK1.out (by omega) hs01.1 hs01.2 HST5.out AR.out).mono ?_
                  rintro e w6 ⟨rfl, vo2, hst6, hb6⟩
                  have HST7 := Aside0.mk hst6.drew
                  have HB7 := Aside0.mk (below_drewB (HB5.out.trans hb6))
                  have cN7 := cell_of_one HST7.out.hn
                  have cC7 := cell_of_one HST7.out.hc
                  have cE7 := HST7.out.cellC hjn
                  have fE7 := HST7.out.freeC j
                  clear HST5 HB5 cR5 hst6 hb6
                  go_wp2_with fail
                  refine start_ (n := 10) (S := fun w' => w'.cell? ⟨bc, 0, none⟩ = some (.slice (some ⟨gc, 0, none⟩) n n) ∧ w'.cell? ⟨bn, 0, none⟩ = some (.int .i64 (n : Int)) ∧ w'.cell? ⟨gc, j, none⟩ = some (.int .i64 (rd c2 (j : Int)))) (ds := [9]) #[false, false, false, false, false, false, false, false, false, false] (by kernel_rfl) rfl rfl ⟨cC7, cN7, cE7⟩ (fun hHeld => ?_)
                  generalize World.drew w6 = w7 at HST7 HB7 cN7 cC7 cE7 fE7 hHeld ⊢
                  refine take_ (i := 0) (N := (some 78)) (v := ?_) (a' := ?_) #[true, false, false, false, false, false, false, false, false, false] rfl rfl (by kernel_rfl) (fun _ _ _ h => h) (Or.inl ⟨by rfl, ?_⟩) hHeld ?_ ?_
                  rotate_left
                  · rintro w' ⟨s0, s1, s2⟩
                    go_simp
                    with_reducible rfl
                  rotate_left
                  · simp only [Act.put, List.setIfInBounds_toArray, List.set_cons_zero, List.set_cons_succ, i64_w, i32_w]
                    rfl
                  refine pure_ (i := 1) (N := (some 79)) (v := ?_) (a' := ?_) #[true, true, false, false, false, false, false, false, false, false] rfl rfl (by kernel_rfl) (fun _ _ _ h => h) (Or.inl ⟨by rfl, ?_⟩) ?_ ?_
                  rotate_left
                  · intro w'
                    go_simp
                    with_reducible rfl
                  rotate_left
                  · simp only [Act.put, List.setIfInBounds_toArray, List.set_cons_zero, List.set_cons_succ, i64_w, i32_w]
                    rfl
                  refine take_ (i := 2) (N := (some 80)) (v := ?_) (a' := ?_) #[true, true, true, false, false, false, false, false, false, false] rfl rfl (by kernel_rfl) (fun _ _ _ h => h) (Or.inl ⟨by rfl, ?_⟩) hHeld ?_ ?_
                  rotate_left
                  · rintro w' ⟨s0, s1, s2⟩
                    go_simp
                    with_reducible rfl
                  rotate_left
                  · simp only [Act.put, List.setIfInBounds_toArray, List.set_cons_zero, List.set_cons_succ, i64_w, i32_w]
                    rfl
                  refine pure_ (i := 3) (N := (some 81)) (v := ?_) (a' := ?_) #[true, true, true, true, false, false, false, false, false, false] rfl rfl (by kernel_rfl) (fun _ _ _ h => h) (Or.inl ⟨by rfl, ?_⟩) ?_ ?_
                  rotate_left
                  · intro w'
                    go_simp
                    try simp only [i64_w, tm_, wj_]
                    with_reducible rfl
                  rotate_left
                  · simp only [Act.put, List.setIfInBounds_toArray, List.set_cons_zero, List.set_cons_succ, i64_w, i32_w]
                    rfl
                  refine pure_ (i := 4) (N := (some 82)) (v := ?_) (a' := ?_) #[true, true, true, true, true, false, false, false, false, false] rfl rfl (by kernel_rfl) (fun _ _ _ h => h) (Or.inl ⟨by rfl, ?_⟩) ?_ ?_
                  rotate_left
                  · intro w'
                    go_simp
                    with_reducible rfl
                  rotate_left
                  · simp only [Act.put, List.setIfInBounds_toArray, List.set_cons_zero, List.set_cons_succ, i64_w, i32_w]
                    rfl
                  refine take_ (i := 5) (N := (some 83)) (v := ?_) (a' := ?_) #[true, true, true, true, true, true, false, false, false, false] rfl rfl (by kernel_rfl) (fun _ _ _ h => h) (Or.inl ⟨by rfl, ?_⟩) hHeld ?_ ?_
                  rotate_left
                  · rintro w' ⟨s0, s1, s2⟩
                    go_simp
                    with_reducible rfl
                  rotate_left
                  · simp only [Act.put, List.setIfInBounds_toArray, List.set_cons_zero, List.set_cons_succ, i64_w, i32_w]
                    rfl
                  refine pure_ (i := 6) (N := (some 84)) (v := ?_) (a' := ?_) #[true, true, true, true, true, true, true, false, false, false] rfl rfl (by kernel_rfl) (fun _ _ _ h => h) (Or.inl ⟨by rfl, ?_⟩) ?_ ?_
                  rotate_left
                  · intro w'
                    go_simp
                    with_reducible rfl
                  rotate_left
                  · simp only [Act.put, List.setIfInBounds_toArray, List.set_cons_zero, List.set_cons_succ, i64_w, i32_w]
                    rfl
                  refine pure_ (i := 7) (N := (some 85)) (v := ?_) (a' := ?_) #[true, true, true, true, true, true, true, true, false, false] rfl rfl (by kernel_rfl) (fun _ _ _ h => h) (Or.inl ⟨by rfl, ?_⟩) ?_ ?_
                  rotate_left
                  · intro w'
                    go_simp
                    try simp only [i64_w]
                    with_reducible rfl
                  rotate_left
                  · simp only [Act.put, List.setIfInBounds_toArray, List.set_cons_zero, List.set_cons_succ, i64_w, i32_w]
                    rfl
                  refine pure_ (i := 8) (N := (some 86)) (v := ?_) (a' := ?_) #[true, true, true, true, true, true, true, true, true, false] rfl rfl (by kernel_rfl) (fun _ _ _ h => h) (Or.inl ⟨by rfl, ?_⟩) ?_ ?_
                  rotate_left
                  · intro w'
                    go_simp
                    with_reducible rfl
                  rotate_left
                  · simp only [Act.put, List.setIfInBounds_toArray, List.set_cons_zero, List.set_cons_succ, i64_w, i32_w]
                    rfl
                  refine last_ (i := 9) (N := none) #[true, true, true, true, true, true, true, true, true, true] rfl rfl (by kernel_rfl) (by decide) (fun K hK => ?_)
                  refine skip_ (w1 := ?_) (by rfl) rfl ?_ ?_
                  rotate_left
                  · go_simp
                    rfl
                  refine hK.out _ _ ?_
                  clear hK K
                  refine done_ (by kernel_rfl) ?_
                  have HST8 := Aside0.mk (HST7.out.setC hgl hnd j (wrap64 (rd c2 (j : Int) - x)))
                  have HB8 := Aside0.mk (below_setB (b := gc) HB7.out (hBl gc (by simp)) j (.int .i64 (wrap64 (rd c2 (j : Int) - x))))
                  clear HST7 HB7 cN7 cC7 cE7 fE7
                  go_wp2
                  go_roundg k1
                  case measure => have := HK1.out; omega
                  case rel => exact ⟨x + 1, m2, _, vo2, o2, rfl, ⟨by omega, by omega⟩, H', ⟨by have := HK1.out; omega⟩, HST8, HB8⟩
                · have g2f : in01 (wrap64 (rd c1 (j : Int) + x)) = false := by simpa using g2
                  rw [g1, g2f, if_neg (by simp)] at H
                  have H' := Aside0.mk H
                  have G1 := Aside0.mk g1
                  have G2 := Aside0.mk g2f
                  clear H g2 g1 g2f
                  go_wp2_with fail
                  go_big_quiet ((first | (go_at_call 13; exact Calls.quiet_of (within_v _ trivial G1.out)) | (go_at_call 13; exact Calls.quiet_of (within_v _ trivial G2.out))))
                  go_wp2
                  go_roundg k1
                  case measure => have := HK1.out; omega
                  case rel => exact ⟨x + 1, m1, c1, vo1, o1, rfl, ⟨by omega, by omega⟩, H', ⟨by have := HK1.out; omega⟩, ⟨HST1.out.drewN _⟩, ⟨pw_below_drewN' HB1.out _⟩⟩
              · have g1f : in01 (s + x) = false := by simpa using g1
                rw [g1f, Bool.false_and, if_neg (by simp)] at H
                have H' := Aside0.mk H
                have G1 := Aside0.mk g1f
                clear H g1 g1f
                go_wp2_with fail
                go_big_quiet ((go_at_call 13; exact Calls.quiet_of (within_v _ trivial G1.out)))
                go_wp2
                go_roundg k1
                case measure => have := HK1.out; omega
                case rel => exact ⟨x + 1, m1, c1, vo1, o1, rfl, ⟨by omega, by omega⟩, H', ⟨by have := HK1.out; omega⟩, ⟨HST1.out.drewN _⟩, ⟨pw_below_drewN' HB1.out _⟩⟩
            · rw [if_neg hx] at H
              simp only [Option.some.injEq, Prod.mk.injEq] at H
              obtain ⟨rfl, rfl, rfl⟩ := H
              go_wp2
              first | go_end0 | ((try simp only [Exit.inBlock, Exit.then]); refine bodyPost_ret (results_none rfl _ _ _) rfl ?_)
              first | exact ⟨rfl, vo1, HST1.out, HB1.out⟩ | exact ⟨rfl, ⟨vo1, HST1.out⟩, HB1.out⟩
    · have hend : k ≠ N := by omega
      have dN : ((k : Int) == wrap64 ((n : Int) * (n : Int))) = false := by rw [beq_eq_false_iff_ne, hnn.out]; omega
      have H : rest.l0 f n k s (-1) m c o = some (m', c', o') := by
        simp only [rest.f] at h
        rw [if_neg (by simp [hk0]), if_neg (by rw [← HNN.out]; exact hend), if_neg (by simp [hk0])] at h
        exact h
      have H' := Aside0.mk H
      clear H h
      obtain ⟨j, hj⟩ : ∃ j : Nat, j = k % n := ⟨_, rfl⟩
      have HJ := Aside0.mk hj
      have hjn : j < n := by rw [hj]; exact Nat.mod_lt _ hn1
      have hjI : Aside0 ((k : Int) % (n : Int) = (j : Int)) := ⟨by rw [hj]; rfl⟩
      have hjn' : (j : Int) < (n : Int) := by omega
      clear hj
      obtain ⟨i, hi⟩ : ∃ i : Nat, i = k / n := ⟨_, rfl⟩
      have HI := Aside0.mk hi
      have hiI : Aside0 ((k : Int) / (n : Int) = (i : Int)) := ⟨by rw [hi]; rfl⟩
      have hin : i < n := by
        rw [hi]
        have := HNN.out
        exact Nat.div_lt_of_lt_mul (by omega)
      have hin' : (i : Int) < (n : Int) := by omega
      clear hi
      go_enter Try.func14, Try.ntmps14
      go_wp2
      go_loopg [9] f (fun kq v9 w' => ∃ (x : Int) (m1 : LM) (c1 : List Int) (vo1 : Value) (o1 : LO), v9 = .int .i64 x ∧ Aside0 (-1 ≤ x ∧ x ≤ 2) ∧ Aside0 (rest.l0 kq n k s x m1 c1 o1 = some (m', c', o')) ∧ Aside0 (kq ≤ f) ∧ Aside0 (LAst w' B bn bm bo bc br gm gc cm gr n m1 c1 vo1 o1) ∧ Aside0 (Below B w w'))
      case atStart => exact ⟨-1, m, c, vo, o, rfl, ⟨by omega, by omega⟩, H', ⟨Nat.le_refl _⟩, HST, ⟨Below.refl _ _⟩⟩
      case round =>
        clear H' HST
        obtain ⟨x, m1, c1, vo1, o1, rfl, HX, HA, HK1, HST1, HB1⟩ := hrel
        cases gk with
        | zero => exact absurd HA.out (by simp [rest.l0])
        | succ k1 =>
          have H := HA.out
          clear HA
          simp only [rest.l0] at H
          have hx0 := HX.out.1
          have hx2 := HX.out.2
          clear HX
          by_cases hx : x ≤ 1
          · rw [if_pos hx] at H
            rw [← HJ.out] at H
            rw [← HI.out] at H
            have cN1 := cell_of_one HST1.out.hn
            have cM1 := cell_of_one HST1.out.hm
            have cC1 := cell_of_one HST1.out.hc
            have cR1 := cell_of_one HST1.out.hr
            have cJ1 := HST1.out.cellC hjn
            have tm_ : (k : Int).tmod (n : Int) = (j : Int) := by rw [Int.tmod_eq_emod_of_nonneg (by omega)]; exact hjI.out
            have wi_ : wrap64 (i : Int) = (i : Int) := by unfold wrap64; omega
            have wj_ : wrap64 (j : Int) = (j : Int) := by unfold wrap64; omega
            have td_ : (k : Int).tdiv (n : Int) = (i : Int) := by rw [Int.tdiv_eq_ediv_of_nonneg (by omega)]; exact hiI.out
            by_cases g1 : in01 (s + x) = true
            · by_cases g2 : in01 (wrap64 (rd c1 (j : Int) + x)) = true
              · rw [g1, g2, if_pos (by simp)] at H
                obtain ⟨⟨m2, c2, o2⟩, A0, H⟩ := Option.bind_eq_some_iff.mp H
                have AR := Aside0.mk A0
                have H' := Aside0.mk H
                clear H A0
                have hs01 := in01_bd g1
                have G1 := Aside0.mk g1
                have G2 := Aside0.mk g2
                clear g1 g2
                go_wp2_with fail
                go_big_quiet ((first | (go_at_call 13; exact Calls.quiet_of (within_v _ trivial G1.out)) | (go_at_call 13; exact Calls.quiet_of (within_v _ trivial G2.out))))
                go_wp2_with fail
                have HST2 := Aside0.mk (HST1.out.drewN nq).drew
                have HB2 := Aside0.mk (below_drewB (pw_below_drewN' HB1.out nq))
                have cN2 := cell_of_one HST2.out.hn
                have cM2 := cell_of_one HST2.out.hm
                obtain ⟨gi, hgi⟩ : ∃ gi, gr.getD i 0 = gi := ⟨_, rfl⟩
                have cG2 := HST2.out.cellM hin
                obtain ⟨ov, cE2, fE2⟩ := HST2.out.cellE hin hjn
                rw [hgi] at cG2 cE2 fE2
                have HGI := Aside0.mk hgi
                clear hgi
                refine start_ (n := 12) (S := fun w' => w'.cell? ⟨bm, 0, none⟩ = some (.slice (some ⟨gm, 0, none⟩) n cm) ∧ w'.cell? ⟨bn, 0, none⟩ = some (.int .i64 (n : Int)) ∧ w'.cell? ⟨gm, i, none⟩ = some (.slice (some ⟨gi, 0, none⟩) n n)) (ds := [11]) #[false, false, false, false, false, false, false, false, false, false, false, false] (by kernel_rfl) rfl rfl ⟨cM2, cN2, cG2⟩ (fun hHeld => ?_)
                generalize (World.drewN wr nq).drew = w2 at HST2 HB2 cN2 cM2 cG2 cE2 fE2 hHeld ⊢
                refine take_ (i := 0) (N := (some 51)) (v := ?_) (a' := ?_) #[true, false, false, false, false, false, false, false, false, false, false, false] rfl rfl (by kernel_rfl) (fun _ _ _ h => h) (Or.inl ⟨by rfl, ?_⟩) hHeld ?_ ?_
                rotate_left
                · rintro w' ⟨s0, s1, s2⟩
                  go_simp
                  with_reducible rfl
                rotate_left
                · simp only [Act.put, List.setIfInBounds_toArray, List.set_cons_zero, List.set_cons_succ, i64_w, i32_w]
                  rfl
                refine pure_ (i := 1) (N := (some 52)) (v := ?_) (a' := ?_) #[true, true, false, false, false, false, false, false, false, false, false, false] rfl rfl (by kernel_rfl) (fun _ _ _ h => h) (Or.inl ⟨by rfl, ?_⟩) ?_ ?_
                rotate_left
                · intro w'
                  go_simp
                  with_reducible rfl
                rotate_left
                · simp only [Act.put, List.setIfInBounds_toArray, List.set_cons_zero, List.set_cons_succ, i64_w, i32_w]
                  rfl
                refine take_ (i := 2) (N := (some 53)) (v := ?_) (a' := ?_) #[true, true, true, false, false, false, false, false, false, false, false, false] rfl rfl (by kernel_rfl) (fun _ _ _ h => h) (Or.inl ⟨by rfl, ?_⟩) hHeld ?_ ?_
                rotate_left
                · rintro w' ⟨s0, s1, s2⟩
                  go_simp
                  with_reducible rfl
                rotate_left
                · simp only [Act.put, List.setIfInBounds_toArray, List.set_cons_zero, List.set_cons_succ, i64_w, i32_w]
                  rfl
                refine pure_ (i := 3) (N := (some 54)) (v := ?_) (a' := ?_) #[true, true, true, true, false, false, false, false, false, false, false, false] rfl rfl (by kernel_rfl) (fun _ _ _ h => h) (Or.inl ⟨by rfl, ?_⟩) ?_ ?_
                rotate_left
                · intro w'
                  go_simp
                  try simp only [i64_w, td_, wi_]
                  with_reducible rfl
                rotate_left
                · simp only [Act.put, List.setIfInBounds_toArray, List.set_cons_zero, List.set_cons_succ, i64_w, i32_w]
                  rfl
                refine pure_ (i := 4) (N := (some 55)) (v := ?_) (a' := ?_) #[true, true, true, true, true, false, false, false, false, false, false, false] rfl rfl (by kernel_rfl) (fun _ _ _ h => h) (Or.inl ⟨by rfl, ?_⟩) ?_ ?_
                rotate_left
                · intro w'
                  go_simp
                  with_reducible rfl
                rotate_left
                · simp only [Act.put, List.setIfInBounds_toArray, List.set_cons_zero, List.set_cons_succ, i64_w, i32_w]
                  rfl
                refine take_ (i := 5) (N := (some 56)) (v := ?_) (a' := ?_) #[true, true, true, true, true, true, false, false, false, false, false, false] rfl rfl (by kernel_rfl) (fun _ _ _ h => h) (Or.inl ⟨by rfl, ?_⟩) hHeld ?_ ?_
                rotate_left
                · rintro w' ⟨s0, s1, s2⟩
                  go_simp
                  with_reducible rfl
                rotate_left
                · simp only [Act.put, List.setIfInBounds_toArray, List.set_cons_zero, List.set_cons_succ, i64_w, i32_w]
                  rfl
                refine pure_ (i := 6) (N := (some 57)) (v := ?_) (a' := ?_) #[true, true, true, true, true, true, true, false, false, false, false, false] rfl rfl (by kernel_rfl) (fun _ _ _ h => h) (Or.inl ⟨by rfl, ?_⟩) ?_ ?_
                rotate_left
                · intro w'
                  go_simp
                  with_reducible rfl
                rotate_left
                · simp only [Act.put, List.setIfInBounds_toArray, List.set_cons_zero, List.set_cons_succ, i64_w, i32_w]
                  rfl
                refine take_ (i := 7) (N := (some 58)) (v := ?_) (a' := ?_) #[true, true, true, true, true, true, true, true, false, false, false, false] rfl rfl (by kernel_rfl) (fun _ _ _ h => h) (Or.inl ⟨by rfl, ?_⟩) hHeld ?_ ?_
                rotate_left
                · rintro w' ⟨s0, s1, s2⟩
                  go_simp
                  with_reducible rfl
                rotate_left
                · simp only [Act.put, List.setIfInBounds_toArray, List.set_cons_zero, List.set_cons_succ, i64_w, i32_w]
                  rfl
                refine pure_ (i := 8) (N := (some 59)) (v := ?_) (a' := ?_) #[true, true, true, true, true, true, true, true, true, false, false, false] rfl rfl (by kernel_rfl) (fun _ _ _ h => h) (Or.inl ⟨by rfl, ?_⟩) ?_ ?_
                rotate_left
                · intro w'
                  go_simp
                  try simp only [i64_w, tm_, wj_]
                  with_reducible rfl
                rotate_left
                · simp only [Act.put, List.setIfInBounds_toArray, List.set_cons_zero, List.set_cons_succ, i64_w, i32_w]
                  rfl
                refine pure_ (i := 9) (N := (some 60)) (v := ?_) (a' := ?_) #[true, true, true, true, true, true, true, true, true, true, false, false] rfl rfl (by kernel_rfl) (fun _ _ _ h => h) (Or.inl ⟨by rfl, ?_⟩) ?_ ?_
                rotate_left
                · intro w'
                  go_simp
                  with_reducible rfl
                rotate_left
                · simp only [Act.put, List.setIfInBounds_toArray, List.set_cons_zero, List.set_cons_succ, i64_w, i32_w]
                  rfl
                refine pure_ (i := 10) (N := (some 61)) (v := ?_) (a' := ?_) #[true, true, true, true, true, true, true, true, true, true, true, false] rfl rfl (by kernel_rfl) (fun _ _ _ h => h) (Or.inl ⟨by rfl, ?_⟩) ?_ ?_
                rotate_left
                · intro w'
                  go_simp
                  with_reducible rfl
                rotate_left
                · simp only [Act.put, List.setIfInBounds_toArray, List.set_cons_zero, List.set_cons_succ, i64_w, i32_w]
                  rfl
                refine last_ (i := 11) (N := none) #[true, true, true, true, true, true, true, true, true, true, true, true] rfl rfl (by kernel_rfl) (by decide) (fun K hK => ?_)
                refine skip_ (w1 := ?_) (by rfl) rfl ?_ ?_
                rotate_left
                · go_simp
                  rfl
                refine hK.out _ _ ?_
                clear hK K
                refine done_ (by kernel_rfl) ?_
                have HST3 := Aside0.mk (HST2.out.setM hgl hnd i j hin x)
                rw [HGI.out] at HST3
                have HB3 := Aside0.mk (below_setB (b := gi) HB2.out (by rw [← HGI.out]; exact hBl _ (gr_mem hgl hin)) j (.int .i64 x))
                clear HST2 HB2 cN2 cM2 cG2 cE2 fE2
                go_wp2_with fail
                generalize World.setCell w2 ⟨gi, j, none⟩ (.int .i64 x) = w3 at HST3 HB3 ⊢
                have HST4 := Aside0.mk HST3.out.drew
                have HB4 := Aside0.mk (below_drewB HB3.out)
                have cN4 := cell_of_one HST4.out.hn
                have cC4 := cell_of_one HST4.out.hc
                have cE4 := HST4.out.cellC hjn
                have fE4 := HST4.out.freeC j
                clear HST3 HB3
                refine start_ (n := 10) (S := fun w' => w'.cell? ⟨bc, 0, none⟩ = some (.slice (some ⟨gc, 0, none⟩) n n) ∧ w'.cell? ⟨bn, 0, none⟩ = some (.int .i64 (n : Int)) ∧ w'.cell? ⟨gc, j, none⟩ = some (.int .i64 (rd c1 (j : Int)))) (ds := [9]) #[false, false, false, false, false, false, false, false, false, false] (by kernel_rfl) rfl rfl ⟨cC4, cN4, cE4⟩ (fun hHeld => ?_)
                generalize World.drew w3 = w4 at HST4 HB4 cN4 cC4 cE4 fE4 hHeld ⊢
                refine take_ (i := 0) (N := (some 62)) (v := ?_) (a' := ?_) #[true, false, false, false, false, false, false, false, false, false] rfl rfl (by kernel_rfl) (fun _ _ _ h => h) (Or.inl ⟨by rfl, ?_⟩) hHeld ?_ ?_
                rotate_left
                · rintro w' ⟨s0, s1, s2⟩
                  go_simp
                  with_reducible rfl
                rotate_left
                · simp only [Act.put, List.setIfInBounds_toArray, List.set_cons_zero, List.set_cons_succ, i64_w, i32_w]
                  rfl
                refine pure_ (i := 1) (N := (some 63)) (v := ?_) (a' := ?_) #[true, true, false, false, false, false, false, false, false, false] rfl rfl (by kernel_rfl) (fun _ _ _ h => h) (Or.inl ⟨by rfl, ?_⟩) ?_ ?_
                rotate_left
                · intro w'
                  go_simp
                  with_reducible rfl
                rotate_left
                · simp only [Act.put, List.setIfInBounds_toArray, List.set_cons_zero, List.set_cons_succ, i64_w, i32_w]
                  rfl
                refine take_ (i := 2) (N := (some 64)) (v := ?_) (a' := ?_) #[true, true, true, false, false, false, false, false, false, false] rfl rfl (by kernel_rfl) (fun _ _ _ h => h) (Or.inl ⟨by rfl, ?_⟩) hHeld ?_ ?_
                rotate_left
                · rintro w' ⟨s0, s1, s2⟩
                  go_simp
                  with_reducible rfl
                rotate_left
                · simp only [Act.put, List.setIfInBounds_toArray, List.set_cons_zero, List.set_cons_succ, i64_w, i32_w]
                  rfl
                refine pure_ (i := 3) (N := (some 65)) (v := ?_) (a' := ?_) #[true, true, true, true, false, false, false, false, false, false] rfl rfl (by kernel_rfl) (fun _ _ _ h => h) (Or.inl ⟨by rfl, ?_⟩) ?_ ?_
                rotate_left
                · intro w'
                  go_simp
                  try simp only [i64_w, tm_, wj_]
                  with_reducible rfl
                rotate_left
                · simp only [Act.put, List.setIfInBounds_toArray, List.set_cons_zero, List.set_cons_succ, i64_w, i32_w]
                  rfl
                refine pure_ (i := 4) (N := (some 66)) (v := ?_) (a' := ?_) #[true, true, true, true, true, false, false, false, false, false] rfl rfl (by kernel_rfl) (fun _ _ _ h => h) (Or.inl ⟨by rfl, ?_⟩) ?_ ?_
                rotate_left
                · intro w'
                  go_simp
                  with_reducible rfl
                rotate_left
                · simp only [Act.put, List.setIfInBounds_toArray, List.set_cons_zero, List.set_cons_succ, i64_w, i32_w]
                  rfl
                refine take_ (i := 5) (N := (some 67)) (v := ?_) (a' := ?_) #[true, true, true, true, true, true, false, false, false, false] rfl rfl (by kernel_rfl) (fun _ _ _ h => h) (Or.inl ⟨by rfl, ?_⟩) hHeld ?_ ?_
                rotate_left
                · rintro w' ⟨s0, s1, s2⟩
                  go_simp
                  with_reducible rfl
                rotate_left
                · simp only [Act.put, List.setIfInBounds_toArray, List.set_cons_zero, List.set_cons_succ, i64_w, i32_w]
                  rfl
                refine pure_ (i := 6) (N := (some 68)) (v := ?_) (a' := ?_) #[true, true, true, true, true, true, true, false, false, false] rfl rfl (by kernel_rfl) (fun _ _ _ h => h) (Or.inl ⟨by rfl, ?_⟩) ?_ ?_
                rotate_left
                · intro w'
                  go_simp
                  with_reducible rfl
                rotate_left
                · simp only [Act.put, List.setIfInBounds_toArray, List.set_cons_zero, List.set_cons_succ, i64_w, i32_w]
                  rfl
                refine pure_ (i := 7) (N := (some 69)) (v := ?_) (a' := ?_) #[true, true, true, true, true, true, true, true, false, false] rfl rfl (by kernel_rfl) (fun _ _ _ h => h) (Or.inl ⟨by rfl, ?_⟩) ?_ ?_
                rotate_left
                · intro w'
                  go_simp
                  try simp only [i64_w]
                  with_reducible rfl
                rotate_left
                · simp only [Act.put, List.setIfInBounds_toArray, List.set_cons_zero, List.set_cons_succ, i64_w, i32_w]
                  rfl
                refine pure_ (i := 8) (N := (some 70)) (v := ?_) (a' := ?_) #[true, true, true, true, true, true, true, true, true, false] rfl rfl (by kernel_rfl) (fun _ _ _ h => h) (Or.inl ⟨by rfl, ?_⟩) ?_ ?_
                rotate_left
                · intro w'
                  go_simp
                  with_reducible rfl
                rotate_left
                · simp only [Act.put, List.setIfInBounds_toArray, List.set_cons_zero, List.set_cons_succ, i64_w, i32_w]
                  rfl
                refine last_ (i := 9) (N := none) #[true, true, true, true, true, true, true, true, true, true] rfl rfl (by kernel_rfl) (by decide) (fun K hK => ?_)
                refine skip_ (w1 := ?_) (by rfl) rfl ?_ ?_
                rotate_left
                · go_simp
                  rfl
                refine hK.out _ _ ?_
                clear hK K
                refine done_ (by kernel_rfl) ?_
                have HST5 := Aside0.mk (HST4.out.setC hgl hnd j (wrap64 (rd c1 (j : Int) + x)))
                have HB5 := Aside0.mk (below_setB (b := gc) HB4.out (hBl gc (by simp)) j (.int .i64 (wrap64 (rd c1 (j : Int) + x))))
                clear HST4 HB4 cN4 cC4 cE4 fE4
                have cR5 := cell_of_one HST5.out.hr
                have kk1 : ((k : Int) + 1) = ((k + 1 : Nat) : Int) := by omega
                have KK1 := Aside0.mk kk1
                clear kk1
                go_wp2_with fail
                refine (IH.out k1 (by have := HK1.out; omega) (k + 1) _ _ _ _ _ _ _ _ _ _ KK1.out (by omega) hs01.1 hs01.2 HST5.out AR.out).mono ?_
                rintro e w6 ⟨rfl, vo2, hst6, hb6⟩
                have HST7 := Aside0.mk hst6.drew
                have HB7 := Aside0.mk (below_drewB (HB5.out.trans hb6))
                have cN7 := cell_of_one HST7.out.hn
                have cC7 := cell_of_one HST7.out.hc
                have cE7 := HST7.out.cellC hjn
                have fE7 := HST7.out.freeC j
                clear HST5 HB5 cR5 hst6 hb6
                go_wp2_with fail
                refine start_ (n := 10) (S := fun w' => w'.cell? ⟨bc, 0, none⟩ = some (.slice (some ⟨gc, 0, none⟩) n n) ∧ w'.cell? ⟨bn, 0, none⟩ = some (.int .i64 (n : Int)) ∧ w'.cell? ⟨gc, j, none⟩ = some (.int .i64 (rd c2 (j : Int)))) (ds := [9]) #[false, false, false, false, false, false, false, false, false, false] (by kernel_rfl) rfl rfl ⟨cC7, cN7, cE7⟩ (fun hHeld => ?_)
                generalize World.drew w6 = w7 at HST7 HB7 cN7 cC7 cE7 fE7 hHeld ⊢
                refine take_ (i := 0) (N := (some 78)) (v := ?_) (a' := ?_) #[true, false, false, false, false, false, false, false, false, false] rfl rfl (by kernel_rfl) (fun _ _ _ h => h) (Or.inl ⟨by rfl, ?_⟩) hHeld ?_ ?_
                rotate_left
                · rintro w' ⟨s0, s1, s2⟩
                  go_simp
                  with_reducible rfl
                rotate_left
                · simp only [Act.put, List.setIfInBounds_toArray, List.set_cons_zero, List.set_cons_succ, i64_w, i32_w]
                  rfl
                refine pure_ (i := 1) (N := (some 79)) (v := ?_) (a' := ?_) #[true, true, false, false, false, false, false, false, false, false] rfl rfl (by kernel_rfl) (fun _ _ _ h => h) (Or.inl ⟨by rfl, ?_⟩) ?_ ?_
                rotate_left
                · intro w'
                  go_simp
                  with_reducible rfl
                rotate_left
                · simp only [Act.put, List.setIfInBounds_toArray, List.set_cons_zero, List.set_cons_succ, i64_w, i32_w]
                  rfl
                refine take_ (i := 2) (N := (some 80)) (v := ?_) (a' := ?_) #[true, true, true, false, false, false, false, false, false, false] rfl rfl (by kernel_rfl) (fun _ _ _ h => h) (Or.inl ⟨by rfl, ?_⟩) hHeld ?_ ?_
                rotate_left
                · rintro w' ⟨s0, s1, s2⟩
                  go_simp
                  with_reducible rfl
                rotate_left
                · simp only [Act.put, List.setIfInBounds_toArray, List.set_cons_zero, List.set_cons_succ, i64_w, i32_w]
                  rfl
                refine pure_ (i := 3) (N := (some 81)) (v := ?_) (a' := ?_) #[true, true, true, true, false, false, false, false, false, false] rfl rfl (by kernel_rfl) (fun _ _ _ h => h) (Or.inl ⟨by rfl, ?_⟩) ?_ ?_
                rotate_left
                · intro w'
                  go_simp
                  try simp only [i64_w, tm_, wj_]
                  with_reducible rfl
                rotate_left
                · simp only [Act.put, List.setIfInBounds_toArray, List.set_cons_zero, List.set_cons_succ, i64_w, i32_w]
                  rfl
                refine pure_ (i := 4) (N := (some 82)) (v := ?_) (a' := ?_) #[true, true, true, true, true, false, false, false, false, false] rfl rfl (by kernel_rfl) (fun _ _ _ h => h) (Or.inl ⟨by rfl, ?_⟩) ?_ ?_
                rotate_left
                · intro w'
                  go_simp
                  with_reducible rfl
                rotate_left
                · simp only [Act.put, List.setIfInBounds_toArray, List.set_cons_zero, List.set_cons_succ, i64_w, i32_w]
                  rfl
                refine take_ (i := 5) (N := (some 83)) (v := ?_) (a' := ?_) #[true, true, true, true, true, true, false, false, false, false] rfl rfl (by kernel_rfl) (fun _ _ _ h => h) (Or.inl ⟨by rfl, ?_⟩) hHeld ?_ ?_
                rotate_left
                · rintro w' ⟨s0, s1, s2⟩
                  go_simp
                  with_reducible rfl
                rotate_left
                · simp only [Act.put, List.setIfInBounds_toArray, List.set_cons_zero, List.set_cons_succ, i64_w, i32_w]
                  rfl
                refine pure_ (i := 6) (N := (some 84)) (v := ?_) (a' := ?_) #[true, true, true, true, true, true, true, false, false, false] rfl rfl (by kernel_rfl) (fun _ _ _ h => h) (Or.inl ⟨by rfl, ?_⟩) ?_ ?_
                rotate_left
                · intro w'
                  go_simp
                  with_reducible rfl
                rotate_left
                · simp only [Act.put, List.setIfInBounds_toArray, List.set_cons_zero, List.set_cons_succ, i64_w, i32_w]
                  rfl
                refine pure_ (i := 7) (N := (some 85)) (v := ?_) (a' := ?_) #[true, true, true, true, true, true, true, true, false, false] rfl rfl (by kernel_rfl) (fun _ _ _ h => h) (Or.inl ⟨by rfl, ?_⟩) ?_ ?_
                rotate_left
                · intro w'
                  go_simp
                  try simp only [i64_w]
                  with_reducible rfl
                rotate_left
                · simp only [Act.put, List.setIfInBounds_toArray, List.set_cons_zero, List.set_cons_succ, i64_w, i32_w]
                  rfl
                refine pure_ (i := 8) (N := (some 86)) (v := ?_) (a' := ?_) #[true, true, true, true, true, true, true, true, true, false] rfl rfl (by kernel_rfl) (fun _ _ _ h => h) (Or.inl ⟨by rfl, ?_⟩) ?_ ?_
                rotate_left
                · intro w'
                  go_simp
                  with_reducible rfl
                rotate_left
                · simp only [Act.put, List.setIfInBounds_toArray, List.set_cons_zero, List.set_cons_succ, i64_w, i32_w]
                  rfl
                refine last_ (i := 9) (N := none) #[true, true, true, true, true, true, true, true, true, true] rfl rfl (by kernel_rfl) (by decide) (fun K hK => ?_)
                refine skip_ (w1 := ?_) (by rfl) rfl ?_ ?_
                rotate_left
                · go_simp
                  rfl
                refine hK.out _ _ ?_
                clear hK K
                refine done_ (by kernel_rfl) ?_
                have HST8 := Aside0.mk (HST7.out.setC hgl hnd j (wrap64 (rd c2 (j : Int) - x)))
                have HB8 := Aside0.mk (below_setB (b := gc) HB7.out (hBl gc (by simp)) j (.int .i64 (wrap64 (rd c2 (j : Int) - x))))
                clear HST7 HB7 cN7 cC7 cE7 fE7
                go_wp2
                go_roundg k1
                case measure => have := HK1.out; omega
                case rel => exact ⟨x + 1, m2, _, vo2, o2, rfl, ⟨by omega, by omega⟩, H', ⟨by have := HK1.out; omega⟩, HST8, HB8⟩
              · have g2f : in01 (wrap64 (rd c1 (j : Int) + x)) = false := by simpa using g2
                rw [g1, g2f, if_neg (by simp)] at H
                have H' := Aside0.mk H
                have G1 := Aside0.mk g1
                have G2 := Aside0.mk g2f
                clear H g2 g1 g2f
                go_wp2_with fail
                go_big_quiet ((first | (go_at_call 13; exact Calls.quiet_of (within_v _ trivial G1.out)) | (go_at_call 13; exact Calls.quiet_of (within_v _ trivial G2.out))))
                go_wp2
                go_roundg k1
                case measure => have := HK1.out; omega
                case rel => exact ⟨x + 1, m1, c1, vo1, o1, rfl, ⟨by omega, by omega⟩, H', ⟨by have := HK1.out; omega⟩, ⟨HST1.out.drewN _⟩, ⟨pw_below_drewN' HB1.out _⟩⟩
            · have g1f : in01 (s + x) = false := by simpa using g1
              rw [g1f, Bool.false_and, if_neg (by simp)] at H
              have H' := Aside0.mk H
              have G1 := Aside0.mk g1f
              clear H g1 g1f
              go_wp2_with fail
              go_big_quiet ((go_at_call 13; exact Calls.quiet_of (within_v _ trivial G1.out)))
              go_wp2
              go_roundg k1
              case measure => have := HK1.out; omega
              case rel => exact ⟨x + 1, m1, c1, vo1, o1, rfl, ⟨by omega, by omega⟩, H', ⟨by have := HK1.out; omega⟩, ⟨HST1.out.drewN _⟩, ⟨pw_below_drewN' HB1.out _⟩⟩
          · rw [if_neg hx] at H
            simp only [Option.some.injEq, Prod.mk.injEq] at H
            obtain ⟨rfl, rfl, rfl⟩ := H
            go_wp2
            first | go_end0 | ((try simp only [Exit.inBlock, Exit.then]); refine bodyPost_ret (results_none rfl _ _ _) rfl ?_)
            first | exact ⟨rfl, vo1, HST1.out, HB1.out⟩ | exact ⟨rfl, ⟨vo1, HST1.out⟩, HB1.out⟩
theorem ne_obj {w : World} {a b : Nat} {x y : Obj} (h1 : w.heap[a]? = some x) (h2 : w.heap[b]? = some y) (h : x ≠ y) : a ≠ b := by
  rintro rfl
  rw [h1] at h2
  exact h (Option.some.inj h2)
theorem blk_one {w : World} {b : Nat} {v : Value} {t : TypeId} (h : w.heap[b]? = some (.cells #[v] t (0, 0))) (u : Value) : (w.setCell ⟨b, 0, none⟩ u).heap[b]? = some (.cells #[u] t (0, 0)) := one_setCell h
def LAt3 : Bool × List (List Nat × List Nat) := (true, [([], []), ([], []), ([], []), ([2, 2], [2]), ([], []), ([], []), ([], []), ([4, 0, 0, 4, 5, 6], [0, 4]), ([5, 1, 7, 0, 1, 4, 5, 6, 7], [1, 5]), ([6, 3, 8, 0, 1, 2, 3, 4, 5, 6, 7, 8], [3, 6])])
def LAb3 : List Nat := [0, 0, 0, 4, 0, 0, 0, 113, 243, 511]
theorem LAtab3 : rtab .any (opsOf Try.f8 3) = LAt3 := by kernel_rfl
theorem LAbits3 : waitsOk LAt3.2 LAb3 = true := by kernel_rfl


/-- The outer function's memory, the rows of m made so far: gr. -/
structure LB (w : World) (B bn x3 x4 x5 x10 x13 n : Nat) (vm : Value) (gr : List Nat) : Prop where
  hn : w.heap[bn]? = some (.cells #[.int .i64 (n : Int)] 3 (0, 0))
  h3 : w.heap[x3]? = some (.cells #[.slice (some ⟨x10, 0, none⟩) 0 0] 24 (0, 0))
  h4 : w.heap[x4]? = some (.cells #[vm] 27 (0, 0))
  h5 : w.heap[x5]? = some (.cells #[.slice (some ⟨x13, 0, none⟩) n n] 31 (0, 0))
  h10 : w.heap[x10]? = some (.cells #[] 27 (0, 0))
  h13 : w.heap[x13]? = some (.cells (madeCells #[.int .i64 0] n) 3 (0, 0))
  hr : ∀ g, g ∈ gr → w.heap[g]? = some (.cells (madeCells #[.int .i64 0] n) 3 (0, 0))
  own : w.ownsRow B 31 1 vm gr.length (gr.map fun g => Value.slice (some ⟨g, 0, none⟩) n n)
  nd : (bn :: x4 :: x3 :: x5 :: x10 :: x13 :: gr).Nodup
  off : ∀ b, b ∈ bn :: x4 :: x3 :: x5 :: x10 :: x13 :: gr → some b ≠ vm.ownBlock
  base : ∀ b, b ∈ bn :: x4 :: x3 :: x5 :: x10 :: x13 :: gr → B ≤ b
section
variable {w w1 w4 : World} {B bn x3 x4 x5 x10 x13 n : Nat} {vm v1 : Value} {gr : List Nat}
theorem LB.lt (h : LB w B bn x3 x4 x5 x10 x13 n vm gr) : ∀ b, b ∈ bn :: x4 :: x3 :: x5 :: x10 :: x13 :: gr → b < w.heap.size := by
  intro b hb
  simp only [List.mem_cons] at hb
  rcases hb with rfl | rfl | rfl | rfl | rfl | rfl | hb
  · exact lt_of_block h.hn
  · exact lt_of_block h.h4
  · exact lt_of_block h.h3
  · exact lt_of_block h.h5
  · exact lt_of_block h.h10
  · exact lt_of_block h.h13
  · exact lt_of_block (h.hr b hb)
theorem LB.size (h : LB w B bn x3 x4 x5 x10 x13 n vm gr) : B ≤ w.heap.size := by
  have := h.lt bn (by simp)
  have := h.base bn (by simp)
  omega
theorem LB.below (h : LB w B bn x3 x4 x5 x10 x13 n vm gr) (hb : Below w.heap.size w w1) : LB w1 B bn x3 x4 x5 x10 x13 n vm gr := by
  have mv : ∀ {b : Nat} {x : Obj}, w.heap[b]? = some x → w1.heap[b]? = some x := fun hx => (hb.block _ (lt_of_block hx)).trans hx
  exact ⟨mv h.hn, mv h.h3, mv h.h4, mv h.h5, mv h.h10, mv h.h13, fun g hg => mv (h.hr g hg), pw_own_below h.own hb, h.nd, h.off, h.base⟩
theorem LB.grow (h : LB w B bn x3 x4 x5 x10 x13 n vm gr) (hg : (w.alloc (.cells (madeCells #[.int .i64 0] n) 3 (0, 0))).grownBy w4 vm.ownBlock) (hat : v1.ownBlock = vm.ownBlock ∨ ∃ b, v1.ownBlock = some b ∧ (w.alloc (.cells (madeCells #[.int .i64 0] n) 3 (0, 0))).heap.size ≤ b)
    (ho : w4.ownsRow B 31 1 v1 (gr.length + 1) ((gr.map fun g => Value.slice (some ⟨g, 0, none⟩) n n) ++ [.slice (some ⟨w.heap.size, 0, none⟩) n n])) :
    w4.cell? ⟨x4, 0, none⟩ = some vm ∧ w4.frozen? ⟨x4, 0, none⟩ = false ∧ w4.cell? ⟨bn, 0, none⟩ = some (.int .i64 (n : Int)) ∧
    LB (w4.setCell ⟨x4, 0, none⟩ v1) B bn x3 x4 x5 x10 x13 n v1 (gr ++ [w.heap.size]) := by
  have hvm := own_lt h.own
  have mv : ∀ {b : Nat} {x : Obj}, b ∈ bn :: x4 :: x3 :: x5 :: x10 :: x13 :: gr → w.heap[b]? = some x → w4.heap[b]? = some x := fun hb hx => blk_grown (blk_alloc hx _) hg (h.off _ hb)
  have hnew : w4.heap[w.heap.size]? = some (.cells (madeCells #[.int .i64 0] n) 3 (0, 0)) := blk_grown (blk_new w _) hg (fun he => by have := hvm _ he.symm; omega)
  have hnd := h.nd
  have hlt := h.lt
  have hsz : (w.alloc (.cells (madeCells #[.int .i64 0] n) 3 (0, 0))).heap.size = w.heap.size + 1 := by simp
  have hoff : ∀ b, b ∈ bn :: x4 :: x3 :: x5 :: x10 :: x13 :: (gr ++ [w.heap.size]) → some b ≠ v1.ownBlock := by
    intro b hb
    have hb' : b ∈ bn :: x4 :: x3 :: x5 :: x10 :: x13 :: gr ∨ b = w.heap.size := by
      simp only [List.mem_cons, List.mem_append, List.not_mem_nil, or_false] at hb ⊢
      rcases hb with hb | hb | hb | hb | hb | hb | hb | hb <;> simp [hb]
    have hble : b ≤ w.heap.size := by
      rcases hb' with hb' | hb'
      · have := hlt b hb'; omega
      · omega
    rcases hat with hat | ⟨q, hq, hle⟩
    · rw [hat]
      rcases hb' with hb' | rfl
      · exact h.off b hb'
      · intro he
        have := hvm _ he.symm
        omega
    · rw [hq]
      intro he
      have := Option.some.inj he
      omega
  have hx4 := mv (b := x4) (by simp) h.h4
  simp only [List.nodup_cons, List.mem_cons, not_or] at hnd
  obtain ⟨⟨n1, n2, n3, n4, n5, n6⟩, ⟨m1, m2, m3, m4, m5⟩, ⟨o1, o2, o3, o4⟩, ⟨c1, c2, c3⟩, ⟨r1, r2⟩, q1, hgn⟩ := hnd
  have ne : ∀ {b : Nat} {x : Obj}, b ≠ x4 → w4.heap[b]? = some x → (w4.setCell ⟨x4, 0, none⟩ v1).heap[b]? = some x := fun hn hx => (Below.heap_setCell w4 ⟨x4, 0, none⟩ v1 _ hn).trans hx
  have l0 := hlt bn (by simp)
  have l1 := hlt x4 (by simp)
  have l2 := hlt x3 (by simp)
  have l3 := hlt x5 (by simp)
  have l4 := hlt x10 (by simp)
  have l5 := hlt x13 (by simp)
  have l6 : ∀ g, g ∈ gr → g < w.heap.size := fun g hg => hlt g (by simp [hg])
  refine ⟨cell_of_one hx4, free_of_one hx4, cell_of_one (mv (by simp) h.hn), ⟨ne n1 (mv (by simp) h.hn), ne (Ne.symm m1) (mv (by simp) h.h3), one_setCell hx4, ne (Ne.symm m2) (mv (by simp) h.h5), ne (Ne.symm m3) (mv (by simp) h.h10), ne (Ne.symm m4) (mv (by simp) h.h13), fun g hg => ?_, ?_, ?_, hoff, fun b hb => ?_⟩⟩
  · rcases List.mem_append.1 hg with hg | hg
    · exact ne (fun e => m5 (e ▸ hg)) (mv (by simp [hg]) (h.hr g hg))
    · obtain rfl := List.mem_singleton.1 hg
      exact ne (by omega) hnew
  · rw [List.length_append, List.length_singleton, List.map_append, List.map_singleton]
    exact own_setCell ho (hoff x4 (by simp)) v1
  · simp only [List.nodup_cons, List.mem_cons, List.mem_append, List.not_mem_nil, or_false, not_or]
    refine ⟨⟨n1, n2, n3, n4, n5, n6, by omega⟩, ⟨m1, m2, m3, m4, m5, by omega⟩, ⟨o1, o2, o3, o4, by omega⟩, ⟨c1, c2, c3, by omega⟩, ⟨r1, r2, by omega⟩, ⟨q1, by omega⟩, ?_⟩
    rw [List.nodup_append]
    refine ⟨hgn, by simp, fun a ha b hb => ?_⟩
    obtain rfl := List.mem_singleton.1 hb
    have := l6 a ha
    omega
  · simp only [List.mem_cons, List.mem_append, List.not_mem_nil, or_false] at hb
    rcases hb with hb | hb | hb | hb | hb | hb | hb | hb
    all_goals first | (refine h.base b ?_; simp [hb]; done) | (rw [hb]; exact h.size)
theorem made_map (n : Nat) : madeCells #[Value.int .i64 0] n = ((List.replicate n (0 : Int)).map (Value.int .i64)).toArray := by
  apply Array.ext'
  rw [toList_madeCells_one]
  simp
/-- The closure's memory stands. -/
theorem LB.start (h : LB w B bn x3 x4 x5 x10 x13 n vm gr) (hn : gr.length = n) (hn1 : 1 ≤ n) :
    ∃ gm cm, vm = .slice (some ⟨gm, 0, none⟩) n cm ∧ (bn :: x4 :: x3 :: x5 :: w.heap.size :: gm :: x13 :: gr).Nodup ∧ (∀ b, b ∈ bn :: x4 :: x3 :: x5 :: w.heap.size :: gm :: x13 :: gr → B ≤ b) ∧
      LAst (w.alloc (.cells #[.func (.func 14) #[] #[.pointer (some ⟨bn, 0, none⟩), .pointer (some ⟨x4, 0, none⟩), .pointer (some ⟨x3, 0, none⟩), .pointer (some ⟨x5, 0, none⟩), .pointer (some ⟨w.heap.size, 0, none⟩)]] 32 (0, 0))) B bn x4 x3 x5 w.heap.size gm x13 cm gr n
        (List.replicate n (List.replicate n 0)) (List.replicate n 0) (.slice (some ⟨x10, 0, none⟩) 0 0) [] := by
  obtain ⟨hl, ho⟩ := h.own
  rcases ho with ⟨_, h0⟩ | ⟨gm, cm, cur, rfl, hgB, hgh, hcm, _, hcs, htk⟩
  · omega
  have hoff : ∀ b, b ∈ bn :: x4 :: x3 :: x5 :: x10 :: x13 :: gr → b ≠ gm := fun b hb he => h.off b hb (by simp [Value.ownBlock, he])
  have hlt := h.lt
  have hgl := lt_of_block hgh
  have hnd := h.nd
  simp only [List.nodup_cons, List.mem_cons, not_or] at hnd
  obtain ⟨⟨n1, n2, n3, n4, n5, n6⟩, ⟨m1, m2, m3, m4, m5⟩, ⟨o1, o2, o3, o4⟩, ⟨c1, c2, c3⟩, ⟨r1, r2⟩, q1, hgn⟩ := hnd
  have l0 := hlt bn (by simp)
  have l1 := hlt x4 (by simp)
  have l2 := hlt x3 (by simp)
  have l3 := hlt x5 (by simp)
  have l4 := hlt x10 (by simp)
  have l5 := hlt x13 (by simp)
  have l6 : w.heap.size ∉ gr := fun hg => by have := hlt w.heap.size (by simp [hg]); omega
  have g0 := hoff bn (by simp)
  have g1 := hoff x4 (by simp)
  have g2 := hoff x3 (by simp)
  have g3 := hoff x5 (by simp)
  have g4 := hoff x10 (by simp)
  have g5 := hoff x13 (by simp)
  have g6 : gm ∉ gr := fun hg => hoff gm (by simp [hg]) rfl
  refine ⟨gm, cm, by rw [hn], ?_, ?_, ⟨blk_alloc h.hn _, ?_, ⟨cur, blk_alloc hgh _, by omega, fun j hj => ?_⟩, fun j hj => ⟨?_, ?_⟩, blk_alloc h.h5 _, ?_, blk_new w _, blk_alloc h.h3 _, by simp, by simp, ?_⟩⟩
  · simp only [List.nodup_cons, List.mem_cons, not_or]
    exact ⟨⟨n1, n2, n3, by omega, g0, n5, n6⟩, ⟨m1, m2, by omega, g1, m4, m5⟩, ⟨o1, by omega, g2, o3, o4⟩, ⟨by omega, g3, c2, c3⟩, ⟨by omega, by omega, l6⟩, ⟨Ne.symm g5, g6⟩, q1, hgn⟩
  · intro b hb
    simp only [List.mem_cons] at hb
    rcases hb with hb | hb | hb | hb | hb | hb | hb | hb
    all_goals first | (refine h.base b ?_; simp [hb]; done) | (rw [hb]; exact h.size) | (rw [hb]; exact hgB)
  · have := blk_alloc h.h4 (.cells #[.func (.func 14) #[] #[.pointer (some ⟨bn, 0, none⟩), .pointer (some ⟨x4, 0, none⟩), .pointer (some ⟨x3, 0, none⟩), .pointer (some ⟨x5, 0, none⟩), .pointer (some ⟨w.heap.size, 0, none⟩)]] 32 (0, 0))
    rw [hn] at this
    exact this
  · have hj' : j < gr.length := by omega
    have e : (cur.toList.take (gr.length * 1))[j]? = some (Value.slice (some ⟨gr.getD j 0, 0, none⟩) n n) := by
      rw [htk, List.getElem?_map, List.getD_eq_getElem?_getD, List.getElem?_eq_getElem hj']
      rfl
    rw [List.getElem?_take_of_lt (by omega)] at e
    simpa using e
  · have hmem : gr.getD j 0 ∈ gr := by
      rw [List.getD_eq_getElem?_getD, List.getElem?_eq_getElem (show j < gr.length by omega)]
      simp
    have e : (List.replicate n (List.replicate n (0 : Int))).getD j [] = List.replicate n 0 := by
      rw [List.getD_eq_getElem?_getD, List.getElem?_replicate, if_pos hj]; rfl
    rw [e, ← made_map]
    exact blk_alloc (h.hr _ hmem) _
  · rw [List.getD_eq_getElem?_getD, List.getElem?_replicate, if_pos hj]
    simp
  · rw [← made_map]
    exact blk_alloc h.h13 _
  · refine ⟨fun k hk hm => ?_, [], ⟨rfl, Or.inr ⟨x10, 0, #[], rfl, h.base x10 (by simp), blk_alloc h.h10 _, by simp, by simp, rfl, rfl⟩⟩, Reps.none _ _⟩
    have : x10 = k := by simpa [Value.ownBlock] using hk
    subst this
    simp only [List.mem_cons] at hm
    rcases hm with hm | hm | hm | hm | hm | hm | hm | hm
    · exact n4 hm.symm
    · exact m3 hm.symm
    · exact o2 hm.symm
    · exact c1 hm.symm
    · omega
    · exact g4 hm
    · exact r1 hm
    · exact r2 hm
end

def LPost (w : World) (o : LO) : Ending → World → Prop := fun e w' => ∃ v0_ : Value, e = .returned (v0_) ∧ Kd.R (Kd.slice 31 (Kd.slice 3 (Kd.int .i64))) 27 w' w.heap.size (fun _ => True) v0_ o ∧ Below w.heap.size w w'
def wval (a : Int) : Bool := decide (1 ≤ a) && decide (a ≤ 4)
theorem within14 (a : Int) (b : Bool) (w : World) (h : wval a = b) : Calls Try.prog 13 #[.int .i64 a, .int .i64 1, .int .i64 4] w fun e w' => e = .returned (.bool b) ∧ ∃ m, w' = w.drewN m := by
  refine (impl_within.calls a 1 4 b w ?_).mono fun e w' ⟨he, hd⟩ => ⟨he, hd.out⟩
  rw [← h]
  unfold impl_within.f wval
  by_cases h : a ≥ 1
  · rw [if_pos h]; simp [show 1 ≤ a from h]
  · rw [if_neg h]; simp [show ¬ 1 ≤ a from h]
theorem list_no (a : Int) (w : World) (h : wval a = false) : Calls Try.prog 8 #[.int .i64 a] w (LPost w []) := by
  have G := Aside0.mk h
  clear h
  go_enter Try.func8, Try.ntmps8
  go_wp2_with (go_at_call 13; refine (within14 a false _ G.out).mono ?_; rintro e w1 ⟨rfl, nd, rfl⟩)
  go_ret
  exact ⟨_, rfl, Kd.R_nil _ _ _ _ _, pw_below_drewN (below_alloc (Below.refl _ _) _) _⟩
theorem below_allocB {B : Nat} {w W : World} (h : Below B w W) (hB : B ≤ W.heap.size) (o : Obj) : Below B w (W.alloc o) := h.alloc hB o
theorem bn_ne {W : World} {n a b : Nat} (hn1 : 1 ≤ n) (h1 : W.heap[a]? = some (.cells #[.int .i64 (n : Int)] 3 (0, 0))) (h2 : W.heap[b]? = some (.cells (madeCells #[.int .i64 0] n) 3 (0, 0))) : a ≠ b := by
  refine ne_obj h1 h2 (fun he => ?_)
  injection he with he
  have hs := congrArg Array.toList he
  rw [toList_madeCells_one] at hs
  match n, hn1 with
  | n + 1, _ =>
    rw [List.replicate_succ] at hs
    injection hs with hs _
    injection hs with _ hs
    omega
theorem LB_start {w W : World} {n x10 x11 x13 x3 x4 x5 : Nat} (fn : W.heap[w.heap.size]? = some (.cells #[.int .i64 (n : Int)] 3 (0, 0))) (fB : Below w.heap.size w W)
    (f10 : W.heap[x10]? = some (.cells #[] 27 (0, 0)) ∧ w.heap.size ≤ x10) (f11 : W.heap[x11]? = some (.cells #[] 31 (0, 0)) ∧ w.heap.size ≤ x11) (f13 : W.heap[x13]? = some (.cells (madeCells #[.int .i64 0] n) 3 (0, 0)) ∧ w.heap.size ≤ x13)
    (f3 : W.heap[x3]? = some (.cells #[.slice (some ⟨x10, 0, none⟩) 0 0] 24 (0, 0)) ∧ w.heap.size ≤ x3) (f4 : W.heap[x4]? = some (.cells #[.slice (some ⟨x11, 0, none⟩) 0 0] 27 (0, 0)) ∧ w.heap.size ≤ x4) (f5 : W.heap[x5]? = some (.cells #[.slice (some ⟨x13, 0, none⟩) n n] 31 (0, 0)) ∧ w.heap.size ≤ x5)
    (hx : w.heap.size ≠ x13) : LB W w.heap.size w.heap.size x3 x4 x5 x10 x13 n (.slice (some ⟨x11, 0, none⟩) 0 0) [] := by
  refine ⟨fn, f3.1, f4.1, f5.1, f10.1, f13.1, (fun g hg => by cases hg), ⟨rfl, Or.inr ⟨x11, 0, #[], rfl, f11.2, f11.1, by simp, by simp, rfl, rfl⟩⟩, ?_, ?_, ?_⟩
  · simp only [List.nodup_cons, List.mem_cons, List.not_mem_nil, or_false, not_or, not_false_eq_true, List.nodup_nil, and_true]
    exact ⟨⟨ne_obj fn f4.1 (by simp), ne_obj fn f3.1 (by simp), ne_obj fn f5.1 (by simp), ne_obj fn f10.1 (by simp), hx⟩, ⟨ne_obj f4.1 f3.1 (by simp), ne_obj f4.1 f5.1 (by simp), ne_obj f4.1 f10.1 (by simp), ne_obj f4.1 f13.1 (by simp)⟩, ⟨ne_obj f3.1 f5.1 (by simp), ne_obj f3.1 f10.1 (by simp), ne_obj f3.1 f13.1 (by simp)⟩, ⟨ne_obj f5.1 f10.1 (by simp), ne_obj f5.1 f13.1 (by simp)⟩, ne_obj f10.1 f13.1 (by simp)⟩
  · intro b hb he
    have he' : b = x11 := by simpa [Value.ownBlock] using he
    subst he'
    simp only [List.mem_cons, List.not_mem_nil, or_false] at hb
    rcases hb with hb | hb | hb | hb | hb | hb
    · exact ne_obj f11.1 fn (by simp) hb
    · exact ne_obj f11.1 f4.1 (by simp) hb
    · exact ne_obj f11.1 f3.1 (by simp) hb
    · exact ne_obj f11.1 f5.1 (by simp) hb
    · exact ne_obj f11.1 f10.1 (by simp) hb
    · exact ne_obj f11.1 f13.1 (by simp) hb
  · intro b hb
    simp only [List.mem_cons, List.not_mem_nil, or_false] at hb
    rcases hb with hb | hb | hb | hb | hb | hb
    · omega
    · rw [hb]; exact f4.2
    · rw [hb]; exact f3.2
    · rw [hb]; exact f5.2
    · rw [hb]; exact f10.2
    · rw [hb]; exact f13.2
set_option maxHeartbeats 2000000 in
set_option maxRecDepth 100000 in
theorem list_yes (n : Nat) (hn1 : 1 ≤ n) (hn4 : n ≤ 4) (f : Nat) (m' : LM) (c' : List Int) (o : LO) (w : World) (h : rest.f f n 0 0 (List.replicate n (List.replicate n 0)) (List.replicate n 0) [] = some (m', c', o)) :
    Calls Try.prog 8 #[.int .i64 (n : Int)] w (LPost w o) := by
  have G : Aside0 (wval (n : Int) = true) := ⟨by unfold wval; simp; omega⟩
  have H' := Aside0.mk h
  clear h
  go_enter Try.func8, Try.ntmps8
  go_wp2_with (go_at_call 13; refine (within14 (n : Int) true _ G.out).mono ?_; rintro e w1 ⟨rfl, nd, rfl⟩)
  obtain ⟨W0, hW0⟩ : ∃ W0, W0 = (w.alloc (.cells #[.int .i64 (n : Int)] 3)).drewN nd := ⟨_, rfl⟩
  have fn : Aside0 (W0.drew.heap[w.heap.size]? = some (.cells #[.int .i64 (n : Int)] 3 (0, 0))) := ⟨by rw [hW0]; exact blk_drew (blk_drewN (blk_new w _) _)⟩
  have fB : Aside0 (Below w.heap.size w W0.drew) := ⟨by rw [hW0]; exact below_drewB (pw_below_drewN' (below_alloc (Below.refl _ _) _) _)⟩
  rw [← hW0]
  clear hW0
  refine start_ (n := 10) (S := fun w' => True) (ds := []) #[false, false, false, false, false, false, false, false, false, false] (by kernel_rfl) rfl rfl trivial (fun hHeld => ?_)
  generalize World.drew W0 = W1 at fn fB hHeld ⊢
  refine inv_at [0, 1, 2, 3, 4, 5, 6, 7, 8, 9] (fun a0_ b a w' => ∃ (x10 : Nat) (x11 : Nat) (x13 : Nat) (x3 : Nat) (x4 : Nat) (x5 : Nat) (m0_ : Value) (m1_ : Value) (m3_ : Value) (m4_ : Value) (m5_ : Value) (m6_ : Value), a = putSel a0_ b [(0, 10, m0_), (1, 11, m1_), (2, 12, .int .i64 (n : Int)), (3, 13, m3_), (4, 3, m4_), (5, 4, m5_), (6, 5, m6_)] ∧ (w'.heap[w.heap.size]? = some (.cells #[.int .i64 (n : Int)] 3 (0, 0))) ∧ (Below w.heap.size w w') ∧ (b 0 = true → (w'.heap[x10]? = some (.cells #[] 27 (0, 0)) ∧ w.heap.size ≤ x10)) ∧ (b 1 = true → (w'.heap[x11]? = some (.cells #[] 31 (0, 0)) ∧ w.heap.size ≤ x11)) ∧ (b 3 = true → (w'.heap[x13]? = some (.cells (madeCells #[.int .i64 0] n) 3 (0, 0)) ∧ w.heap.size ≤ x13)) ∧ (b 4 = true → b 7 = false → (w'.heap[x3]? = some (.cells #[.slice none 0 0] 24 (0, 0)) ∧ w.heap.size ≤ x3)) ∧ (b 7 = true → (w'.heap[x3]? = some (.cells #[.slice (some ⟨x10, 0, none⟩) 0 0] 24 (0, 0)) ∧ w.heap.size ≤ x3)) ∧ (b 5 = true → b 8 = false → (w'.heap[x4]? = some (.cells #[.slice none 0 0] 27 (0, 0)) ∧ w.heap.size ≤ x4)) ∧ (b 8 = true → (w'.heap[x4]? = some (.cells #[.slice (some ⟨x11, 0, none⟩) 0 0] 27 (0, 0)) ∧ w.heap.size ≤ x4)) ∧ (b 6 = true → b 9 = false → (w'.heap[x5]? = some (.cells #[.slice none 0 0] 31 (0, 0)) ∧ w.heap.size ≤ x5)) ∧ (b 9 = true → (w'.heap[x5]? = some (.cells #[.slice (some ⟨x13, 0, none⟩) n n] 31 (0, 0)) ∧ w.heap.size ≤ x5)) ∧ (b 0 = true → (m0_ : Value) = .slice (some ⟨x10, 0, none⟩) 0 0) ∧ (b 1 = true → (m1_ : Value) = .slice (some ⟨x11, 0, none⟩) 0 0) ∧ (b 3 = true → (m3_ : Value) = .slice (some ⟨x13, 0, none⟩) n n) ∧ (b 4 = true → (m4_ : Value) = .pointer (some ⟨x3, 0, none⟩)) ∧ (b 5 = true → (m5_ : Value) = .pointer (some ⟨x4, 0, none⟩)) ∧ (b 6 = true → (m6_ : Value) = .pointer (some ⟨x5, 0, none⟩))) (T := LAt3) (B := LAb3) LAtab3 LAbits3 (by kernel_rfl) (by kernel_rfl) ?_ ?_ ?_
  · exact ⟨0, 0, 0, 0, 0, 0, .bool false, .bool false, .bool false, .bool false, .bool false, .bool false, by simp only [putSel, Bool.false_eq_true, if_false], fn.out, fB.out, fun h_ => absurd h_ (by decide), fun h_ => absurd h_ (by decide), fun h_ => absurd h_ (by decide), fun h_ => absurd h_ (by decide), fun h_ => absurd h_ (by decide), fun h_ => absurd h_ (by decide), fun h_ => absurd h_ (by decide), fun h_ => absurd h_ (by decide), fun h_ => absurd h_ (by decide), fun h_ => absurd h_ (by decide), fun h_ => absurd h_ (by decide), fun h_ => absurd h_ (by decide), fun h_ => absurd h_ (by decide), fun h_ => absurd h_ (by decide), fun h_ => absurd h_ (by decide)⟩
  · skip
    clear fB fn
    refine steps_cons ?_ ?_
    · rintro b a w' ⟨x10, x11, x13, x3, x4, x5, m0_, m1_, m3_, m4_, m5_, m6_, ha, Q_fn, Q_fB, Q_f10, Q_f11, Q_f13, Q_f3a, Q_f3b, Q_f4a, Q_f4b, Q_f5a, Q_f5b, Q_X0_, Q_X1_, Q_X3_, Q_X4_, Q_X5_, Q_X6_⟩ hb_ hon hoff
      refine ⟨_, rfl, fun K hK => ?_⟩
      replace ha := Aside0.mk ha
      have fn := Aside0.mk Q_fn
      have fB := Aside0.mk Q_fB
      refine value_ (w1 := w'.alloc (.cells #[] 27 (0, 0))) (v := .slice (some ⟨w'.heap.size, 0, none⟩) 0 0) (by rfl) rfl ?_ ?_
      · go_simp
      refine hK.out _ _ ⟨w'.heap.size, x11, x13, x3, x4, x5, (.slice (some ⟨w'.heap.size, 0, none⟩) 0 0), m1_, m3_, m4_, m5_, m6_, (by rw [ha.out]; exact putSel_upk 0 hb_ rfl rfl rfl), blk_alloc fn.out _, below_alloc fB.out _, fun _ => ⟨blk_new w' _, below_size fB.out⟩, fun h0_ => ⟨blk_alloc (Q_f11 h0_).1 _, (Q_f11 h0_).2⟩, fun h0_ => ⟨blk_alloc (Q_f13 h0_).1 _, (Q_f13 h0_).2⟩, fun h0_ h1_ => ⟨blk_alloc (Q_f3a h0_ h1_).1 _, (Q_f3a h0_ h1_).2⟩, fun h0_ => absurd ((hoff 7 (by kernel_rfl)).symm.trans h0_) (by decide), fun h0_ h1_ => ⟨blk_alloc (Q_f4a h0_ h1_).1 _, (Q_f4a h0_ h1_).2⟩, fun h0_ => absurd ((hoff 8 (by kernel_rfl)).symm.trans h0_) (by decide), fun h0_ h1_ => ⟨blk_alloc (Q_f5a h0_ h1_).1 _, (Q_f5a h0_ h1_).2⟩, fun h0_ => absurd ((hoff 9 (by kernel_rfl)).symm.trans h0_) (by decide), fun _ => rfl, Q_X1_, Q_X3_, Q_X4_, Q_X5_, Q_X6_⟩
    refine steps_cons ?_ ?_
    · rintro b a w' ⟨x10, x11, x13, x3, x4, x5, m0_, m1_, m3_, m4_, m5_, m6_, ha, Q_fn, Q_fB, Q_f10, Q_f11, Q_f13, Q_f3a, Q_f3b, Q_f4a, Q_f4b, Q_f5a, Q_f5b, Q_X0_, Q_X1_, Q_X3_, Q_X4_, Q_X5_, Q_X6_⟩ hb_ hon hoff
      refine ⟨_, rfl, fun K hK => ?_⟩
      replace ha := Aside0.mk ha
      have fn := Aside0.mk Q_fn
      have fB := Aside0.mk Q_fB
      refine value_ (w1 := w'.alloc (.cells #[] 31 (0, 0))) (v := .slice (some ⟨w'.heap.size, 0, none⟩) 0 0) (by rfl) rfl ?_ ?_
      · go_simp
      refine hK.out _ _ ⟨x10, w'.heap.size, x13, x3, x4, x5, m0_, (.slice (some ⟨w'.heap.size, 0, none⟩) 0 0), m3_, m4_, m5_, m6_, (by rw [ha.out]; exact putSel_upk 1 hb_ rfl rfl rfl), blk_alloc fn.out _, below_alloc fB.out _, fun h0_ => ⟨blk_alloc (Q_f10 h0_).1 _, (Q_f10 h0_).2⟩, fun _ => ⟨blk_new w' _, below_size fB.out⟩, fun h0_ => ⟨blk_alloc (Q_f13 h0_).1 _, (Q_f13 h0_).2⟩, fun h0_ h1_ => ⟨blk_alloc (Q_f3a h0_ h1_).1 _, (Q_f3a h0_ h1_).2⟩, fun h0_ => ⟨blk_alloc (Q_f3b h0_).1 _, (Q_f3b h0_).2⟩, fun h0_ h1_ => ⟨blk_alloc (Q_f4a h0_ h1_).1 _, (Q_f4a h0_ h1_).2⟩, fun h0_ => absurd ((hoff 8 (by kernel_rfl)).symm.trans h0_) (by decide), fun h0_ h1_ => ⟨blk_alloc (Q_f5a h0_ h1_).1 _, (Q_f5a h0_ h1_).2⟩, fun h0_ => absurd ((hoff 9 (by kernel_rfl)).symm.trans h0_) (by decide), Q_X0_, fun _ => rfl, Q_X3_, Q_X4_, Q_X5_, Q_X6_⟩
    refine steps_cons ?_ ?_
    · rintro b a w' ⟨x10, x11, x13, x3, x4, x5, m0_, m1_, m3_, m4_, m5_, m6_, ha, Q_fn, Q_fB, Q_f10, Q_f11, Q_f13, Q_f3a, Q_f3b, Q_f4a, Q_f4b, Q_f5a, Q_f5b, Q_X0_, Q_X1_, Q_X3_, Q_X4_, Q_X5_, Q_X6_⟩ hb_ hon hoff
      refine ⟨_, rfl, fun K hK => ?_⟩
      have e1 : a.tmps[1]? = some (.pointer (some ⟨w.heap.size, 0, none⟩)) := by rw [ha]; exact (putSel_off rfl).trans rfl
      replace ha := Aside0.mk ha
      have fn := Aside0.mk Q_fn
      have fB := Aside0.mk Q_fB
      have c_ := cell_of_one fn.out
      refine value_ (w1 := w') (v := .int .i64 (n : Int)) (by rfl) rfl ?_ ?_
      · go_simp
        (try simp only [i64_w])
        try rfl
      refine hK.out _ _ ⟨x10, x11, x13, x3, x4, x5, m0_, m1_, m3_, m4_, m5_, m6_, (by rw [ha.out]; exact putSel_upk 2 hb_ rfl rfl rfl), Q_fn, Q_fB, Q_f10, Q_f11, fun h0_ => absurd ((hoff 3 (by kernel_rfl)).symm.trans h0_) (by decide), Q_f3a, Q_f3b, Q_f4a, Q_f4b, Q_f5a, fun h0_ => absurd ((hoff 9 (by kernel_rfl)).symm.trans h0_) (by decide), Q_X0_, Q_X1_, fun h0_ => absurd ((hoff 3 (by kernel_rfl)).symm.trans h0_) (by decide), Q_X4_, Q_X5_, Q_X6_⟩
    refine steps_cons ?_ ?_
    · rintro b a w' ⟨x10, x11, x13, x3, x4, x5, m0_, m1_, m3_, m4_, m5_, m6_, ha, Q_fn, Q_fB, Q_f10, Q_f11, Q_f13, Q_f3a, Q_f3b, Q_f4a, Q_f4b, Q_f5a, Q_f5b, Q_X0_, Q_X1_, Q_X3_, Q_X4_, Q_X5_, Q_X6_⟩ hb_ hon hoff
      refine ⟨_, rfl, fun K hK => ?_⟩
      have e12 : a.tmps[12]? = some (.int .i64 (n : Int)) := by rw [ha]; exact putSel_on (e := (2, 12, .int .i64 (n : Int))) 2 rfl rfl (hon 2 (by kernel_rfl)) rfl
      replace ha := Aside0.mk ha
      have fn := Aside0.mk Q_fn
      have fB := Aside0.mk Q_fB
      have hmk := print_make (P := Try.prog) 31 3 .i64 8 Try.underlying31 info3 (by decide) n (by omega)
      refine value_ (w1 := w'.alloc (.cells (madeCells #[.int .i64 0] n) 3 (0, 0))) (v := .slice (some ⟨w'.heap.size, 0, none⟩) n n) (by rfl) rfl ?_ ?_
      · go_simp
      refine hK.out _ _ ⟨x10, x11, w'.heap.size, x3, x4, x5, m0_, m1_, (.slice (some ⟨w'.heap.size, 0, none⟩) n n), m4_, m5_, m6_, (by rw [ha.out]; exact putSel_upk 3 hb_ rfl rfl rfl), blk_alloc fn.out _, below_alloc fB.out _, fun h0_ => ⟨blk_alloc (Q_f10 h0_).1 _, (Q_f10 h0_).2⟩, fun h0_ => ⟨blk_alloc (Q_f11 h0_).1 _, (Q_f11 h0_).2⟩, fun _ => ⟨blk_new w' _, below_size fB.out⟩, fun h0_ h1_ => ⟨blk_alloc (Q_f3a h0_ h1_).1 _, (Q_f3a h0_ h1_).2⟩, fun h0_ => ⟨blk_alloc (Q_f3b h0_).1 _, (Q_f3b h0_).2⟩, fun h0_ h1_ => ⟨blk_alloc (Q_f4a h0_ h1_).1 _, (Q_f4a h0_ h1_).2⟩, fun h0_ => ⟨blk_alloc (Q_f4b h0_).1 _, (Q_f4b h0_).2⟩, fun h0_ h1_ => ⟨blk_alloc (Q_f5a h0_ h1_).1 _, (Q_f5a h0_ h1_).2⟩, fun h0_ => absurd ((hoff 9 (by kernel_rfl)).symm.trans h0_) (by decide), Q_X0_, Q_X1_, fun _ => rfl, Q_X4_, Q_X5_, Q_X6_⟩
    refine steps_cons ?_ ?_
    · rintro b a w' ⟨x10, x11, x13, x3, x4, x5, m0_, m1_, m3_, m4_, m5_, m6_, ha, Q_fn, Q_fB, Q_f10, Q_f11, Q_f13, Q_f3a, Q_f3b, Q_f4a, Q_f4b, Q_f5a, Q_f5b, Q_X0_, Q_X1_, Q_X3_, Q_X4_, Q_X5_, Q_X6_⟩ hb_ hon hoff
      refine ⟨_, rfl, fun K hK => ?_⟩
      replace ha := Aside0.mk ha
      have fn := Aside0.mk Q_fn
      have fB := Aside0.mk Q_fB
      refine value_ (w1 := w'.alloc (.cells #[.slice none 0 0] 24 (0, 0))) (v := .pointer (some ⟨w'.heap.size, 0, none⟩)) (by rfl) rfl ?_ ?_
      · go_simp
      refine hK.out _ _ ⟨x10, x11, x13, w'.heap.size, x4, x5, m0_, m1_, m3_, (.pointer (some ⟨w'.heap.size, 0, none⟩)), m5_, m6_, (by rw [ha.out]; exact putSel_upk 4 hb_ rfl rfl rfl), blk_alloc fn.out _, below_alloc fB.out _, fun h0_ => ⟨blk_alloc (Q_f10 h0_).1 _, (Q_f10 h0_).2⟩, fun h0_ => ⟨blk_alloc (Q_f11 h0_).1 _, (Q_f11 h0_).2⟩, fun h0_ => ⟨blk_alloc (Q_f13 h0_).1 _, (Q_f13 h0_).2⟩, fun _ _ => ⟨blk_new w' _, below_size fB.out⟩, fun h0_ => absurd ((hoff 7 (by kernel_rfl)).symm.trans h0_) (by decide), fun h0_ h1_ => ⟨blk_alloc (Q_f4a h0_ h1_).1 _, (Q_f4a h0_ h1_).2⟩, fun h0_ => absurd ((hoff 8 (by kernel_rfl)).symm.trans h0_) (by decide), fun h0_ h1_ => ⟨blk_alloc (Q_f5a h0_ h1_).1 _, (Q_f5a h0_ h1_).2⟩, fun h0_ => absurd ((hoff 9 (by kernel_rfl)).symm.trans h0_) (by decide), Q_X0_, Q_X1_, Q_X3_, fun _ => rfl, Q_X5_, Q_X6_⟩
    refine steps_cons ?_ ?_
    · rintro b a w' ⟨x10, x11, x13, x3, x4, x5, m0_, m1_, m3_, m4_, m5_, m6_, ha, Q_fn, Q_fB, Q_f10, Q_f11, Q_f13, Q_f3a, Q_f3b, Q_f4a, Q_f4b, Q_f5a, Q_f5b, Q_X0_, Q_X1_, Q_X3_, Q_X4_, Q_X5_, Q_X6_⟩ hb_ hon hoff
      refine ⟨_, rfl, fun K hK => ?_⟩
      replace ha := Aside0.mk ha
      have fn := Aside0.mk Q_fn
      have fB := Aside0.mk Q_fB
      refine value_ (w1 := w'.alloc (.cells #[.slice none 0 0] 27 (0, 0))) (v := .pointer (some ⟨w'.heap.size, 0, none⟩)) (by rfl) rfl ?_ ?_
      · go_simp
      refine hK.out _ _ ⟨x10, x11, x13, x3, w'.heap.size, x5, m0_, m1_, m3_, m4_, (.pointer (some ⟨w'.heap.size, 0, none⟩)), m6_, (by rw [ha.out]; exact putSel_upk 5 hb_ rfl rfl rfl), blk_alloc fn.out _, below_alloc fB.out _, fun h0_ => ⟨blk_alloc (Q_f10 h0_).1 _, (Q_f10 h0_).2⟩, fun h0_ => ⟨blk_alloc (Q_f11 h0_).1 _, (Q_f11 h0_).2⟩, fun h0_ => ⟨blk_alloc (Q_f13 h0_).1 _, (Q_f13 h0_).2⟩, fun h0_ h1_ => ⟨blk_alloc (Q_f3a h0_ h1_).1 _, (Q_f3a h0_ h1_).2⟩, fun h0_ => absurd ((hoff 7 (by kernel_rfl)).symm.trans h0_) (by decide), fun _ _ => ⟨blk_new w' _, below_size fB.out⟩, fun h0_ => absurd ((hoff 8 (by kernel_rfl)).symm.trans h0_) (by decide), fun h0_ h1_ => ⟨blk_alloc (Q_f5a h0_ h1_).1 _, (Q_f5a h0_ h1_).2⟩, fun h0_ => absurd ((hoff 9 (by kernel_rfl)).symm.trans h0_) (by decide), Q_X0_, Q_X1_, Q_X3_, Q_X4_, fun _ => rfl, Q_X6_⟩
    refine steps_cons ?_ ?_
    · rintro b a w' ⟨x10, x11, x13, x3, x4, x5, m0_, m1_, m3_, m4_, m5_, m6_, ha, Q_fn, Q_fB, Q_f10, Q_f11, Q_f13, Q_f3a, Q_f3b, Q_f4a, Q_f4b, Q_f5a, Q_f5b, Q_X0_, Q_X1_, Q_X3_, Q_X4_, Q_X5_, Q_X6_⟩ hb_ hon hoff
      refine ⟨_, rfl, fun K hK => ?_⟩
      replace ha := Aside0.mk ha
      have fn := Aside0.mk Q_fn
      have fB := Aside0.mk Q_fB
      refine value_ (w1 := w'.alloc (.cells #[.slice none 0 0] 31 (0, 0))) (v := .pointer (some ⟨w'.heap.size, 0, none⟩)) (by rfl) rfl ?_ ?_
      · go_simp
      refine hK.out _ _ ⟨x10, x11, x13, x3, x4, w'.heap.size, m0_, m1_, m3_, m4_, m5_, (.pointer (some ⟨w'.heap.size, 0, none⟩)), (by rw [ha.out]; exact putSel_upk 6 hb_ rfl rfl rfl), blk_alloc fn.out _, below_alloc fB.out _, fun h0_ => ⟨blk_alloc (Q_f10 h0_).1 _, (Q_f10 h0_).2⟩, fun h0_ => ⟨blk_alloc (Q_f11 h0_).1 _, (Q_f11 h0_).2⟩, fun h0_ => ⟨blk_alloc (Q_f13 h0_).1 _, (Q_f13 h0_).2⟩, fun h0_ h1_ => ⟨blk_alloc (Q_f3a h0_ h1_).1 _, (Q_f3a h0_ h1_).2⟩, fun h0_ => absurd ((hoff 7 (by kernel_rfl)).symm.trans h0_) (by decide), fun h0_ h1_ => ⟨blk_alloc (Q_f4a h0_ h1_).1 _, (Q_f4a h0_ h1_).2⟩, fun h0_ => absurd ((hoff 8 (by kernel_rfl)).symm.trans h0_) (by decide), fun _ _ => ⟨blk_new w' _, below_size fB.out⟩, fun h0_ => absurd ((hoff 9 (by kernel_rfl)).symm.trans h0_) (by decide), Q_X0_, Q_X1_, Q_X3_, Q_X4_, Q_X5_, fun _ => rfl⟩
    refine steps_cons ?_ ?_
    · rintro b a w' ⟨x10, x11, x13, x3, x4, x5, m0_, m1_, m3_, m4_, m5_, m6_, ha, Q_fn, Q_fB, Q_f10, Q_f11, Q_f13, Q_f3a, Q_f3b, Q_f4a, Q_f4b, Q_f5a, Q_f5b, Q_X0_, Q_X1_, Q_X3_, Q_X4_, Q_X5_, Q_X6_⟩ hb_ hon hoff
      refine ⟨_, rfl, fun K hK => ?_⟩
      have e3 : a.tmps[3]? = some (m4_) := by rw [ha]; exact putSel_on (e := (4, 3, m4_)) 4 rfl rfl (hon 4 (by kernel_rfl)) rfl
      rw [Q_X4_ (hon 4 (by kernel_rfl))] at e3
      have e10 : a.tmps[10]? = some (m0_) := by rw [ha]; exact putSel_on (e := (0, 10, m0_)) 0 rfl rfl (hon 0 (by kernel_rfl)) rfl
      rw [Q_X0_ (hon 0 (by kernel_rfl))] at e10
      replace ha := Aside0.mk ha
      have fn := Aside0.mk Q_fn
      have fB := Aside0.mk Q_fB
      have f10 := Aside0.mk (Q_f10 (hon 0 (by kernel_rfl)))
      have f3a := Aside0.mk (Q_f3a (hon 4 (by kernel_rfl)) hb_)
      have f4a := Aside0.mk (Q_f4a (hon 5 (by kernel_rfl)) (hoff 8 (by kernel_rfl)))
      have f5a := Aside0.mk (Q_f5a (hon 6 (by kernel_rfl)) (hoff 9 (by kernel_rfl)))
      have c_ := cell_of_one f3a.out.1
      have z_ := free_of_one f3a.out.1
      refine skip_ (w1 := w'.setCell ⟨x3, 0, none⟩ (.slice (some ⟨x10, 0, none⟩) 0 0)) (by rfl) rfl ?_ ?_
      · go_simp
      refine hK.out _ _ ⟨x10, x11, x13, x3, x4, x5, m0_, m1_, m3_, m4_, m5_, m6_, (by rw [ha.out]; exact putSel_none (v := undef) rfl), blk_far fn.out (ne_obj fn.out f3a.out.1 (by simp)) _, below_setB fB.out f3a.out.2 0 _, fun _ => ⟨blk_far f10.out.1 (ne_obj f10.out.1 f3a.out.1 (by simp)) _, f10.out.2⟩, fun h0_ => ⟨blk_far (Q_f11 h0_).1 (ne_obj (Q_f11 h0_).1 f3a.out.1 (by simp)) _, (Q_f11 h0_).2⟩, fun h0_ => ⟨blk_far (Q_f13 h0_).1 (ne_obj (Q_f13 h0_).1 f3a.out.1 (by simp)) _, (Q_f13 h0_).2⟩, fun _ h1_ => absurd ((up_self b 7).symm.trans h1_) (by decide), fun _ => ⟨blk_one f3a.out.1 _, f3a.out.2⟩, fun _ _ => ⟨blk_far f4a.out.1 (ne_obj f4a.out.1 f3a.out.1 (by simp)) _, f4a.out.2⟩, fun h0_ => absurd ((hoff 8 (by kernel_rfl)).symm.trans h0_) (by decide), fun _ _ => ⟨blk_far f5a.out.1 (ne_obj f5a.out.1 f3a.out.1 (by simp)) _, f5a.out.2⟩, fun h0_ => absurd ((hoff 9 (by kernel_rfl)).symm.trans h0_) (by decide), Q_X0_, Q_X1_, Q_X3_, Q_X4_, Q_X5_, Q_X6_⟩
    refine steps_cons ?_ ?_
    · rintro b a w' ⟨x10, x11, x13, x3, x4, x5, m0_, m1_, m3_, m4_, m5_, m6_, ha, Q_fn, Q_fB, Q_f10, Q_f11, Q_f13, Q_f3a, Q_f3b, Q_f4a, Q_f4b, Q_f5a, Q_f5b, Q_X0_, Q_X1_, Q_X3_, Q_X4_, Q_X5_, Q_X6_⟩ hb_ hon hoff
      refine ⟨_, rfl, fun K hK => ?_⟩
      have e4 : a.tmps[4]? = some (m5_) := by rw [ha]; exact putSel_on (e := (5, 4, m5_)) 5 rfl rfl (hon 5 (by kernel_rfl)) rfl
      rw [Q_X5_ (hon 5 (by kernel_rfl))] at e4
      have e11 : a.tmps[11]? = some (m1_) := by rw [ha]; exact putSel_on (e := (1, 11, m1_)) 1 rfl rfl (hon 1 (by kernel_rfl)) rfl
      rw [Q_X1_ (hon 1 (by kernel_rfl))] at e11
      replace ha := Aside0.mk ha
      have fn := Aside0.mk Q_fn
      have fB := Aside0.mk Q_fB
      have f10 := Aside0.mk (Q_f10 (hon 0 (by kernel_rfl)))
      have f11 := Aside0.mk (Q_f11 (hon 1 (by kernel_rfl)))
      have f3b := Aside0.mk (Q_f3b (hon 7 (by kernel_rfl)))
      have f4a := Aside0.mk (Q_f4a (hon 5 (by kernel_rfl)) hb_)
      have f5a := Aside0.mk (Q_f5a (hon 6 (by kernel_rfl)) (hoff 9 (by kernel_rfl)))
      have c_ := cell_of_one f4a.out.1
      have z_ := free_of_one f4a.out.1
      refine skip_ (w1 := w'.setCell ⟨x4, 0, none⟩ (.slice (some ⟨x11, 0, none⟩) 0 0)) (by rfl) rfl ?_ ?_
      · go_simp
      refine hK.out _ _ ⟨x10, x11, x13, x3, x4, x5, m0_, m1_, m3_, m4_, m5_, m6_, (by rw [ha.out]; exact putSel_none (v := undef) rfl), blk_far fn.out (ne_obj fn.out f4a.out.1 (by simp)) _, below_setB fB.out f4a.out.2 0 _, fun _ => ⟨blk_far f10.out.1 (ne_obj f10.out.1 f4a.out.1 (by simp)) _, f10.out.2⟩, fun _ => ⟨blk_far f11.out.1 (ne_obj f11.out.1 f4a.out.1 (by simp)) _, f11.out.2⟩, fun h0_ => ⟨blk_far (Q_f13 h0_).1 (ne_obj (Q_f13 h0_).1 f4a.out.1 (by simp)) _, (Q_f13 h0_).2⟩, fun _ h1_ => absurd ((hon 7 (by kernel_rfl)).symm.trans h1_) (by decide), fun _ => ⟨blk_far f3b.out.1 (ne_obj f3b.out.1 f4a.out.1 (by simp)) _, f3b.out.2⟩, fun _ h1_ => absurd ((up_self b 8).symm.trans h1_) (by decide), fun _ => ⟨blk_one f4a.out.1 _, f4a.out.2⟩, fun _ _ => ⟨blk_far f5a.out.1 (ne_obj f5a.out.1 f4a.out.1 (by simp)) _, f5a.out.2⟩, fun h0_ => absurd ((hoff 9 (by kernel_rfl)).symm.trans h0_) (by decide), Q_X0_, Q_X1_, Q_X3_, Q_X4_, Q_X5_, Q_X6_⟩
    refine steps_cons ?_ ?_
    · rintro b a w' ⟨x10, x11, x13, x3, x4, x5, m0_, m1_, m3_, m4_, m5_, m6_, ha, Q_fn, Q_fB, Q_f10, Q_f11, Q_f13, Q_f3a, Q_f3b, Q_f4a, Q_f4b, Q_f5a, Q_f5b, Q_X0_, Q_X1_, Q_X3_, Q_X4_, Q_X5_, Q_X6_⟩ hb_ hon hoff
      refine ⟨_, rfl, fun K hK => ?_⟩
      have e5 : a.tmps[5]? = some (m6_) := by rw [ha]; exact putSel_on (e := (6, 5, m6_)) 6 rfl rfl (hon 6 (by kernel_rfl)) rfl
      rw [Q_X6_ (hon 6 (by kernel_rfl))] at e5
      have e13 : a.tmps[13]? = some (m3_) := by rw [ha]; exact putSel_on (e := (3, 13, m3_)) 3 rfl rfl (hon 3 (by kernel_rfl)) rfl
      rw [Q_X3_ (hon 3 (by kernel_rfl))] at e13
      replace ha := Aside0.mk ha
      have fn := Aside0.mk Q_fn
      have fB := Aside0.mk Q_fB
      have f10 := Aside0.mk (Q_f10 (hon 0 (by kernel_rfl)))
      have f11 := Aside0.mk (Q_f11 (hon 1 (by kernel_rfl)))
      have f13 := Aside0.mk (Q_f13 (hon 3 (by kernel_rfl)))
      have f3b := Aside0.mk (Q_f3b (hon 7 (by kernel_rfl)))
      have f4b := Aside0.mk (Q_f4b (hon 8 (by kernel_rfl)))
      have f5a := Aside0.mk (Q_f5a (hon 6 (by kernel_rfl)) hb_)
      have c_ := cell_of_one f5a.out.1
      have z_ := free_of_one f5a.out.1
      refine skip_ (w1 := w'.setCell ⟨x5, 0, none⟩ (.slice (some ⟨x13, 0, none⟩) n n)) (by rfl) rfl ?_ ?_
      · go_simp
      refine hK.out _ _ ⟨x10, x11, x13, x3, x4, x5, m0_, m1_, m3_, m4_, m5_, m6_, (by rw [ha.out]; exact putSel_none (v := undef) rfl), blk_far fn.out (ne_obj fn.out f5a.out.1 (by simp)) _, below_setB fB.out f5a.out.2 0 _, fun _ => ⟨blk_far f10.out.1 (ne_obj f10.out.1 f5a.out.1 (by simp)) _, f10.out.2⟩, fun _ => ⟨blk_far f11.out.1 (ne_obj f11.out.1 f5a.out.1 (by simp)) _, f11.out.2⟩, fun _ => ⟨blk_far f13.out.1 (ne_obj f13.out.1 f5a.out.1 (by simp)) _, f13.out.2⟩, fun _ h1_ => absurd ((hon 7 (by kernel_rfl)).symm.trans h1_) (by decide), fun _ => ⟨blk_far f3b.out.1 (ne_obj f3b.out.1 f5a.out.1 (by simp)) _, f3b.out.2⟩, fun _ h1_ => absurd ((hon 8 (by kernel_rfl)).symm.trans h1_) (by decide), fun _ => ⟨blk_far f4b.out.1 (ne_obj f4b.out.1 f5a.out.1 (by simp)) _, f4b.out.2⟩, fun _ h1_ => absurd ((up_self b 9).symm.trans h1_) (by decide), fun _ => ⟨blk_one f5a.out.1 _, f5a.out.2⟩, Q_X0_, Q_X1_, Q_X3_, Q_X4_, Q_X5_, Q_X6_⟩
    exact steps_nil
  · rintro b a w' hall ⟨x10, x11, x13, x3, x4, x5, m0_, m1_, m3_, m4_, m5_, m6_, ha, Q_fn, Q_fB, Q_f10, Q_f11, Q_f13, Q_f3a, Q_f3b, Q_f4a, Q_f4b, Q_f5a, Q_f5b, Q_X0_, Q_X1_, Q_X3_, Q_X4_, Q_X5_, Q_X6_⟩
    clear fB fn
    have hb0_ := hall 0 (by kernel_rfl)
    have hb1_ := hall 1 (by kernel_rfl)
    have hb2_ := hall 2 (by kernel_rfl)
    have hb3_ := hall 3 (by kernel_rfl)
    have hb4_ := hall 4 (by kernel_rfl)
    have hb5_ := hall 5 (by kernel_rfl)
    have hb6_ := hall 6 (by kernel_rfl)
    have hb7_ := hall 7 (by kernel_rfl)
    have hb8_ := hall 8 (by kernel_rfl)
    have hb9_ := hall 9 (by kernel_rfl)
    subst ha
    obtain rfl := Q_X0_ hb0_
    obtain rfl := Q_X1_ hb1_
    obtain rfl := Q_X3_ hb3_
    obtain rfl := Q_X4_ hb4_
    obtain rfl := Q_X5_ hb5_
    obtain rfl := Q_X6_ hb6_
    simp only [putSel, hb0_, hb1_, hb2_, hb3_, hb4_, hb5_, hb6_, hb7_, hb8_, hb9_, if_true, Act.put, List.setIfInBounds_toArray, List.set_cons_zero, List.set_cons_succ]
    have fn := Aside0.mk Q_fn
    clear Q_fn
    have fB := Aside0.mk Q_fB
    clear Q_fB
    have f10 := Aside0.mk (Q_f10 hb0_)
    clear Q_f10
    have f11 := Aside0.mk (Q_f11 hb1_)
    clear Q_f11
    have f13 := Aside0.mk (Q_f13 hb3_)
    clear Q_f13
    clear Q_f3a
    have f3b := Aside0.mk (Q_f3b hb7_)
    clear Q_f3b
    clear Q_f4a
    have f4b := Aside0.mk (Q_f4b hb8_)
    clear Q_f4b
    clear Q_f5a
    have f5b := Aside0.mk (Q_f5b hb9_)
    clear Q_f5b
    clear hall hb0_ hb1_ hb2_ hb3_ hb4_ hb5_ hb6_ hb7_ hb8_ hb9_
    have HLB := Aside0.mk (LB_start fn.out fB.out f10.out f11.out f13.out f3b.out f4b.out f5b.out (bn_ne hn1 fn.out f13.out.1))
    clear f10 f11 f13 f3b f4b f5b hHeld
    have cN := cell_of_one fn.out
    go_wp2
    clear cN fn
    go_loopw [15] (fun i wr => ∃ (q : Nat) (vm : Value) (gr : List Nat), i = .int .i64 (q : Int) ∧ q ≤ n ∧ Aside0 (gr.length = q) ∧ Aside0 (LB wr w.heap.size w.heap.size x3 x4 x5 x10 x13 n vm gr) ∧ Aside0 (Below w.heap.size w wr)) (fun i _ => n - (intOf i).toNat)
    case atStart => exact ⟨0, _, [], rfl, Nat.zero_le _, ⟨rfl⟩, HLB, fB⟩
    case round =>
      obtain ⟨q, vm, gr, rfl, hqn, HQ, HLB1, HB1⟩ := hrel
      have cN1 := cell_of_one HLB1.out.hn
      by_cases hq : q < n
      · have HLB2 := Aside0.mk (HLB1.out.below (below_drewB (Below.refl _ _)))
        have HB2 := Aside0.mk (below_drewB HB1.out)
        go_wp2_with fail
        refine start_ (n := 6) (S := fun w' => w'.cell? ⟨x4, 0, none⟩ = some vm ∧ w'.cell? ⟨w.heap.size, 0, none⟩ = some (.int .i64 (n : Int))) (ds := [5]) #[false, false, false, false, false, false] (by kernel_rfl) rfl rfl ⟨cell_of_one HLB2.out.h4, cell_of_one HLB2.out.hn⟩ (fun hHeld => ?_)
        generalize World.drew wr = w2 at HLB2 HB2 hHeld ⊢
        refine take_ (i := 0) (N := (some 17)) (v := ?_) (a' := ?_) #[true, false, false, false, false, false] rfl rfl (by kernel_rfl) (fun _ _ _ h => h) (Or.inl ⟨by rfl, ?_⟩) hHeld ?_ ?_
        rotate_left
        · rintro w' ⟨s0, s1⟩
          go_simp
          with_reducible rfl
        rotate_left
        · simp only [Act.put, List.setIfInBounds_toArray, List.set_cons_zero, List.set_cons_succ, i64_w, i32_w]
          rfl
        refine take_ (i := 1) (N := (some 18)) (v := ?_) (a' := ?_) #[true, true, false, false, false, false] rfl rfl (by kernel_rfl) (fun _ _ _ h => h) (Or.inl ⟨by rfl, ?_⟩) hHeld ?_ ?_
        rotate_left
        · rintro w' ⟨s0, s1⟩
          go_simp
          with_reducible rfl
        rotate_left
        · simp only [Act.put, List.setIfInBounds_toArray, List.set_cons_zero, List.set_cons_succ, i64_w, i32_w]
          rfl
        have hmk := print_make (P := Try.prog) 31 3 .i64 8 Try.underlying31 info3 (by decide) n (by omega)
        refine one_ (i := 2) (N := (some 19)) #[true, true, true, false, false, false] rfl rfl (by kernel_rfl) (by decide) (fun K hK => ?_)
        refine value_ (w1 := ?_) (v := ?_) (by rfl) rfl ?_ ?_
        rotate_left 2
        · go_simp
          constructor
          · rfl
          · rfl
        refine hK.out _ _ ⟨cell_of_one (blk_alloc HLB2.out.h4 _), cell_of_one (blk_alloc HLB2.out.hn _)⟩ (fun hHeld => ?_)
        clear hK K
        refine norm_ (a' := ?_) ?_ ?_
        rotate_left
        · show Act.put _ (some 19) _ = _
          simp only [Act.put, List.setIfInBounds_toArray, List.set_cons_zero, List.set_cons_succ, i64_w, i32_w]
          rfl
        clear hmk
        refine one_ (i := 3) (N := (some 20)) #[true, true, true, true, false, false] rfl rfl (by kernel_rfl) (by decide) (fun K hK => ?_)
        refine value_ (w1 := ?_) (v := ?_) (by rfl) rfl ?_ ?_
        rotate_left 2
        · go_simp
          constructor
          · rfl
          · rfl
        refine hK.out _ _ ⟨cell_of_one (blk_alloc (blk_alloc HLB2.out.h4 _) _), cell_of_one (blk_alloc (blk_alloc HLB2.out.hn _) _)⟩ (fun hHeld => ?_)
        clear hK K
        refine norm_ (a' := ?_) ?_ ?_
        rotate_left
        · show Act.put _ (some 20) _ = _
          simp only [Act.put, List.setIfInBounds_toArray, List.set_cons_zero, List.set_cons_succ, i64_w, i32_w]
          rfl
        refine one_ (i := 4) (N := (some 21)) #[true, true, true, true, true, false] rfl rfl (by kernel_rfl) (by decide) (fun K hK => ?_)
        have hsz : (w2.alloc (.cells (madeCells #[.int .i64 0] n) 3 (0, 0))).heap.size = w2.heap.size + 1 := by simp
        refine step_append_cells (W := w2.alloc (.cells (madeCells #[.int .i64 0] n) 3 (0, 0))) (w0 := w) w.heap.size (by rfl) (.tmp 17) (.tmp 20) 27 31 (.slice none 0 0) 1 24 rfl Try.underlying27 info31 rfl (by decide) (by omega) vm gr.length (gr.map fun g => Value.slice (some ⟨g, 0, none⟩) n n) [.slice (some ⟨w2.heap.size, 0, none⟩) n n] rfl ?hx rfl (by intro u hu; rw [List.mem_singleton.1 hu]; rfl) ?aO ?aB ?aS ?aL ?_
        (case hx => rw [hsz]; rfl)
        (case aO => exact HLB2.out.own.alloc _)
        (case aB => exact below_allocB HB2.out HLB2.out.size _)
        (case aS => rw [hsz]; have := HLB2.out.size; omega)
        (case aL => have := HQ.out; omega)
        intro v21 w4 ho hb hg hat
        have HB4 := Aside0.mk hb
        obtain ⟨cO4, fO4, cN4, HLB40⟩ := HLB2.out.grow hg hat ho
        have HLB4 := Aside0.mk HLB40
        obtain ⟨A21, c21, rfl⟩ := own_slice ho
        clear ho hb hg hat HLB40 hsz
        refine hK.out _ _ ⟨cO4, cN4⟩ (fun hHeld => ?_)
        clear hK K
        refine norm_ (a' := ?_) ?_ ?_
        rotate_left
        · show Act.put _ (some 21) _ = _
          simp only [Act.put, List.setIfInBounds_toArray, List.set_cons_zero, List.set_cons_succ, i64_w, i32_w]
          rfl
        refine last_ (i := 5) (N := none) #[true, true, true, true, true, true] rfl rfl (by kernel_rfl) (by decide) (fun K hK => ?_)
        refine skip_ (w1 := ?_) (by rfl) rfl ?_ ?_
        rotate_left
        · go_simp
          rfl
        refine hK.out _ _ ?_
        clear hK K
        refine done_ (by kernel_rfl) ?_
        go_wp2
        go_roundw
        case rel => exact ⟨q + 1, _, gr ++ [w2.heap.size], by go_num, by omega, ⟨by rw [List.length_append, HQ.out]; rfl⟩, HLB4, ⟨below_setB HB4.out (HLB2.out.base x4 (by simp)) 0 _⟩⟩
        case measure => simp [intOf]; omega
      · have hqe : q = n := by omega
        have HQ' : Aside0 (gr.length = n) := ⟨by rw [HQ.out]; exact hqe⟩
        clear hqe
        obtain ⟨gm, cm, hvm, hnd, hbase, hst⟩ := HLB1.out.start HQ'.out hn1
        have HST := Aside0.mk hst
        have HND := Aside0.mk hnd
        have HBS := Aside0.mk hbase
        clear hst hnd hbase hvm
        go_wp2_with fail
        refine (rest_calls w.heap.size w.heap.size x4 x3 x5 wr.heap.size gm x13 cm gr n (n * n) hn1 hn4 rfl HND.out HQ'.out HBS.out f 0 0 0 _ _ _ _ _ _ _ _ rfl (Nat.zero_le _) (by decide) (by decide) HST.out H'.out).mono ?_
        rintro e w6 ⟨rfl, vo6, hst6, hb6⟩
        have HST6 := Aside0.mk hst6
        have HB7 := Aside0.mk (Below.trans (below_allocB HB1.out HLB1.out.size _) hb6)
        have cO6 := cell_of_one hst6.ho
        clear hst6 hb6
        obtain ⟨A6, c6, rfl⟩ := Kd.R_slice HST6.out.own
        go_wp2
        go_ret
        exact ⟨_, rfl, Kd.R_mono HST6.out.own (fun _ _ => trivial), HB7.out⟩

def impl_ListAlternating.f (k : Nat) (a0 : Int) : Option ((List (List (List Int)))) :=
  if wval a0 = true then (rest.f k a0.toNat 0 0 (List.replicate a0.toNat (List.replicate a0.toNat 0)) (List.replicate a0.toNat 0) []).bind fun r => some r.2.2 else some []

theorem rest.mono_l : ∀ k, (∀ n q s m c o, LeO (rest.f k n q s m c o) (rest.f (k + 1) n q s m c o)) ∧ (∀ n q s x m c o, LeO (rest.l0 k n q s x m c o) (rest.l0 (k + 1) n q s x m c o))
  | 0 => ⟨fun _ _ _ _ _ _ r h => by simp [rest.f] at h, fun _ _ _ _ _ _ _ r h => by simp [rest.l0] at h⟩
  | k + 1 => by
    obtain ⟨ih0, ih1⟩ := rest.mono_l k
    refine ⟨?_, ?_⟩
    · intro n q s m c o
      unfold rest.f
      repeat' first
      | (with_reducible exact ih1 _ _ _ _ _ _ _)
      | (with_reducible exact impl_IsAlternating.mono _ _)
      | (with_reducible exact impl_copyRows.mono _ _)
      | (with_reducible exact LeO.refl _)
      | (with_reducible exact LeO.none _)
      | (with_reducible refine LeO.ite ?_ ?_)
      | (with_reducible refine LeO.bind ?_ (fun _ => ?_))
    · intro n q s x m c o
      unfold rest.l0
      repeat' first
      | (with_reducible exact ih0 _ _ _ _ _ _)
      | (with_reducible exact ih1 _ _ _ _ _ _ _)
      | (with_reducible exact LeO.refl _)
      | (with_reducible exact LeO.none _)
      | (with_reducible refine LeO.ite ?_ ?_)
      | (with_reducible refine LeO.bind ?_ (fun _ => ?_))
theorem impl_ListAlternating.mono : ∀ a0 k, LeO (impl_ListAlternating.f k a0) (impl_ListAlternating.f (k + 1) a0) := by
  intro a0 k
  obtain ⟨ih0, ih1⟩ := rest.mono_l k
  unfold impl_ListAlternating.f
  repeat' first
      | (with_reducible exact ih0 _ _ _ _ _ _)
      | (with_reducible exact LeO.refl _)
      | (with_reducible refine LeO.ite ?_ ?_)
      | (with_reducible refine LeO.bind ?_ (fun _ => ?_))
theorem impl_ListAlternating.calls (k : Nat) (a0 : Int) (r : List (List (List Int))) (w : World) (h : impl_ListAlternating.f k a0 = some r) :
    Calls Try.prog 8 #[.int .i64 a0] w fun e w' => ∃ v0_ : Value, e = .returned (v0_) ∧ Kd.R (Kd.slice 31 (Kd.slice 3 (Kd.int .i64))) 27 w' w.heap.size (fun _ => True) v0_ r ∧ Below w.heap.size w w' := by

  unfold impl_ListAlternating.f at h
  cases hv : wval a0 with
  | false =>
    rw [hv, if_neg (by simp)] at h
    obtain rfl := Option.some.inj h
    exact list_no a0 w hv
  | true =>
    rw [hv, if_pos rfl] at h
    obtain ⟨⟨m', c', o⟩, h1, h2⟩ := Option.bind_eq_some_iff.mp h
    obtain rfl := Option.some.inj h2
    have hb : 1 ≤ a0 ∧ a0 ≤ 4 := by unfold wval at hv; simpa using hv
    have e : a0 = ((a0.toNat : Nat) : Int) := by omega
    rw [e]
    exact list_yes a0.toNat (by omega) (by omega) k m' c' o w h1

end Go.Proofs.Ythfoekhecaahfaa.PFnExactWeightedCount
