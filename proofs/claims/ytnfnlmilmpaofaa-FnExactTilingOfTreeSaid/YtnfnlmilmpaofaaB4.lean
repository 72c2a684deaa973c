/- Printed twins and contracts of functions, part 4; l24Steps, outward and SortDominoes are walked by hand. Nothing is assumed. -/
import Derived.Test.YtnfnlmilmpaofaaA1
import Derived.Test.YtnfnlmilmpaofaaB1
import Derived.Test.YtnfnlmilmpaofaaB2
import Derived.Test.YtnfnlmilmpaofaaB3
namespace Go.Proofs.Ytnfnlmilmpaofaa.PFnExactTilingOfTree
open Go.RowKit Go.Proofs.YtnfnlmilmpaofaaW.PrintWords Go.Proofs.YtnfnlmilmpaofaaW.PrintLast Go.Proofs.YtnfnlmilmpaofaaW.PrintMore
attribute [local go_sem] max2_int min2_int max_two min_two max_three min_three max_four min_four   -- for this text's walks alone
set_option linter.unusedVariables false
set_option linter.unusedSimpArgs false
def stRow (w h i : Nat) : Nat → List S39 → List S39
 | 0, t => t
 | m + 1, t => stRow w h i m (if (decide (w - m = 0) || decide (i = 0) || decide (w - m = w) || decide (i = h)) = true then t ++ [⟨2 * ((w - m : Nat) : Int) - 1, 2 * (i : Int) - 1⟩] else t)
def stRows (w h : Nat) : Nat → List S39 → List S39
 | 0, t => t
 | m + 1, t => stRows w h m (stRow w h (h - m) (w + 1) t)
/-- The place of a cell in 'done'. -/
def stIx (W : Int) (c : S39) : Int := (c.f1 + 1) * (W + 2) + c.f0 + 1
def stMark (W : Int) : List S39 → List Bool → Option (List Bool)
 | [], d => some d
 | c :: r, d => if -1 ≤ c.f0 ∧ c.f0 ≤ 9 ∧ -1 ≤ c.f1 ∧ c.f1 ≤ 9 ∧ stIx W c < d.length then stMark W r (d.set (stIx W c).toNat true) else none
def stDir : Nat → Int × Int
 | 0 => (1, 0)
 | 1 => (0, 1)
 | 2 => (-1, 0)
 | _ => (0, -1)
abbrev TSt := List Bool × List S39 × List S41
def hasL (l : S50) (x y : Int) : Bool := (!l.f2 && (x == wrap64 (wrap64 (2 * l.f0) + 1) && y == wrap64 (2 * l.f1))) || (l.f2 && (x == wrap64 (2 * l.f0) && y == wrap64 (wrap64 (2 * l.f1) + 1)))
def hasB (ls : List S50) (x y : Int) : Bool := ls.any fun l => hasL l x y
theorem has_l0 (ls : List S50) (x y : Int) (hl : ls.length < 4611686018427387904) : ∀ m i : Nat, i + m = ls.length → spec_l24Has.l0 (m + 1) ls (i : Int) x y = some ((ls.drop i).any fun l => hasL l x y)
 | 0, i, h => by
  rw [spec_l24Has.l0, if_neg (by omega), List.drop_eq_nil_of_le (by omega)]
  rfl
 | m + 1, i, h => by
  have hi : i < ls.length := by omega
  have hd : ls.drop i = rd_T50 ls (i : Int) :: ls.drop (i + 1) := by
   rw [List.drop_eq_getElem_cons hi]
   congr 1
   unfold rd_T50
   rw [Int.toNat_natCast, List.getD_eq_getElem?_getD, List.getElem?_eq_getElem hi]
   rfl
  have ih := has_l0 ls x y hl m (i + 1) (by omega)
  have hw : wrap64 ((i : Int) + 1) = ((i + 1 : Nat) : Int) := by unfold wrap64; omega
  rw [hd, List.any_cons, spec_l24Has.l0, if_pos (by omega), if_pos (by omega), hw, ih]
  unfold hasL
  generalize (ls.drop (i + 1)).any (fun l => hasL l x y) = z
  by_cases h2 : (rd_T50 ls (i : Int)).f2 = true
  ·simp only [h2, if_true, Bool.not_true, Bool.false_and, Bool.true_and, Bool.false_or]
   by_cases h3 : x = wrap64 (2 * (rd_T50 ls (i : Int)).f0) <;> by_cases h4 : y = wrap64 (wrap64 (2 * (rd_T50 ls (i : Int)).f1) + 1) <;> simp [h3, h4]
  ·simp only [Bool.not_eq_true] at h2
   simp only [h2, Bool.false_eq_true, if_false, Bool.not_false, Bool.true_and, Bool.false_and, Bool.or_false]
   by_cases h3 : x = wrap64 (wrap64 (2 * (rd_T50 ls (i : Int)).f0) + 1) <;> by_cases h4 : y = wrap64 (2 * (rd_T50 ls (i : Int)).f1) <;> simp [h3, h4]
def ovS (a b c d : Int) : S41 := let r := (spec_DominoOver.f 5 a b c d).getD (0, 0, false, false); ⟨r.1, r.2.1, r.2.2.1⟩
def stOut (W H tx ty mx my : Int) : Bool := decide (tx < 0) || decide (ty < 0) || decide (W ≤ tx) || decide (H ≤ ty) || decide (mx < 0) || decide (my < 0) || decide (W ≤ mx) || decide (H ≤ my)
/-- One way out of cell c. -/
def stWay (W H : Int) (ls : List S50) (rest : Int) (c : S39) (q : Nat) (s : TSt) : Option TSt :=
 if stOut W H (c.f0 + 2 * (stDir q).1) (c.f1 + 2 * (stDir q).2) (c.f0 + (stDir q).1) (c.f1 + (stDir q).2) = true then some s
 else if stIx W ⟨c.f0 + 2 * (stDir q).1, c.f1 + 2 * (stDir q).2⟩ < s.1.length ∧ s.2.1.length < 1000 ∧ s.2.2.length < 1000 then
  if (s.1.getD (stIx W ⟨c.f0 + 2 * (stDir q).1, c.f1 + 2 * (stDir q).2⟩).toNat false || (hasB ls (c.f0 + (stDir q).1) (c.f1 + (stDir q).2) != (rest == 0))) = true then some s
  else some (s.1.set (stIx W ⟨c.f0 + 2 * (stDir q).1, c.f1 + 2 * (stDir q).2⟩).toNat true, s.2.1 ++ [⟨c.f0 + 2 * (stDir q).1, c.f1 + 2 * (stDir q).2⟩],
   s.2.2 ++ [ovS (c.f0 + (stDir q).1) (c.f1 + (stDir q).2) (c.f0 + 2 * (stDir q).1) (c.f1 + 2 * (stDir q).2)])
 else none
def stWays (W H : Int) (ls : List S50) (rest : Int) (c : S39) : Nat → TSt → Option TSt
 | 0, s => some s
 | m + 1, s => (stWay W H ls rest c (3 - m) s).bind (stWays W H ls rest c m)
def stMain (W H : Int) (ls : List S50) (rest : Int) : Nat → Nat → TSt → Option (List S41)
 | 0, _, _ => none
 | k + 1, q, s => if q < s.2.1.length then
   (if -1 ≤ (s.2.1.getD q z39).f0 ∧ (s.2.1.getD q z39).f0 ≤ 9 ∧ -1 ≤ (s.2.1.getD q z39).f1 ∧ (s.2.1.getD q z39).f1 ≤ 9 then (stWays W H ls rest (s.2.1.getD q z39) 4 s).bind (stMain W H ls rest k (q + 1)) else none)
  else some s.2.2
def stAll (w h : Nat) (ls : List S50) (rest : Int) (k : Nat) : Option (List S41) :=
 let t := if rest = 0 then [⟨0, 0⟩] else stRows w h (h + 1) []
 (stMark (2 * (w : Int) - 1) t (List.replicate ((2 * w + 1) * (2 * h + 1)) false)).bind fun d => stMain (2 * (w : Int) - 1) (2 * (h : Int) - 1) ls rest k 0 (d, t, [])
theorem encC_at (xs : List S39) (k j : Nat) (hk : k < xs.length) (hj : j < 2) : (encC xs)[k * 2 + j]? = [.int .i64 (xs.getD k z39).f0, .int .i64 (xs.getD k z39).f1][j]? := by
 have h1 : xs = xs.take k ++ xs[k] :: xs.drop (k + 1) := by
  have := (List.take_append_drop k xs).symm
  rw [List.drop_eq_getElem_cons hk] at this
  exact this
 have hl : (encC (xs.take k)).length = k * 2 := by rw [encC_length, List.length_take, Nat.min_eq_left (Nat.le_of_lt hk)]
 have e1 : encC xs = encC (xs.take k) ++ ([.int .i64 xs[k].f0, .int .i64 xs[k].f1] ++ encC (xs.drop (k + 1))) := by
  have := congrArg encC h1
  rw [encC_append, encC_cons] at this
  exact this
 rw [e1, List.getElem?_append_right (by omega), hl, show k * 2 + j - k * 2 = j by omega, List.getElem?_append_left (by simpa using hj), List.getD_eq_getElem?_getD, List.getElem?_eq_getElem hk]
 rfl
structure SW (w0 w : World) (gd : Nat) (vt vo : Value) (dn : List Bool) (td : List S39) (ot : List S41) : Prop where
 hk : w.heap[gd]? = some (.cells (dn.map Value.bool).toArray 4 (0, 0))
 ht : w.ownsRow w0.heap.size 39 2 vt td.length (encC td)
 ho : w.ownsRow w0.heap.size 41 3 vo ot.length (encD ot)
 hb : Below w0.heap.size w0 w
 bk : w0.heap.size ≤ gd
section
variable {w0 w w1 : World} {gd : Nat} {vt vo : Value} {dn : List Bool} {td : List S39} {ot : List S41}
theorem SW.below (h : SW w0 w gd vt vo dn td ot) (hb : Below w.heap.size w w1) : SW w0 w1 gd vt vo dn td ot :=
 ⟨blk_below h.hk hb, pw_own_below h.ht hb, pw_own_below h.ho hb, below_step h.hb hb, h.bk⟩
theorem SW.alloc (h : SW w0 w gd vt vo dn td ot) (o : Obj) : SW w0 (w.alloc o) gd vt vo dn td ot := h.below (below_alloc (Below.refl _ _) o)
theorem SW.drew (h : SW w0 w gd vt vo dn td ot) : SW w0 w.drew gd vt vo dn td ot := h.below (below_drew1 (Below.refl _ _))
theorem SW.cellK (h : SW w0 w gd vt vo dn td ot) {f : Nat} (hf : f < dn.length) : w.cell? ⟨gd, f, none⟩ = some (.bool (dn.getD f false)) := by
 rw [blk_cell h.hk f]
 simp [List.getD_eq_getElem?_getD, hf]
theorem SW.freeK (h : SW w0 w gd vt vo dn td ot) (f : Nat) : w.frozen? ⟨gd, f, none⟩ = false := blk_frozen h.hk f
theorem SW.setK (h : SW w0 w gd vt vo dn td ot) {f : Nat} (hf : f < dn.length) : SW w0 (w.setCell ⟨gd, f, none⟩ (.bool true)) gd vt vo (dn.set f true) td ot := by
 refine ⟨?_, own_setCell h.ht (own_ne h.ht h.hk (by decide)) _, own_setCell h.ho (own_ne h.ho h.hk (by decide)) _, ?_, h.bk⟩
 ·rw [setCell_eq_setRow w gd f _ 4 (0, 0) (.bool true) h.hk, setRow_heap w gd _ _ 4 (0, 0) h.hk]
  simp [List.map_set]
 ·rw [setCell_eq_setRow w gd f _ 4 (0, 0) (.bool true) h.hk]
  exact h.hb.trans ⟨rfl, rfl, rfl, by simp [World.setRow], fun k hk => setRow_other w gd k _ (by have := h.bk; omega)⟩
theorem SW.growT (h : SW w0 w gd vt vo dn td ot) {v1 : Value} {c : S39} (ho : w1.ownsRow w0.heap.size 39 2 v1 (td.length + 1) (encC td ++ [.int .i64 c.f0, .int .i64 c.f1])) (hb : Below w0.heap.size w0 w1) (hg : w.grownBy w1 vt.ownBlock) : SW w0 w1 gd v1 vo dn (td ++ [c]) ot := by
 refine ⟨blk_grown h.hk hg (own_ne h.ht h.hk (by decide)), ?_, own_other h.ho hg (own_type_ne h.ho h.ht (by decide)), hb, h.bk⟩
 rw [List.length_append, encC_append]
 have e : encC [c] = [.int .i64 c.f0, .int .i64 c.f1] := by simp [encC]
 rw [e]
 exact ho
theorem SW.growO (h : SW w0 w gd vt vo dn td ot) {v1 : Value} {d : S41} (ho : w1.ownsRow w0.heap.size 41 3 v1 (ot.length + 1) (encD ot ++ [.int .i64 d.f0, .int .i64 d.f1, .bool d.f2])) (hb : Below w0.heap.size w0 w1) (hg : w.grownBy w1 vo.ownBlock) : SW w0 w1 gd vt v1 dn td (ot ++ [d]) := by
 refine ⟨blk_grown h.hk hg (own_ne h.ho h.hk (by decide)), own_other h.ht hg (own_type_ne h.ht h.ho (by decide)), ?_, hb, h.bk⟩
 rw [List.length_append, encD_append]
 have e : encD [d] = [.int .i64 d.f0, .int .i64 d.f1, .bool d.f2] := by simp [encD]
 rw [e]
 exact ho
end
theorem wrapS9 (z : Int) (h1 : -1000 ≤ z) (h2 : z ≤ 1000) : wrap64 z = z := by unfold wrap64; omega
theorem SW0 (w : World) (N : Nat) : SW w (((w.alloc (.cells (madeCells #[.bool false] N) 4 (0, 0))).alloc (.cells #[] 39 (0, 0))).alloc (.cells #[] 41 (0, 0))) w.heap.size (.slice (some ⟨w.heap.size + 1, 0, none⟩) 0 0) (.slice (some ⟨w.heap.size + 1 + 1, 0, none⟩) 0 0) (List.replicate N false) [] [] := by
 have e : madeCells #[.bool false] N = ((List.replicate N false).map Value.bool).toArray := by
  apply Array.ext'
  rw [toList_madeCells_one]
  simp
 have hs : ∀ (W : World) (o : Obj), (W.alloc o).heap.size = W.heap.size + 1 := fun W o => by rw [World.size_alloc]
 refine ⟨?_, ⟨rfl, Or.inr ⟨w.heap.size + 1, 0, #[], rfl, by omega, ?_, by simp, by simp, rfl, rfl⟩⟩, ⟨rfl, Or.inr ⟨w.heap.size + 1 + 1, 0, #[], rfl, by omega, ?_, by simp, by simp, rfl, rfl⟩⟩, below_alloc (below_alloc (below_alloc (Below.refl _ _) _) _) _, Nat.le_refl _⟩
 ·rw [← e]
  exact blk_alloc (blk_alloc (blk_new w _) _) _
 ·have h := blk_alloc (blk_new (w.alloc (.cells (madeCells #[.bool false] N) 4 (0, 0))) (.cells #[] 39 (0, 0))) (.cells #[] 41 (0, 0))
  rw [hs] at h
  exact h
 ·have h := blk_new ((w.alloc (.cells (madeCells #[.bool false] N) 4 (0, 0))).alloc (.cells #[] 39 (0, 0))) (.cells #[] 41 (0, 0))
  rw [hs, hs] at h
  exact h
theorem rowCells2 {w : World} {B m k : Nat} {At : Option Addr} {ct : Nat} {x y : Int} {xs : List S39} (h : w.ownsRow B 39 2 (.slice At m ct) m (encC xs)) (hk : k < m) (hc : xs.getD k z39 = ⟨x, y⟩) :
  (∃ g, At = some ⟨g, 0, none⟩) ∧ ∀ g, At = some ⟨g, 0, none⟩ → w.cell? ⟨g, k * 2, none⟩ = some (.int .i64 x) ∧ w.cell? ⟨g, k * 2 + 1, none⟩ = some (.int .i64 y) := by
 have hl : xs.length = m := by have := h.1; rw [encC_length] at this; omega
 refine ⟨?_, ?_⟩
 ·rcases h.2 with ⟨_, h0⟩ | ⟨g, cap, cur, hv, _⟩
  ·omega
  ·injection hv with a
   exact ⟨g, a⟩
 ·rintro g rfl
  have e0 := (h.cellAt (k * 2 + 0) (by omega)).trans (encC_at xs k 0 (by omega) (by omega))
  have e1 := (h.cellAt (k * 2 + 1) (by omega)).trans (encC_at xs k 1 (by omega) (by omega))
  rw [hc] at e0 e1
  exact ⟨e0, e1⟩
theorem stIx_ix {W x y : Int} {n : Nat} (hW : 1 ≤ W ∧ W ≤ 7) (hx : -1 ≤ x ∧ x ≤ 9) (hy : -1 ≤ y ∧ y ≤ 9) (h : stIx W ⟨x, y⟩ < n) :
  ∃ (P : Int) (g : Nat), wrap64 (y + 1) = y + 1 ∧ wrap64 ((y + 1) * (W + 2)) = P ∧ wrap64 (P + x) = P + x ∧ wrap64 (P + x + 1) = (g : Int) ∧ (stIx W ⟨x, y⟩).toNat = g ∧ g < n := by
 have h0 := Int.mul_nonneg (show (0 : Int) ≤ y + 1 by omega) (show (0 : Int) ≤ W + 2 by omega)
 have h1 : (y + 1) * (W + 2) ≤ 10 * 9 := Int.mul_le_mul (by omega) (by omega) (by omega) (by omega)
 have hs : stIx W ⟨x, y⟩ = (y + 1) * (W + 2) + x + 1 := rfl
 rw [hs] at h ⊢
 generalize (y + 1) * (W + 2) = P at h h0 h1 ⊢
 refine ⟨P, (P + x + 1).toNat, wrapS9 _ (by omega) (by omega), wrapS9 _ (by omega) (by omega), wrapS9 _ (by omega) (by omega), ?_, rfl, by omega⟩
 rw [wrapS9 _ (by omega) (by omega)]
 omega
theorem dirCellX {w : World} {j : Nat} {d : Int} (hj : j < 4) (hd : (stDir j).1 = d) : (w.alloc (.cells #[.int .i64 1, .int .i64 0, .int .i64 (-1), .int .i64 0] 3 (0, 0))).cell? ⟨w.heap.size, j, none⟩ = some (.int .i64 d) := by
 rw [blk_cell (blk_new w _) j]
 subst hd
 match j, hj with
 | 0, _ => rfl
 | 1, _ => rfl
 | 2, _ => rfl
 | 3, _ => rfl
theorem dirCellY {w : World} {j : Nat} {d : Int} (hj : j < 4) (hd : (stDir j).2 = d) : (w.alloc (.cells #[.int .i64 0, .int .i64 1, .int .i64 0, .int .i64 (-1)] 3 (0, 0))).cell? ⟨w.heap.size, j, none⟩ = some (.int .i64 d) := by
 rw [blk_cell (blk_new w _) j]
 subst hd
 match j, hj with
 | 0, _ => rfl
 | 1, _ => rfl
 | 2, _ => rfl
 | 3, _ => rfl
theorem dirList {j : Nat} {d : Int} (hj : j < 4) (hd : (stDir j).2 = d) : ([.int .i64 0, .int .i64 1, .int .i64 0, .int .i64 (-1)] : List Value)[j]'hj = .int .i64 d := by
 subst hd
 match j, hj with
 | 0, _ => rfl
 | 1, _ => rfl
 | 2, _ => rfl
 | 3, _ => rfl
theorem stDir_bd {j : Nat} {dx dy : Int} (hx : (stDir j).1 = dx) (hy : (stDir j).2 = dy) : -1 ≤ dx ∧ dx ≤ 1 ∧ -1 ≤ dy ∧ dy ≤ 1 := by
 subst hx
 subst hy
 match j with
 | 0 => decide
 | 1 => decide
 | 2 => decide
 | k + 3 => exact (by decide : -1 ≤ (0 : Int) ∧ (0 : Int) ≤ 1 ∧ -1 ≤ (-1 : Int) ∧ (-1 : Int) ≤ 1)
theorem nineWays (W H a b c d : Int) : (a < 0 ∧ True ∧ True ∧ True ∧ True ∧ True ∧ True ∧ True) ∨ (¬ a < 0 ∧ b < 0 ∧ True ∧ True ∧ True ∧ True ∧ True ∧ True) ∨ (¬ a < 0 ∧ ¬ b < 0 ∧ W ≤ a ∧ True ∧ True ∧ True ∧ True ∧ True) ∨ (¬ a < 0 ∧ ¬ b < 0 ∧ ¬ W ≤ a ∧ H ≤ b ∧ True ∧ True ∧ True ∧ True) ∨
  (¬ a < 0 ∧ ¬ b < 0 ∧ ¬ W ≤ a ∧ ¬ H ≤ b ∧ c < 0 ∧ True ∧ True ∧ True) ∨ (¬ a < 0 ∧ ¬ b < 0 ∧ ¬ W ≤ a ∧ ¬ H ≤ b ∧ ¬ c < 0 ∧ d < 0 ∧ True ∧ True) ∨ (¬ a < 0 ∧ ¬ b < 0 ∧ ¬ W ≤ a ∧ ¬ H ≤ b ∧ ¬ c < 0 ∧ ¬ d < 0 ∧ W ≤ c ∧ True) ∨
  (¬ a < 0 ∧ ¬ b < 0 ∧ ¬ W ≤ a ∧ ¬ H ≤ b ∧ ¬ c < 0 ∧ ¬ d < 0 ∧ ¬ W ≤ c ∧ H ≤ d) ∨ (¬ a < 0 ∧ ¬ b < 0 ∧ ¬ W ≤ a ∧ ¬ H ≤ b ∧ ¬ c < 0 ∧ ¬ d < 0 ∧ ¬ W ≤ c ∧ ¬ H ≤ d) := by
 by_cases h1 : a < 0
 ·exact .inl ⟨h1, by simp⟩
 by_cases h2 : b < 0
 ·exact .inr (.inl ⟨h1, h2, by simp⟩)
 by_cases h3 : W ≤ a
 ·exact .inr (.inr (.inl ⟨h1, h2, h3, by simp⟩))
 by_cases h4 : H ≤ b
 ·exact .inr (.inr (.inr (.inl ⟨h1, h2, h3, h4, by simp⟩)))
 by_cases h5 : c < 0
 ·exact .inr (.inr (.inr (.inr (.inl ⟨h1, h2, h3, h4, h5, by simp⟩))))
 by_cases h6 : d < 0
 ·exact .inr (.inr (.inr (.inr (.inr (.inl ⟨h1, h2, h3, h4, h5, h6, by simp⟩)))))
 by_cases h7 : W ≤ c
 ·exact .inr (.inr (.inr (.inr (.inr (.inr (.inl ⟨h1, h2, h3, h4, h5, h6, h7, trivial⟩))))))
 by_cases h8 : H ≤ d
 ·exact .inr (.inr (.inr (.inr (.inr (.inr (.inr (.inl ⟨h1, h2, h3, h4, h5, h6, h7, h8⟩)))))))
 exact .inr (.inr (.inr (.inr (.inr (.inr (.inr (.inr ⟨h1, h2, h3, h4, h5, h6, h7, h8⟩)))))))
theorem SW.setBox {w0 w : World} {gd : Nat} {vt vo : Value} {dn : List Bool} {td : List S39} {ot : List S41} (h : SW w0 w gd vt vo dn td ot) {b f : Nat} {cs : Array Value} (hx : w.heap[b]? = some (.cells cs 39 (0, 0))) : (w.setCell ⟨gd, f, none⟩ (.bool true)).heap[b]? = some (.cells cs 39 (0, 0)) := by
 rw [setCell_eq_setRow w gd f _ 4 (0, 0) (.bool true) h.hk]
 have hne : b ≠ gd := blk_ne hx h.hk (by decide)
 exact (setRow_other w gd b _ (by omega)).trans hx
theorem ovS_some (a b c d : Int) : spec_DominoOver.f 5 a b c d = some ((ovS a b c d).f0, (ovS a b c d).f1, (ovS a b c d).f2, ((spec_DominoOver.f 5 a b c d).getD (0, 0, false, false)).2.2.2) := by
 have h : ∃ q, spec_DominoOver.f 5 a b c d = some q := by
  unfold spec_DominoOver.f
  have h2 : ∃ q, spec_AreNeighbors.f 5 a b c d = some q := by
   unfold spec_AreNeighbors.f spec_CellOk.f spec_l01In.f
   repeat' (first | exact ⟨_, rfl⟩ | (simp only [Option.bind_some]; split) | split | (generalize decide (d ≤ 7) = z; cases z))
  obtain ⟨q, hq⟩ := h2
  rw [hq, Option.bind_some]
  split <;> exact ⟨_, rfl⟩
 obtain ⟨q, hq⟩ := h
 unfold ovS
 rw [hq]
 rfl
theorem SW1 (w : World) (N x : Nat) : SW w ((((((w.alloc (.cells (madeCells #[.bool false] N) 4 (0, 0))).alloc (.cells #[] 39 (0, 0))).alloc (.cells #[] 41 (0, 0))).alloc (.cells #[.int .i64 0, .int .i64 0] 39 (0, 0))).alloc (.cells (#[.int .i64 0, .int .i64 0] ++ Builtin.zeroCells #[.int .i64 0, .int .i64 0] ((Question.appendCap 1 0 39).cut x - 1)) 39 (0, 0))).drew) w.heap.size (.slice (some ⟨w.heap.size + 1 + 1 + 1 + 1, 0, none⟩) 1 ((Question.appendCap 1 0 39).cut x)) (.slice (some ⟨w.heap.size + 1 + 1, 0, none⟩) 0 0) (List.replicate N false) [⟨0, 0⟩] [] := by
 obtain ⟨c, hc⟩ : ∃ c, (Question.appendCap 1 0 39).cut x = c := ⟨_, rfl⟩
 have hc1 : 1 ≤ c ∧ c ≤ maxLen := by
  rw [← hc]
  show 1 ≤ 1 + x % (2 ^ 63 - 1) ∧ 1 + x % (2 ^ 63 - 1) ≤ 2 ^ 63 - 1
  have := Nat.mod_lt x (show 0 < 2 ^ 63 - 1 by decide)
  omega
 rw [hc]
 have h0 := SW0 w N
 have hs : ((((w.alloc (.cells (madeCells #[.bool false] N) 4 (0, 0))).alloc (.cells #[] 39 (0, 0))).alloc (.cells #[] 41 (0, 0))).alloc (.cells #[.int .i64 0, .int .i64 0] 39 (0, 0))).heap.size = w.heap.size + 1 + 1 + 1 + 1 := by simp only [World.size_alloc]
 have h1 := ((h0.alloc (.cells #[.int .i64 0, .int .i64 0] 39 (0, 0))).alloc (.cells (#[.int .i64 0, .int .i64 0] ++ Builtin.zeroCells #[.int .i64 0, .int .i64 0] (c - 1)) 39 (0, 0))).drew
 refine ⟨h1.hk, ⟨rfl, Or.inr ⟨w.heap.size + 1 + 1 + 1 + 1, c, #[.int .i64 0, .int .i64 0] ++ Builtin.zeroCells #[.int .i64 0, .int .i64 0] (c - 1), rfl, by omega, ?_, hc1.1, hc1.2, ?_, ?_⟩⟩, h1.ho, h1.hb, h1.bk⟩
 ·have h := blk_drew (blk_new ((((w.alloc (.cells (madeCells #[.bool false] N) 4 (0, 0))).alloc (.cells #[] 39 (0, 0))).alloc (.cells #[] 41 (0, 0))).alloc (.cells #[.int .i64 0, .int .i64 0] 39 (0, 0))) (.cells (#[.int .i64 0, .int .i64 0] ++ Builtin.zeroCells #[.int .i64 0, .int .i64 0] (c - 1)) 39 (0, 0)))
  rw [hs] at h
  exact h
 ·rw [Array.size_append, size_zeroCells]
  show 2 + (c - 1) * 2 = c * 2
  omega
 ·rw [Array.toList_append]
  rfl
def TPost (w : World) (o : List S41) : Ending → World → Prop := fun e w' => ∃ v0_ : Value, e = .returned (v0_) ∧ Kd.R k41 41 w' w.heap.size (fun _ => True) v0_ o ∧ Below w.heap.size w w'
set_option maxHeartbeats 8000000 in
set_option maxRecDepth 100000 in
theorem steps_calls (wd hd : Nat) (hw1 : 1 ≤ wd) (hw4 : wd ≤ 4) (hh1 : 1 ≤ hd) (hh4 : hd ≤ 4) (a3 : Int) (k : Nat) (A2 : Option Addr) (c2 : Nat) (ls : List S50) (r : List S41) (w : World)
  (hr2 : Kd.C k50 w A2 ls.length ls) (hc2 : ls.length ≤ c2) (hl2 : ls.length < 4611686018427387904) (h : stAll wd hd ls a3 k = some r) :
  Calls Try.prog 99 #[.int .i64 (wd : Int), .int .i64 (hd : Int), .slice A2 ls.length c2, .int .i64 a3] w (TPost w r) := by
 have HA := Aside0.mk h
 have HR := Aside0.mk hr2
 have HC := Aside0.mk hc2
 have HL := Aside0.mk hl2
 clear h hr2 hc2 hl2
 obtain ⟨Wi, hWi⟩ : ∃ Wi : Int, 2 * (wd : Int) - 1 = Wi := ⟨_, rfl⟩
 obtain ⟨Hi, hHi⟩ : ∃ Hi : Int, 2 * (hd : Int) - 1 = Hi := ⟨_, rfl⟩
 have w1_ : wrap64 (2 * (wd : Int)) = 2 * (wd : Int) := by unfold wrap64; omega
 have w2_ : wrap64 (2 * (wd : Int) - 1) = Wi := by rw [← hWi]; unfold wrap64; omega
 have w4_ : wrap64 (Wi + 2) = Wi + 2 := by rw [← hWi]; unfold wrap64; omega
 have h1_ : wrap64 (2 * (hd : Int)) = 2 * (hd : Int) := by unfold wrap64; omega
 have h2_ : wrap64 (2 * (hd : Int) - 1) = Hi := by rw [← hHi]; unfold wrap64; omega
 have h4_ : wrap64 (Hi + 2) = Hi + 2 := by rw [← hHi]; unfold wrap64; omega
 obtain ⟨N, hN⟩ : ∃ N, (2 * wd + 1) * (2 * hd + 1) = N := ⟨_, rfl⟩
 have hN9 : N ≤ 81 := by rw [← hN]; exact Nat.mul_le_mul (show 2 * wd + 1 ≤ 9 by omega) (show 2 * hd + 1 ≤ 9 by omega)
 have w3_ : wrap64 ((Wi + 2) * (Hi + 2)) = (N : Int) := by
  have e : (Wi + 2) * (Hi + 2) = (((2 * wd + 1) * (2 * hd + 1) : Nat) : Int) := by
   rw [← hWi, ← hHi]
   push_cast
   congr 1 <;> omega
  rw [e, hN]
  exact wrapS9 _ (by omega) (by omega)
 have HWH := Aside0.mk (And.intro hWi (And.intro hHi (And.intro hN hN9)))
 have HW4 := Aside0.mk (And.intro hw1 (And.intro hw4 (And.intro hh1 hh4)))
 have hmk := print_make_of (P := Try.prog) 89 4 (.bool false) 1 Try.underlying89 info4 rfl (by decide) N (by omega)
 clear hWi hHi hN hN9 hw1 hw4 hh1 hh4
 go_enter Try.func99, Try.ntmps99
 go_upto_if 41 with (fail)
 simp only [w1_, w2_, h1_, h2_, w4_, h4_, w3_]
 clear w1_ w2_ h1_ h2_ w3_ hmk
 obtain ⟨b3, hb3⟩ : ∃ b3, (a3 == 0) = b3 := ⟨_, rfl⟩
 have HB3 := Aside0.mk hb3
 rw [hb3]
 clear hb3
 go_cut [12, 14, 15] (fun v12 v14 v15 wc => ∃ (td : List S39), Aside0 (td.length ≤ 100) ∧ Aside0 (td = if b3 = true then [⟨0, 0⟩] else stRows wd hd (hd + 1) []) ∧ Aside0 (SW w wc w.heap.size v12 (.slice (some ⟨w.heap.size + 1 + 1, 0, none⟩) 0 0) (List.replicate N false) td []))
 case first =>
  as_aux_lemma =>
   cases b3 with
   | true =>
    go_wp2
    go_meet
    case rel => exact ⟨[⟨0, 0⟩], ⟨by simp⟩, ⟨by rw [if_pos rfl]⟩, ⟨SW1 w N _⟩⟩
   | false =>
    have HS0 := Aside0.mk (SW0 w N)
    go_wp2_with fail
    obtain ⟨ws, hws⟩ : ∃ ws, (((w.alloc (.cells (madeCells #[.bool false] N) 4 (0, 0))).alloc (.cells #[] 39 (0, 0))).alloc (.cells #[] 41 (0, 0))) = ws := ⟨_, rfl⟩
    rw [hws] at HS0
    rw [show (((w.alloc (.cells (madeCells #[.bool false] N) 4)).alloc (.cells #[] 39)).alloc (.cells #[] 41)) = ws from hws]
    clear hws
    go_loopw [12, 14, 15] (fun v12 v14 v15 wr => ∃ (i m : Nat) (td : List S39), Aside0 (SW w wr w.heap.size v12 (.slice (some ⟨w.heap.size + 1 + 1, 0, none⟩) 0 0) (List.replicate N false) td []) ∧ Aside0 (v14 = .int .i64 (2 * (i : Int) - 1)) ∧ i + m = hd + 1 ∧ td.length ≤ 5 * i ∧ Aside0 (stRows wd hd m td = stRows wd hd (hd + 1) [])) (fun _ v14 _ _ => 2 * hd + 3 - (intOf v14 + 1).toNat)
    case atStart => exact ⟨0, hd + 1, [], HS0, ⟨rfl⟩, by omega, by simp, ⟨rfl⟩⟩
    case round =>
     clear HS0
     obtain ⟨i, m, td, HS, hv14, him, htl, HT⟩ := hrel
     obtain rfl := hv14.out
     clear hv14
     obtain ⟨y, hy⟩ : ∃ y : Int, 2 * (i : Int) - 1 = y := ⟨_, rfl⟩
     have HY := Aside0.mk hy
     have HI := Aside0.mk him
     have HTL := Aside0.mk htl
     rw [hy]
     have hw4 := HW4.out
     have hwh := HWH.out
     by_cases hi : i ≤ hd
     ·have hyH : y ≤ Hi := by omega
      obtain ⟨m, rfl⟩ : ∃ m1, m = m1 + 1 := ⟨m - 1, by omega⟩
      have HIm := Aside0.mk hi
      have HT1 : Aside0 (stRows wd hd m (stRow wd hd i (wd + 1) td) = stRows wd hd (hd + 1) []) := ⟨by have h_ := HT.out; rw [stRows, show hd - m = i by omega] at h_; exact h_⟩
      clear HT hy him htl hw4 hwh hi
      go_wp2_with fail
      go_loopw [12, 15] (fun v12 v15 wr => ∃ (j m2 : Nat) (td1 : List S39), Aside0 (SW w wr w.heap.size v12 (.slice (some ⟨w.heap.size + 1 + 1, 0, none⟩) 0 0) (List.replicate N false) td1 []) ∧ Aside0 (v15 = .int .i64 (2 * (j : Int) - 1)) ∧ j + m2 = wd + 1 ∧ td1.length ≤ 5 * i + j ∧ Aside0 (stRow wd hd i m2 td1 = stRow wd hd i (wd + 1) td)) (fun _ v15 _ => 2 * wd + 3 - (intOf v15 + 1).toNat)
      case atStart => exact ⟨0, wd + 1, td, HS, ⟨rfl⟩, by omega, by have := HTL.out; omega, ⟨rfl⟩⟩
      case round =>
       clear HS
       obtain ⟨j, m2, td1, HS, hv15, hjm, htl1, HT2⟩ := hrel
       obtain rfl := hv15.out
       clear hv15
       obtain ⟨x, hx⟩ : ∃ x : Int, 2 * (j : Int) - 1 = x := ⟨_, rfl⟩
       have HX := Aside0.mk hx
       have HJ := Aside0.mk hjm
       have HTL1 := Aside0.mk htl1
       rw [hx]
       have hw4 := HW4.out
       have hwh := HWH.out
       have hi := HIm.out
       have hy := HY.out
       by_cases hj : j ≤ wd
       ·have hxW : x ≤ Wi := by omega
        obtain ⟨m2, rfl⟩ : ∃ m1, m2 = m1 + 1 := ⟨m2 - 1, by omega⟩
        have HT3 : Aside0 (stRow wd hd i m2 (if (decide (x < 0) || decide (y < 0) || decide (Wi ≤ x) || decide (Hi ≤ y)) = true then td1 ++ [⟨x, y⟩] else td1) = stRow wd hd i (wd + 1) td) := ⟨by
         have h_ := HT2.out
         rw [stRow, show wd - m2 = j by omega] at h_
         rw [← h_, ← hx, ← hy, show decide (2 * (j : Int) - 1 < 0) = decide (j = 0) from decide_eq_decide.2 (by omega), show decide (2 * (i : Int) - 1 < 0) = decide (i = 0) from decide_eq_decide.2 (by omega), show decide (Wi ≤ 2 * (j : Int) - 1) = decide (j = wd) from decide_eq_decide.2 (by omega), show decide (Hi ≤ 2 * (i : Int) - 1) = decide (i = hd) from decide_eq_decide.2 (by omega)]⟩
        have wx_ : wrap64 (x + 2) = x + 2 := wrapS9 _ (by omega) (by omega)
        have hl9 : td1.length < 100 := by omega
        have HL9 := Aside0.mk hl9
        clear HT2 hx hy hjm htl1 hi hw4 hwh hj hl9
        go_upto_region 14 with (fail)
        go_cut [71] (fun v71 wc => v71 = .bool (decide (x < 0) || decide (y < 0) || decide (Wi ≤ x) || decide (Hi ≤ y)) ∧ wc = wr)
        case first =>
         have hway : x < 0 ∨ (¬ x < 0 ∧ y < 0) ∨ (¬ x < 0 ∧ ¬ y < 0 ∧ Wi ≤ x) ∨ (¬ x < 0 ∧ ¬ y < 0 ∧ ¬ Wi ≤ x ∧ Hi ≤ y) ∨ (¬ x < 0 ∧ ¬ y < 0 ∧ ¬ Wi ≤ x ∧ ¬ Hi ≤ y) := by omega
         clear hyH hxW
         rcases hway with h1 | ⟨h1, h2⟩ | ⟨h1, h2, h3⟩ | ⟨h1, h2, h3, h4⟩ | ⟨h1, h2, h3, h4⟩
         ·go_wp2
          go_meet
          case rel => exact ⟨by simp [h1], rfl⟩
         ·go_wp2
          go_meet
          case rel => exact ⟨by simp [h1, h2], rfl⟩
         ·go_wp2
          go_meet
          case rel => exact ⟨by simp [h1, h2, h3], rfl⟩
         ·go_wp2
          go_meet
          case rel => exact ⟨by simp [h1, h2, h3, h4], rfl⟩
         ·go_wp2
          go_meet
          case rel => exact ⟨by simp [h1, h2, h3, h4], rfl⟩
        case rest =>
         obtain ⟨rfl, rfl⟩ := hcut
         generalize (decide (x < 0) || decide (y < 0) || decide (Wi ≤ x) || decide (Hi ≤ y)) = bb at HT3 ⊢
         cases bb with
         | true =>
          go_wp2_with (first | ((with_reducible refine gate_builtin (b := .append) (xs := #[.tmp 72, .tmp 76]) rfl ?_); at_builtin; refine print_append_cells (w0 := w) w.heap.size rfl (.tmp 72) (.tmp 76) 29 39 (.agg #[(.int .i64 0), (.int .i64 0)]) 2 16 rfl Try.underlying29 info39 rfl (by decide) (by decide) _ td1.length (encC td1) [.int .i64 x, .int .i64 y] rfl rfl rfl (by simp [Value.oneCell']) HS.out.ht HS.out.hb (below_size HS.out.hb) (by have := HL9.out; omega) ?_; intro v1 w8 ho hb hg hat; have HS8 := Aside0.mk (HS.out.growT (c := ⟨x, y⟩) ho hb hg); clear ho hb hg hat HS))
          go_roundw
          case rel => exact ⟨j + 1, m2, td1 ++ [⟨x, y⟩], HS8, ⟨by have := HX.out; first | omega | (congr 1; omega)⟩, by have := HJ.out; omega, by rw [List.length_append, List.length_singleton]; have := HTL1.out; omega, HT3⟩
          case measure => have := HX.out; have := HJ.out; simp [intOf]; omega
         | false =>
          go_wp2
          go_roundw
          case rel => exact ⟨j + 1, m2, td1, HS, ⟨by have := HX.out; first | omega | (congr 1; omega)⟩, by have := HJ.out; omega, by have := HTL1.out; omega, HT3⟩
          case measure => have := HX.out; have := HJ.out; simp [intOf]; omega
       ·have hxW : ¬ x ≤ Wi := by omega
        obtain rfl : m2 = 0 := by omega
        have HT4 : Aside0 (stRows wd hd m td1 = stRows wd hd (hd + 1) []) := ⟨by have h_ := HT2.out; rw [stRow] at h_; rw [h_]; exact HT1.out⟩
        have wy_ : wrap64 (y + 2) = y + 2 := wrapS9 _ (by omega) (by omega)
        have hl4 : td1.length ≤ 5 * (i + 1) := by omega
        have HL4 := Aside0.mk hl4
        clear hx hy hjm htl1 hi hw4 hwh hj hl4
        go_wp2
        go_roundw
        case rel => exact ⟨i + 1, m, td1, HS, ⟨by have := HY.out; first | omega | (congr 1; omega)⟩, by have := HI.out; omega, HL4.out, HT4⟩
        case measure => have := HY.out; have := HI.out; simp [intOf]; omega
     ·have hyH : ¬ y ≤ Hi := by omega
      obtain rfl : m = 0 := by omega
      have HT1 : Aside0 (td = stRows wd hd (hd + 1) []) := ⟨by have h_ := HT.out; rw [stRows] at h_; exact h_⟩
      clear hy him htl hw4 hwh hi
      go_wp2
      go_meet
      case rel => exact ⟨td, ⟨by have := HTL.out; have := HI.out; have := HW4.out; omega⟩, ⟨by rw [if_neg Bool.false_ne_true]; exact HT1.out⟩, HS⟩
 case rest =>
  obtain ⟨td, HTL, HT, HS⟩ := hcut
  have HM : Aside0 ((stMark Wi td (List.replicate N false)).bind (fun d => stMain Wi Hi ls a3 k 0 (d, td, [])) = some r) := ⟨by
   have h_ := HA.out
   unfold stAll at h_
   have ht : (if a3 = 0 then [⟨0, 0⟩] else stRows wd hd (hd + 1) []) = td := by
    rw [HT.out, ← HB3.out]
    by_cases h3 : a3 = 0 <;> simp [h3]
   dsimp only at h_
   rw [ht, HWH.out.1, HWH.out.2.1, HWH.out.2.2.1] at h_
   exact h_⟩
  obtain ⟨d1, hd1, hmain⟩ := Option.bind_eq_some_iff.1 HM.out
  have HD1 := Aside0.mk hd1
  have HMN := Aside0.mk hmain
  clear HM hd1 hmain HA HT
  obtain ⟨At, ct, et⟩ := own_slice HS.out.ht
  subst et
  go_wp2_with fail
  go_loopw [16] (fun v16 wr => ∃ (q : Nat) (dn : List Bool), Aside0 (SW w wr w.heap.size (.slice At td.length ct) (.slice (some ⟨w.heap.size + 1 + 1, 0, none⟩) 0 0) dn td []) ∧ v16 = .int .i64 (q : Int) ∧ q ≤ td.length ∧ Aside0 (dn.length = N) ∧ Aside0 (stMark Wi (td.drop q) dn = some d1)) (fun v16 _ => td.length - (intOf v16).toNat)
  case atStart => exact ⟨0, _, HS, rfl, Nat.zero_le _, ⟨by simp⟩, HD1⟩
  case round =>
   clear HS
   obtain ⟨q, dn, HS, rfl, hq, HDN, HD⟩ := hrel
   by_cases hqn : q < td.length
   ·obtain ⟨c, hc⟩ : ∃ c, td.getD q z39 = c := ⟨_, rfl⟩
    have HD2 : Aside0 (-1 ≤ c.f0 ∧ c.f0 ≤ 9 ∧ -1 ≤ c.f1 ∧ c.f1 ≤ 9 ∧ stIx Wi c < dn.length ∧ stMark Wi (td.drop (q + 1)) (dn.set (stIx Wi c).toNat true) = some d1) := ⟨by
     have h_ := HD.out
     have e : td[q] = c := by rw [← hc, List.getD_eq_getElem?_getD, List.getElem?_eq_getElem hqn]; rfl
     rw [List.drop_eq_getElem_cons hqn, stMark, e] at h_
     split at h_
     ·rename_i hb
      exact ⟨hb.1, hb.2.1, hb.2.2.1, hb.2.2.2.1, hb.2.2.2.2, h_⟩
     ·cases h_⟩
    clear HD
    obtain ⟨x, y⟩ := c
    obtain ⟨P, g, e1_, e2_, e3_, e4_, hg, hgN⟩ := stIx_ix (W := Wi) (x := x) (y := y) (n := N) (by have := HWH.out; have := HW4.out; omega) ⟨HD2.out.1, HD2.out.2.1⟩ ⟨HD2.out.2.2.1, HD2.out.2.2.2.1⟩ (by rw [← HDN.out]; exact HD2.out.2.2.2.2.1)
    have HG := Aside0.mk (And.intro hg hgN)
    have HCL := Aside0.mk (rowCells2 HS.out.drew.ht hqn hc)
    have HS2 := Aside0.mk HS.out.drew
    clear HS hg hc
    obtain ⟨gt, egt⟩ := HCL.out.1
    subst egt
    have hbq : 0 ≤ (q : Int) ∧ (q : Int) < (td.length : Int) := by omega
    have hbg : 0 ≤ (g : Int) ∧ (g : Int) < (N : Int) := by omega
    have htl_ := HTL.out
    go_wp2_with fail
    refine start_ (n := 19) (S := fun w' => w'.cell? ⟨gt, q * 2, none⟩ = some (.int .i64 x) ∧ w'.cell? ⟨gt, q * 2 + 1, none⟩ = some (.int .i64 y)) (ds := [18]) #[false, false, false, false, false, false, false, false, false, false, false, false, false, false, false, false, false, false, false] (by kernel_rfl) rfl rfl (HCL.out.2 _ rfl) (fun hHeld => ?_)
    generalize World.drew wr = w3 at HS2 HCL hHeld ⊢
    refine pure_ (i := 0) (N := (some 84)) (v := ?_) (a' := ?_) #[true, false, false, false, false, false, false, false, false, false, false, false, false, false, false, false, false, false, false] rfl rfl (by kernel_rfl) (fun _ _ _ h => h) (Or.inl ⟨by rfl, ?_⟩) ?_ ?_
    rotate_left
    ·intro w'
     go_simp
     with_reducible rfl
    rotate_left
    ·simp only [Act.put, sA, sB, sC, i64_w, i32_w]
     rfl
    refine pure_ (i := 1) (N := (some 85)) (v := ?_) (a' := ?_) #[true, true, false, false, false, false, false, false, false, false, false, false, false, false, false, false, false, false, false] rfl rfl (by kernel_rfl) (fun _ _ _ h => h) (Or.inl ⟨by rfl, ?_⟩) ?_ ?_
    rotate_left
    ·intro w'
     go_simp
     with_reducible rfl
    rotate_left
    ·simp only [Act.put, sA, sB, sC, i64_w, i32_w]
     rfl
    refine pure_ (i := 2) (N := (some 86)) (v := ?_) (a' := ?_) #[true, true, true, false, false, false, false, false, false, false, false, false, false, false, false, false, false, false, false] rfl rfl (by kernel_rfl) (fun _ _ _ h => h) (Or.inl ⟨by rfl, ?_⟩) ?_ ?_
    rotate_left
    ·intro w'
     go_simp
     with_reducible rfl
    rotate_left
    ·simp only [Act.put, sA, sB, sC, i64_w, i32_w]
     rfl
    refine pure_ (i := 3) (N := (some 87)) (v := ?_) (a' := ?_) #[true, true, true, true, false, false, false, false, false, false, false, false, false, false, false, false, false, false, false] rfl rfl (by kernel_rfl) (fun _ _ _ h => h) (Or.inl ⟨by rfl, ?_⟩) ?_ ?_
    rotate_left
    ·intro w'
     go_simp
     try simp only [Int.toNat_natCast, if_pos hbq]
     with_reducible rfl
    rotate_left
    ·simp only [Act.put, sA, sB, sC, i64_w, i32_w]
     rfl
    refine pure_ (i := 4) (N := (some 88)) (v := ?_) (a' := ?_) #[true, true, true, true, true, false, false, false, false, false, false, false, false, false, false, false, false, false, false] rfl rfl (by kernel_rfl) (fun _ _ _ h => h) (Or.inl ⟨by rfl, ?_⟩) ?_ ?_
    rotate_left
    ·intro w'
     go_simp
     with_reducible rfl
    rotate_left
    ·simp only [Act.put, sA, sB, sC, i64_w, i32_w]
     rfl
    refine take_ (i := 5) (N := (some 89)) (v := ?_) (a' := ?_) #[true, true, true, true, true, true, false, false, false, false, false, false, false, false, false, false, false, false, false] rfl rfl (by kernel_rfl) (fun _ _ _ h => h) (Or.inl ⟨by rfl, ?_⟩) hHeld ?_ ?_
    rotate_left
    ·rintro w' ⟨s0, s1⟩
     go_simp
     with_reducible rfl
    rotate_left
    ·simp only [Act.put, sA, sB, sC, i64_w, i32_w]
     rfl
    refine pure_ (i := 6) (N := (some 90)) (v := ?_) (a' := ?_) #[true, true, true, true, true, true, true, false, false, false, false, false, false, false, false, false, false, false, false] rfl rfl (by kernel_rfl) (fun _ _ _ h => h) (Or.inl ⟨by rfl, ?_⟩) ?_ ?_
    rotate_left
    ·intro w'
     go_simp
     try simp only [i64_w, e1_]
     with_reducible rfl
    rotate_left
    ·simp only [Act.put, sA, sB, sC, i64_w, i32_w]
     rfl
    refine pure_ (i := 7) (N := (some 91)) (v := ?_) (a' := ?_) #[true, true, true, true, true, true, true, true, false, false, false, false, false, false, false, false, false, false, false] rfl rfl (by kernel_rfl) (fun _ _ _ h => h) (Or.inl ⟨by rfl, ?_⟩) ?_ ?_
    rotate_left
    ·intro w'
     go_simp
     with_reducible rfl
    rotate_left
    ·simp only [Act.put, sA, sB, sC, i64_w, i32_w]
     rfl
    refine pure_ (i := 8) (N := (some 92)) (v := ?_) (a' := ?_) #[true, true, true, true, true, true, true, true, true, false, false, false, false, false, false, false, false, false, false] rfl rfl (by kernel_rfl) (fun _ _ _ h => h) (Or.inl ⟨by rfl, ?_⟩) ?_ ?_
    rotate_left
    ·intro w'
     go_simp
     try simp only [i64_w, w4_]
     with_reducible rfl
    rotate_left
    ·simp only [Act.put, sA, sB, sC, i64_w, i32_w]
     rfl
    refine pure_ (i := 9) (N := (some 93)) (v := ?_) (a' := ?_) #[true, true, true, true, true, true, true, true, true, true, false, false, false, false, false, false, false, false, false] rfl rfl (by kernel_rfl) (fun _ _ _ h => h) (Or.inl ⟨by rfl, ?_⟩) ?_ ?_
    rotate_left
    ·intro w'
     go_simp
     try simp only [i64_w, e2_]
     with_reducible rfl
    rotate_left
    ·simp only [Act.put, sA, sB, sC, i64_w, i32_w]
     rfl
    refine pure_ (i := 10) (N := (some 94)) (v := ?_) (a' := ?_) #[true, true, true, true, true, true, true, true, true, true, true, false, false, false, false, false, false, false, false] rfl rfl (by kernel_rfl) (fun _ _ _ h => h) (Or.inl ⟨by rfl, ?_⟩) ?_ ?_
    rotate_left
    ·intro w'
     go_simp
     with_reducible rfl
    rotate_left
    ·simp only [Act.put, sA, sB, sC, i64_w, i32_w]
     rfl
    refine pure_ (i := 11) (N := (some 95)) (v := ?_) (a' := ?_) #[true, true, true, true, true, true, true, true, true, true, true, true, false, false, false, false, false, false, false] rfl rfl (by kernel_rfl) (fun _ _ _ h => h) (Or.inl ⟨by rfl, ?_⟩) ?_ ?_
    rotate_left
    ·intro w'
     go_simp
     with_reducible rfl
    rotate_left
    ·simp only [Act.put, sA, sB, sC, i64_w, i32_w]
     rfl
    refine pure_ (i := 12) (N := (some 96)) (v := ?_) (a' := ?_) #[true, true, true, true, true, true, true, true, true, true, true, true, true, false, false, false, false, false, false] rfl rfl (by kernel_rfl) (fun _ _ _ h => h) (Or.inl ⟨by rfl, ?_⟩) ?_ ?_
    rotate_left
    ·intro w'
     go_simp
     try simp only [Int.toNat_natCast, if_pos hbq]
     with_reducible rfl
    rotate_left
    ·simp only [Act.put, sA, sB, sC, i64_w, i32_w]
     rfl
    refine pure_ (i := 13) (N := (some 97)) (v := ?_) (a' := ?_) #[true, true, true, true, true, true, true, true, true, true, true, true, true, true, false, false, false, false, false] rfl rfl (by kernel_rfl) (fun _ _ _ h => h) (Or.inl ⟨by rfl, ?_⟩) ?_ ?_
    rotate_left
    ·intro w'
     go_simp
     with_reducible rfl
    rotate_left
    ·simp only [Act.put, sA, sB, sC, i64_w, i32_w]
     rfl
    refine take_ (i := 14) (N := (some 98)) (v := ?_) (a' := ?_) #[true, true, true, true, true, true, true, true, true, true, true, true, true, true, true, false, false, false, false] rfl rfl (by kernel_rfl) (fun _ _ _ h => h) (Or.inl ⟨by rfl, ?_⟩) hHeld ?_ ?_
    rotate_left
    ·rintro w' ⟨s0, s1⟩
     go_simp
     with_reducible rfl
    rotate_left
    ·simp only [Act.put, sA, sB, sC, i64_w, i32_w]
     rfl
    refine pure_ (i := 15) (N := (some 99)) (v := ?_) (a' := ?_) #[true, true, true, true, true, true, true, true, true, true, true, true, true, true, true, true, false, false, false] rfl rfl (by kernel_rfl) (fun _ _ _ h => h) (Or.inl ⟨by rfl, ?_⟩) ?_ ?_
    rotate_left
    ·intro w'
     go_simp
     try simp only [i64_w, e3_]
     with_reducible rfl
    rotate_left
    ·simp only [Act.put, sA, sB, sC, i64_w, i32_w]
     rfl
    refine pure_ (i := 16) (N := (some 100)) (v := ?_) (a' := ?_) #[true, true, true, true, true, true, true, true, true, true, true, true, true, true, true, true, true, false, false] rfl rfl (by kernel_rfl) (fun _ _ _ h => h) (Or.inl ⟨by rfl, ?_⟩) ?_ ?_
    rotate_left
    ·intro w'
     go_simp
     try simp only [i64_w, e4_]
     with_reducible rfl
    rotate_left
    ·simp only [Act.put, sA, sB, sC, i64_w, i32_w]
     rfl
    refine pure_ (i := 17) (N := (some 101)) (v := ?_) (a' := ?_) #[true, true, true, true, true, true, true, true, true, true, true, true, true, true, true, true, true, true, false] rfl rfl (by kernel_rfl) (fun _ _ _ h => h) (Or.inl ⟨by rfl, ?_⟩) ?_ ?_
    rotate_left
    ·intro w'
     go_simp
     try simp only [Int.toNat_natCast, if_pos hbg]
     with_reducible rfl
    rotate_left
    ·simp only [Act.put, sA, sB, sC, i64_w, i32_w]
     rfl
    have ck_ := HS2.out.cellK (f := g) (by rw [HDN.out]; exact HG.out.2)
    have fk_ := HS2.out.freeK g
    refine last_ (i := 18) (N := none) #[true, true, true, true, true, true, true, true, true, true, true, true, true, true, true, true, true, true, true] rfl rfl (by kernel_rfl) (by decide) (fun K hK => ?_)
    refine skip_ (w1 := ?_) (by rfl) rfl ?_ ?_
    rotate_left
    ·go_simp
     rfl
    refine hK.out _ _ ?_
    clear hK K
    clear ck_ fk_
    refine done_ (by kernel_rfl) ?_
    clear e1_ e2_ e3_ e4_ hbq hbg
    go_wp2_with fail
    go_roundw
    case rel => exact ⟨q + 1, dn.set g true, ⟨HS2.out.setK (by rw [HDN.out]; exact HG.out.2)⟩, by go_num, by omega, ⟨by rw [List.length_set]; exact HDN.out⟩, ⟨by have h_ := HD2.out.2.2.2.2.2; rw [HG.out.1] at h_; exact h_⟩⟩
    case measure => simp [intOf]; omega
   ·have hqe : q = td.length := by omega
    have HDe : Aside0 (dn = d1) := ⟨by have h_ := HD.out; rw [hqe, List.drop_length, stMark] at h_; exact Option.some.inj h_⟩
    have hdn := HDe.out
    subst hdn
    clear HD hqe hq HDe HD1
    go_wp2_with fail
    go_loopg [12, 13, 17] k (fun kq v12 v13 v17 wr => ∃ (q1 : Nat) (dn1 : List Bool) (td1 : List S39) (ot1 : List S41), Aside0 (SW w wr w.heap.size v12 v13 dn1 td1 ot1) ∧ v17 = .int .i64 (q1 : Int) ∧ Aside0 (q1 ≤ td1.length) ∧ Aside0 (dn1.length = N) ∧ Aside0 (td1.length ≤ 1000 ∧ ot1.length ≤ 1000) ∧ Aside0 (stMain Wi Hi ls a3 kq q1 (dn1, td1, ot1) = some r))
    case atStart => exact ⟨0, dn, td, [], HS, rfl, ⟨Nat.zero_le _⟩, HDN, ⟨by have := HTL.out; simp; omega⟩, HMN⟩
    case round =>
     clear HS HDN HMN
     obtain ⟨q1, dn1, td1, ot1, HS, rfl, HQ, HDN, HLL, HA⟩ := hrel
     cases gk with
     | zero => exact absurd HA.out (by simp [stMain])
     | succ k1 =>
      obtain ⟨At1, ct1, et1⟩ := own_slice HS.out.ht
      subst et1
      by_cases hqn : q1 < td1.length
      ·obtain ⟨c, hc⟩ : ∃ c, td1.getD q1 z39 = c := ⟨_, rfl⟩
       obtain ⟨hb, s1, hws, hmn⟩ : (-1 ≤ c.f0 ∧ c.f0 ≤ 9 ∧ -1 ≤ c.f1 ∧ c.f1 ≤ 9) ∧ ∃ s1, stWays Wi Hi ls a3 c 4 (dn1, td1, ot1) = some s1 ∧ stMain Wi Hi ls a3 k1 (q1 + 1) s1 = some r := by
        have h_ := HA.out
        rw [stMain, if_pos hqn] at h_
        dsimp only at h_
        rw [hc] at h_
        split at h_
        ·rename_i hb
         exact ⟨hb, Option.bind_eq_some_iff.1 h_⟩
        ·cases h_
       obtain ⟨x, y⟩ := c
       have HBB := Aside0.mk hb
       have HWS := Aside0.mk hws
       have HMN := Aside0.mk hmn
       have hcl := rowCells2 HS.out.ht hqn hc
       obtain ⟨gt, egt⟩ := hcl.1
       subst egt
       obtain ⟨p0_, p1_⟩ := hcl.2 _ rfl
       have hbq : 0 ≤ (q1 : Int) ∧ (q1 : Int) < (td1.length : Int) := by omega
       clear hb hws hmn hcl hc HA
       go_wp2_with fail
       have HX := Aside0.mk (blk_new wr (.cells #[.int .i64 x, .int .i64 y] 39 (0, 0)))
       have HN : Aside0 (∀ kk, (Value.slice (some ⟨gt, 0, none⟩) td1.length ct1).ownBlock = some kk → kk ≠ wr.heap.size) := ⟨fun kk h_ => by have := own_lt HS.out.ht kk h_; omega⟩
       have HS4 := Aside0.mk (HS.out.alloc (.cells #[.int .i64 x, .int .i64 y] 39 (0, 0)))
       clear HS p0_ p1_ hbq
       generalize wr.heap.size = gc at HX HN ⊢
       obtain ⟨w4, hw4⟩ : ∃ w4, wr.alloc (.cells #[.int .i64 x, .int .i64 y] 39 (0, 0)) = w4 := ⟨_, rfl⟩
       rw [hw4] at HX HS4
       rw [show wr.alloc (.cells #[.int .i64 x, .int .i64 y] 39) = w4 from hw4]
       clear hw4
       have HQ1 : Aside0 (q1 + 1 ≤ td1.length) := ⟨hqn⟩
       clear HQ hqn
       go_loopw [12, 13, 19] (fun v12 v13 v19 wr => ∃ (j m : Nat) (dn2 : List Bool) (td2 : List S39) (ot2 : List S41), Aside0 (SW w wr w.heap.size v12 v13 dn2 td2 ot2) ∧ v19 = .int .i64 (j : Int) ∧ j + m = 4 ∧ Aside0 (q1 + 1 ≤ td2.length) ∧ Aside0 (dn2.length = N) ∧ Aside0 (td2.length ≤ 1000 ∧ ot2.length ≤ 1000) ∧ Aside0 (stWays Wi Hi ls a3 ⟨x, y⟩ m (dn2, td2, ot2) = some s1) ∧ Aside0 (wr.heap[gc]? = some (.cells #[.int .i64 x, .int .i64 y] 39 (0, 0))) ∧ Aside0 (∀ kk, v12.ownBlock = some kk → kk ≠ gc)) (fun _ _ v19 _ => 4 - (intOf v19).toNat)
       case atStart => exact ⟨0, 4, dn1, td1, ot1, HS4, rfl, rfl, HQ1, HDN, HLL, HWS, HX, HN⟩
       case round =>
        clear HS4 HX HN HQ1 HDN HLL HWS
        obtain ⟨j, m, dn2, td2, ot2, HS, rfl, hjm, HQ, HDN, HLL, HWS, HX, HN⟩ := hrel
        by_cases hj : j < 4
        ·obtain ⟨m, rfl⟩ : ∃ m1, m = m1 + 1 := ⟨m - 1, by omega⟩
         obtain ⟨s2, hs2, hws⟩ : ∃ s2, stWay Wi Hi ls a3 ⟨x, y⟩ j (dn2, td2, ot2) = some s2 ∧ stWays Wi Hi ls a3 ⟨x, y⟩ m s2 = some s1 := by
          have h_ := HWS.out
          rw [stWays, show 3 - m = j by omega] at h_
          exact Option.bind_eq_some_iff.1 h_
         have HW1 := Aside0.mk hs2
         have HWS := Aside0.mk hws
         have HJM := Aside0.mk hjm
         clear hs2 hws hjm
         obtain ⟨At2, ct2, et2⟩ := own_slice HS.out.ht
         obtain ⟨Ao2, co2, eo2⟩ := own_slice HS.out.ho
         subst et2
         subst eo2
         obtain ⟨dx, hdx⟩ : ∃ dx, (stDir j).1 = dx := ⟨_, rfl⟩
         obtain ⟨dy, hdy⟩ : ∃ dy, (stDir j).2 = dy := ⟨_, rfl⟩
         have dx4_ := dirCellX (w := wr) hj hdx
         have dy4_ := fun W => dirCellY (w := W) hj hdy
         have dy5_ := dy4_ (wr.alloc (.cells #[.int .i64 1, .int .i64 0, .int .i64 (-1), .int .i64 0] 3 (0, 0)))
         have HD := Aside0.mk (And.intro hdx hdy)
         have hbj : 0 ≤ (j : Int) ∧ (j : Int) < 4 := by omega
         clear hdx hdy dy4_
         go_upto_region 29 with (fail)
         rw [show (([.int .i64 0, .int .i64 1, .int .i64 0, .int .i64 (-1)] : List Value)[j]'hj) = .int .i64 dy from dirList hj HD.out.2]
         have HSa := Aside0.mk ((HS.out.alloc (.cells #[.int .i64 1, .int .i64 0, .int .i64 (-1), .int .i64 0] 3 (0, 0))).alloc (.cells #[.int .i64 0, .int .i64 1, .int .i64 0, .int .i64 (-1)] 3 (0, 0)))
         have HXa := Aside0.mk (blk_alloc (blk_alloc HX.out (.cells #[.int .i64 1, .int .i64 0, .int .i64 (-1), .int .i64 0] 3 (0, 0))) (.cells #[.int .i64 0, .int .i64 1, .int .i64 0, .int .i64 (-1)] 3 (0, 0)))
         have HN1 : Aside0 (∀ kk, (Value.slice At2 td2.length ct2).ownBlock = some kk → kk < wr.heap.size) := ⟨fun kk h_ => own_lt HS.out.ht kk h_⟩
         have HGE : Aside0 (wr.heap.size ≤ ((wr.alloc (.cells #[.int .i64 1, .int .i64 0, .int .i64 (-1), .int .i64 0] 3 (0, 0))).alloc (.cells #[.int .i64 0, .int .i64 1, .int .i64 0, .int .i64 (-1)] 3 (0, 0))).heap.size) := ⟨by rw [World.size_alloc, World.size_alloc]; omega⟩
         obtain ⟨wc, hwc⟩ : ∃ wc, (wr.alloc (.cells #[.int .i64 1, .int .i64 0, .int .i64 (-1), .int .i64 0] 3 (0, 0))).alloc (.cells #[.int .i64 0, .int .i64 1, .int .i64 0, .int .i64 (-1)] 3 (0, 0)) = wc := ⟨_, rfl⟩
         rw [hwc] at HSa HXa HGE
         rw [show (wr.alloc (.cells #[.int .i64 1, .int .i64 0, .int .i64 (-1), .int .i64 0] 3)).alloc (.cells #[.int .i64 0, .int .i64 1, .int .i64 0, .int .i64 (-1)] 3) = wc from hwc]
         clear hwc HS HX dx4_ dy5_ hbj
         generalize wr.heap.size = nw at HN1 HGE
         have hd1 : -1 ≤ dx ∧ dx ≤ 1 ∧ -1 ≤ dy ∧ dy ≤ 1 := stDir_bd HD.out.1 HD.out.2
         have hbb := HBB.out
         try simp only at hbb
         obtain ⟨mx, hmx⟩ : ∃ mx, x + dx = mx := ⟨_, rfl⟩
         obtain ⟨my, hmy⟩ : ∃ my, y + dy = my := ⟨_, rfl⟩
         obtain ⟨tx, htx⟩ : ∃ tx, x + 2 * dx = tx := ⟨_, rfl⟩
         obtain ⟨ty, hty⟩ : ∃ ty, y + 2 * dy = ty := ⟨_, rfl⟩
         have f1_ : wrap64 (x + dx) = mx := by rw [hmx]; exact wrapS9 _ (by omega) (by omega)
         have f2_ : wrap64 (y + dy) = my := by rw [hmy]; exact wrapS9 _ (by omega) (by omega)
         have f3_ : wrap64 (2 * dx) = 2 * dx := wrapS9 _ (by omega) (by omega)
         have f4_ : wrap64 (2 * dy) = 2 * dy := wrapS9 _ (by omega) (by omega)
         have f5_ : wrap64 (x + 2 * dx) = tx := by rw [htx]; exact wrapS9 _ (by omega) (by omega)
         have f6_ : wrap64 (y + 2 * dy) = ty := by rw [hty]; exact wrapS9 _ (by omega) (by omega)
         have HV : Aside0 ((if stOut Wi Hi tx ty mx my = true then some (dn2, td2, ot2) else if stIx Wi ⟨tx, ty⟩ < dn2.length ∧ td2.length < 1000 ∧ ot2.length < 1000 then
           if (dn2.getD (stIx Wi ⟨tx, ty⟩).toNat false || (hasB ls mx my != (a3 == 0))) = true then some (dn2, td2, ot2) else some (dn2.set (stIx Wi ⟨tx, ty⟩).toNat true, td2 ++ [⟨tx, ty⟩], ot2 ++ [ovS mx my tx ty]) else none) = some s2) := ⟨by rw [← htx, ← hty, ← hmx, ← hmy, ← HD.out.1, ← HD.out.2]; exact HW1.out⟩
         have d0_ := (cell_of_two HXa.out).1
         have d1_ := (cell_of_two HXa.out).2
         have d2_ := (cell_of_two (blk_alloc HXa.out (.cells #[.int .i64 mx, .int .i64 my] 39 (0, 0)))).1
         have d3_ := (cell_of_two (blk_alloc HXa.out (.cells #[.int .i64 mx, .int .i64 my] 39 (0, 0)))).2
         clear hd1 hbb hmx hmy htx hty HW1 HD
         go_upto_region 31 with (fail)
         have HS5 := Aside0.mk ((HSa.out.alloc (.cells #[.int .i64 mx, .int .i64 my] 39 (0, 0))).alloc (.cells #[.int .i64 tx, .int .i64 ty] 39 (0, 0)))
         have HX5 := Aside0.mk (blk_alloc (blk_alloc HXa.out (.cells #[.int .i64 mx, .int .i64 my] 39 (0, 0))) (.cells #[.int .i64 tx, .int .i64 ty] 39 (0, 0)))
         have HM5 := Aside0.mk (blk_alloc (blk_new wc (.cells #[.int .i64 mx, .int .i64 my] 39 (0, 0))) (.cells #[.int .i64 tx, .int .i64 ty] 39 (0, 0)))
         have HT5 := Aside0.mk (blk_new (wc.alloc (.cells #[.int .i64 mx, .int .i64 my] 39 (0, 0))) (.cells #[.int .i64 tx, .int .i64 ty] 39 (0, 0)))
         rw [World.size_alloc] at HT5
         have HNm : Aside0 (∀ kk, (Value.slice At2 td2.length ct2).ownBlock = some kk → kk ≠ wc.heap.size ∧ kk ≠ wc.heap.size + 1) := ⟨fun kk h_ => by have := HN1.out kk h_; have := HGE.out; omega⟩
         clear d0_ d1_ d2_ d3_ f1_ f2_ f3_ f4_ f5_ f6_ HSa HXa HN1 HGE
         obtain ⟨w5, hw5⟩ : ∃ w5, (wc.alloc (.cells #[.int .i64 mx, .int .i64 my] 39 (0, 0))).alloc (.cells #[.int .i64 tx, .int .i64 ty] 39 (0, 0)) = w5 := ⟨_, rfl⟩
         rw [hw5] at HS5 HX5 HM5 HT5
         rw [show (wc.alloc (.cells #[.int .i64 mx, .int .i64 my] 39)).alloc (.cells #[.int .i64 tx, .int .i64 ty] 39) = w5 from hw5]
         clear hw5
         obtain ⟨go, hgo⟩ : ∃ go, wc.heap.size + 1 = go := ⟨_, rfl⟩
         rw [hgo] at HT5 HNm ⊢
         clear hgo
         generalize wc.heap.size = gm at HM5 HNm ⊢
         have d0_ := (cell_of_two HT5.out).1
         have d1_ := (cell_of_two HT5.out).2
         have d2_ := (cell_of_two HM5.out).1
         have d3_ := (cell_of_two HM5.out).2
         go_cut [185] (fun v185 wd => v185 = .bool (stOut Wi Hi tx ty mx my) ∧ wd = w5)
         case first =>
          as_aux_lemma =>
           rcases nineWays Wi Hi tx ty mx my with h | h | h | h | h | h | h | h | h <;> (obtain ⟨h1, h2, h3, h4, h5, h6, h7, h8⟩ := h; go_wp2; go_meet; case rel => exact ⟨by simp [stOut, *], rfl⟩)
         case rest =>
          obtain ⟨rfl, ewc⟩ := hcut
          rw [ewc]
          clear ewc
          obtain ⟨ob, hob⟩ : ∃ ob, stOut Wi Hi tx ty mx my = ob := ⟨_, rfl⟩
          have HOB := Aside0.mk hob
          rw [hob]
          clear hob
          have hhj := HJM.out
          cases ob with
          | true =>
           have HE : Aside0 ((dn2, td2, ot2) = s2) := ⟨by have h_ := HV.out; rw [HOB.out, if_pos rfl] at h_; exact Option.some.inj h_⟩
           go_wp2
           go_roundw
           case rel => exact ⟨j + 1, m, dn2, td2, ot2, HS5, by go_num, by omega, HQ, HDN, HLL, ⟨by rw [HE.out]; exact HWS.out⟩, HX5, HN⟩
           case measure => simp [intOf]; omega
          | false =>
           obtain ⟨hi, HV2⟩ : (stIx Wi ⟨tx, ty⟩ < dn2.length ∧ td2.length < 1000 ∧ ot2.length < 1000) ∧ (if (dn2.getD (stIx Wi ⟨tx, ty⟩).toNat false || (hasB ls mx my != (a3 == 0))) = true then some (dn2, td2, ot2) else some (dn2.set (stIx Wi ⟨tx, ty⟩).toNat true, td2 ++ [⟨tx, ty⟩], ot2 ++ [ovS mx my tx ty])) = some s2 := by
            have h_ := HV.out
            rw [HOB.out, if_neg Bool.false_ne_true] at h_
            split at h_
            ·rename_i hb
             exact ⟨hb, h_⟩
            ·cases h_
           have hto : 0 ≤ tx ∧ tx < Wi ∧ 0 ≤ ty ∧ ty < Hi := by
            have h_ := HOB.out
            simp [stOut] at h_
            omega
           obtain ⟨P, g, e1_, e2_, e3_, e4_, hg, hgN⟩ := stIx_ix (W := Wi) (x := tx) (y := ty) (n := N) (by have := HWH.out; have := HW4.out; omega) (by have := HWH.out; have := HW4.out; omega) (by have := HWH.out; have := HW4.out; omega) (by rw [← HDN.out]; exact hi.1)
           rw [hg] at HV2
           have HG := Aside0.mk hgN
           have HI := Aside0.mk hi.2
           obtain ⟨kf, hkf⟩ : ∃ kf, dn2.getD g false = kf := ⟨_, rfl⟩
           rw [hkf] at HV2
           have HV3 := Aside0.mk HV2
           have hbg : 0 ≤ (g : Int) ∧ (g : Int) < (N : Int) := by omega
           have ck_ : w5.cell? ⟨w.heap.size, g, none⟩ = some (.bool kf) := by rw [← hkf]; exact HS5.out.cellK (by rw [HDN.out]; exact HG.out)
           clear hkf hg HV2 HV hto hi hgN HOB hhj
           go_upto_region 32 with (fail)
           go_cut [206] (fun v206 we => v206 = .bool (kf || (hasB ls mx my != (a3 == 0))) ∧ Aside0 (SW w we w.heap.size (.slice At2 td2.length ct2) (.slice Ao2 ot2.length co2) dn2 td2 ot2) ∧ Aside0 (we.heap[gc]? = some (.cells #[.int .i64 x, .int .i64 y] 39 (0, 0))) ∧ Aside0 (we.heap[gm]? = some (.cells #[.int .i64 mx, .int .i64 my] 39 (0, 0))) ∧ Aside0 (we.heap[go]? = some (.cells #[.int .i64 tx, .int .i64 ty] 39 (0, 0))))
           case first =>
            as_aux_lemma =>
             cases kf with
             | true =>
              go_wp2
              go_meet
              case rel => exact ⟨by simp, HS5, HX5, HM5, HT5⟩
             | false =>
              go_wp2_with fail
              refine (spec_l24Has.calls (ls.length + 1) A2 c2 ls mx my (hasB ls mx my) _ (Kd.C_below HR.out HS5.out.hb) HC.out (has_l0 ls mx my HL.out ls.length 0 (by omega))).mono ?_
              rintro e w6 ⟨rfl, hb6⟩
              have HB6 := Aside0.mk hb6
              clear hb6
              go_wp2
              go_meet
              case rel => exact ⟨by cases hasB ls mx my <;> cases (a3 == 0) <;> rfl, ⟨HS5.out.below HB6.out⟩, ⟨blk_below HX5.out HB6.out⟩, ⟨blk_below HM5.out HB6.out⟩, ⟨blk_below HT5.out HB6.out⟩⟩
           case rest =>
            obtain ⟨rfl, HS6, HX6, HM6, HT6⟩ := hcut
            clear HS5 HX5 HM5 HT5 ck_ d0_ d1_ d2_ d3_
            obtain ⟨kk, hkk⟩ : ∃ kk, (kf || (hasB ls mx my != (a3 == 0))) = kk := ⟨_, rfl⟩
            have HKK := Aside0.mk hkk
            rw [hkk]
            clear hkk
            have hhj := HJM.out
            cases kk with
            | true =>
             have HE : Aside0 ((dn2, td2, ot2) = s2) := ⟨by have h_ := HV3.out; rw [HKK.out, if_pos rfl] at h_; exact Option.some.inj h_⟩
             go_wp2
             go_roundw
             case rel => exact ⟨j + 1, m, dn2, td2, ot2, HS6, by go_num, by omega, HQ, HDN, HLL, ⟨by rw [HE.out]; exact HWS.out⟩, HX6, HN⟩
             case measure => simp [intOf]; omega
            | false =>
             have HE : Aside0 ((dn2.set g true, td2 ++ [⟨tx, ty⟩], ot2 ++ [ovS mx my tx ty]) = s2) := ⟨by have h_ := HV3.out; rw [HKK.out, if_neg Bool.false_ne_true] at h_; exact Option.some.inj h_⟩
             clear hhj HV3 HKK
             have d0_ := (cell_of_two HT6.out).1
             have d1_ := (cell_of_two HT6.out).2
             have d2_ := (cell_of_two HM6.out).1
             have d3_ := (cell_of_two HM6.out).2
             have ck_ := HS6.out.cellK (f := g) (by rw [HDN.out]; exact HG.out)
             have fk_ := HS6.out.freeK g
             go_upto_region 34 with (fail)
             have HS7 := Aside0.mk (HS6.out.setK (f := g) (by rw [HDN.out]; exact HG.out))
             have HX7 := Aside0.mk (HS6.out.setBox (f := g) HX6.out)
             have HM7 := Aside0.mk (HS6.out.setBox (f := g) HM6.out)
             have HT7 := Aside0.mk (HS6.out.setBox (f := g) HT6.out)
             clear ck_ fk_ e1_ e2_ e3_ e4_ hbg HS6 HX6 HM6 HT6 d0_ d1_ d2_ d3_
             generalize World.setCell wc ⟨w.heap.size, g, none⟩ (.bool true) = w7 at HS7 HX7 HM7 HT7 ⊢
             have d0_ := (cell_of_two HT7.out).1
             have d1_ := (cell_of_two HT7.out).2
             have d2_ := (cell_of_two HM7.out).1
             have d3_ := (cell_of_two HM7.out).2
             go_upto_region 35 with (first | ((with_reducible refine gate_builtin (b := .append) (xs := #[.tmp 219, .tmp 221]) rfl ?_); at_builtin; refine print_append_cells (w0 := w) w.heap.size rfl (.tmp 219) (.tmp 221) 29 39 (.agg #[(.int .i64 0), (.int .i64 0)]) 2 16 rfl Try.underlying29 info39 rfl (by decide) (by decide) _ td2.length (encC td2) [.int .i64 tx, .int .i64 ty] rfl rfl rfl (by simp [Value.oneCell']) HS7.out.ht HS7.out.hb (below_size HS7.out.hb) (by have := HI.out; omega) ?_; intro v1 w8 ho hb hg hat; have HS8 := Aside0.mk (HS7.out.growT (c := ⟨tx, ty⟩) ho hb hg); have HX8 := Aside0.mk (blk_grown HX7.out hg (fun h_ => HN.out gc h_.symm rfl)); have HM8 := Aside0.mk (blk_grown HM7.out hg (fun h_ => (HNm.out gm h_.symm).1 rfl)); have HT8 := Aside0.mk (blk_grown HT7.out hg (fun h_ => (HNm.out go h_.symm).2 rfl)); have HN8 : Aside0 (∀ kk, v1.ownBlock = some kk → kk ≠ gc) := ⟨offNext HX7.out HN.out hat⟩; clear ho hb hg hat HS7 HX7 HM7 HT7 d0_ d1_ d2_ d3_))
             have d0_ := (cell_of_two HT8.out).1
             have d1_ := (cell_of_two HT8.out).2
             have d2_ := (cell_of_two HM8.out).1
             have d3_ := (cell_of_two HM8.out).2
             go_upto_region 36 with (fail)
             refine (spec_DominoOver.calls 5 mx my tx ty (ovS mx my tx ty).f0 (ovS mx my tx ty).f1 (ovS mx my tx ty).f2 _ _ (ovS_some mx my tx ty)).mono ?_
             rintro e w9 ⟨rfl, hb9⟩
             have HS9 := Aside0.mk (HS8.out.below hb9)
             have HX9 := Aside0.mk (blk_below HX8.out hb9)
             clear hb9 HS8 HX8 HM8 HT8 d0_ d1_ d2_ d3_
             obtain ⟨o, ho⟩ : ∃ o, ovS mx my tx ty = o := ⟨_, rfl⟩
             rw [ho]
             rw [ho] at HE
             clear ho
             go_upto_region 36 with (fail)
             have HS10 := Aside0.mk (HS9.out.alloc (.cells #[.int .i64 o.f0, .int .i64 o.f1, .bool o.f2] 41 (0, 0)))
             have HX10 := Aside0.mk (blk_alloc HX9.out (.cells #[.int .i64 o.f0, .int .i64 o.f1, .bool o.f2] 41 (0, 0)))
             obtain ⟨b0_, b1_, b2_⟩ := boxCells (d := o) (blk_new w9 (.cells #[.int .i64 o.f0, .int .i64 o.f1, .bool o.f2] 41 (0, 0)))
             clear HS9 HX9
             obtain ⟨w10, hw10⟩ : ∃ w10, w9.alloc (.cells #[.int .i64 o.f0, .int .i64 o.f1, .bool o.f2] 41 (0, 0)) = w10 := ⟨_, rfl⟩
             rw [hw10] at HS10 HX10 b0_ b1_ b2_
             rw [show w9.alloc (.cells #[.int .i64 o.f0, .int .i64 o.f1, .bool o.f2] 41) = w10 from hw10]
             clear hw10
             generalize w9.heap.size = bd at b0_ b1_ b2_ ⊢
             go_wp2_with (first | ((with_reducible refine gate_builtin (b := .append) (xs := #[.tmp 229, .tmp 231]) rfl ?_); at_builtin; refine print_append_cells (w0 := w) w.heap.size rfl (.tmp 229) (.tmp 231) 24 41 (.agg #[(.int .i64 0), (.int .i64 0), (.bool false)]) 3 24 rfl Try.underlying24 info41 rfl (by decide) (by decide) _ ot2.length (encD ot2) [.int .i64 o.f0, .int .i64 o.f1, .bool o.f2] rfl rfl rfl (by simp [Value.oneCell']) HS10.out.ho HS10.out.hb (below_size HS10.out.hb) (by have := HI.out; omega) ?_; intro v2 w11 ho hb hg hat; have HX11 := Aside0.mk (blk_grown HX10.out hg (own_ne HS10.out.ho HX10.out (by decide))); have HS11 := Aside0.mk (HS10.out.growO (d := o) ho hb hg); clear ho hb hg hat HS10 HX10 b0_ b1_ b2_))
             have hhj := HJM.out
             go_roundw
             case rel => exact ⟨j + 1, m, dn2.set g true, td2 ++ [⟨tx, ty⟩], ot2 ++ [o], HS11, by go_num, by omega, ⟨by rw [List.length_append]; have := HQ.out; omega⟩, ⟨by rw [List.length_set]; exact HDN.out⟩, ⟨by rw [List.length_append, List.length_append, List.length_singleton, List.length_singleton]; have := HI.out; omega⟩, ⟨by rw [HE.out]; exact HWS.out⟩, HX11, HN8⟩
             case measure => simp [intOf]; omega
        ·obtain rfl : m = 0 := by omega
         have HSS : Aside0 ((dn2, td2, ot2) = s1) := ⟨by have h_ := HWS.out; rw [stWays] at h_; exact Option.some.inj h_⟩
         have hl2 := HLL.out.1
         clear HWS
         have hq2 : q1 ≤ 1000 := by have := HQ.out; omega
         go_wp2
         go_roundg k1
         case measure => omega
         case rel => exact ⟨q1 + 1, dn2, td2, ot2, HS, by go_num, HQ, HDN, HLL, ⟨by have h_ := HMN.out; rw [← HSS.out] at h_; exact h_⟩⟩
      ·have hot : Aside0 (ot1 = r) := ⟨by have h_ := HA.out; rw [stMain, if_neg hqn] at h_; exact Option.some.inj h_⟩
       go_wp2
       go_ret
       refine ⟨_, rfl, ?_, HS.out.hb⟩
       rw [← hot.out]
       exact R41_of_own HS.out.ho (fun _ _ => trivial)
theorem stMain_mono (W H : Int) (ls : List S50) (rest : Int) : ∀ (k q : Nat) (s : TSt), LeO (stMain W H ls rest k q s) (stMain W H ls rest (k + 1) q s)
 | 0, q, s => LeO.none _
 | k + 1, q, s => by
  unfold stMain
  exact LeO.ite (LeO.ite (LeO.bind (LeO.refl _) (fun x => stMain_mono W H ls rest k (q + 1) x)) (LeO.refl _)) (LeO.refl _)
def spec_l24Steps.f (k : Nat) (a0 : Int) (a1 : Int) (l2 : List (S50)) (a3 : Int) : Option ((List (S41))) :=
 if 1 ≤ a0 ∧ a0 ≤ 4 ∧ 1 ≤ a1 ∧ a1 ≤ 4 ∧ l2.length < 4611686018427387904 then stAll a0.toNat a1.toNat l2 a3 k else none
theorem spec_l24Steps.mono : ∀ a0 a1 l2 a3 k, LeO (spec_l24Steps.f k a0 a1 l2 a3) (spec_l24Steps.f (k + 1) a0 a1 l2 a3) := by
 intro a0 a1 l2 a3 k
 unfold spec_l24Steps.f
 refine LeO.ite ?_ (LeO.refl _)
 unfold stAll
 exact LeO.bind (LeO.refl _) (fun x => stMain_mono _ _ _ _ _ _ _)
theorem spec_l24Steps.calls (k : Nat) (a0 : Int) (a1 : Int) (A2 : Option Addr) (c2 : Nat) (l2 : List (S50)) (a3 : Int) (r : List (S41)) (w : World) (hr2 : Kd.C k50 w A2 l2.length l2) (hc2 : l2.length ≤ c2) (h : spec_l24Steps.f k a0 a1 l2 a3 = some r) :
  Calls Try.prog 99 #[.int .i64 a0, .int .i64 a1, .slice A2 l2.length c2, .int .i64 a3] w fun e w' => ∃ v0_ : Value, e = .returned (v0_) ∧ Kd.R k41 41 w' w.heap.size (fun _ => True) v0_ r ∧ Below w.heap.size w w' := by
 unfold spec_l24Steps.f at h
 split at h
 ·rename_i hb
  obtain ⟨h1, h2, h3, h4, h5⟩ := hb
  obtain ⟨W, rfl⟩ := Int.eq_ofNat_of_zero_le (show 0 ≤ a0 by omega)
  obtain ⟨H, rfl⟩ := Int.eq_ofNat_of_zero_le (show 0 ≤ a1 by omega)
  exact steps_calls W H (by omega) (by omega) (by omega) (by omega) a3 k A2 c2 l2 r w hr2 hc2 h5 h
 ·cases h
def spec_TilingOfTree.f (k : Nat) (a0 : Int) (a1 : Int) (l2 : List (S50)) : Option ((List (S41)) × Bool) := (spec_IsTree.f k a0 a1 l2).bind fun t307 => (if t307 = true then ((spec_l24Steps.f k a0 a1 l2 0).bind fun t311 => ((spec_l24Steps.f k a0 a1 l2 1).bind fun t314 => (if t311.length + t314.length < 5864062014805 then ((spec_SortDominoes.f k (t311 ++ t314)).bind fun t320 => (some (t320, true))) else (none)))) else (some ((([] : List (S41))), false)))
theorem spec_TilingOfTree.mono : ∀ a0 a1 a2 k, LeO (spec_TilingOfTree.f k a0 a1 a2) (spec_TilingOfTree.f (k + 1) a0 a1 a2) := by
 intro a0 a1 a2 k
 unfold spec_TilingOfTree.f
 repeat' first
   | (with_reducible exact spec_IsTree.mono _ _ _ _)
   | (with_reducible exact spec_SortDominoes.mono _ _)
   | (with_reducible exact spec_l24Steps.mono _ _ _ _ _)
   | (with_reducible exact LeO.refl _)
   | (with_reducible exact LeO.none _)
   | (with_reducible refine LeO.ite ?_ ?_)
   | (with_reducible refine LeO.bind ?_ (fun _ => ?_))
   | exact spec_IsTree.mono _ _ _ _
   | exact spec_SortDominoes.mono _ _
   | exact spec_l24Steps.mono _ _ _ _ _
   | exact LeO.none _
   | refine LeO.ite ?_ ?_
   | refine LeO.bind ?_ (fun _ => ?_)
set_option maxHeartbeats 8000000 in
set_option maxRecDepth 100000 in
theorem spec_TilingOfTree.calls (k : Nat) (a0 : Int) (a1 : Int) (A2 : Option Addr) (c2 : Nat) (l2 : List (S50)) (r1 : List (S41)) (r2 : Bool) (w : World) (hr2 : Kd.C k50 w A2 l2.length l2) (hc2 : l2.length ≤ c2) (h : spec_TilingOfTree.f k a0 a1 l2 = some (r1, r2)) :
  Calls Try.prog 34 #[.int .i64 a0, .int .i64 a1, .slice A2 l2.length c2] w fun e w' => ∃ v0_ : Value, e = .returned (.tuple #[v0_, .bool r2]) ∧ Kd.R k41 41 w' w.heap.size (fun _ => True) v0_ r1 ∧ Below w.heap.size w w' := by
 have HR2 := Aside0.mk hr2
 have HC2 := Aside0.mk hc2
 clear hr2 hc2
 have HB := Aside0.mk (Below.refl w.heap.size w)
 have H : ((spec_IsTree.f k a0 a1 l2).bind fun t307 => (if t307 = true then ((spec_l24Steps.f k a0 a1 l2 0).bind fun t311 => ((spec_l24Steps.f k a0 a1 l2 1).bind fun t314 => (if t311.length + t314.length < 5864062014805 then ((spec_SortDominoes.f k (t311 ++ t314)).bind fun t320 => (some (t320, true))) else (none)))) else (some ((([] : List (S41))), false)))) = some (r1, r2) := h
 clear h
 replace H := Option.bind_eq_some_iff.mp H
 obtain ⟨t307, A40, H⟩ := H
 replace H : (if t307 = true then ((spec_l24Steps.f k a0 a1 l2 0).bind fun t311 => ((spec_l24Steps.f k a0 a1 l2 1).bind fun t314 => (if t311.length + t314.length < 5864062014805 then ((spec_SortDominoes.f k (t311 ++ t314)).bind fun t320 => (some (t320, true))) else (none)))) else (some ((([] : List (S41))), false))) = some (r1, r2) := H
 have A4 := Aside0.mk A40
 clear A40
 by_cases c5 : t307 = true
 ·subst c5
  have H1 : ((spec_l24Steps.f k a0 a1 l2 0).bind fun t311 => ((spec_l24Steps.f k a0 a1 l2 1).bind fun t314 => (if t311.length + t314.length < 5864062014805 then ((spec_SortDominoes.f k (t311 ++ t314)).bind fun t320 => (some (t320, true))) else (none)))) = some (r1, r2) := by rw [if_pos rfl] at H; exact H
  clear H
  have H := H1
  clear H1
  replace H := Option.bind_eq_some_iff.mp H
  obtain ⟨t311, A60, H⟩ := H
  replace H : ((spec_l24Steps.f k a0 a1 l2 1).bind fun t314 => (if t311.length + t314.length < 5864062014805 then ((spec_SortDominoes.f k (t311 ++ t314)).bind fun t320 => (some (t320, true))) else (none))) = some (r1, r2) := H
  have A6 := Aside0.mk A60
  clear A60
  replace H := Option.bind_eq_some_iff.mp H
  obtain ⟨t314, A70, H⟩ := H
  replace H : (if t311.length + t314.length < 5864062014805 then ((spec_SortDominoes.f k (t311 ++ t314)).bind fun t320 => (some (t320, true))) else (none)) = some (r1, r2) := H
  have A7 := Aside0.mk A70
  clear A70
  by_cases c8 : t311.length + t314.length < 5864062014805
  ·rw [if_pos c8] at H
   have LMc8 := Aside0.mk c8
   clear c8
   obtain ⟨y317, hy317⟩ : ∃ y_ : List (S41), y_ = (t311 ++ t314) := ⟨_, rfl⟩
   replace H : ((spec_SortDominoes.f k y317).bind fun t320 => (some (t320, true))) = some (r1, r2) := by first | (rw [hy317]; with_reducible exact H) | (have H2_ := (Option.bind_some _ _).symm.trans H; rw [hy317]; with_reducible exact H2_) | (have H2_ := (Option.bind_some _ _).symm.trans H; with_reducible exact H2_) | with_reducible exact H | (rw [hy317]; exact H) | exact H
   have Ny317 := Aside0.mk hy317
   clear hy317
   replace H := Option.bind_eq_some_iff.mp H
   obtain ⟨t320, A90, H⟩ := H
   replace H : (some (t320, true)) = some (r1, r2) := H
   have A9 := Aside0.mk A90
   clear A90
   simp only [Option.some.injEq, Prod.mk.injEq] at H
   obtain ⟨rfl, rfl⟩ := H
   go_enter Try.func34, Try.ntmps34
   go_wp2_with (first | ((with_reducible refine gate_callee (f := 27) rfl ?_); refine goesL_ (some 11) rfl rfl Try.func27 (by kernel_rfl) rfl #[.int .i64 a0, .int .i64 a1, .slice A2 l2.length c2] rfl (by (try simp only [sD, sE, sF]); first | done | rfl) ?_; (with_reducible refine (spec_IsTree.calls k a0 a1 _ _ l2 true _ ?side1 ?side2 A4.out).mono ?_); (case side1 => repeat (first | exact HR2.out | (with_reducible refine Kd.C_alloc ?_ _) | (with_reducible refine Kd.C_drewN ?_ _) | (with_reducible refine Kd.C_drew ?_))); (case side2 => exact HC2.out); rintro e w10 ⟨rfl, hb⟩; refine ⟨_, rfl, ?_⟩; have n0_ := Aside0.mk (below_step (bX HB.out) hb); clear HB; have HB := n0_; clear n0_; (try clear hb); (try clear hb2); (try clear hk); (try clear hi)) | ((with_reducible refine gate_callee (f := 99) rfl ?_); refine goesL_ (some 17) rfl rfl Try.func99 (by kernel_rfl) rfl #[.int .i64 a0, .int .i64 a1, .slice A2 l2.length c2, .int .i64 0] rfl (by (try simp only [sD, sE, sF]); first | done | rfl) ?_; (with_reducible refine (spec_l24Steps.calls k a0 a1 _ _ l2 0 t311 _ ?side1 ?side2 A6.out).mono ?_); (case side1 => repeat (first | exact (Kd.C_below HR2.out HB.out) | (with_reducible refine Kd.C_alloc ?_ _) | (with_reducible refine Kd.C_drewN ?_ _) | (with_reducible refine Kd.C_drew ?_))); (case side2 => exact HC2.out); rintro e w11 ⟨v312, rfl, ho0, hb⟩; refine ⟨_, rfl, ?_⟩; have n0_ := Aside0.mk (Kd.R_lower ho0 (below_size (bX HB.out))); have n1_ := Aside0.mk (below_step (bX HB.out) hb); clear HB; have HO313 := n0_; have HB := n1_; clear n0_ n1_; (try clear hb); (try clear hb2); (try clear hk); (try clear hi); (try clear ho0)) | ((with_reducible refine gate_callee (f := 99) rfl ?_); refine goesL_ (some 21) rfl rfl Try.func99 (by kernel_rfl) rfl #[.int .i64 a0, .int .i64 a1, .slice A2 l2.length c2, .int .i64 1] rfl (by (try simp only [sD, sE, sF]); first | done | rfl) ?_; (with_reducible refine (spec_l24Steps.calls k a0 a1 _ _ l2 1 t314 _ ?side1 ?side2 A7.out).mono ?_); (case side1 => repeat (first | exact (Kd.C_below HR2.out HB.out) | (with_reducible refine Kd.C_alloc ?_ _) | (with_reducible refine Kd.C_drewN ?_ _) | (with_reducible refine Kd.C_drew ?_))); (case side2 => exact HC2.out); rintro e w12 ⟨v315, rfl, ho0, hb⟩; refine ⟨_, rfl, ?_⟩; have n0_ := Aside0.mk (Kd.R_elder' (rX HO313.out) (Kd.R_base ho0) hb); have n1_ := Aside0.mk (Kd.R_lower (Kd.R_new' ho0 (Kd.R_lt (rX HO313.out))) (below_size (bX HB.out))); have n2_ := Aside0.mk (below_step (bX HB.out) hb); clear HO313; clear HB; have HO313 := n0_; have HO316 := n1_; have HB := n2_; clear n0_ n1_ n2_; (try clear hb); (try clear hb2); (try clear hk); (try clear hi); (try clear ho0); obtain ⟨Ao14, co14, eo14⟩ := Kd.R_slice HO316.out; subst eo14) | ((with_reducible refine gate_builtin (b := .append) (xs := #[.tmp 17, .tmp 21]) rfl ?_); at_builtin; refine Kd.R_append_rows k41 (w0 := w) w.heap.size rfl (.tmp 17) (.tmp 21) 24 41 (.agg #[(.int .i64 0), (.int .i64 0), (.bool false)]) 24 rfl Try.underlying24 info41 rfl (by decide) (by omega) v312 t311 t314 _ _ _ (fun k_ => some k_ ≠ (.slice Ao14 t314.length co14 : Value).ownBlock) (fun _ => False) rfl rfl ?aO ?aR (fun _ _ h => h) (fun _ h => h.elim) ?aF ?aB ?aS ?aL ?_; (case aR => repeat (first | exact (Kd.R_reads' HO316.out).2.2 | (with_reducible refine Kd.C_alloc ?_ _) | (with_reducible refine Kd.C_drewN ?_ _) | (with_reducible refine Kd.C_drew ?_))); (case aB => exact (bX HB.out)); (case aF => exact (fun k_ hk => Kd.fresh' (Kd.R_lt (rX HO316.out)) k_ hk)); (case aO => exact (by (with_reducible repeat (first | apply Kd.R_alloc | apply Kd.R_drewN | apply Kd.R_drew)); exact Kd.R_mono HO313.out (fun _ hk => hk.2))); (case aS => exact (below_size (bX HB.out))); (case aL => have := LMc8.out; omega); intro v318 w13 ho hb hg hat; rw [← Ny317.out] at ho; have n0_ := Aside0.mk (Kd.R_after (ok := (fun _ => True)) (rX HO316.out) hg hat); have n1_ := Aside0.mk (hb); have n2_ := Aside0.mk (ho); clear HO316; clear HB; clear HO313; have HO316 := n0_; have HB := n1_; have HO319 := n2_; clear n0_ n1_ n2_; clear ho hb hg hat; obtain ⟨Ao15, co15, eo15⟩ := Kd.R_slice HO319.out; subst eo15) | ((with_reducible refine gate_callee (f := 19) rfl ?_); refine goesL_ (some 23) rfl rfl Try.func19 (by kernel_rfl) rfl #[.slice Ao15 y317.length co15] rfl (by (try simp only [sD, sE, sF]); first | done | rfl) ?_; (with_reducible refine (spec_SortDominoes.calls k _ _ y317 t320 _ ?side1 ?side2 A9.out).mono ?_); (case side1 => repeat (first | exact (Kd.R_reads' HO319.out).2.2 | (with_reducible refine Kd.C_alloc ?_ _) | (with_reducible refine Kd.C_drewN ?_ _) | (with_reducible refine Kd.C_drew ?_))); (case side2 => exact (Kd.R_reads' HO319.out).2.1); rintro e w16 ⟨v321, rfl, ho0, hb⟩; refine ⟨_, rfl, ?_⟩; have n0_ := Aside0.mk (Kd.R_elder' (rX HO316.out) (Kd.R_base ho0) hb); have n1_ := Aside0.mk (Kd.R_elder' (rX HO319.out) (Kd.R_base ho0) hb); have n2_ := Aside0.mk (Kd.R_lower (Kd.R_new' (Kd.R_new' ho0 (Kd.R_lt (rX HO316.out))) (Kd.R_lt (rX HO319.out))) (below_size (bX HB.out))); have n3_ := Aside0.mk (below_step (bX HB.out) hb); clear HO316; clear HO319; clear HB; have HO316 := n0_; have HO319 := n1_; have HO322 := n2_; have HB := n3_; clear n0_ n1_ n2_ n3_; (try clear hb); (try clear hb2); (try clear hk); (try clear hi); (try clear ho0)))
   go_ret2
   exact ⟨_, by first | rfl | (simp [*, errW_none, errW_some] <;> rfl), by (with_reducible repeat (first | apply Kd.R_alloc | apply Kd.R_drewN | apply Kd.R_drew)); exact Kd.R_mono HO322.out (fun _ hk => trivial), bX HB.out⟩
  ·rw [if_neg c8] at H
   exact absurd H (by simp)
 ·replace c5 := Bool.eq_false_iff.mpr c5
  subst c5
  have H1 : (some ((([] : List (S41))), false)) = some (r1, r2) := by rw [if_neg (show ¬ (false = true) by decide)] at H; exact H
  clear H
  have H := H1
  clear H1
  obtain ⟨y308, hy308⟩ : ∃ y_ : List (S41), y_ = (([] : List (S41))) := ⟨_, rfl⟩
  replace H : (some (y308, false)) = some (r1, r2) := by first | (rw [hy308]; with_reducible exact H) | (have H2_ := (Option.bind_some _ _).symm.trans H; rw [hy308]; with_reducible exact H2_) | (have H2_ := (Option.bind_some _ _).symm.trans H; with_reducible exact H2_) | with_reducible exact H | (rw [hy308]; exact H) | exact H
  have Ny308 := Aside0.mk hy308
  clear hy308
  simp only [Option.some.injEq, Prod.mk.injEq] at H
  obtain ⟨rfl, rfl⟩ := H
  go_enter Try.func34, Try.ntmps34
  go_wp2_with (first | ((with_reducible refine gate_callee (f := 27) rfl ?_); refine goesL_ (some 11) rfl rfl Try.func27 (by kernel_rfl) rfl #[.int .i64 a0, .int .i64 a1, .slice A2 l2.length c2] rfl (by (try simp only [sD, sE, sF]); first | done | rfl) ?_; (with_reducible refine (spec_IsTree.calls k a0 a1 _ _ l2 false _ ?side1 ?side2 A4.out).mono ?_); (case side1 => repeat (first | exact HR2.out | (with_reducible refine Kd.C_alloc ?_ _) | (with_reducible refine Kd.C_drewN ?_ _) | (with_reducible refine Kd.C_drew ?_))); (case side2 => exact HC2.out); rintro e w17 ⟨rfl, hb⟩; refine ⟨_, rfl, ?_⟩; have n0_ := Aside0.mk (below_step (bX HB.out) hb); clear HB; have HB := n0_; clear n0_; (try clear hb); (try clear hb2); (try clear hk); (try clear hi)) | ((with_reducible refine gate_dst (N := 13) rfl ?_); refine Kd.R_lit k41 _ 41 ?hg (N := 13) ?hd (xs := ([] : List (S41))) (inner := []) (ok := fun _ => True) (okp := fun _ => True) ?hr ?hp (fun _ hk => hk) trivial (Below.refl _ _) (Nat.le_refl _) (by simp) ?_; (case hd => rfl); (case hg => rfl); (case hr => first | (go_simp; done) | (go_simp; rfl)); (case hp => exact (Reps.none _ _)); intro v309 w18 ho19 hb hg_ hnew_; clear hg_ hnew_; (first | rw [← Ny308.out] at ho19 | (simp only [Int.reduceToNat] at ho19; rw [← Ny308.out] at ho19)); have n0_ := Aside0.mk (Kd.R_lower ho19 (below_size (bX HB.out))); have n1_ := Aside0.mk (below_step (bX HB.out) hb); clear HB; have HO310 := n0_; have HB := n1_; clear n0_ n1_; clear hb ho19))
  go_ret2
  exact ⟨_, by first | rfl | (simp [*, errW_none, errW_some] <;> rfl), rX HO310.out, bX HB.out⟩
def laws_toLink.f (a0_0 : Int) (a0_1 : Int) (a0_2 : Bool) : Option (Int × Int × Bool) := some (a0_0, a0_1, a0_2)
set_option maxHeartbeats 8000000 in
set_option maxRecDepth 100000 in
theorem laws_toLink.calls (a0_0 : Int) (a0_1 : Int) (a0_2 : Bool) (r1 : Int) (r2 : Int) (r3 : Bool) (w : World) (h : laws_toLink.f a0_0 a0_1 a0_2 = some (r1, r2, r3)) :
  Calls Try.prog 100 #[.agg #[.int .i64 a0_0, .int .i64 a0_1, .bool a0_2]] w fun e w' => e = .returned (.agg #[.int .i64 r1, .int .i64 r2, .bool r3]) ∧ Below w.heap.size w w' := by
 have hu120 := Try.underlying120
 have hu50 := Try.underlying50
 have HB := Aside0.mk (Below.refl w.heap.size w)
 have H : (some (a0_0, a0_1, a0_2)) = some (r1, r2, r3) := h
 clear h
 simp only [Option.some.injEq, Prod.mk.injEq] at H
 obtain ⟨rfl, rfl, rfl⟩ := H
 go_enter Try.func100, Try.ntmps100
 go_wp2_with (first | ((with_reducible refine gate_dst (N := 1) rfl ?_); refine box_event ?hg (N := 1) ?hd (cs := #[.int .i64 a0_0, .int .i64 a0_1, .bool a0_2]) (t := 120) ?hr ?_; (case hd => rfl); (case hg => rfl); (case hr => first | (go_simp; done) | (go_simp; rfl)); intro gb323 hg w2 hbox hb; have n0_ := Aside0.mk (below_step (bX HB.out) hb); have n1_ := Aside0.mk (hbox); have n2_ := Aside0.mk ((by rw [hg]; exact (below_size (bX HB.out)) : w.heap.size ≤ gb323)); have n3_ := Aside0.mk ((by rw [hg]; exact (below_size (bX HB.out)) : w.heap.size ≤ gb323)); clear HB; have HB := n0_; have BK323 := n1_; have GW323 := n2_; have GE323 := n3_; clear n0_ n1_ n2_ n3_; clear hb hbox hg) | ((with_reducible refine gate_dst (N := 2) rfl ?_); refine box_event ?hg (N := 2) ?hd (cs := #[.int .i64 0, .int .i64 0, .bool false]) (t := 50) ?hr ?_; (case hd => rfl); (case hg => rfl); (case hr => first | (go_simp; done) | (go_simp; rfl)); intro gb324 hg w3 hbox hb; have n0_ := Aside0.mk (blk_below (g := gb323) (o := .cells #[.int .i64 a0_0, .int .i64 a0_1, .bool a0_2] 120 (0, 0)) (kX BK323.out) hb); have n1_ := Aside0.mk (below_step (by repeat (with_reducible first | exact HB.out | apply below_alloc | apply pw_below_drewN | apply below_drew1 | refine below_set ?_ GE323.out)) hb); have n2_ := Aside0.mk (hbox); have n3_ := Aside0.mk ((by rw [hg]; exact (below_size (by repeat (with_reducible first | exact HB.out | apply below_alloc | apply pw_below_drewN | apply below_drew1 | refine below_set ?_ GE323.out))) : w.heap.size ≤ gb324)); have n4_ := Aside0.mk ((by rw [hg]; exact (below_size (by repeat (with_reducible first | exact HB.out | apply below_alloc | apply pw_below_drewN | apply below_drew1 | refine below_set ?_ GE323.out))) : w.heap.size ≤ gb324)); have n5_ := Aside0.mk ((by rw [hg]; exact Nat.ne_of_lt (blk_lt (g := gb323) (o := .cells #[.int .i64 a0_0, .int .i64 a0_1, .bool a0_2] 120 (0, 0)) (kX BK323.out)) : gb323 ≠ gb324)); have n6_ := Aside0.mk ((by rw [hg]; exact Nat.ne_of_gt (blk_lt (g := gb323) (o := .cells #[.int .i64 a0_0, .int .i64 a0_1, .bool a0_2] 120 (0, 0)) (kX BK323.out)) : gb324 ≠ gb323)); clear BK323; clear HB; have BK323 := n0_; have HB := n1_; have BK324 := n2_; have GW324 := n3_; have GE324 := n4_; have NB323_324 := n5_; have NB324_323 := n6_; clear n0_ n1_ n2_ n3_ n4_ n5_ n6_; clear hb hbox hg) | ((with_reducible refine gate_dst (N := 3) rfl ?_); refine box_event ?hg (N := 3) ?hd (cs := #[.int .i64 0, .int .i64 0, .bool false]) (t := 50) ?hr ?_; (case hd => rfl); (case hg => rfl); (case hr => first | (go_simp; done) | (go_simp; rfl)); intro gb325 hg w4 hbox hb; have n0_ := Aside0.mk (blk_below (g := gb323) (o := .cells #[.int .i64 a0_0, .int .i64 a0_1, .bool a0_2] 120 (0, 0)) (kX BK323.out) hb); have n1_ := Aside0.mk (blk_below (g := gb324) (o := .cells #[.int .i64 0, .int .i64 0, .bool false] 50 (0, 0)) (kX BK324.out) hb); have n2_ := Aside0.mk (below_step (by repeat (with_reducible first | exact HB.out | apply below_alloc | apply pw_below_drewN | apply below_drew1 | refine below_set ?_ GE323.out | refine below_set ?_ GE324.out)) hb); have n3_ := Aside0.mk (hbox); have n4_ := Aside0.mk ((by rw [hg]; exact (below_size (by repeat (with_reducible first | exact HB.out | apply below_alloc | apply pw_below_drewN | apply below_drew1 | refine below_set ?_ GE323.out | refine below_set ?_ GE324.out))) : w.heap.size ≤ gb325)); have n5_ := Aside0.mk ((by rw [hg]; exact (below_size (by repeat (with_reducible first | exact HB.out | apply below_alloc | apply pw_below_drewN | apply below_drew1 | refine below_set ?_ GE323.out | refine below_set ?_ GE324.out))) : w.heap.size ≤ gb325)); have n6_ := Aside0.mk ((by rw [hg]; exact Nat.ne_of_lt (blk_lt (g := gb323) (o := .cells #[.int .i64 a0_0, .int .i64 a0_1, .bool a0_2] 120 (0, 0)) (kX BK323.out)) : gb323 ≠ gb325)); have n7_ := Aside0.mk ((by rw [hg]; exact Nat.ne_of_gt (blk_lt (g := gb323) (o := .cells #[.int .i64 a0_0, .int .i64 a0_1, .bool a0_2] 120 (0, 0)) (kX BK323.out)) : gb325 ≠ gb323)); have n8_ := Aside0.mk ((by rw [hg]; exact Nat.ne_of_lt (blk_lt (g := gb324) (o := .cells #[.int .i64 0, .int .i64 0, .bool false] 50 (0, 0)) (kX BK324.out)) : gb324 ≠ gb325)); have n9_ := Aside0.mk ((by rw [hg]; exact Nat.ne_of_gt (blk_lt (g := gb324) (o := .cells #[.int .i64 0, .int .i64 0, .bool false] 50 (0, 0)) (kX BK324.out)) : gb325 ≠ gb324)); clear BK323; clear BK324; clear HB; have BK323 := n0_; have BK324 := n1_; have HB := n2_; have BK325 := n3_; have GW325 := n4_; have GE325 := n5_; have NB323_325 := n6_; have NB325_323 := n7_; have NB324_325 := n8_; have NB325_324 := n9_; clear n0_ n1_ n2_ n3_ n4_ n5_ n6_ n7_ n8_ n9_; clear hb hbox hg; have hnb5 := NB323_324.out; have hnc5 := NB324_323.out; have hnb6 := NB323_325.out; have hnc6 := NB325_323.out; have hcz7_0 : w4.cell? ⟨gb323, 0, none⟩ = some (.int .i64 a0_0) := (blk_cell BK323.out 0).trans rfl; have hcz7_1 : w4.cell? ⟨gb323, 1, none⟩ = some (.int .i64 a0_1) := (blk_cell BK323.out 1).trans rfl; have hcz7_2 : w4.cell? ⟨gb323, 2, none⟩ = some (.bool a0_2) := (blk_cell BK323.out 2).trans rfl; have hfz7_0 := blk_frozen BK323.out 0; have hfz7_1 := blk_frozen BK323.out 1; have hfz7_2 := blk_frozen BK323.out 2; have hnb8 := NB325_324.out; have hnc8 := NB324_325.out; have hcz9_0 : w4.cell? ⟨gb325, 0, none⟩ = some (.int .i64 0) := (blk_cell BK325.out 0).trans rfl; have hcz9_1 : w4.cell? ⟨gb325, 1, none⟩ = some (.int .i64 0) := (blk_cell BK325.out 1).trans rfl; have hcz9_2 : w4.cell? ⟨gb325, 2, none⟩ = some (.bool false) := (blk_cell BK325.out 2).trans rfl; have hfz9_0 := blk_frozen BK325.out 0; have hfz9_1 := blk_frozen BK325.out 1; have hfz9_2 := blk_frozen BK325.out 2; have hcz10_0 : w4.cell? ⟨gb324, 0, none⟩ = some (.int .i64 0) := (blk_cell BK324.out 0).trans rfl; have hcz10_1 : w4.cell? ⟨gb324, 1, none⟩ = some (.int .i64 0) := (blk_cell BK324.out 1).trans rfl; have hcz10_2 : w4.cell? ⟨gb324, 2, none⟩ = some (.bool false) := (blk_cell BK324.out 2).trans rfl; have hfz10_0 := blk_frozen BK324.out 0; have hfz10_1 := blk_frozen BK324.out 1; have hfz10_2 := blk_frozen BK324.out 2))
 refine bodyPost_ret (results_cell_row rfl _ _ gb324 50 #[.int .i64 a0_0, .int .i64 a0_1, .bool a0_2] (0, 0) _ rfl (by (with_reducible repeat (first | refine blk_drewN ?_ _ | refine blk_drew ?_ | refine blk_alloc ?_ _)); refine blk_put (cs := #[.int .i64 a0_0, .int .i64 a0_1, .bool false]) ?_ 2 _ rfl; (with_reducible repeat (first | refine blk_drewN ?_ _ | refine blk_drew ?_ | refine blk_alloc ?_ _)); refine blk_put (cs := #[.int .i64 a0_0, .int .i64 0, .bool false]) ?_ 1 _ rfl; (with_reducible repeat (first | refine blk_drewN ?_ _ | refine blk_drew ?_ | refine blk_alloc ?_ _)); refine blk_put (cs := #[.int .i64 0, .int .i64 0, .bool false]) ?_ 0 _ rfl; (with_reducible repeat (first | refine blk_drewN ?_ _ | refine blk_drew ?_ | refine blk_alloc ?_ _)); refine blk_far ?_ NB324_325.out _; (with_reducible repeat (first | refine blk_drewN ?_ _ | refine blk_drew ?_ | refine blk_alloc ?_ _)); refine blk_far ?_ NB324_325.out _; (with_reducible repeat (first | refine blk_drewN ?_ _ | refine blk_drew ?_ | refine blk_alloc ?_ _)); refine blk_far ?_ NB324_325.out _; (with_reducible repeat (first | refine blk_drewN ?_ _ | refine blk_drew ?_ | refine blk_alloc ?_ _)); exact BK324.out) Try.underlying50 rfl (by kernel_rfl)) rfl ?_
 exact ⟨by first | rfl | (simp [*, errW_none, errW_some] <;> rfl), by repeat (with_reducible first | exact HB.out | apply below_alloc | apply pw_below_drewN | apply below_drew1 | refine below_set ?_ GE323.out | refine below_set ?_ GE324.out | refine below_set ?_ GE325.out)⟩
def laws_toLinkS.l0 : Nat → List (S120) → List (S50) → Int → Option ((List (S50)))
 | 0, _, _, _ => none
 | k + 1, x0, x3, x4 => if x4 < (x0.length : Int) then (if 0 ≤ x4 then ((laws_toLink.f ((rd_T120 x0 x4).f0) ((rd_T120 x0 x4).f1) ((rd_T120 x0 x4).f2)).bind fun bt330 => (if x4 < (x3.length : Int) then (laws_toLinkS.l0 k x0 (x3.set (x4 : Int).toNat (⟨bt330.1, bt330.2.1, bt330.2.2⟩ : S50)) (wrap64 (x4 + 1))) else (none))) else (none)) else (some x3)
def laws_toLinkS.f (k : Nat) (l0 : List (S120)) : Option ((List (S50))) := if 0 ≤ (l0.length : Int) then (if ((l0.length : Int) : Int).toNat ≤ 11728124029610 then (laws_toLinkS.l0 k l0 (List.replicate ((l0.length : Int) : Int).toNat z50) 0) else (none)) else (none)
theorem laws_toLinkS.mono_l : ∀ k, (∀ y0 y1 y2, LeO (laws_toLinkS.l0 k y0 y1 y2) (laws_toLinkS.l0 (k + 1) y0 y1 y2))
 | 0 => fun _ _ _ r h => by simp [laws_toLinkS.l0] at h
 | k + 1 => by
  have ih0 := laws_toLinkS.mono_l k
  ·intro y0 y1 y2
   unfold laws_toLinkS.l0
   repeat' with_reducible first
   | exact ih0 _ _ _
   | exact LeO.refl _
   | exact LeO.none _
   | refine LeO.ite ?_ ?_
   | refine LeO.bind ?_ (fun _ => ?_)
theorem laws_toLinkS.mono : ∀ a0 k, LeO (laws_toLinkS.f k a0) (laws_toLinkS.f (k + 1) a0) := by
 intro a0 k
 have ih0 := laws_toLinkS.mono_l k
 unfold laws_toLinkS.f
 repeat' first
   | (with_reducible exact ih0 _ _ _)
   | (with_reducible exact LeO.refl _)
   | (with_reducible exact LeO.none _)
   | (with_reducible refine LeO.ite ?_ ?_)
   | (with_reducible refine LeO.bind ?_ (fun _ => ?_))
   | exact ih0 _ _ _
   | exact LeO.none _
   | refine LeO.ite ?_ ?_
   | refine LeO.bind ?_ (fun _ => ?_)
set_option maxHeartbeats 8000000 in
set_option maxRecDepth 100000 in
theorem laws_toLinkS.calls (k : Nat) (A0 : Option Addr) (c0 : Nat) (l0 : List (S120)) (r : List (S50)) (w : World) (hr0 : Kd.C k120 w A0 l0.length l0) (hc0 : l0.length ≤ c0) (h : laws_toLinkS.f k l0 = some r) :
  Calls Try.prog 35 #[.slice A0 l0.length c0] w fun e w' => ∃ v0_ : Value, e = .returned (v0_) ∧ Kd.R k50 50 w' w.heap.size (fun _ => True) v0_ r ∧ Below w.heap.size w w' := by
 have hu120 := Try.underlying120
 have hu50 := Try.underlying50
 have HR0 := Aside0.mk hr0
 have HC0 := Aside0.mk hc0
 clear hr0 hc0
 have HB := Aside0.mk (Below.refl w.heap.size w)
 have H : (if 0 ≤ (l0.length : Int) then (if ((l0.length : Int) : Int).toNat ≤ 11728124029610 then (laws_toLinkS.l0 k l0 (List.replicate ((l0.length : Int) : Int).toNat z50) 0) else (none)) else (none)) = some r := h
 clear h
 by_cases c2 : 0 ≤ (l0.length : Int)
 ·rw [if_pos c2] at H
  have c2b0 := eq_true c2
  have c2b1 : decide (0 ≤ (l0.length : Int)) = true := decide_eq_true c2
  clear c2
  by_cases c3 : ((l0.length : Int) : Int).toNat ≤ 11728124029610
  ·rw [if_pos c3] at H
   have c3b0 := eq_true c3
   have c3b1 : decide (((l0.length : Int) : Int).toNat ≤ 11728124029610) = true := decide_eq_true c3
   clear c3
   obtain ⟨y326, hy326⟩ : ∃ y_ : List (S50), y_ = (List.replicate ((l0.length : Int) : Int).toNat z50) := ⟨_, rfl⟩
   replace H : (laws_toLinkS.l0 k l0 y326 0) = some r := by first | (rw [hy326]; with_reducible exact H) | (have H2_ := (Option.bind_some _ _).symm.trans H; rw [hy326]; with_reducible exact H2_) | (have H2_ := (Option.bind_some _ _).symm.trans H; with_reducible exact H2_) | with_reducible exact H | (rw [hy326]; exact H) | exact H
   have Ny326 := Aside0.mk hy326
   clear hy326
   have H' := Aside0.mk H
   clear H
   go_enter Try.func35, Try.ntmps35
   go_wp2_with (first | ((with_reducible refine gate_dst (N := 7) rfl ?_); refine Kd.R_make k50 _ 50 rfl (N := 7) rfl 44 _ _ rfl (l0.length : Int) rfl rfl Try.underlying44 (.agg #[(.int .i64 0), (.int .i64 0), (.bool false)]) 24 info50 rfl (by decide) (by omega) z50 (ok := fun _ => True) (okp := fun _ => True) (k50_mkM _ _ _ z50 ) (fun _ hk => hk) trivial (of_decide_eq_true (by assumption)) (Nat.le_trans (Nat.mul_le_mul_right _ (of_decide_eq_true (by assumption) : (l0.length : Int).toNat ≤ 11728124029610)) (by omega)) (Below.refl _ _) (Nat.le_refl _) ?_; intro v327 w4 ho5 hb hg_ hnew_; clear hg_ hnew_; (first | rw [← Ny326.out] at ho5 | (simp only [Int.reduceToNat] at ho5; rw [← Ny326.out] at ho5)); have n0_ := Aside0.mk (Kd.R_lower ho5 (below_size (bX HB.out))); have n1_ := Aside0.mk (below_step (bX HB.out) hb); clear HB; have HO328 := n0_; have HB := n1_; clear n0_ n1_; clear hb ho5))
   go_loopg [4] k (fun kq v4 w' => ∃ (x3_1 : List (S50)) (x4_1 : Int), v4 = .int .i64 x4_1 ∧ Aside0 (laws_toLinkS.l0 kq l0 x3_1 x4_1 = some r) ∧ Aside0 (kq ≤ k) ∧ Aside0 (Kd.R k50 50 w' w.heap.size (fun _ => True) v327 x3_1) ∧ Aside0 (Below w.heap.size w w'))
   case atStart => exact ⟨(y326), (0), (by first | rfl | (simp; done) | (simp [*]; done)), H', ⟨Nat.le_refl _⟩, ⟨rX HO328.out⟩, ⟨bX HB.out⟩⟩
   case round =>
    clear H'
    try clear c2
    try clear c2b0
    try clear c2b1
    try clear p2
    try clear c3
    try clear c3b0
    try clear c3b1
    obtain ⟨x3_1, x4_1, rfl, HA, HK1, HO_3, HB⟩ := hrel
    cases gk with
    | zero => exact absurd HA.out (by simp [laws_toLinkS.l0])
    | succ k1 =>
     have H := HA.out
     clear HA
     simp only [laws_toLinkS.l0] at H
     by_cases c6 : x4_1 < (l0.length : Int)
     ·rw [if_pos c6] at H
      have c6b0 : decide (x4_1 < (l0.length : Int)) = true := decide_eq_true c6
      clear c6
      by_cases c7 : 0 ≤ x4_1
      ·rw [if_pos c7] at H
       have c7b0 : decide (0 ≤ x4_1) = true := decide_eq_true c7
       clear c7
       replace H := Option.bind_eq_some_iff.mp H
       obtain ⟨⟨t330, t331, t332⟩, A80, H⟩ := H
       replace H : (if x4_1 < (x3_1.length : Int) then (laws_toLinkS.l0 k1 l0 (x3_1.set (x4_1 : Int).toNat (⟨t330, t331, t332⟩ : S50)) (wrap64 (x4_1 + 1))) else (none)) = some r := H
       have A8 := Aside0.mk A80
       clear A80
       by_cases c9 : x4_1 < (x3_1.length : Int)
       ·rw [if_pos c9] at H
        have c9b0 : decide (x4_1 < (x3_1.length : Int)) = true := decide_eq_true c9
        clear c9
        obtain ⟨y333, hy333⟩ : ∃ y_ : List (S50), y_ = (x3_1.set (x4_1 : Int).toNat (⟨t330, t331, t332⟩ : S50)) := ⟨_, rfl⟩
        replace H : (laws_toLinkS.l0 k1 l0 y333 (wrap64 (x4_1 + 1))) = some r := by first | (rw [hy333]; with_reducible exact H) | (have H2_ := (Option.bind_some _ _).symm.trans H; rw [hy333]; with_reducible exact H2_) | (have H2_ := (Option.bind_some _ _).symm.trans H; with_reducible exact H2_) | with_reducible exact H | (rw [hy333]; exact H) | exact H
        have Ny333 := Aside0.mk hy333
        clear hy333
        have H' := Aside0.mk H
        clear H
        have p329 : 0 ≤ (x4_1 : Int) := of_decide_eq_true (by assumption)
        have q329 : x4_1 < (l0.length : Int) := of_decide_eq_true (by assumption)
        obtain ⟨ad329, e329, hx329_0, hx329_1, hx329_2⟩ := at_T120 HR0.out x4_1 p329 q329
        cases e329
        replace hx329_0 := (HB.out.cell (World.block_lt_of_cell? w _ hx329_0)).trans hx329_0
        replace hx329_1 := (HB.out.cell (World.block_lt_of_cell? w _ hx329_1)).trans hx329_1
        replace hx329_2 := (HB.out.cell (World.block_lt_of_cell? w _ hx329_2)).trans hx329_2
        replace p329 := eq_true p329
        replace q329 := eq_true q329
        go_wp2_with (first | ((with_reducible refine gate_callee (f := 100) rfl ?_); refine goesL_ (some 20) rfl rfl Try.func100 (by kernel_rfl) rfl #[.agg #[.int .i64 ((rd_T120 l0 x4_1).f0), .int .i64 ((rd_T120 l0 x4_1).f1), .bool ((rd_T120 l0 x4_1).f2)]] rfl (by (try simp only [sD, sE, sF]); first | done | rfl) ?_; (with_reducible refine (laws_toLink.calls ((rd_T120 l0 x4_1).f0) ((rd_T120 l0 x4_1).f1) ((rd_T120 l0 x4_1).f2) t330 t331 t332 _ A8.out).mono ?_); rintro e w11 ⟨rfl, hb⟩; refine ⟨_, rfl, ?_⟩; have n0_ := Aside0.mk (Kd.R_below (rX HO_3.out) hb); have n1_ := Aside0.mk (below_step (bX HB.out) hb); clear HO_3; clear HB; have HO_3 := n0_; have HB := n1_; clear n0_ n1_; (try clear hb); (try clear hb2); (try clear hk); (try clear hi); have p10 : 0 ≤ (x4_1 : Int) := of_decide_eq_true (by assumption); have q10 : (x4_1 : Int) < ((x3_1.length : Int) : Int) := of_decide_eq_true (by assumption); obtain ⟨go10, co10, eo10, gb10, gl10, cl10, HG10⟩ := Kd.R_form HO_3.out (by omega); (first | cases eo10 | (injection eo10 with ea_ en_ ec_; (first | subst ea_ | (injection ea_ with ea_; subst ea_)); subst ec_; clear en_)); have GB10 := Aside0.mk gb10; have GG10 := Aside0.mk HG10; clear gb10 gl10 HG10; obtain ⟨ce10, hcl10, hM10, hcc10, hfr10⟩ := Kd.R_elem HO_3.out z50 (x4_1 : Int) p10 q10; obtain rfl := k50_openM hM10; have hx10_0 : w11.cell? ⟨go10, (x4_1 : Int).toNat * 3, none⟩ = some (.int .i64 ((rd_T50 x3_1 x4_1).f0)) := hcc10 0 _ rfl; have hx10_1 : w11.cell? ⟨go10, (x4_1 : Int).toNat * 3 + 1, none⟩ = some (.int .i64 ((rd_T50 x3_1 x4_1).f1)) := hcc10 1 _ rfl; have hx10_2 : w11.cell? ⟨go10, (x4_1 : Int).toNat * 3 + 2, none⟩ = some (.bool ((rd_T50 x3_1 x4_1).f2)) := hcc10 2 _ rfl; have hf10_0 : w11.frozen? ⟨go10, (x4_1 : Int).toNat * 3, none⟩ = false := hfr10 0; have hf10_1 : w11.frozen? ⟨go10, (x4_1 : Int).toNat * 3 + 1, none⟩ = false := hfr10 1; have hf10_2 : w11.frozen? ⟨go10, (x4_1 : Int).toNat * 3 + 2, none⟩ = false := hfr10 2; clear hcl10 hcc10 hfr10 hM10; replace p10 := eq_true p10; replace q10 := eq_true q10; have HX12 := Aside0.mk (show Kd.R k50 50 w11 w.heap.size (fun _ => True) (.slice (some ⟨go10, 0, none⟩) x3_1.length co10) x3_1 from (rX HO_3.out)); obtain ⟨ce12, hcl12, hM12, hcc12, hfr12⟩ := Kd.R_elem HX12.out z50 (x4_1 : Int) (of_decide_eq_true (by assumption)) (by have h_ : (x4_1 : Int) < ((x3_1.length : Int) : Int) := of_decide_eq_true (by assumption); first | exact h_ | (have e_ := (Kd.R_reads' HO_3.out).1; omega) | simpa using h_); obtain rfl := k50_openM hM12; have HP12 := Kd.R_seg HX12.out (x4_1 : Int) (of_decide_eq_true (by assumption)) (by have h_ : (x4_1 : Int) < ((x3_1.length : Int) : Int) := of_decide_eq_true (by assumption); first | exact h_ | (have e_ := (Kd.R_reads' HO_3.out).1; omega) | simpa using h_) (seg := [.int .i64 t330, .int .i64 t331, .bool t332]) (j := 0) hcl12 hcc12 (show 3 ≤ 3 from by decide) (x' := (⟨t330, t331, t332⟩ : S50)) (k50_mkM _ _ _ (⟨t330, t331, t332⟩ : S50) ) (fun _ hk => hk); have hx12_0 := hcc12 0 _ rfl; (try simp only [show (k50).sz = 3 from rfl, Nat.mul_one, Nat.add_zero] at hx12_0); have hf12_0 := hfr12 0; (try simp only [show (k50).sz = 3 from rfl, Nat.mul_one, Nat.add_zero] at hf12_0); have hx12_1 := hcc12 1 _ rfl; (try simp only [show (k50).sz = 3 from rfl, Nat.mul_one, Nat.add_zero] at hx12_1); have hf12_1 := hfr12 1; (try simp only [show (k50).sz = 3 from rfl, Nat.mul_one, Nat.add_zero] at hf12_1); have hx12_2 := hcc12 2 _ rfl; (try simp only [show (k50).sz = 3 from rfl, Nat.mul_one, Nat.add_zero] at hx12_2); have hf12_2 := hfr12 2; (try simp only [show (k50).sz = 3 from rfl, Nat.mul_one, Nat.add_zero] at hf12_2); clear hcl12 hcc12 hfr12 hM12) | ((with_reducible refine gate_store (t := 50) (p := 21) rfl ?_); refine store_event (t := 50) (p := 21) (v := ?vo_w13) (w1 := (((w11.setCell ⟨go10, (x4_1 : Int).toNat * 3, none⟩ (.int .i64 t330)).setCell ⟨go10, (x4_1 : Int).toNat * 3 + 1, none⟩ (.int .i64 t331)).setCell ⟨go10, (x4_1 : Int).toNat * 3 + 2, none⟩ (.bool t332))) ?hg ?ho ?hn ?hr ?_; (case ho => rfl); (case hg => rfl); (case hn => rfl); (case hr => first | (go_simp; done) | (go_simp; rfl)); intro w13 hw; have hg : w11.grownBy w13 (some go10) := (by rw [hw]; exact HP12.2); have hp_ : Kd.R k50 50 w13 w.heap.size (fun _ => True) (.slice (some ⟨go10, 0, none⟩) x3_1.length co10) y333 := (by rw [hw, Ny333.out]; exact HP12.1); clear HP12; have n0_ := Aside0.mk (hp_); have n1_ := Aside0.mk ((by rw [hw]; exact below_set (below_set (below_set (HB.out) GB10.out) GB10.out) GB10.out : Below w.heap.size w w13)); clear HO_3; clear HB; have HO_3 := n0_; have HB := n1_; clear n0_ n1_; clear hg hw hp_))
        go_roundg k1
        case measure => have := HK1.out; omega
        case rel => exact ⟨(y333), (wrap64 (x4_1 + 1)), (by first | rfl | (simp; done) | (simp [*]; done)), H', ⟨by have := HK1.out; omega⟩, ⟨rX HO_3.out⟩, ⟨bX HB.out⟩⟩
       ·rw [if_neg c9] at H
        exact absurd H (by simp)
      ·rw [if_neg c7] at H
       exact absurd H (by simp)
     ·rw [if_neg c6] at H
      have c6b0 : decide (x4_1 < (l0.length : Int)) = false := decide_eq_false c6
      clear c6
      obtain rfl := Option.some.inj H
      go_wp2
      go_ret
      exact ⟨_, by first | rfl | (simp [*, errW_none, errW_some] <;> rfl), rX HO_3.out, bX HB.out⟩
  ·rw [if_neg c3] at H
   exact absurd H (by simp)
 ·rw [if_neg c2] at H
  exact absurd H (by simp)
def laws_eqDomino.f (a0_0 : Int) (a0_1 : Int) (a0_2 : Bool) (a1_0 : Int) (a1_1 : Int) (a1_2 : Bool) : Option (Bool) := if a0_0 = a1_0 then (if a0_1 = a1_1 then (if (a0_2 != a1_2) = true then (some false) else (some true)) else (some false)) else (some false)
set_option maxHeartbeats 8000000 in
set_option maxRecDepth 100000 in
theorem laws_eqDomino.calls (a0_0 : Int) (a0_1 : Int) (a0_2 : Bool) (a1_0 : Int) (a1_1 : Int) (a1_2 : Bool) (r : Bool) (w : World) (h : laws_eqDomino.f a0_0 a0_1 a0_2 a1_0 a1_1 a1_2 = some r) :
  Calls Try.prog 101 #[.agg #[.int .i64 a0_0, .int .i64 a0_1, .bool a0_2], .agg #[.int .i64 a1_0, .int .i64 a1_1, .bool a1_2]] w fun e w' => e = .returned (.bool r) ∧ Below w.heap.size w w' := by
 have hu41 := Try.underlying41
 have HB := Aside0.mk (Below.refl w.heap.size w)
 have H : (if a0_0 = a1_0 then (if a0_1 = a1_1 then (if (a0_2 != a1_2) = true then (some false) else (some true)) else (some false)) else (some false)) = some r := h
 clear h
 by_cases c3 : a0_0 = a1_0
 ·rw [if_pos c3] at H
  have c3b0 : (a0_0 == a1_0) = true := beq_iff_eq.mpr c3
  have c3b1 : (a0_0 != a1_0) = false := bne_eq_false_iff_eq.mpr c3
  clear c3
  by_cases c4 : a0_1 = a1_1
  ·rw [if_pos c4] at H
   have c4b0 : (a0_1 == a1_1) = true := beq_iff_eq.mpr c4
   have c4b1 : (a0_1 != a1_1) = false := bne_eq_false_iff_eq.mpr c4
   clear c4
   by_cases c5 : (a0_2 != a1_2) = true
   ·rw [if_pos c5] at H
    have c5b0 : (a0_2 != a1_2) = true := c5
    (try (have c5b1 : decide (a0_2 = a1_2) = false := by simpa using c5))
    (try (have c5b2 : (a0_2 == a1_2) = false := by simpa using c5))
    (try (have c5b3 : ¬ (a0_2 = a1_2) := by simpa using c5))
    clear c5
    obtain rfl := Option.some.inj H
    go_enter Try.func101, Try.ntmps101
    go_wp2_with (first | ((with_reducible refine gate_dst (N := 2) rfl ?_); refine box_event ?hg (N := 2) ?hd (cs := #[.int .i64 a0_0, .int .i64 a0_1, .bool a0_2]) (t := 41) ?hr ?_; (case hd => rfl); (case hg => rfl); (case hr => first | (go_simp; done) | (go_simp; rfl)); intro gb334 hg w6 hbox hb; have n0_ := Aside0.mk (below_step (bX HB.out) hb); have n1_ := Aside0.mk (hbox); have n2_ := Aside0.mk ((by rw [hg]; exact (below_size (bX HB.out)) : w.heap.size ≤ gb334)); have n3_ := Aside0.mk ((by rw [hg]; exact (below_size (bX HB.out)) : w.heap.size ≤ gb334)); clear HB; have HB := n0_; have BK334 := n1_; have GW334 := n2_; have GE334 := n3_; clear n0_ n1_ n2_ n3_; clear hb hbox hg) | ((with_reducible refine gate_dst (N := 3) rfl ?_); refine box_event ?hg (N := 3) ?hd (cs := #[.int .i64 a1_0, .int .i64 a1_1, .bool a1_2]) (t := 41) ?hr ?_; (case hd => rfl); (case hg => rfl); (case hr => first | (go_simp; done) | (go_simp; rfl)); intro gb335 hg w7 hbox hb; have n0_ := Aside0.mk (blk_below (g := gb334) (o := .cells #[.int .i64 a0_0, .int .i64 a0_1, .bool a0_2] 41 (0, 0)) (kX BK334.out) hb); have n1_ := Aside0.mk (below_step (by repeat (with_reducible first | exact HB.out | apply below_alloc | apply pw_below_drewN | apply below_drew1 | refine below_set ?_ GE334.out)) hb); have n2_ := Aside0.mk (hbox); have n3_ := Aside0.mk ((by rw [hg]; exact (below_size (by repeat (with_reducible first | exact HB.out | apply below_alloc | apply pw_below_drewN | apply below_drew1 | refine below_set ?_ GE334.out))) : w.heap.size ≤ gb335)); have n4_ := Aside0.mk ((by rw [hg]; exact (below_size (by repeat (with_reducible first | exact HB.out | apply below_alloc | apply pw_below_drewN | apply below_drew1 | refine below_set ?_ GE334.out))) : w.heap.size ≤ gb335)); have n5_ := Aside0.mk ((by rw [hg]; exact Nat.ne_of_lt (blk_lt (g := gb334) (o := .cells #[.int .i64 a0_0, .int .i64 a0_1, .bool a0_2] 41 (0, 0)) (kX BK334.out)) : gb334 ≠ gb335)); have n6_ := Aside0.mk ((by rw [hg]; exact Nat.ne_of_gt (blk_lt (g := gb334) (o := .cells #[.int .i64 a0_0, .int .i64 a0_1, .bool a0_2] 41 (0, 0)) (kX BK334.out)) : gb335 ≠ gb334)); clear BK334; clear HB; have BK334 := n0_; have HB := n1_; have BK335 := n2_; have GW335 := n3_; have GE335 := n4_; have NB334_335 := n5_; have NB335_334 := n6_; clear n0_ n1_ n2_ n3_ n4_ n5_ n6_; clear hb hbox hg; have hnb8 := NB334_335.out; have hnc8 := NB335_334.out; have hcz9_0 : w7.cell? ⟨gb334, 0, none⟩ = some (.int .i64 a0_0) := (blk_cell BK334.out 0).trans rfl; have hcz9_1 : w7.cell? ⟨gb334, 1, none⟩ = some (.int .i64 a0_1) := (blk_cell BK334.out 1).trans rfl; have hcz9_2 : w7.cell? ⟨gb334, 2, none⟩ = some (.bool a0_2) := (blk_cell BK334.out 2).trans rfl; have hfz9_0 := blk_frozen BK334.out 0; have hfz9_1 := blk_frozen BK334.out 1; have hfz9_2 := blk_frozen BK334.out 2; have hcz10_0 : w7.cell? ⟨gb335, 0, none⟩ = some (.int .i64 a1_0) := (blk_cell BK335.out 0).trans rfl; have hcz10_1 : w7.cell? ⟨gb335, 1, none⟩ = some (.int .i64 a1_1) := (blk_cell BK335.out 1).trans rfl; have hcz10_2 : w7.cell? ⟨gb335, 2, none⟩ = some (.bool a1_2) := (blk_cell BK335.out 2).trans rfl; have hfz10_0 := blk_frozen BK335.out 0; have hfz10_1 := blk_frozen BK335.out 1; have hfz10_2 := blk_frozen BK335.out 2))
    go_ret
    exact ⟨by first | rfl | (simp [*, errW_none, errW_some] <;> rfl), by repeat (with_reducible first | exact HB.out | apply below_alloc | apply pw_below_drewN | apply below_drew1 | refine below_set ?_ GE334.out | refine below_set ?_ GE335.out)⟩
   ·rw [if_neg c5] at H
    have c5b0 : (a0_2 != a1_2) = false := by simpa using c5
    (try (have c5b1 : decide (a0_2 = a1_2) = true := by simpa using c5))
    (try (have c5b2 : (a0_2 == a1_2) = true := by simpa using c5))
    clear c5
    obtain rfl := Option.some.inj H
    go_enter Try.func101, Try.ntmps101
    go_wp2_with (first | ((with_reducible refine gate_dst (N := 2) rfl ?_); refine box_event ?hg (N := 2) ?hd (cs := #[.int .i64 a0_0, .int .i64 a0_1, .bool a0_2]) (t := 41) ?hr ?_; (case hd => rfl); (case hg => rfl); (case hr => first | (go_simp; done) | (go_simp; rfl)); intro gb334 hg w11 hbox hb; have n0_ := Aside0.mk (below_step (bX HB.out) hb); have n1_ := Aside0.mk (hbox); have n2_ := Aside0.mk ((by rw [hg]; exact (below_size (bX HB.out)) : w.heap.size ≤ gb334)); have n3_ := Aside0.mk ((by rw [hg]; exact (below_size (bX HB.out)) : w.heap.size ≤ gb334)); clear HB; have HB := n0_; have BK334 := n1_; have GW334 := n2_; have GE334 := n3_; clear n0_ n1_ n2_ n3_; clear hb hbox hg) | ((with_reducible refine gate_dst (N := 3) rfl ?_); refine box_event ?hg (N := 3) ?hd (cs := #[.int .i64 a1_0, .int .i64 a1_1, .bool a1_2]) (t := 41) ?hr ?_; (case hd => rfl); (case hg => rfl); (case hr => first | (go_simp; done) | (go_simp; rfl)); intro gb335 hg w12 hbox hb; have n0_ := Aside0.mk (blk_below (g := gb334) (o := .cells #[.int .i64 a0_0, .int .i64 a0_1, .bool a0_2] 41 (0, 0)) (kX BK334.out) hb); have n1_ := Aside0.mk (below_step (by repeat (with_reducible first | exact HB.out | apply below_alloc | apply pw_below_drewN | apply below_drew1 | refine below_set ?_ GE334.out)) hb); have n2_ := Aside0.mk (hbox); have n3_ := Aside0.mk ((by rw [hg]; exact (below_size (by repeat (with_reducible first | exact HB.out | apply below_alloc | apply pw_below_drewN | apply below_drew1 | refine below_set ?_ GE334.out))) : w.heap.size ≤ gb335)); have n4_ := Aside0.mk ((by rw [hg]; exact (below_size (by repeat (with_reducible first | exact HB.out | apply below_alloc | apply pw_below_drewN | apply below_drew1 | refine below_set ?_ GE334.out))) : w.heap.size ≤ gb335)); have n5_ := Aside0.mk ((by rw [hg]; exact Nat.ne_of_lt (blk_lt (g := gb334) (o := .cells #[.int .i64 a0_0, .int .i64 a0_1, .bool a0_2] 41 (0, 0)) (kX BK334.out)) : gb334 ≠ gb335)); have n6_ := Aside0.mk ((by rw [hg]; exact Nat.ne_of_gt (blk_lt (g := gb334) (o := .cells #[.int .i64 a0_0, .int .i64 a0_1, .bool a0_2] 41 (0, 0)) (kX BK334.out)) : gb335 ≠ gb334)); clear BK334; clear HB; have BK334 := n0_; have HB := n1_; have BK335 := n2_; have GW335 := n3_; have GE335 := n4_; have NB334_335 := n5_; have NB335_334 := n6_; clear n0_ n1_ n2_ n3_ n4_ n5_ n6_; clear hb hbox hg; have hnb13 := NB334_335.out; have hnc13 := NB335_334.out; have hcz14_0 : w12.cell? ⟨gb334, 0, none⟩ = some (.int .i64 a0_0) := (blk_cell BK334.out 0).trans rfl; have hcz14_1 : w12.cell? ⟨gb334, 1, none⟩ = some (.int .i64 a0_1) := (blk_cell BK334.out 1).trans rfl; have hcz14_2 : w12.cell? ⟨gb334, 2, none⟩ = some (.bool a0_2) := (blk_cell BK334.out 2).trans rfl; have hfz14_0 := blk_frozen BK334.out 0; have hfz14_1 := blk_frozen BK334.out 1; have hfz14_2 := blk_frozen BK334.out 2; have hcz15_0 : w12.cell? ⟨gb335, 0, none⟩ = some (.int .i64 a1_0) := (blk_cell BK335.out 0).trans rfl; have hcz15_1 : w12.cell? ⟨gb335, 1, none⟩ = some (.int .i64 a1_1) := (blk_cell BK335.out 1).trans rfl; have hcz15_2 : w12.cell? ⟨gb335, 2, none⟩ = some (.bool a1_2) := (blk_cell BK335.out 2).trans rfl; have hfz15_0 := blk_frozen BK335.out 0; have hfz15_1 := blk_frozen BK335.out 1; have hfz15_2 := blk_frozen BK335.out 2))
    go_ret
    exact ⟨by first | rfl | (simp [*, errW_none, errW_some] <;> rfl), by repeat (with_reducible first | exact HB.out | apply below_alloc | apply pw_below_drewN | apply below_drew1 | refine below_set ?_ GE334.out | refine below_set ?_ GE335.out)⟩
  ·rw [if_neg c4] at H
   have c4b0 : (a0_1 == a1_1) = false := beq_eq_false_iff_ne.mpr c4
   have c4b1 : (a0_1 != a1_1) = true := bne_iff_ne.mpr c4
   obtain rfl := Option.some.inj H
   go_enter Try.func101, Try.ntmps101
   go_wp2_with (first | ((with_reducible refine gate_dst (N := 2) rfl ?_); refine box_event ?hg (N := 2) ?hd (cs := #[.int .i64 a0_0, .int .i64 a0_1, .bool a0_2]) (t := 41) ?hr ?_; (case hd => rfl); (case hg => rfl); (case hr => first | (go_simp; done) | (go_simp; rfl)); intro gb334 hg w16 hbox hb; have n0_ := Aside0.mk (below_step (bX HB.out) hb); have n1_ := Aside0.mk (hbox); have n2_ := Aside0.mk ((by rw [hg]; exact (below_size (bX HB.out)) : w.heap.size ≤ gb334)); have n3_ := Aside0.mk ((by rw [hg]; exact (below_size (bX HB.out)) : w.heap.size ≤ gb334)); clear HB; have HB := n0_; have BK334 := n1_; have GW334 := n2_; have GE334 := n3_; clear n0_ n1_ n2_ n3_; clear hb hbox hg) | ((with_reducible refine gate_dst (N := 3) rfl ?_); refine box_event ?hg (N := 3) ?hd (cs := #[.int .i64 a1_0, .int .i64 a1_1, .bool a1_2]) (t := 41) ?hr ?_; (case hd => rfl); (case hg => rfl); (case hr => first | (go_simp; done) | (go_simp; rfl)); intro gb335 hg w17 hbox hb; have n0_ := Aside0.mk (blk_below (g := gb334) (o := .cells #[.int .i64 a0_0, .int .i64 a0_1, .bool a0_2] 41 (0, 0)) (kX BK334.out) hb); have n1_ := Aside0.mk (below_step (by repeat (with_reducible first | exact HB.out | apply below_alloc | apply pw_below_drewN | apply below_drew1 | refine below_set ?_ GE334.out)) hb); have n2_ := Aside0.mk (hbox); have n3_ := Aside0.mk ((by rw [hg]; exact (below_size (by repeat (with_reducible first | exact HB.out | apply below_alloc | apply pw_below_drewN | apply below_drew1 | refine below_set ?_ GE334.out))) : w.heap.size ≤ gb335)); have n4_ := Aside0.mk ((by rw [hg]; exact (below_size (by repeat (with_reducible first | exact HB.out | apply below_alloc | apply pw_below_drewN | apply below_drew1 | refine below_set ?_ GE334.out))) : w.heap.size ≤ gb335)); have n5_ := Aside0.mk ((by rw [hg]; exact Nat.ne_of_lt (blk_lt (g := gb334) (o := .cells #[.int .i64 a0_0, .int .i64 a0_1, .bool a0_2] 41 (0, 0)) (kX BK334.out)) : gb334 ≠ gb335)); have n6_ := Aside0.mk ((by rw [hg]; exact Nat.ne_of_gt (blk_lt (g := gb334) (o := .cells #[.int .i64 a0_0, .int .i64 a0_1, .bool a0_2] 41 (0, 0)) (kX BK334.out)) : gb335 ≠ gb334)); clear BK334; clear HB; have BK334 := n0_; have HB := n1_; have BK335 := n2_; have GW335 := n3_; have GE335 := n4_; have NB334_335 := n5_; have NB335_334 := n6_; clear n0_ n1_ n2_ n3_ n4_ n5_ n6_; clear hb hbox hg; have hnb18 := NB334_335.out; have hnc18 := NB335_334.out; have hcz19_0 : w17.cell? ⟨gb334, 0, none⟩ = some (.int .i64 a0_0) := (blk_cell BK334.out 0).trans rfl; have hcz19_1 : w17.cell? ⟨gb334, 1, none⟩ = some (.int .i64 a0_1) := (blk_cell BK334.out 1).trans rfl; have hcz19_2 : w17.cell? ⟨gb334, 2, none⟩ = some (.bool a0_2) := (blk_cell BK334.out 2).trans rfl; have hfz19_0 := blk_frozen BK334.out 0; have hfz19_1 := blk_frozen BK334.out 1; have hfz19_2 := blk_frozen BK334.out 2; have hcz20_0 : w17.cell? ⟨gb335, 0, none⟩ = some (.int .i64 a1_0) := (blk_cell BK335.out 0).trans rfl; have hcz20_1 : w17.cell? ⟨gb335, 1, none⟩ = some (.int .i64 a1_1) := (blk_cell BK335.out 1).trans rfl; have hcz20_2 : w17.cell? ⟨gb335, 2, none⟩ = some (.bool a1_2) := (blk_cell BK335.out 2).trans rfl; have hfz20_0 := blk_frozen BK335.out 0; have hfz20_1 := blk_frozen BK335.out 1; have hfz20_2 := blk_frozen BK335.out 2))
   go_ret
   exact ⟨by first | rfl | (simp [*, errW_none, errW_some] <;> rfl), by repeat (with_reducible first | exact HB.out | apply below_alloc | apply pw_below_drewN | apply below_drew1 | refine below_set ?_ GE334.out | refine below_set ?_ GE335.out)⟩
 ·rw [if_neg c3] at H
  have c3b0 : (a0_0 == a1_0) = false := beq_eq_false_iff_ne.mpr c3
  have c3b1 : (a0_0 != a1_0) = true := bne_iff_ne.mpr c3
  obtain rfl := Option.some.inj H
  go_enter Try.func101, Try.ntmps101
  go_wp2_with (first | ((with_reducible refine gate_dst (N := 2) rfl ?_); refine box_event ?hg (N := 2) ?hd (cs := #[.int .i64 a0_0, .int .i64 a0_1, .bool a0_2]) (t := 41) ?hr ?_; (case hd => rfl); (case hg => rfl); (case hr => first | (go_simp; done) | (go_simp; rfl)); intro gb334 hg w21 hbox hb; have n0_ := Aside0.mk (below_step (bX HB.out) hb); have n1_ := Aside0.mk (hbox); have n2_ := Aside0.mk ((by rw [hg]; exact (below_size (bX HB.out)) : w.heap.size ≤ gb334)); have n3_ := Aside0.mk ((by rw [hg]; exact (below_size (bX HB.out)) : w.heap.size ≤ gb334)); clear HB; have HB := n0_; have BK334 := n1_; have GW334 := n2_; have GE334 := n3_; clear n0_ n1_ n2_ n3_; clear hb hbox hg) | ((with_reducible refine gate_dst (N := 3) rfl ?_); refine box_event ?hg (N := 3) ?hd (cs := #[.int .i64 a1_0, .int .i64 a1_1, .bool a1_2]) (t := 41) ?hr ?_; (case hd => rfl); (case hg => rfl); (case hr => first | (go_simp; done) | (go_simp; rfl)); intro gb335 hg w22 hbox hb; have n0_ := Aside0.mk (blk_below (g := gb334) (o := .cells #[.int .i64 a0_0, .int .i64 a0_1, .bool a0_2] 41 (0, 0)) (kX BK334.out) hb); have n1_ := Aside0.mk (below_step (by repeat (with_reducible first | exact HB.out | apply below_alloc | apply pw_below_drewN | apply below_drew1 | refine below_set ?_ GE334.out)) hb); have n2_ := Aside0.mk (hbox); have n3_ := Aside0.mk ((by rw [hg]; exact (below_size (by repeat (with_reducible first | exact HB.out | apply below_alloc | apply pw_below_drewN | apply below_drew1 | refine below_set ?_ GE334.out))) : w.heap.size ≤ gb335)); have n4_ := Aside0.mk ((by rw [hg]; exact (below_size (by repeat (with_reducible first | exact HB.out | apply below_alloc | apply pw_below_drewN | apply below_drew1 | refine below_set ?_ GE334.out))) : w.heap.size ≤ gb335)); have n5_ := Aside0.mk ((by rw [hg]; exact Nat.ne_of_lt (blk_lt (g := gb334) (o := .cells #[.int .i64 a0_0, .int .i64 a0_1, .bool a0_2] 41 (0, 0)) (kX BK334.out)) : gb334 ≠ gb335)); have n6_ := Aside0.mk ((by rw [hg]; exact Nat.ne_of_gt (blk_lt (g := gb334) (o := .cells #[.int .i64 a0_0, .int .i64 a0_1, .bool a0_2] 41 (0, 0)) (kX BK334.out)) : gb335 ≠ gb334)); clear BK334; clear HB; have BK334 := n0_; have HB := n1_; have BK335 := n2_; have GW335 := n3_; have GE335 := n4_; have NB334_335 := n5_; have NB335_334 := n6_; clear n0_ n1_ n2_ n3_ n4_ n5_ n6_; clear hb hbox hg; have hnb23 := NB334_335.out; have hnc23 := NB335_334.out; have hcz24_0 : w22.cell? ⟨gb334, 0, none⟩ = some (.int .i64 a0_0) := (blk_cell BK334.out 0).trans rfl; have hcz24_1 : w22.cell? ⟨gb334, 1, none⟩ = some (.int .i64 a0_1) := (blk_cell BK334.out 1).trans rfl; have hcz24_2 : w22.cell? ⟨gb334, 2, none⟩ = some (.bool a0_2) := (blk_cell BK334.out 2).trans rfl; have hfz24_0 := blk_frozen BK334.out 0; have hfz24_1 := blk_frozen BK334.out 1; have hfz24_2 := blk_frozen BK334.out 2; have hcz25_0 : w22.cell? ⟨gb335, 0, none⟩ = some (.int .i64 a1_0) := (blk_cell BK335.out 0).trans rfl; have hcz25_1 : w22.cell? ⟨gb335, 1, none⟩ = some (.int .i64 a1_1) := (blk_cell BK335.out 1).trans rfl; have hcz25_2 : w22.cell? ⟨gb335, 2, none⟩ = some (.bool a1_2) := (blk_cell BK335.out 2).trans rfl; have hfz25_0 := blk_frozen BK335.out 0; have hfz25_1 := blk_frozen BK335.out 1; have hfz25_2 := blk_frozen BK335.out 2))
  go_ret
  exact ⟨by first | rfl | (simp [*, errW_none, errW_some] <;> rfl), by repeat (with_reducible first | exact HB.out | apply below_alloc | apply pw_below_drewN | apply below_drew1 | refine below_set ?_ GE334.out | refine below_set ?_ GE335.out)⟩
def laws_eqDominoS.l0 : Nat → List (S41) → List (S41) → Int → Option (Bool)
 | 0, _, _, _ => none
 | k + 1, x0, x1, x5 => if x5 < (x0.length : Int) then (if 0 ≤ x5 then (if x5 < (x1.length : Int) then ((laws_eqDomino.f ((rd_T41 x0 x5).f0) ((rd_T41 x0 x5).f1) ((rd_T41 x0 x5).f2) ((rd_T41 x1 x5).f0) ((rd_T41 x1 x5).f1) ((rd_T41 x1 x5).f2)).bind fun t338 => (if t338 = true then (laws_eqDominoS.l0 k x0 x1 (wrap64 (x5 + 1))) else (some false))) else (none)) else (none)) else (some true)
def laws_eqDominoS.f (k : Nat) (l0 : List (S41)) (l1 : List (S41)) : Option (Bool) := if (l0.length : Int) = (l1.length : Int) then (laws_eqDominoS.l0 k l0 l1 0) else (some false)
theorem laws_eqDominoS.mono_l : ∀ k, (∀ y0 y1 y2, LeO (laws_eqDominoS.l0 k y0 y1 y2) (laws_eqDominoS.l0 (k + 1) y0 y1 y2))
 | 0 => fun _ _ _ r h => by simp [laws_eqDominoS.l0] at h
 | k + 1 => by
  have ih0 := laws_eqDominoS.mono_l k
  ·intro y0 y1 y2
   unfold laws_eqDominoS.l0
   repeat' with_reducible first
   | exact ih0 _ _ _
   | exact LeO.refl _
   | exact LeO.none _
   | refine LeO.ite ?_ ?_
   | refine LeO.bind ?_ (fun _ => ?_)
theorem laws_eqDominoS.mono : ∀ a0 a1 k, LeO (laws_eqDominoS.f k a0 a1) (laws_eqDominoS.f (k + 1) a0 a1) := by
 intro a0 a1 k
 have ih0 := laws_eqDominoS.mono_l k
 unfold laws_eqDominoS.f
 repeat' first
   | (with_reducible exact ih0 _ _ _)
   | (with_reducible exact LeO.refl _)
   | (with_reducible exact LeO.none _)
   | (with_reducible refine LeO.ite ?_ ?_)
   | (with_reducible refine LeO.bind ?_ (fun _ => ?_))
   | exact ih0 _ _ _
   | exact LeO.none _
   | refine LeO.ite ?_ ?_
   | refine LeO.bind ?_ (fun _ => ?_)
def laws_eqDominoS.T6 : Bool × List (List Nat × List Nat) := (true, [([], []), ([], []), ([0, 1], [0, 1]), ([2], [2]), ([], []), ([], []), ([4, 5], [4, 5]), ([6], [6]), ([3, 7], [3, 7]), ([8], [8])])
def laws_eqDominoS.B6 : List Nat := [0, 0, 3, 7, 0, 0, 48, 112, 255, 511]
theorem laws_eqDominoS.tab6 : rtab .any (opsOf Try.f36 6) = laws_eqDominoS.T6 := by kernel_rfl
theorem laws_eqDominoS.bits6 : waitsOk laws_eqDominoS.T6.2 laws_eqDominoS.B6 = true := by kernel_rfl
set_option maxHeartbeats 8000000 in
set_option maxRecDepth 100000 in
theorem laws_eqDominoS.calls (k : Nat) (A0 : Option Addr) (c0 : Nat) (l0 : List (S41)) (A1 : Option Addr) (c1 : Nat) (l1 : List (S41)) (r : Bool) (w : World) (hr0 : Kd.C k41 w A0 l0.length l0) (hc0 : l0.length ≤ c0) (hr1 : Kd.C k41 w A1 l1.length l1) (hc1 : l1.length ≤ c1) (h : laws_eqDominoS.f k l0 l1 = some r) :
  Calls Try.prog 36 #[.slice A0 l0.length c0, .slice A1 l1.length c1] w fun e w' => e = .returned (.bool r) ∧ Below w.heap.size w w' := by
 have hu41 := Try.underlying41
 have HR0 := Aside0.mk hr0
 have HC0 := Aside0.mk hc0
 clear hr0 hc0
 have HR1 := Aside0.mk hr1
 have HC1 := Aside0.mk hc1
 clear hr1 hc1
 have HB := Aside0.mk (Below.refl w.heap.size w)
 have H : (if (l0.length : Int) = (l1.length : Int) then (laws_eqDominoS.l0 k l0 l1 0) else (some false)) = some r := h
 clear h
 by_cases c3 : (l0.length : Int) = (l1.length : Int)
 ·rw [if_pos c3] at H
  have c3b0 : ((l0.length : Int) == (l1.length : Int)) = true := beq_iff_eq.mpr c3
  have c3b1 : ((l0.length : Int) != (l1.length : Int)) = false := bne_eq_false_iff_eq.mpr c3
  have c3b2 : (l0.length == l1.length) = true := by first | simpa using c3 | (simp at c3 ⊢; omega)
  clear c3
  have H' := Aside0.mk H
  clear H
  go_enter Try.func36, Try.ntmps36
  go_wp2
  go_loopg [5] k (fun kq v5 w' => ∃ (x5_1 : Int), v5 = .int .i64 x5_1 ∧ Aside0 (laws_eqDominoS.l0 kq l0 l1 x5_1 = some r) ∧ Aside0 (kq ≤ k) ∧ Aside0 (Below w.heap.size w w'))
  case atStart => exact ⟨(0), (by first | rfl | (simp; done) | (simp [*]; done)), H', ⟨Nat.le_refl _⟩, ⟨bX HB.out⟩⟩
  case round =>
   clear H'
   try clear c1
   try clear p2
   try clear c3
   try clear c3b0
   try clear c3b1
   try clear c3b2
   obtain ⟨x5_1, rfl, HA, HK1, HB⟩ := hrel
   cases gk with
   | zero => exact absurd HA.out (by simp [laws_eqDominoS.l0])
   | succ k1 =>
    have H := HA.out
    clear HA
    simp only [laws_eqDominoS.l0] at H
    by_cases c4 : x5_1 < (l0.length : Int)
    ·rw [if_pos c4] at H
     have c4b0 : decide (x5_1 < (l0.length : Int)) = true := decide_eq_true c4
     clear c4
     by_cases c5 : 0 ≤ x5_1
     ·rw [if_pos c5] at H
      have c5b0 : decide (0 ≤ x5_1) = true := decide_eq_true c5
      clear c5
      by_cases c6 : x5_1 < (l1.length : Int)
      ·rw [if_pos c6] at H
       have c6b0 : decide (x5_1 < (l1.length : Int)) = true := decide_eq_true c6
       clear c6
       replace H := Option.bind_eq_some_iff.mp H
       obtain ⟨t338, A70, H⟩ := H
       replace H : (if t338 = true then (laws_eqDominoS.l0 k1 l0 l1 (wrap64 (x5_1 + 1))) else (some false)) = some r := H
       have A7 := Aside0.mk A70
       clear A70
       by_cases c8 : t338 = true
       ·subst c8
        have H1 : (laws_eqDominoS.l0 k1 l0 l1 (wrap64 (x5_1 + 1))) = some r := by rw [if_pos rfl] at H; exact H
        clear H
        have H := H1
        clear H1
        have H' := Aside0.mk H
        clear H
        try go_wp2
        have n0_ := Aside0.mk (below_drew1 HB.out)
        clear HB
        have HB := n0_
        clear n0_
        have p336 : 0 ≤ (x5_1 : Int) := of_decide_eq_true (by assumption)
        have q336 : x5_1 < (l0.length : Int) := of_decide_eq_true (by assumption)
        obtain ⟨ad336, e336, hx336_0, hx336_1, hx336_2⟩ := at_T41 HR0.out x5_1 p336 q336
        have hw336_2 := hx336_2
        have hw336_1 := hx336_1
        have hw336_0 := hx336_0
        cases e336
        replace hx336_0 := (HB.out.cell (World.block_lt_of_cell? w _ hx336_0)).trans hx336_0
        replace hx336_1 := (HB.out.cell (World.block_lt_of_cell? w _ hx336_1)).trans hx336_1
        replace hx336_2 := (HB.out.cell (World.block_lt_of_cell? w _ hx336_2)).trans hx336_2
        replace p336 := eq_true p336
        replace q336 := eq_true q336
        have p337 : 0 ≤ (x5_1 : Int) := of_decide_eq_true (by assumption)
        have q337 : x5_1 < (l1.length : Int) := of_decide_eq_true (by assumption)
        obtain ⟨ad337, e337, hx337_0, hx337_1, hx337_2⟩ := at_T41 HR1.out x5_1 p337 q337
        have hw337_2 := hx337_2
        have hw337_1 := hx337_1
        have hw337_0 := hx337_0
        cases e337
        replace hx337_0 := (HB.out.cell (World.block_lt_of_cell? w _ hx337_0)).trans hx337_0
        replace hx337_1 := (HB.out.cell (World.block_lt_of_cell? w _ hx337_1)).trans hx337_1
        replace hx337_2 := (HB.out.cell (World.block_lt_of_cell? w _ hx337_2)).trans hx337_2
        replace p337 := eq_true p337
        replace q337 := eq_true q337
        refine start_ (n := 10) (S := fun w' => w'.cell? (ad336.add ((x5_1).toNat * 3)) = some (.int .i64 ((rd_T41 l0 x5_1).f0)) ∧ w'.cell? ⟨(ad336.add ((x5_1).toNat * 3)).block, (ad336.add ((x5_1).toNat * 3)).off + 1, none⟩ = some (.int .i64 ((rd_T41 l0 x5_1).f1)) ∧ w'.cell? ⟨(ad336.add ((x5_1).toNat * 3)).block, (ad336.add ((x5_1).toNat * 3)).off + 2, none⟩ = some (.bool ((rd_T41 l0 x5_1).f2)) ∧ w'.cell? (ad337.add ((x5_1).toNat * 3)) = some (.int .i64 ((rd_T41 l1 x5_1).f0)) ∧ w'.cell? ⟨(ad337.add ((x5_1).toNat * 3)).block, (ad337.add ((x5_1).toNat * 3)).off + 1, none⟩ = some (.int .i64 ((rd_T41 l1 x5_1).f1)) ∧ w'.cell? ⟨(ad337.add ((x5_1).toNat * 3)).block, (ad337.add ((x5_1).toNat * 3)).off + 2, none⟩ = some (.bool ((rd_T41 l1 x5_1).f2))) (ds := []) #[false, false, false, false, false, false, false, false, false, false] (by kernel_rfl) rfl rfl ⟨((HB.out.cell (World.block_lt_of_cell? w _ hw336_0)).trans hw336_0), ((HB.out.cell (World.block_lt_of_cell? w _ hw336_1)).trans hw336_1), ((HB.out.cell (World.block_lt_of_cell? w _ hw336_2)).trans hw336_2), ((HB.out.cell (World.block_lt_of_cell? w _ hw337_0)).trans hw337_0), ((HB.out.cell (World.block_lt_of_cell? w _ hw337_1)).trans hw337_1), ((HB.out.cell (World.block_lt_of_cell? w _ hw337_2)).trans hw337_2)⟩ (fun hHeld => ?_); refine with_tabW laws_eqDominoS.tab6 laws_eqDominoS.bits6 (fun HT_ HW_ => ?_)
        generalize wr.drew = w9 at HB hx336_0 hx336_1 hx336_2 hx337_0 hx337_1 hx337_2 hHeld ⊢
        refine pure_ (i := 0) (N := some 17) (v := ?_) (a' := ?_) #[true, false, false, false, false, false, false, false, false, false] rfl rfl (any_of HT_.out (by kernel_rfl)) (fun _ _ _ h => h) (Or.inl ⟨by rfl, ?_⟩) ?_ ?_
        rotate_left
        ·intro w'
         go_simp
         with_reducible rfl
        rotate_left
        ·simp only [Act.put, sA, sB, sC, i64_w, i32_w]
         rfl
        refine pure_ (i := 1) (N := some 18) (v := ?_) (a' := ?_) #[true, true, false, false, false, false, false, false, false, false] rfl rfl (any_of HT_.out (by kernel_rfl)) (fun _ _ _ h => h) (Or.inl ⟨by rfl, ?_⟩) ?_ ?_
        rotate_left
        ·intro w'
         go_simp
         with_reducible rfl
        rotate_left
        ·simp only [Act.put, sA, sB, sC, i64_w, i32_w]
         rfl
        refine pure_ (i := 2) (N := some 19) (v := ?_) (a' := ?_) #[true, true, true, false, false, false, false, false, false, false] rfl rfl (any_of HT_.out (by kernel_rfl)) (fun _ _ _ h => h) (Or.inl ⟨by rfl, ?_⟩) ?_ ?_
        rotate_left
        ·intro w'
         go_simp
         with_reducible rfl
        rotate_left
        ·simp only [Act.put, sA, sB, sC, i64_w, i32_w]
         rfl
        refine pure_ (i := 4) (N := some 21) (v := ?_) (a' := ?_) #[true, true, true, false, true, false, false, false, false, false] rfl rfl (any_of HT_.out (by kernel_rfl)) (fun _ _ _ h => h) (Or.inl ⟨by rfl, ?_⟩) ?_ ?_
        rotate_left
        ·intro w'
         go_simp
         with_reducible rfl
        rotate_left
        ·simp only [Act.put, sA, sB, sC, i64_w, i32_w]
         rfl
        refine pure_ (i := 5) (N := some 22) (v := ?_) (a' := ?_) #[true, true, true, false, true, true, false, false, false, false] rfl rfl (any_of HT_.out (by kernel_rfl)) (fun _ _ _ h => h) (Or.inl ⟨by rfl, ?_⟩) ?_ ?_
        rotate_left
        ·intro w'
         go_simp
         with_reducible rfl
        rotate_left
        ·simp only [Act.put, sA, sB, sC, i64_w, i32_w]
         rfl
        refine pure_ (i := 6) (N := some 23) (v := ?_) (a' := ?_) #[true, true, true, false, true, true, true, false, false, false] rfl rfl (any_of HT_.out (by kernel_rfl)) (fun _ _ _ h => h) (Or.inl ⟨by rfl, ?_⟩) ?_ ?_
        rotate_left
        ·intro w'
         go_simp
         with_reducible rfl
        rotate_left
        ·simp only [Act.put, sA, sB, sC, i64_w, i32_w]
         rfl
        refine take_ (i := 3) (N := some 20) (v := ?_) (a' := ?_) #[true, true, true, true, true, true, true, false, false, false] rfl rfl (take_ofW HT_.out HW_.out (by kernel_rfl)) (fun _ _ _ h => h) (Or.inl ⟨by rfl, ?_⟩) hHeld ?_ ?_
        rotate_left
        ·rintro w' ⟨s0, s1, s2, s3, s4, s5⟩
         go_simp
         with_reducible rfl
        rotate_left
        ·simp only [Act.put, sA, sB, sC, i64_w, i32_w]
         rfl
        refine take_ (i := 7) (N := some 24) (v := ?_) (a' := ?_) #[true, true, true, true, true, true, true, true, false, false] rfl rfl (take_ofW HT_.out HW_.out (by kernel_rfl)) (fun _ _ _ h => h) (Or.inl ⟨by rfl, ?_⟩) hHeld ?_ ?_
        rotate_left
        ·rintro w' ⟨s0, s1, s2, s3, s4, s5⟩
         go_simp
         with_reducible rfl
        rotate_left
        ·simp only [Act.put, sA, sB, sC, i64_w, i32_w]
         rfl
        refine one_ (i := 8) (N := some 25) #[true, true, true, true, true, true, true, true, true, false] rfl rfl (one_of HT_.out (by kernel_rfl)) (by decide) (fun K hK => ?_)
        refine goes_ Try.func101 (by kernel_rfl) rfl #[.agg #[.int .i64 ((rd_T41 l0 x5_1).f0), .int .i64 ((rd_T41 l0 x5_1).f1), .bool ((rd_T41 l0 x5_1).f2)], .agg #[.int .i64 ((rd_T41 l1 x5_1).f0), .int .i64 ((rd_T41 l1 x5_1).f1), .bool ((rd_T41 l1 x5_1).f2)]] (by rfl) rfl rfl (by (try simp only [sD, sE, sF]); first | done | rfl) ?_
        with_reducible refine (laws_eqDomino.calls ((rd_T41 l0 x5_1).f0) ((rd_T41 l0 x5_1).f1) ((rd_T41 l0 x5_1).f2) ((rd_T41 l1 x5_1).f0) ((rd_T41 l1 x5_1).f1) ((rd_T41 l1 x5_1).f2) true _ A7.out).mono ?_
        rintro e w10 ⟨rfl, hb⟩
        refine ⟨_, rfl, ?_⟩
        have n0_ := Aside0.mk (below_step (bX HB.out) hb)
        clear HB
        have HB := n0_
        clear n0_
        (try clear hb)
        (try clear hb2)
        (try clear hk)
        (try clear hi)
        refine hK.out _ _ ⟨((HB.out.cell (World.block_lt_of_cell? w _ hw336_0)).trans hw336_0), ((HB.out.cell (World.block_lt_of_cell? w _ hw336_1)).trans hw336_1), ((HB.out.cell (World.block_lt_of_cell? w _ hw336_2)).trans hw336_2), ((HB.out.cell (World.block_lt_of_cell? w _ hw337_0)).trans hw337_0), ((HB.out.cell (World.block_lt_of_cell? w _ hw337_1)).trans hw337_1), ((HB.out.cell (World.block_lt_of_cell? w _ hw337_2)).trans hw337_2)⟩ (fun hHeld => ?_)
        clear hK K
        refine norm_ (a' := ?_) ?_ ?_
        rotate_left
        ·show Act.put _ (some 25) _ = _
         simp only [Act.put, sA, sB, sC, i64_w, i32_w]
         rfl
        refine pure_ (i := 9) (N := some 26) (v := ?_) (a' := ?_) #[true, true, true, true, true, true, true, true, true, true] rfl rfl (any_of HT_.out (by kernel_rfl)) (fun _ _ _ h => h) (Or.inl ⟨by rfl, ?_⟩) ?_ ?_
        rotate_left
        ·intro w'
         go_simp
         with_reducible rfl
        rotate_left
        ·simp only [Act.put, sA, sB, sC, i64_w, i32_w]
         rfl
        refine done_ (done_of HT_.out (by kernel_rfl)) ?_
        try go_wp2
        go_roundg k1
        case measure => have := HK1.out; omega
        case rel => exact ⟨(wrap64 (x5_1 + 1)), (by first | rfl | (simp; done) | (simp [*]; done)), H', ⟨by have := HK1.out; omega⟩, ⟨bX HB.out⟩⟩
       ·replace c8 := Bool.eq_false_iff.mpr c8
        subst c8
        have H1 : (some false) = some r := by rw [if_neg (show ¬ (false = true) by decide)] at H; exact H
        clear H
        have H := H1
        clear H1
        obtain rfl := Option.some.inj H
        try go_wp2
        have n0_ := Aside0.mk (below_drew1 HB.out)
        clear HB
        have HB := n0_
        clear n0_
        have p336 : 0 ≤ (x5_1 : Int) := of_decide_eq_true (by assumption)
        have q336 : x5_1 < (l0.length : Int) := of_decide_eq_true (by assumption)
        obtain ⟨ad336, e336, hx336_0, hx336_1, hx336_2⟩ := at_T41 HR0.out x5_1 p336 q336
        have hw336_2 := hx336_2
        have hw336_1 := hx336_1
        have hw336_0 := hx336_0
        cases e336
        replace hx336_0 := (HB.out.cell (World.block_lt_of_cell? w _ hx336_0)).trans hx336_0
        replace hx336_1 := (HB.out.cell (World.block_lt_of_cell? w _ hx336_1)).trans hx336_1
        replace hx336_2 := (HB.out.cell (World.block_lt_of_cell? w _ hx336_2)).trans hx336_2
        replace p336 := eq_true p336
        replace q336 := eq_true q336
        have p337 : 0 ≤ (x5_1 : Int) := of_decide_eq_true (by assumption)
        have q337 : x5_1 < (l1.length : Int) := of_decide_eq_true (by assumption)
        obtain ⟨ad337, e337, hx337_0, hx337_1, hx337_2⟩ := at_T41 HR1.out x5_1 p337 q337
        have hw337_2 := hx337_2
        have hw337_1 := hx337_1
        have hw337_0 := hx337_0
        cases e337
        replace hx337_0 := (HB.out.cell (World.block_lt_of_cell? w _ hx337_0)).trans hx337_0
        replace hx337_1 := (HB.out.cell (World.block_lt_of_cell? w _ hx337_1)).trans hx337_1
        replace hx337_2 := (HB.out.cell (World.block_lt_of_cell? w _ hx337_2)).trans hx337_2
        replace p337 := eq_true p337
        replace q337 := eq_true q337
        refine start_ (n := 10) (S := fun w' => w'.cell? (ad336.add ((x5_1).toNat * 3)) = some (.int .i64 ((rd_T41 l0 x5_1).f0)) ∧ w'.cell? ⟨(ad336.add ((x5_1).toNat * 3)).block, (ad336.add ((x5_1).toNat * 3)).off + 1, none⟩ = some (.int .i64 ((rd_T41 l0 x5_1).f1)) ∧ w'.cell? ⟨(ad336.add ((x5_1).toNat * 3)).block, (ad336.add ((x5_1).toNat * 3)).off + 2, none⟩ = some (.bool ((rd_T41 l0 x5_1).f2)) ∧ w'.cell? (ad337.add ((x5_1).toNat * 3)) = some (.int .i64 ((rd_T41 l1 x5_1).f0)) ∧ w'.cell? ⟨(ad337.add ((x5_1).toNat * 3)).block, (ad337.add ((x5_1).toNat * 3)).off + 1, none⟩ = some (.int .i64 ((rd_T41 l1 x5_1).f1)) ∧ w'.cell? ⟨(ad337.add ((x5_1).toNat * 3)).block, (ad337.add ((x5_1).toNat * 3)).off + 2, none⟩ = some (.bool ((rd_T41 l1 x5_1).f2))) (ds := []) #[false, false, false, false, false, false, false, false, false, false] (by kernel_rfl) rfl rfl ⟨((HB.out.cell (World.block_lt_of_cell? w _ hw336_0)).trans hw336_0), ((HB.out.cell (World.block_lt_of_cell? w _ hw336_1)).trans hw336_1), ((HB.out.cell (World.block_lt_of_cell? w _ hw336_2)).trans hw336_2), ((HB.out.cell (World.block_lt_of_cell? w _ hw337_0)).trans hw337_0), ((HB.out.cell (World.block_lt_of_cell? w _ hw337_1)).trans hw337_1), ((HB.out.cell (World.block_lt_of_cell? w _ hw337_2)).trans hw337_2)⟩ (fun hHeld => ?_); refine with_tabW laws_eqDominoS.tab6 laws_eqDominoS.bits6 (fun HT_ HW_ => ?_)
        generalize wr.drew = w11 at HB hx336_0 hx336_1 hx336_2 hx337_0 hx337_1 hx337_2 hHeld ⊢
        refine pure_ (i := 0) (N := some 17) (v := ?_) (a' := ?_) #[true, false, false, false, false, false, false, false, false, false] rfl rfl (any_of HT_.out (by kernel_rfl)) (fun _ _ _ h => h) (Or.inl ⟨by rfl, ?_⟩) ?_ ?_
        rotate_left
        ·intro w'
         go_simp
         with_reducible rfl
        rotate_left
        ·simp only [Act.put, sA, sB, sC, i64_w, i32_w]
         rfl
        refine pure_ (i := 1) (N := some 18) (v := ?_) (a' := ?_) #[true, true, false, false, false, false, false, false, false, false] rfl rfl (any_of HT_.out (by kernel_rfl)) (fun _ _ _ h => h) (Or.inl ⟨by rfl, ?_⟩) ?_ ?_
        rotate_left
        ·intro w'
         go_simp
         with_reducible rfl
        rotate_left
        ·simp only [Act.put, sA, sB, sC, i64_w, i32_w]
         rfl
        refine pure_ (i := 2) (N := some 19) (v := ?_) (a' := ?_) #[true, true, true, false, false, false, false, false, false, false] rfl rfl (any_of HT_.out (by kernel_rfl)) (fun _ _ _ h => h) (Or.inl ⟨by rfl, ?_⟩) ?_ ?_
        rotate_left
        ·intro w'
         go_simp
         with_reducible rfl
        rotate_left
        ·simp only [Act.put, sA, sB, sC, i64_w, i32_w]
         rfl
        refine pure_ (i := 4) (N := some 21) (v := ?_) (a' := ?_) #[true, true, true, false, true, false, false, false, false, false] rfl rfl (any_of HT_.out (by kernel_rfl)) (fun _ _ _ h => h) (Or.inl ⟨by rfl, ?_⟩) ?_ ?_
        rotate_left
        ·intro w'
         go_simp
         with_reducible rfl
        rotate_left
        ·simp only [Act.put, sA, sB, sC, i64_w, i32_w]
         rfl
        refine pure_ (i := 5) (N := some 22) (v := ?_) (a' := ?_) #[true, true, true, false, true, true, false, false, false, false] rfl rfl (any_of HT_.out (by kernel_rfl)) (fun _ _ _ h => h) (Or.inl ⟨by rfl, ?_⟩) ?_ ?_
        rotate_left
        ·intro w'
         go_simp
         with_reducible rfl
        rotate_left
        ·simp only [Act.put, sA, sB, sC, i64_w, i32_w]
         rfl
        refine pure_ (i := 6) (N := some 23) (v := ?_) (a' := ?_) #[true, true, true, false, true, true, true, false, false, false] rfl rfl (any_of HT_.out (by kernel_rfl)) (fun _ _ _ h => h) (Or.inl ⟨by rfl, ?_⟩) ?_ ?_
        rotate_left
        ·intro w'
         go_simp
         with_reducible rfl
        rotate_left
        ·simp only [Act.put, sA, sB, sC, i64_w, i32_w]
         rfl
        refine take_ (i := 3) (N := some 20) (v := ?_) (a' := ?_) #[true, true, true, true, true, true, true, false, false, false] rfl rfl (take_ofW HT_.out HW_.out (by kernel_rfl)) (fun _ _ _ h => h) (Or.inl ⟨by rfl, ?_⟩) hHeld ?_ ?_
        rotate_left
        ·rintro w' ⟨s0, s1, s2, s3, s4, s5⟩
         go_simp
         with_reducible rfl
        rotate_left
        ·simp only [Act.put, sA, sB, sC, i64_w, i32_w]
         rfl
        refine take_ (i := 7) (N := some 24) (v := ?_) (a' := ?_) #[true, true, true, true, true, true, true, true, false, false] rfl rfl (take_ofW HT_.out HW_.out (by kernel_rfl)) (fun _ _ _ h => h) (Or.inl ⟨by rfl, ?_⟩) hHeld ?_ ?_
        rotate_left
        ·rintro w' ⟨s0, s1, s2, s3, s4, s5⟩
         go_simp
         with_reducible rfl
        rotate_left
        ·simp only [Act.put, sA, sB, sC, i64_w, i32_w]
         rfl
        refine one_ (i := 8) (N := some 25) #[true, true, true, true, true, true, true, true, true, false] rfl rfl (one_of HT_.out (by kernel_rfl)) (by decide) (fun K hK => ?_)
        refine goes_ Try.func101 (by kernel_rfl) rfl #[.agg #[.int .i64 ((rd_T41 l0 x5_1).f0), .int .i64 ((rd_T41 l0 x5_1).f1), .bool ((rd_T41 l0 x5_1).f2)], .agg #[.int .i64 ((rd_T41 l1 x5_1).f0), .int .i64 ((rd_T41 l1 x5_1).f1), .bool ((rd_T41 l1 x5_1).f2)]] (by rfl) rfl rfl (by (try simp only [sD, sE, sF]); first | done | rfl) ?_
        with_reducible refine (laws_eqDomino.calls ((rd_T41 l0 x5_1).f0) ((rd_T41 l0 x5_1).f1) ((rd_T41 l0 x5_1).f2) ((rd_T41 l1 x5_1).f0) ((rd_T41 l1 x5_1).f1) ((rd_T41 l1 x5_1).f2) false _ A7.out).mono ?_
        rintro e w12 ⟨rfl, hb⟩
        refine ⟨_, rfl, ?_⟩
        have n0_ := Aside0.mk (below_step (bX HB.out) hb)
        clear HB
        have HB := n0_
        clear n0_
        (try clear hb)
        (try clear hb2)
        (try clear hk)
        (try clear hi)
        refine hK.out _ _ ⟨((HB.out.cell (World.block_lt_of_cell? w _ hw336_0)).trans hw336_0), ((HB.out.cell (World.block_lt_of_cell? w _ hw336_1)).trans hw336_1), ((HB.out.cell (World.block_lt_of_cell? w _ hw336_2)).trans hw336_2), ((HB.out.cell (World.block_lt_of_cell? w _ hw337_0)).trans hw337_0), ((HB.out.cell (World.block_lt_of_cell? w _ hw337_1)).trans hw337_1), ((HB.out.cell (World.block_lt_of_cell? w _ hw337_2)).trans hw337_2)⟩ (fun hHeld => ?_)
        clear hK K
        refine norm_ (a' := ?_) ?_ ?_
        rotate_left
        ·show Act.put _ (some 25) _ = _
         simp only [Act.put, sA, sB, sC, i64_w, i32_w]
         rfl
        refine pure_ (i := 9) (N := some 26) (v := ?_) (a' := ?_) #[true, true, true, true, true, true, true, true, true, true] rfl rfl (any_of HT_.out (by kernel_rfl)) (fun _ _ _ h => h) (Or.inl ⟨by rfl, ?_⟩) ?_ ?_
        rotate_left
        ·intro w'
         go_simp
         with_reducible rfl
        rotate_left
        ·simp only [Act.put, sA, sB, sC, i64_w, i32_w]
         rfl
        refine done_ (done_of HT_.out (by kernel_rfl)) ?_
        try go_wp2
        go_ret
        exact ⟨by first | rfl | (simp [*, errW_none, errW_some] <;> rfl), bX HB.out⟩
      ·rw [if_neg c6] at H
       exact absurd H (by simp)
     ·rw [if_neg c5] at H
      exact absurd H (by simp)
    ·rw [if_neg c4] at H
     have c4b0 : decide (x5_1 < (l0.length : Int)) = false := decide_eq_false c4
     clear c4
     obtain rfl := Option.some.inj H
     go_wp2
     go_ret
     exact ⟨by first | rfl | (simp [*, errW_none, errW_some] <;> rfl), bX HB.out⟩
 ·rw [if_neg c3] at H
  have c3b0 : ((l0.length : Int) == (l1.length : Int)) = false := beq_eq_false_iff_ne.mpr c3
  have c3b1 : ((l0.length : Int) != (l1.length : Int)) = true := bne_iff_ne.mpr c3
  have c3b2 : (l0.length == l1.length) = false := by first | simpa using c3 | (simp at c3 ⊢; omega)
  obtain rfl := Option.some.inj H
  go_enter Try.func36, Try.ntmps36
  go_wp2
  go_ret
  exact ⟨by first | rfl | (simp [*, errW_none, errW_some] <;> rfl), bX HB.out⟩
def laws_eqLink.f (a0_0 : Int) (a0_1 : Int) (a0_2 : Bool) (a1_0 : Int) (a1_1 : Int) (a1_2 : Bool) : Option (Bool) := if a0_0 = a1_0 then (if a0_1 = a1_1 then (if (a0_2 != a1_2) = true then (some false) else (some true)) else (some false)) else (some false)
set_option maxHeartbeats 8000000 in
set_option maxRecDepth 100000 in
theorem laws_eqLink.calls (a0_0 : Int) (a0_1 : Int) (a0_2 : Bool) (a1_0 : Int) (a1_1 : Int) (a1_2 : Bool) (r : Bool) (w : World) (h : laws_eqLink.f a0_0 a0_1 a0_2 a1_0 a1_1 a1_2 = some r) :
  Calls Try.prog 102 #[.agg #[.int .i64 a0_0, .int .i64 a0_1, .bool a0_2], .agg #[.int .i64 a1_0, .int .i64 a1_1, .bool a1_2]] w fun e w' => e = .returned (.bool r) ∧ Below w.heap.size w w' := by
 have hu50 := Try.underlying50
 have HB := Aside0.mk (Below.refl w.heap.size w)
 have H : (if a0_0 = a1_0 then (if a0_1 = a1_1 then (if (a0_2 != a1_2) = true then (some false) else (some true)) else (some false)) else (some false)) = some r := h
 clear h
 by_cases c3 : a0_0 = a1_0
 ·rw [if_pos c3] at H
  have c3b0 : (a0_0 == a1_0) = true := beq_iff_eq.mpr c3
  have c3b1 : (a0_0 != a1_0) = false := bne_eq_false_iff_eq.mpr c3
  clear c3
  by_cases c4 : a0_1 = a1_1
  ·rw [if_pos c4] at H
   have c4b0 : (a0_1 == a1_1) = true := beq_iff_eq.mpr c4
   have c4b1 : (a0_1 != a1_1) = false := bne_eq_false_iff_eq.mpr c4
   clear c4
   by_cases c5 : (a0_2 != a1_2) = true
   ·rw [if_pos c5] at H
    have c5b0 : (a0_2 != a1_2) = true := c5
    (try (have c5b1 : decide (a0_2 = a1_2) = false := by simpa using c5))
    (try (have c5b2 : (a0_2 == a1_2) = false := by simpa using c5))
    (try (have c5b3 : ¬ (a0_2 = a1_2) := by simpa using c5))
    clear c5
    obtain rfl := Option.some.inj H
    go_enter Try.func102, Try.ntmps102
    go_wp2_with (first | ((with_reducible refine gate_dst (N := 2) rfl ?_); refine box_event ?hg (N := 2) ?hd (cs := #[.int .i64 a0_0, .int .i64 a0_1, .bool a0_2]) (t := 50) ?hr ?_; (case hd => rfl); (case hg => rfl); (case hr => first | (go_simp; done) | (go_simp; rfl)); intro gb339 hg w6 hbox hb; have n0_ := Aside0.mk (below_step (bX HB.out) hb); have n1_ := Aside0.mk (hbox); have n2_ := Aside0.mk ((by rw [hg]; exact (below_size (bX HB.out)) : w.heap.size ≤ gb339)); have n3_ := Aside0.mk ((by rw [hg]; exact (below_size (bX HB.out)) : w.heap.size ≤ gb339)); clear HB; have HB := n0_; have BK339 := n1_; have GW339 := n2_; have GE339 := n3_; clear n0_ n1_ n2_ n3_; clear hb hbox hg) | ((with_reducible refine gate_dst (N := 3) rfl ?_); refine box_event ?hg (N := 3) ?hd (cs := #[.int .i64 a1_0, .int .i64 a1_1, .bool a1_2]) (t := 50) ?hr ?_; (case hd => rfl); (case hg => rfl); (case hr => first | (go_simp; done) | (go_simp; rfl)); intro gb340 hg w7 hbox hb; have n0_ := Aside0.mk (blk_below (g := gb339) (o := .cells #[.int .i64 a0_0, .int .i64 a0_1, .bool a0_2] 50 (0, 0)) (kX BK339.out) hb); have n1_ := Aside0.mk (below_step (by repeat (with_reducible first | exact HB.out | apply below_alloc | apply pw_below_drewN | apply below_drew1 | refine below_set ?_ GE339.out)) hb); have n2_ := Aside0.mk (hbox); have n3_ := Aside0.mk ((by rw [hg]; exact (below_size (by repeat (with_reducible first | exact HB.out | apply below_alloc | apply pw_below_drewN | apply below_drew1 | refine below_set ?_ GE339.out))) : w.heap.size ≤ gb340)); have n4_ := Aside0.mk ((by rw [hg]; exact (below_size (by repeat (with_reducible first | exact HB.out | apply below_alloc | apply pw_below_drewN | apply below_drew1 | refine below_set ?_ GE339.out))) : w.heap.size ≤ gb340)); have n5_ := Aside0.mk ((by rw [hg]; exact Nat.ne_of_lt (blk_lt (g := gb339) (o := .cells #[.int .i64 a0_0, .int .i64 a0_1, .bool a0_2] 50 (0, 0)) (kX BK339.out)) : gb339 ≠ gb340)); have n6_ := Aside0.mk ((by rw [hg]; exact Nat.ne_of_gt (blk_lt (g := gb339) (o := .cells #[.int .i64 a0_0, .int .i64 a0_1, .bool a0_2] 50 (0, 0)) (kX BK339.out)) : gb340 ≠ gb339)); clear BK339; clear HB; have BK339 := n0_; have HB := n1_; have BK340 := n2_; have GW340 := n3_; have GE340 := n4_; have NB339_340 := n5_; have NB340_339 := n6_; clear n0_ n1_ n2_ n3_ n4_ n5_ n6_; clear hb hbox hg; have hnb8 := NB339_340.out; have hnc8 := NB340_339.out; have hcz9_0 : w7.cell? ⟨gb339, 0, none⟩ = some (.int .i64 a0_0) := (blk_cell BK339.out 0).trans rfl; have hcz9_1 : w7.cell? ⟨gb339, 1, none⟩ = some (.int .i64 a0_1) := (blk_cell BK339.out 1).trans rfl; have hcz9_2 : w7.cell? ⟨gb339, 2, none⟩ = some (.bool a0_2) := (blk_cell BK339.out 2).trans rfl; have hfz9_0 := blk_frozen BK339.out 0; have hfz9_1 := blk_frozen BK339.out 1; have hfz9_2 := blk_frozen BK339.out 2; have hcz10_0 : w7.cell? ⟨gb340, 0, none⟩ = some (.int .i64 a1_0) := (blk_cell BK340.out 0).trans rfl; have hcz10_1 : w7.cell? ⟨gb340, 1, none⟩ = some (.int .i64 a1_1) := (blk_cell BK340.out 1).trans rfl; have hcz10_2 : w7.cell? ⟨gb340, 2, none⟩ = some (.bool a1_2) := (blk_cell BK340.out 2).trans rfl; have hfz10_0 := blk_frozen BK340.out 0; have hfz10_1 := blk_frozen BK340.out 1; have hfz10_2 := blk_frozen BK340.out 2))
    go_ret
    exact ⟨by first | rfl | (simp [*, errW_none, errW_some] <;> rfl), by repeat (with_reducible first | exact HB.out | apply below_alloc | apply pw_below_drewN | apply below_drew1 | refine below_set ?_ GE339.out | refine below_set ?_ GE340.out)⟩
   ·rw [if_neg c5] at H
    have c5b0 : (a0_2 != a1_2) = false := by simpa using c5
    (try (have c5b1 : decide (a0_2 = a1_2) = true := by simpa using c5))
    (try (have c5b2 : (a0_2 == a1_2) = true := by simpa using c5))
    clear c5
    obtain rfl := Option.some.inj H
    go_enter Try.func102, Try.ntmps102
    go_wp2_with (first | ((with_reducible refine gate_dst (N := 2) rfl ?_); refine box_event ?hg (N := 2) ?hd (cs := #[.int .i64 a0_0, .int .i64 a0_1, .bool a0_2]) (t := 50) ?hr ?_; (case hd => rfl); (case hg => rfl); (case hr => first | (go_simp; done) | (go_simp; rfl)); intro gb339 hg w11 hbox hb; have n0_ := Aside0.mk (below_step (bX HB.out) hb); have n1_ := Aside0.mk (hbox); have n2_ := Aside0.mk ((by rw [hg]; exact (below_size (bX HB.out)) : w.heap.size ≤ gb339)); have n3_ := Aside0.mk ((by rw [hg]; exact (below_size (bX HB.out)) : w.heap.size ≤ gb339)); clear HB; have HB := n0_; have BK339 := n1_; have GW339 := n2_; have GE339 := n3_; clear n0_ n1_ n2_ n3_; clear hb hbox hg) | ((with_reducible refine gate_dst (N := 3) rfl ?_); refine box_event ?hg (N := 3) ?hd (cs := #[.int .i64 a1_0, .int .i64 a1_1, .bool a1_2]) (t := 50) ?hr ?_; (case hd => rfl); (case hg => rfl); (case hr => first | (go_simp; done) | (go_simp; rfl)); intro gb340 hg w12 hbox hb; have n0_ := Aside0.mk (blk_below (g := gb339) (o := .cells #[.int .i64 a0_0, .int .i64 a0_1, .bool a0_2] 50 (0, 0)) (kX BK339.out) hb); have n1_ := Aside0.mk (below_step (by repeat (with_reducible first | exact HB.out | apply below_alloc | apply pw_below_drewN | apply below_drew1 | refine below_set ?_ GE339.out)) hb); have n2_ := Aside0.mk (hbox); have n3_ := Aside0.mk ((by rw [hg]; exact (below_size (by repeat (with_reducible first | exact HB.out | apply below_alloc | apply pw_below_drewN | apply below_drew1 | refine below_set ?_ GE339.out))) : w.heap.size ≤ gb340)); have n4_ := Aside0.mk ((by rw [hg]; exact (below_size (by repeat (with_reducible first | exact HB.out | apply below_alloc | apply pw_below_drewN | apply below_drew1 | refine below_set ?_ GE339.out))) : w.heap.size ≤ gb340)); have n5_ := Aside0.mk ((by rw [hg]; exact Nat.ne_of_lt (blk_lt (g := gb339) (o := .cells #[.int .i64 a0_0, .int .i64 a0_1, .bool a0_2] 50 (0, 0)) (kX BK339.out)) : gb339 ≠ gb340)); have n6_ := Aside0.mk ((by rw [hg]; exact Nat.ne_of_gt (blk_lt (g := gb339) (o := .cells #[.int .i64 a0_0, .int .i64 a0_1, .bool a0_2] 50 (0, 0)) (kX BK339.out)) : gb340 ≠ gb339)); clear BK339; clear HB; have BK339 := n0_; have HB := n1_; have BK340 := n2_; have GW340 := n3_; have GE340 := n4_; have NB339_340 := n5_; have NB340_339 := n6_; clear n0_ n1_ n2_ n3_ n4_ n5_ n6_; clear hb hbox hg; have hnb13 := NB339_340.out; have hnc13 := NB340_339.out; have hcz14_0 : w12.cell? ⟨gb339, 0, none⟩ = some (.int .i64 a0_0) := (blk_cell BK339.out 0).trans rfl; have hcz14_1 : w12.cell? ⟨gb339, 1, none⟩ = some (.int .i64 a0_1) := (blk_cell BK339.out 1).trans rfl; have hcz14_2 : w12.cell? ⟨gb339, 2, none⟩ = some (.bool a0_2) := (blk_cell BK339.out 2).trans rfl; have hfz14_0 := blk_frozen BK339.out 0; have hfz14_1 := blk_frozen BK339.out 1; have hfz14_2 := blk_frozen BK339.out 2; have hcz15_0 : w12.cell? ⟨gb340, 0, none⟩ = some (.int .i64 a1_0) := (blk_cell BK340.out 0).trans rfl; have hcz15_1 : w12.cell? ⟨gb340, 1, none⟩ = some (.int .i64 a1_1) := (blk_cell BK340.out 1).trans rfl; have hcz15_2 : w12.cell? ⟨gb340, 2, none⟩ = some (.bool a1_2) := (blk_cell BK340.out 2).trans rfl; have hfz15_0 := blk_frozen BK340.out 0; have hfz15_1 := blk_frozen BK340.out 1; have hfz15_2 := blk_frozen BK340.out 2))
    go_ret
    exact ⟨by first | rfl | (simp [*, errW_none, errW_some] <;> rfl), by repeat (with_reducible first | exact HB.out | apply below_alloc | apply pw_below_drewN | apply below_drew1 | refine below_set ?_ GE339.out | refine below_set ?_ GE340.out)⟩
  ·rw [if_neg c4] at H
   have c4b0 : (a0_1 == a1_1) = false := beq_eq_false_iff_ne.mpr c4
   have c4b1 : (a0_1 != a1_1) = true := bne_iff_ne.mpr c4
   obtain rfl := Option.some.inj H
   go_enter Try.func102, Try.ntmps102
   go_wp2_with (first | ((with_reducible refine gate_dst (N := 2) rfl ?_); refine box_event ?hg (N := 2) ?hd (cs := #[.int .i64 a0_0, .int .i64 a0_1, .bool a0_2]) (t := 50) ?hr ?_; (case hd => rfl); (case hg => rfl); (case hr => first | (go_simp; done) | (go_simp; rfl)); intro gb339 hg w16 hbox hb; have n0_ := Aside0.mk (below_step (bX HB.out) hb); have n1_ := Aside0.mk (hbox); have n2_ := Aside0.mk ((by rw [hg]; exact (below_size (bX HB.out)) : w.heap.size ≤ gb339)); have n3_ := Aside0.mk ((by rw [hg]; exact (below_size (bX HB.out)) : w.heap.size ≤ gb339)); clear HB; have HB := n0_; have BK339 := n1_; have GW339 := n2_; have GE339 := n3_; clear n0_ n1_ n2_ n3_; clear hb hbox hg) | ((with_reducible refine gate_dst (N := 3) rfl ?_); refine box_event ?hg (N := 3) ?hd (cs := #[.int .i64 a1_0, .int .i64 a1_1, .bool a1_2]) (t := 50) ?hr ?_; (case hd => rfl); (case hg => rfl); (case hr => first | (go_simp; done) | (go_simp; rfl)); intro gb340 hg w17 hbox hb; have n0_ := Aside0.mk (blk_below (g := gb339) (o := .cells #[.int .i64 a0_0, .int .i64 a0_1, .bool a0_2] 50 (0, 0)) (kX BK339.out) hb); have n1_ := Aside0.mk (below_step (by repeat (with_reducible first | exact HB.out | apply below_alloc | apply pw_below_drewN | apply below_drew1 | refine below_set ?_ GE339.out)) hb); have n2_ := Aside0.mk (hbox); have n3_ := Aside0.mk ((by rw [hg]; exact (below_size (by repeat (with_reducible first | exact HB.out | apply below_alloc | apply pw_below_drewN | apply below_drew1 | refine below_set ?_ GE339.out))) : w.heap.size ≤ gb340)); have n4_ := Aside0.mk ((by rw [hg]; exact (below_size (by repeat (with_reducible first | exact HB.out | apply below_alloc | apply pw_below_drewN | apply below_drew1 | refine below_set ?_ GE339.out))) : w.heap.size ≤ gb340)); have n5_ := Aside0.mk ((by rw [hg]; exact Nat.ne_of_lt (blk_lt (g := gb339) (o := .cells #[.int .i64 a0_0, .int .i64 a0_1, .bool a0_2] 50 (0, 0)) (kX BK339.out)) : gb339 ≠ gb340)); have n6_ := Aside0.mk ((by rw [hg]; exact Nat.ne_of_gt (blk_lt (g := gb339) (o := .cells #[.int .i64 a0_0, .int .i64 a0_1, .bool a0_2] 50 (0, 0)) (kX BK339.out)) : gb340 ≠ gb339)); clear BK339; clear HB; have BK339 := n0_; have HB := n1_; have BK340 := n2_; have GW340 := n3_; have GE340 := n4_; have NB339_340 := n5_; have NB340_339 := n6_; clear n0_ n1_ n2_ n3_ n4_ n5_ n6_; clear hb hbox hg; have hnb18 := NB339_340.out; have hnc18 := NB340_339.out; have hcz19_0 : w17.cell? ⟨gb339, 0, none⟩ = some (.int .i64 a0_0) := (blk_cell BK339.out 0).trans rfl; have hcz19_1 : w17.cell? ⟨gb339, 1, none⟩ = some (.int .i64 a0_1) := (blk_cell BK339.out 1).trans rfl; have hcz19_2 : w17.cell? ⟨gb339, 2, none⟩ = some (.bool a0_2) := (blk_cell BK339.out 2).trans rfl; have hfz19_0 := blk_frozen BK339.out 0; have hfz19_1 := blk_frozen BK339.out 1; have hfz19_2 := blk_frozen BK339.out 2; have hcz20_0 : w17.cell? ⟨gb340, 0, none⟩ = some (.int .i64 a1_0) := (blk_cell BK340.out 0).trans rfl; have hcz20_1 : w17.cell? ⟨gb340, 1, none⟩ = some (.int .i64 a1_1) := (blk_cell BK340.out 1).trans rfl; have hcz20_2 : w17.cell? ⟨gb340, 2, none⟩ = some (.bool a1_2) := (blk_cell BK340.out 2).trans rfl; have hfz20_0 := blk_frozen BK340.out 0; have hfz20_1 := blk_frozen BK340.out 1; have hfz20_2 := blk_frozen BK340.out 2))
   go_ret
   exact ⟨by first | rfl | (simp [*, errW_none, errW_some] <;> rfl), by repeat (with_reducible first | exact HB.out | apply below_alloc | apply pw_below_drewN | apply below_drew1 | refine below_set ?_ GE339.out | refine below_set ?_ GE340.out)⟩
 ·rw [if_neg c3] at H
  have c3b0 : (a0_0 == a1_0) = false := beq_eq_false_iff_ne.mpr c3
  have c3b1 : (a0_0 != a1_0) = true := bne_iff_ne.mpr c3
  obtain rfl := Option.some.inj H
  go_enter Try.func102, Try.ntmps102
  go_wp2_with (first | ((with_reducible refine gate_dst (N := 2) rfl ?_); refine box_event ?hg (N := 2) ?hd (cs := #[.int .i64 a0_0, .int .i64 a0_1, .bool a0_2]) (t := 50) ?hr ?_; (case hd => rfl); (case hg => rfl); (case hr => first | (go_simp; done) | (go_simp; rfl)); intro gb339 hg w21 hbox hb; have n0_ := Aside0.mk (below_step (bX HB.out) hb); have n1_ := Aside0.mk (hbox); have n2_ := Aside0.mk ((by rw [hg]; exact (below_size (bX HB.out)) : w.heap.size ≤ gb339)); have n3_ := Aside0.mk ((by rw [hg]; exact (below_size (bX HB.out)) : w.heap.size ≤ gb339)); clear HB; have HB := n0_; have BK339 := n1_; have GW339 := n2_; have GE339 := n3_; clear n0_ n1_ n2_ n3_; clear hb hbox hg) | ((with_reducible refine gate_dst (N := 3) rfl ?_); refine box_event ?hg (N := 3) ?hd (cs := #[.int .i64 a1_0, .int .i64 a1_1, .bool a1_2]) (t := 50) ?hr ?_; (case hd => rfl); (case hg => rfl); (case hr => first | (go_simp; done) | (go_simp; rfl)); intro gb340 hg w22 hbox hb; have n0_ := Aside0.mk (blk_below (g := gb339) (o := .cells #[.int .i64 a0_0, .int .i64 a0_1, .bool a0_2] 50 (0, 0)) (kX BK339.out) hb); have n1_ := Aside0.mk (below_step (by repeat (with_reducible first | exact HB.out | apply below_alloc | apply pw_below_drewN | apply below_drew1 | refine below_set ?_ GE339.out)) hb); have n2_ := Aside0.mk (hbox); have n3_ := Aside0.mk ((by rw [hg]; exact (below_size (by repeat (with_reducible first | exact HB.out | apply below_alloc | apply pw_below_drewN | apply below_drew1 | refine below_set ?_ GE339.out))) : w.heap.size ≤ gb340)); have n4_ := Aside0.mk ((by rw [hg]; exact (below_size (by repeat (with_reducible first | exact HB.out | apply below_alloc | apply pw_below_drewN | apply below_drew1 | refine below_set ?_ GE339.out))) : w.heap.size ≤ gb340)); have n5_ := Aside0.mk ((by rw [hg]; exact Nat.ne_of_lt (blk_lt (g := gb339) (o := .cells #[.int .i64 a0_0, .int .i64 a0_1, .bool a0_2] 50 (0, 0)) (kX BK339.out)) : gb339 ≠ gb340)); have n6_ := Aside0.mk ((by rw [hg]; exact Nat.ne_of_gt (blk_lt (g := gb339) (o := .cells #[.int .i64 a0_0, .int .i64 a0_1, .bool a0_2] 50 (0, 0)) (kX BK339.out)) : gb340 ≠ gb339)); clear BK339; clear HB; have BK339 := n0_; have HB := n1_; have BK340 := n2_; have GW340 := n3_; have GE340 := n4_; have NB339_340 := n5_; have NB340_339 := n6_; clear n0_ n1_ n2_ n3_ n4_ n5_ n6_; clear hb hbox hg; have hnb23 := NB339_340.out; have hnc23 := NB340_339.out; have hcz24_0 : w22.cell? ⟨gb339, 0, none⟩ = some (.int .i64 a0_0) := (blk_cell BK339.out 0).trans rfl; have hcz24_1 : w22.cell? ⟨gb339, 1, none⟩ = some (.int .i64 a0_1) := (blk_cell BK339.out 1).trans rfl; have hcz24_2 : w22.cell? ⟨gb339, 2, none⟩ = some (.bool a0_2) := (blk_cell BK339.out 2).trans rfl; have hfz24_0 := blk_frozen BK339.out 0; have hfz24_1 := blk_frozen BK339.out 1; have hfz24_2 := blk_frozen BK339.out 2; have hcz25_0 : w22.cell? ⟨gb340, 0, none⟩ = some (.int .i64 a1_0) := (blk_cell BK340.out 0).trans rfl; have hcz25_1 : w22.cell? ⟨gb340, 1, none⟩ = some (.int .i64 a1_1) := (blk_cell BK340.out 1).trans rfl; have hcz25_2 : w22.cell? ⟨gb340, 2, none⟩ = some (.bool a1_2) := (blk_cell BK340.out 2).trans rfl; have hfz25_0 := blk_frozen BK340.out 0; have hfz25_1 := blk_frozen BK340.out 1; have hfz25_2 := blk_frozen BK340.out 2))
  go_ret
  exact ⟨by first | rfl | (simp [*, errW_none, errW_some] <;> rfl), by repeat (with_reducible first | exact HB.out | apply below_alloc | apply pw_below_drewN | apply below_drew1 | refine below_set ?_ GE339.out | refine below_set ?_ GE340.out)⟩
def laws_eqLinkS.l0 : Nat → List (S50) → List (S50) → Int → Option (Bool)
 | 0, _, _, _ => none
 | k + 1, x0, x1, x5 => if x5 < (x0.length : Int) then (if 0 ≤ x5 then (if x5 < (x1.length : Int) then ((laws_eqLink.f ((rd_T50 x0 x5).f0) ((rd_T50 x0 x5).f1) ((rd_T50 x0 x5).f2) ((rd_T50 x1 x5).f0) ((rd_T50 x1 x5).f1) ((rd_T50 x1 x5).f2)).bind fun t343 => (if t343 = true then (laws_eqLinkS.l0 k x0 x1 (wrap64 (x5 + 1))) else (some false))) else (none)) else (none)) else (some true)
def laws_eqLinkS.f (k : Nat) (l0 : List (S50)) (l1 : List (S50)) : Option (Bool) := if (l0.length : Int) = (l1.length : Int) then (laws_eqLinkS.l0 k l0 l1 0) else (some false)
theorem laws_eqLinkS.mono_l : ∀ k, (∀ y0 y1 y2, LeO (laws_eqLinkS.l0 k y0 y1 y2) (laws_eqLinkS.l0 (k + 1) y0 y1 y2))
 | 0 => fun _ _ _ r h => by simp [laws_eqLinkS.l0] at h
 | k + 1 => by
  have ih0 := laws_eqLinkS.mono_l k
  ·intro y0 y1 y2
   unfold laws_eqLinkS.l0
   repeat' with_reducible first
   | exact ih0 _ _ _
   | exact LeO.refl _
   | exact LeO.none _
   | refine LeO.ite ?_ ?_
   | refine LeO.bind ?_ (fun _ => ?_)
theorem laws_eqLinkS.mono : ∀ a0 a1 k, LeO (laws_eqLinkS.f k a0 a1) (laws_eqLinkS.f (k + 1) a0 a1) := by
 intro a0 a1 k
 have ih0 := laws_eqLinkS.mono_l k
 unfold laws_eqLinkS.f
 repeat' first
   | (with_reducible exact ih0 _ _ _)
   | (with_reducible exact LeO.refl _)
   | (with_reducible exact LeO.none _)
   | (with_reducible refine LeO.ite ?_ ?_)
   | (with_reducible refine LeO.bind ?_ (fun _ => ?_))
   | exact ih0 _ _ _
   | exact LeO.none _
   | refine LeO.ite ?_ ?_
   | refine LeO.bind ?_ (fun _ => ?_)
def laws_eqLinkS.T6 : Bool × List (List Nat × List Nat) := (true, [([], []), ([], []), ([0, 1], [0, 1]), ([2], [2]), ([], []), ([], []), ([4, 5], [4, 5]), ([6], [6]), ([3, 7], [3, 7]), ([8], [8])])
def laws_eqLinkS.B6 : List Nat := [0, 0, 3, 7, 0, 0, 48, 112, 255, 511]
theorem laws_eqLinkS.tab6 : rtab .any (opsOf Try.f37 6) = laws_eqLinkS.T6 := by kernel_rfl
theorem laws_eqLinkS.bits6 : waitsOk laws_eqLinkS.T6.2 laws_eqLinkS.B6 = true := by kernel_rfl
set_option maxHeartbeats 8000000 in
set_option maxRecDepth 100000 in
theorem laws_eqLinkS.calls (k : Nat) (A0 : Option Addr) (c0 : Nat) (l0 : List (S50)) (A1 : Option Addr) (c1 : Nat) (l1 : List (S50)) (r : Bool) (w : World) (hr0 : Kd.C k50 w A0 l0.length l0) (hc0 : l0.length ≤ c0) (hr1 : Kd.C k50 w A1 l1.length l1) (hc1 : l1.length ≤ c1) (h : laws_eqLinkS.f k l0 l1 = some r) :
  Calls Try.prog 37 #[.slice A0 l0.length c0, .slice A1 l1.length c1] w fun e w' => e = .returned (.bool r) ∧ Below w.heap.size w w' := by
 have hu50 := Try.underlying50
 have HR0 := Aside0.mk hr0
 have HC0 := Aside0.mk hc0
 clear hr0 hc0
 have HR1 := Aside0.mk hr1
 have HC1 := Aside0.mk hc1
 clear hr1 hc1
 have HB := Aside0.mk (Below.refl w.heap.size w)
 have H : (if (l0.length : Int) = (l1.length : Int) then (laws_eqLinkS.l0 k l0 l1 0) else (some false)) = some r := h
 clear h
 by_cases c3 : (l0.length : Int) = (l1.length : Int)
 ·rw [if_pos c3] at H
  have c3b0 : ((l0.length : Int) == (l1.length : Int)) = true := beq_iff_eq.mpr c3
  have c3b1 : ((l0.length : Int) != (l1.length : Int)) = false := bne_eq_false_iff_eq.mpr c3
  have c3b2 : (l0.length == l1.length) = true := by first | simpa using c3 | (simp at c3 ⊢; omega)
  clear c3
  have H' := Aside0.mk H
  clear H
  go_enter Try.func37, Try.ntmps37
  go_wp2
  go_loopg [5] k (fun kq v5 w' => ∃ (x5_1 : Int), v5 = .int .i64 x5_1 ∧ Aside0 (laws_eqLinkS.l0 kq l0 l1 x5_1 = some r) ∧ Aside0 (kq ≤ k) ∧ Aside0 (Below w.heap.size w w'))
  case atStart => exact ⟨(0), (by first | rfl | (simp; done) | (simp [*]; done)), H', ⟨Nat.le_refl _⟩, ⟨bX HB.out⟩⟩
  case round =>
   clear H'
   try clear c1
   try clear p2
   try clear c3
   try clear c3b0
   try clear c3b1
   try clear c3b2
   obtain ⟨x5_1, rfl, HA, HK1, HB⟩ := hrel
   cases gk with
   | zero => exact absurd HA.out (by simp [laws_eqLinkS.l0])
   | succ k1 =>
    have H := HA.out
    clear HA
    simp only [laws_eqLinkS.l0] at H
    by_cases c4 : x5_1 < (l0.length : Int)
    ·rw [if_pos c4] at H
     have c4b0 : decide (x5_1 < (l0.length : Int)) = true := decide_eq_true c4
     clear c4
     by_cases c5 : 0 ≤ x5_1
     ·rw [if_pos c5] at H
      have c5b0 : decide (0 ≤ x5_1) = true := decide_eq_true c5
      clear c5
      by_cases c6 : x5_1 < (l1.length : Int)
      ·rw [if_pos c6] at H
       have c6b0 : decide (x5_1 < (l1.length : Int)) = true := decide_eq_true c6
       clear c6
       replace H := Option.bind_eq_some_iff.mp H
       obtain ⟨t343, A70, H⟩ := H
       replace H : (if t343 = true then (laws_eqLinkS.l0 k1 l0 l1 (wrap64 (x5_1 + 1))) else (some false)) = some r := H
       have A7 := Aside0.mk A70
       clear A70
       by_cases c8 : t343 = true
       ·subst c8
        have H1 : (laws_eqLinkS.l0 k1 l0 l1 (wrap64 (x5_1 + 1))) = some r := by rw [if_pos rfl] at H; exact H
        clear H
        have H := H1
        clear H1
        have H' := Aside0.mk H
        clear H
        try go_wp2
        have n0_ := Aside0.mk (below_drew1 HB.out)
        clear HB
        have HB := n0_
        clear n0_
        have p341 : 0 ≤ (x5_1 : Int) := of_decide_eq_true (by assumption)
        have q341 : x5_1 < (l0.length : Int) := of_decide_eq_true (by assumption)
        obtain ⟨ad341, e341, hx341_0, hx341_1, hx341_2⟩ := at_T50 HR0.out x5_1 p341 q341
        have hw341_2 := hx341_2
        have hw341_1 := hx341_1
        have hw341_0 := hx341_0
        cases e341
        replace hx341_0 := (HB.out.cell (World.block_lt_of_cell? w _ hx341_0)).trans hx341_0
        replace hx341_1 := (HB.out.cell (World.block_lt_of_cell? w _ hx341_1)).trans hx341_1
        replace hx341_2 := (HB.out.cell (World.block_lt_of_cell? w _ hx341_2)).trans hx341_2
        replace p341 := eq_true p341
        replace q341 := eq_true q341
        have p342 : 0 ≤ (x5_1 : Int) := of_decide_eq_true (by assumption)
        have q342 : x5_1 < (l1.length : Int) := of_decide_eq_true (by assumption)
        obtain ⟨ad342, e342, hx342_0, hx342_1, hx342_2⟩ := at_T50 HR1.out x5_1 p342 q342
        have hw342_2 := hx342_2
        have hw342_1 := hx342_1
        have hw342_0 := hx342_0
        cases e342
        replace hx342_0 := (HB.out.cell (World.block_lt_of_cell? w _ hx342_0)).trans hx342_0
        replace hx342_1 := (HB.out.cell (World.block_lt_of_cell? w _ hx342_1)).trans hx342_1
        replace hx342_2 := (HB.out.cell (World.block_lt_of_cell? w _ hx342_2)).trans hx342_2
        replace p342 := eq_true p342
        replace q342 := eq_true q342
        refine start_ (n := 10) (S := fun w' => w'.cell? (ad341.add ((x5_1).toNat * 3)) = some (.int .i64 ((rd_T50 l0 x5_1).f0)) ∧ w'.cell? ⟨(ad341.add ((x5_1).toNat * 3)).block, (ad341.add ((x5_1).toNat * 3)).off + 1, none⟩ = some (.int .i64 ((rd_T50 l0 x5_1).f1)) ∧ w'.cell? ⟨(ad341.add ((x5_1).toNat * 3)).block, (ad341.add ((x5_1).toNat * 3)).off + 2, none⟩ = some (.bool ((rd_T50 l0 x5_1).f2)) ∧ w'.cell? (ad342.add ((x5_1).toNat * 3)) = some (.int .i64 ((rd_T50 l1 x5_1).f0)) ∧ w'.cell? ⟨(ad342.add ((x5_1).toNat * 3)).block, (ad342.add ((x5_1).toNat * 3)).off + 1, none⟩ = some (.int .i64 ((rd_T50 l1 x5_1).f1)) ∧ w'.cell? ⟨(ad342.add ((x5_1).toNat * 3)).block, (ad342.add ((x5_1).toNat * 3)).off + 2, none⟩ = some (.bool ((rd_T50 l1 x5_1).f2))) (ds := []) #[false, false, false, false, false, false, false, false, false, false] (by kernel_rfl) rfl rfl ⟨((HB.out.cell (World.block_lt_of_cell? w _ hw341_0)).trans hw341_0), ((HB.out.cell (World.block_lt_of_cell? w _ hw341_1)).trans hw341_1), ((HB.out.cell (World.block_lt_of_cell? w _ hw341_2)).trans hw341_2), ((HB.out.cell (World.block_lt_of_cell? w _ hw342_0)).trans hw342_0), ((HB.out.cell (World.block_lt_of_cell? w _ hw342_1)).trans hw342_1), ((HB.out.cell (World.block_lt_of_cell? w _ hw342_2)).trans hw342_2)⟩ (fun hHeld => ?_); refine with_tabW laws_eqLinkS.tab6 laws_eqLinkS.bits6 (fun HT_ HW_ => ?_)
        generalize wr.drew = w9 at HB hx341_0 hx341_1 hx341_2 hx342_0 hx342_1 hx342_2 hHeld ⊢
        refine pure_ (i := 0) (N := some 17) (v := ?_) (a' := ?_) #[true, false, false, false, false, false, false, false, false, false] rfl rfl (any_of HT_.out (by kernel_rfl)) (fun _ _ _ h => h) (Or.inl ⟨by rfl, ?_⟩) ?_ ?_
        rotate_left
        ·intro w'
         go_simp
         with_reducible rfl
        rotate_left
        ·simp only [Act.put, sA, sB, sC, i64_w, i32_w]
         rfl
        refine pure_ (i := 1) (N := some 18) (v := ?_) (a' := ?_) #[true, true, false, false, false, false, false, false, false, false] rfl rfl (any_of HT_.out (by kernel_rfl)) (fun _ _ _ h => h) (Or.inl ⟨by rfl, ?_⟩) ?_ ?_
        rotate_left
        ·intro w'
         go_simp
         with_reducible rfl
        rotate_left
        ·simp only [Act.put, sA, sB, sC, i64_w, i32_w]
         rfl
        refine pure_ (i := 2) (N := some 19) (v := ?_) (a' := ?_) #[true, true, true, false, false, false, false, false, false, false] rfl rfl (any_of HT_.out (by kernel_rfl)) (fun _ _ _ h => h) (Or.inl ⟨by rfl, ?_⟩) ?_ ?_
        rotate_left
        ·intro w'
         go_simp
         with_reducible rfl
        rotate_left
        ·simp only [Act.put, sA, sB, sC, i64_w, i32_w]
         rfl
        refine pure_ (i := 4) (N := some 21) (v := ?_) (a' := ?_) #[true, true, true, false, true, false, false, false, false, false] rfl rfl (any_of HT_.out (by kernel_rfl)) (fun _ _ _ h => h) (Or.inl ⟨by rfl, ?_⟩) ?_ ?_
        rotate_left
        ·intro w'
         go_simp
         with_reducible rfl
        rotate_left
        ·simp only [Act.put, sA, sB, sC, i64_w, i32_w]
         rfl
        refine pure_ (i := 5) (N := some 22) (v := ?_) (a' := ?_) #[true, true, true, false, true, true, false, false, false, false] rfl rfl (any_of HT_.out (by kernel_rfl)) (fun _ _ _ h => h) (Or.inl ⟨by rfl, ?_⟩) ?_ ?_
        rotate_left
        ·intro w'
         go_simp
         with_reducible rfl
        rotate_left
        ·simp only [Act.put, sA, sB, sC, i64_w, i32_w]
         rfl
        refine pure_ (i := 6) (N := some 23) (v := ?_) (a' := ?_) #[true, true, true, false, true, true, true, false, false, false] rfl rfl (any_of HT_.out (by kernel_rfl)) (fun _ _ _ h => h) (Or.inl ⟨by rfl, ?_⟩) ?_ ?_
        rotate_left
        ·intro w'
         go_simp
         with_reducible rfl
        rotate_left
        ·simp only [Act.put, sA, sB, sC, i64_w, i32_w]
         rfl
        refine take_ (i := 3) (N := some 20) (v := ?_) (a' := ?_) #[true, true, true, true, true, true, true, false, false, false] rfl rfl (take_ofW HT_.out HW_.out (by kernel_rfl)) (fun _ _ _ h => h) (Or.inl ⟨by rfl, ?_⟩) hHeld ?_ ?_
        rotate_left
        ·rintro w' ⟨s0, s1, s2, s3, s4, s5⟩
         go_simp
         with_reducible rfl
        rotate_left
        ·simp only [Act.put, sA, sB, sC, i64_w, i32_w]
         rfl
        refine take_ (i := 7) (N := some 24) (v := ?_) (a' := ?_) #[true, true, true, true, true, true, true, true, false, false] rfl rfl (take_ofW HT_.out HW_.out (by kernel_rfl)) (fun _ _ _ h => h) (Or.inl ⟨by rfl, ?_⟩) hHeld ?_ ?_
        rotate_left
        ·rintro w' ⟨s0, s1, s2, s3, s4, s5⟩
         go_simp
         with_reducible rfl
        rotate_left
        ·simp only [Act.put, sA, sB, sC, i64_w, i32_w]
         rfl
        refine one_ (i := 8) (N := some 25) #[true, true, true, true, true, true, true, true, true, false] rfl rfl (one_of HT_.out (by kernel_rfl)) (by decide) (fun K hK => ?_)
        refine goes_ Try.func102 (by kernel_rfl) rfl #[.agg #[.int .i64 ((rd_T50 l0 x5_1).f0), .int .i64 ((rd_T50 l0 x5_1).f1), .bool ((rd_T50 l0 x5_1).f2)], .agg #[.int .i64 ((rd_T50 l1 x5_1).f0), .int .i64 ((rd_T50 l1 x5_1).f1), .bool ((rd_T50 l1 x5_1).f2)]] (by rfl) rfl rfl (by (try simp only [sD, sE, sF]); first | done | rfl) ?_
        with_reducible refine (laws_eqLink.calls ((rd_T50 l0 x5_1).f0) ((rd_T50 l0 x5_1).f1) ((rd_T50 l0 x5_1).f2) ((rd_T50 l1 x5_1).f0) ((rd_T50 l1 x5_1).f1) ((rd_T50 l1 x5_1).f2) true _ A7.out).mono ?_
        rintro e w10 ⟨rfl, hb⟩
        refine ⟨_, rfl, ?_⟩
        have n0_ := Aside0.mk (below_step (bX HB.out) hb)
        clear HB
        have HB := n0_
        clear n0_
        (try clear hb)
        (try clear hb2)
        (try clear hk)
        (try clear hi)
        refine hK.out _ _ ⟨((HB.out.cell (World.block_lt_of_cell? w _ hw341_0)).trans hw341_0), ((HB.out.cell (World.block_lt_of_cell? w _ hw341_1)).trans hw341_1), ((HB.out.cell (World.block_lt_of_cell? w _ hw341_2)).trans hw341_2), ((HB.out.cell (World.block_lt_of_cell? w _ hw342_0)).trans hw342_0), ((HB.out.cell (World.block_lt_of_cell? w _ hw342_1)).trans hw342_1), ((HB.out.cell (World.block_lt_of_cell? w _ hw342_2)).trans hw342_2)⟩ (fun hHeld => ?_)
        clear hK K
        refine norm_ (a' := ?_) ?_ ?_
        rotate_left
        ·show Act.put _ (some 25) _ = _
         simp only [Act.put, sA, sB, sC, i64_w, i32_w]
         rfl
        refine pure_ (i := 9) (N := some 26) (v := ?_) (a' := ?_) #[true, true, true, true, true, true, true, true, true, true] rfl rfl (any_of HT_.out (by kernel_rfl)) (fun _ _ _ h => h) (Or.inl ⟨by rfl, ?_⟩) ?_ ?_
        rotate_left
        ·intro w'
         go_simp
         with_reducible rfl
        rotate_left
        ·simp only [Act.put, sA, sB, sC, i64_w, i32_w]
         rfl
        refine done_ (done_of HT_.out (by kernel_rfl)) ?_
        try go_wp2
        go_roundg k1
        case measure => have := HK1.out; omega
        case rel => exact ⟨(wrap64 (x5_1 + 1)), (by first | rfl | (simp; done) | (simp [*]; done)), H', ⟨by have := HK1.out; omega⟩, ⟨bX HB.out⟩⟩
       ·replace c8 := Bool.eq_false_iff.mpr c8
        subst c8
        have H1 : (some false) = some r := by rw [if_neg (show ¬ (false = true) by decide)] at H; exact H
        clear H
        have H := H1
        clear H1
        obtain rfl := Option.some.inj H
        try go_wp2
        have n0_ := Aside0.mk (below_drew1 HB.out)
        clear HB
        have HB := n0_
        clear n0_
        have p341 : 0 ≤ (x5_1 : Int) := of_decide_eq_true (by assumption)
        have q341 : x5_1 < (l0.length : Int) := of_decide_eq_true (by assumption)
        obtain ⟨ad341, e341, hx341_0, hx341_1, hx341_2⟩ := at_T50 HR0.out x5_1 p341 q341
        have hw341_2 := hx341_2
        have hw341_1 := hx341_1
        have hw341_0 := hx341_0
        cases e341
        replace hx341_0 := (HB.out.cell (World.block_lt_of_cell? w _ hx341_0)).trans hx341_0
        replace hx341_1 := (HB.out.cell (World.block_lt_of_cell? w _ hx341_1)).trans hx341_1
        replace hx341_2 := (HB.out.cell (World.block_lt_of_cell? w _ hx341_2)).trans hx341_2
        replace p341 := eq_true p341
        replace q341 := eq_true q341
        have p342 : 0 ≤ (x5_1 : Int) := of_decide_eq_true (by assumption)
        have q342 : x5_1 < (l1.length : Int) := of_decide_eq_true (by assumption)
        obtain ⟨ad342, e342, hx342_0, hx342_1, hx342_2⟩ := at_T50 HR1.out x5_1 p342 q342
        have hw342_2 := hx342_2
        have hw342_1 := hx342_1
        have hw342_0 := hx342_0
        cases e342
        replace hx342_0 := (HB.out.cell (World.block_lt_of_cell? w _ hx342_0)).trans hx342_0
        replace hx342_1 := (HB.out.cell (World.block_lt_of_cell? w _ hx342_1)).trans hx342_1
        replace hx342_2 := (HB.out.cell (World.block_lt_of_cell? w _ hx342_2)).trans hx342_2
        replace p342 := eq_true p342
        replace q342 := eq_true q342
        refine start_ (n := 10) (S := fun w' => w'.cell? (ad341.add ((x5_1).toNat * 3)) = some (.int .i64 ((rd_T50 l0 x5_1).f0)) ∧ w'.cell? ⟨(ad341.add ((x5_1).toNat * 3)).block, (ad341.add ((x5_1).toNat * 3)).off + 1, none⟩ = some (.int .i64 ((rd_T50 l0 x5_1).f1)) ∧ w'.cell? ⟨(ad341.add ((x5_1).toNat * 3)).block, (ad341.add ((x5_1).toNat * 3)).off + 2, none⟩ = some (.bool ((rd_T50 l0 x5_1).f2)) ∧ w'.cell? (ad342.add ((x5_1).toNat * 3)) = some (.int .i64 ((rd_T50 l1 x5_1).f0)) ∧ w'.cell? ⟨(ad342.add ((x5_1).toNat * 3)).block, (ad342.add ((x5_1).toNat * 3)).off + 1, none⟩ = some (.int .i64 ((rd_T50 l1 x5_1).f1)) ∧ w'.cell? ⟨(ad342.add ((x5_1).toNat * 3)).block, (ad342.add ((x5_1).toNat * 3)).off + 2, none⟩ = some (.bool ((rd_T50 l1 x5_1).f2))) (ds := []) #[false, false, false, false, false, false, false, false, false, false] (by kernel_rfl) rfl rfl ⟨((HB.out.cell (World.block_lt_of_cell? w _ hw341_0)).trans hw341_0), ((HB.out.cell (World.block_lt_of_cell? w _ hw341_1)).trans hw341_1), ((HB.out.cell (World.block_lt_of_cell? w _ hw341_2)).trans hw341_2), ((HB.out.cell (World.block_lt_of_cell? w _ hw342_0)).trans hw342_0), ((HB.out.cell (World.block_lt_of_cell? w _ hw342_1)).trans hw342_1), ((HB.out.cell (World.block_lt_of_cell? w _ hw342_2)).trans hw342_2)⟩ (fun hHeld => ?_); refine with_tabW laws_eqLinkS.tab6 laws_eqLinkS.bits6 (fun HT_ HW_ => ?_)
        generalize wr.drew = w11 at HB hx341_0 hx341_1 hx341_2 hx342_0 hx342_1 hx342_2 hHeld ⊢
        refine pure_ (i := 0) (N := some 17) (v := ?_) (a' := ?_) #[true, false, false, false, false, false, false, false, false, false] rfl rfl (any_of HT_.out (by kernel_rfl)) (fun _ _ _ h => h) (Or.inl ⟨by rfl, ?_⟩) ?_ ?_
        rotate_left
        ·intro w'
         go_simp
         with_reducible rfl
        rotate_left
        ·simp only [Act.put, sA, sB, sC, i64_w, i32_w]
         rfl
        refine pure_ (i := 1) (N := some 18) (v := ?_) (a' := ?_) #[true, true, false, false, false, false, false, false, false, false] rfl rfl (any_of HT_.out (by kernel_rfl)) (fun _ _ _ h => h) (Or.inl ⟨by rfl, ?_⟩) ?_ ?_
        rotate_left
        ·intro w'
         go_simp
         with_reducible rfl
        rotate_left
        ·simp only [Act.put, sA, sB, sC, i64_w, i32_w]
         rfl
        refine pure_ (i := 2) (N := some 19) (v := ?_) (a' := ?_) #[true, true, true, false, false, false, false, false, false, false] rfl rfl (any_of HT_.out (by kernel_rfl)) (fun _ _ _ h => h) (Or.inl ⟨by rfl, ?_⟩) ?_ ?_
        rotate_left
        ·intro w'
         go_simp
         with_reducible rfl
        rotate_left
        ·simp only [Act.put, sA, sB, sC, i64_w, i32_w]
         rfl
        refine pure_ (i := 4) (N := some 21) (v := ?_) (a' := ?_) #[true, true, true, false, true, false, false, false, false, false] rfl rfl (any_of HT_.out (by kernel_rfl)) (fun _ _ _ h => h) (Or.inl ⟨by rfl, ?_⟩) ?_ ?_
        rotate_left
        ·intro w'
         go_simp
         with_reducible rfl
        rotate_left
        ·simp only [Act.put, sA, sB, sC, i64_w, i32_w]
         rfl
        refine pure_ (i := 5) (N := some 22) (v := ?_) (a' := ?_) #[true, true, true, false, true, true, false, false, false, false] rfl rfl (any_of HT_.out (by kernel_rfl)) (fun _ _ _ h => h) (Or.inl ⟨by rfl, ?_⟩) ?_ ?_
        rotate_left
        ·intro w'
         go_simp
         with_reducible rfl
        rotate_left
        ·simp only [Act.put, sA, sB, sC, i64_w, i32_w]
         rfl
        refine pure_ (i := 6) (N := some 23) (v := ?_) (a' := ?_) #[true, true, true, false, true, true, true, false, false, false] rfl rfl (any_of HT_.out (by kernel_rfl)) (fun _ _ _ h => h) (Or.inl ⟨by rfl, ?_⟩) ?_ ?_
        rotate_left
        ·intro w'
         go_simp
         with_reducible rfl
        rotate_left
        ·simp only [Act.put, sA, sB, sC, i64_w, i32_w]
         rfl
        refine take_ (i := 3) (N := some 20) (v := ?_) (a' := ?_) #[true, true, true, true, true, true, true, false, false, false] rfl rfl (take_ofW HT_.out HW_.out (by kernel_rfl)) (fun _ _ _ h => h) (Or.inl ⟨by rfl, ?_⟩) hHeld ?_ ?_
        rotate_left
        ·rintro w' ⟨s0, s1, s2, s3, s4, s5⟩
         go_simp
         with_reducible rfl
        rotate_left
        ·simp only [Act.put, sA, sB, sC, i64_w, i32_w]
         rfl
        refine take_ (i := 7) (N := some 24) (v := ?_) (a' := ?_) #[true, true, true, true, true, true, true, true, false, false] rfl rfl (take_ofW HT_.out HW_.out (by kernel_rfl)) (fun _ _ _ h => h) (Or.inl ⟨by rfl, ?_⟩) hHeld ?_ ?_
        rotate_left
        ·rintro w' ⟨s0, s1, s2, s3, s4, s5⟩
         go_simp
         with_reducible rfl
        rotate_left
        ·simp only [Act.put, sA, sB, sC, i64_w, i32_w]
         rfl
        refine one_ (i := 8) (N := some 25) #[true, true, true, true, true, true, true, true, true, false] rfl rfl (one_of HT_.out (by kernel_rfl)) (by decide) (fun K hK => ?_)
        refine goes_ Try.func102 (by kernel_rfl) rfl #[.agg #[.int .i64 ((rd_T50 l0 x5_1).f0), .int .i64 ((rd_T50 l0 x5_1).f1), .bool ((rd_T50 l0 x5_1).f2)], .agg #[.int .i64 ((rd_T50 l1 x5_1).f0), .int .i64 ((rd_T50 l1 x5_1).f1), .bool ((rd_T50 l1 x5_1).f2)]] (by rfl) rfl rfl (by (try simp only [sD, sE, sF]); first | done | rfl) ?_
        with_reducible refine (laws_eqLink.calls ((rd_T50 l0 x5_1).f0) ((rd_T50 l0 x5_1).f1) ((rd_T50 l0 x5_1).f2) ((rd_T50 l1 x5_1).f0) ((rd_T50 l1 x5_1).f1) ((rd_T50 l1 x5_1).f2) false _ A7.out).mono ?_
        rintro e w12 ⟨rfl, hb⟩
        refine ⟨_, rfl, ?_⟩
        have n0_ := Aside0.mk (below_step (bX HB.out) hb)
        clear HB
        have HB := n0_
        clear n0_
        (try clear hb)
        (try clear hb2)
        (try clear hk)
        (try clear hi)
        refine hK.out _ _ ⟨((HB.out.cell (World.block_lt_of_cell? w _ hw341_0)).trans hw341_0), ((HB.out.cell (World.block_lt_of_cell? w _ hw341_1)).trans hw341_1), ((HB.out.cell (World.block_lt_of_cell? w _ hw341_2)).trans hw341_2), ((HB.out.cell (World.block_lt_of_cell? w _ hw342_0)).trans hw342_0), ((HB.out.cell (World.block_lt_of_cell? w _ hw342_1)).trans hw342_1), ((HB.out.cell (World.block_lt_of_cell? w _ hw342_2)).trans hw342_2)⟩ (fun hHeld => ?_)
        clear hK K
        refine norm_ (a' := ?_) ?_ ?_
        rotate_left
        ·show Act.put _ (some 25) _ = _
         simp only [Act.put, sA, sB, sC, i64_w, i32_w]
         rfl
        refine pure_ (i := 9) (N := some 26) (v := ?_) (a' := ?_) #[true, true, true, true, true, true, true, true, true, true] rfl rfl (any_of HT_.out (by kernel_rfl)) (fun _ _ _ h => h) (Or.inl ⟨by rfl, ?_⟩) ?_ ?_
        rotate_left
        ·intro w'
         go_simp
         with_reducible rfl
        rotate_left
        ·simp only [Act.put, sA, sB, sC, i64_w, i32_w]
         rfl
        refine done_ (done_of HT_.out (by kernel_rfl)) ?_
        try go_wp2
        go_ret
        exact ⟨by first | rfl | (simp [*, errW_none, errW_some] <;> rfl), bX HB.out⟩
      ·rw [if_neg c6] at H
       exact absurd H (by simp)
     ·rw [if_neg c5] at H
      exact absurd H (by simp)
    ·rw [if_neg c4] at H
     have c4b0 : decide (x5_1 < (l0.length : Int)) = false := decide_eq_false c4
     clear c4
     obtain rfl := Option.some.inj H
     go_wp2
     go_ret
     exact ⟨by first | rfl | (simp [*, errW_none, errW_some] <;> rfl), bX HB.out⟩
 ·rw [if_neg c3] at H
  have c3b0 : ((l0.length : Int) == (l1.length : Int)) = false := beq_eq_false_iff_ne.mpr c3
  have c3b1 : ((l0.length : Int) != (l1.length : Int)) = true := bne_iff_ne.mpr c3
  have c3b2 : (l0.length == l1.length) = false := by first | simpa using c3 | (simp at c3 ⊢; omega)
  obtain rfl := Option.some.inj H
  go_enter Try.func37, Try.ntmps37
  go_wp2
  go_ret
  exact ⟨by first | rfl | (simp [*, errW_none, errW_some] <;> rfl), bX HB.out⟩
def laws_markLinkS.l0 : Nat → List (S50) → Int → Int → Option (Int × (List (S50)))
 | 0, _, _, _ => none
 | k + 1, x0, x1, x5 => if x5 < (x0.length : Int) then (if 0 ≤ x5 then ((some (x0.set (x5 : Int).toNat (⟨x1, (rd_T50 x0 x5).f1, (rd_T50 x0 x5).f2⟩ : S50) : List (S50))).bind fun y344 => ((some (y344.set (x5 : Int).toNat (⟨(rd_T50 y344 x5).f0, wrap64 (x1 + 1), (rd_T50 y344 x5).f2⟩ : S50) : List (S50))).bind fun y345 => (laws_markLinkS.l0 k (y345.set (x5 : Int).toNat (⟨(rd_T50 y345 x5).f0, (rd_T50 y345 x5).f1, ((Int.tmod (wrap64 ((wrap64 (x1 + 1)) + 1)) 3) == 0)⟩ : S50)) (wrap64 ((wrap64 ((wrap64 (x1 + 1)) + 1)) + 1)) (wrap64 (x5 + 1))))) else (none)) else (some (x1, x0))
def laws_markLinkS.f (k : Nat) (l0 : List (S50)) (a1 : Int) : Option (Int × (List (S50))) := laws_markLinkS.l0 k l0 a1 0
theorem laws_markLinkS.mono_l : ∀ k, (∀ y0 y1 y2, LeO (laws_markLinkS.l0 k y0 y1 y2) (laws_markLinkS.l0 (k + 1) y0 y1 y2))
 | 0 => fun _ _ _ r h => by simp [laws_markLinkS.l0] at h
 | k + 1 => by
  have ih0 := laws_markLinkS.mono_l k
  ·intro y0 y1 y2
   unfold laws_markLinkS.l0
   repeat' with_reducible first
   | exact ih0 _ _ _
   | exact LeO.refl _
   | exact LeO.none _
   | refine LeO.ite ?_ ?_
   | refine LeO.bind ?_ (fun _ => ?_)
theorem laws_markLinkS.mono : ∀ a0 a1 k, LeO (laws_markLinkS.f k a0 a1) (laws_markLinkS.f (k + 1) a0 a1) := by
 intro a0 a1 k
 have ih0 := laws_markLinkS.mono_l k
 unfold laws_markLinkS.f
 repeat' first
   | (with_reducible exact ih0 _ _ _)
   | (with_reducible exact LeO.refl _)
   | (with_reducible exact LeO.none _)
   | (with_reducible refine LeO.ite ?_ ?_)
   | (with_reducible refine LeO.bind ?_ (fun _ => ?_))
   | exact ih0 _ _ _
   | exact LeO.none _
   | refine LeO.ite ?_ ?_
   | refine LeO.bind ?_ (fun _ => ?_)
set_option maxHeartbeats 8000000 in
set_option maxRecDepth 100000 in
theorem laws_markLinkS.calls (k : Nat) (P0_ : Nat → Prop) (u9000_ : Value) (l0 : List (S50)) (a1 : Int) (r1 : Int) (r2 : List (S50)) (w0 w : World) (hB : Below w0.heap.size w0 w) (ho0 : Kd.R k50 50 w w0.heap.size P0_ u9000_ l0) (h : laws_markLinkS.f k l0 a1 = some (r1, r2)) :
  Calls Try.prog 38 #[u9000_, .int .i64 a1] w fun e w' => e = .returned (.int .i64 r1) ∧ Kd.R k50 50 w' w0.heap.size (fun k_ => (P0_ k_ ∨ w.heap.size ≤ k_)) u9000_ r2 ∧ Below w0.heap.size w0 w' ∧ Kept w w' (fun k_ => P0_ k_) := by
 have HO0 := Aside0.mk (show Kd.R k50 50 w w0.heap.size (fun k_ => (P0_ k_ ∨ w.heap.size ≤ k_)) u9000_ l0 from Kd.R_mono ho0 (fun k_ hk => (.inl hk)))
 have HK := Aside0.mk (Kept.refl w (fun k_ => P0_ k_))
 have HW0 := Aside0.mk hB.size
 have HB := Aside0.mk hB
 clear hB
 have H : (laws_markLinkS.l0 k l0 a1 0) = some (r1, r2) := h
 clear h
 have H' := Aside0.mk H
 clear H
 go_enter Try.func38, Try.ntmps38
 go_wp2
 go_loopg [1, 5] k (fun kq v1 v5 w' => ∃ (x0_1 : List (S50)) (x1_1 : Int) (x5_1 : Int), v1 = .int .i64 x1_1 ∧ v5 = .int .i64 x5_1 ∧ Aside0 (laws_markLinkS.l0 kq x0_1 x1_1 x5_1 = some (r1, r2)) ∧ Aside0 (kq ≤ k) ∧ Aside0 (Kd.R k50 50 w' w0.heap.size (fun k_ => (P0_ k_ ∨ w.heap.size ≤ k_)) u9000_ x0_1) ∧ Aside0 (Kept w w' (fun k_ => P0_ k_)) ∧ Aside0 (Below w0.heap.size w0 w'))
 case atStart => exact ⟨(l0), (a1), (0), (by first | rfl | (simp; done) | (simp [*]; done)), (by first | rfl | (simp; done) | (simp [*]; done)), H', ⟨Nat.le_refl _⟩, ⟨rX HO0.out⟩, ⟨by repeat (first | (with_reducible first | exact HK.out | apply Kept.alloc | apply Kept.drewN | apply Kept.drew) | exact HK.out)⟩, ⟨bX HB.out⟩⟩
 case round =>
  clear H'
  try clear p2
  obtain ⟨x0_1, x1_1, x5_1, rfl, rfl, HA, HK1, HO_0, HK, HB⟩ := hrel
  cases gk with
  | zero => exact absurd HA.out (by simp [laws_markLinkS.l0])
  | succ k1 =>
   have H := HA.out
   clear HA
   simp only [laws_markLinkS.l0] at H
   by_cases c3 : x5_1 < (x0_1.length : Int)
   ·rw [if_pos c3] at H
    have c3b0 : decide (x5_1 < (x0_1.length : Int)) = true := decide_eq_true c3
    clear c3
    by_cases c4 : 0 ≤ x5_1
    ·rw [if_pos c4] at H
     have c4b0 : decide (0 ≤ x5_1) = true := decide_eq_true c4
     clear c4
     obtain ⟨y344, hy344⟩ : ∃ y_ : List (S50), y_ = (x0_1.set (x5_1 : Int).toNat (⟨x1_1, (rd_T50 x0_1 x5_1).f1, (rd_T50 x0_1 x5_1).f2⟩ : S50)) := ⟨_, rfl⟩
     replace H : ((some (y344.set (x5_1 : Int).toNat (⟨(rd_T50 y344 x5_1).f0, wrap64 (x1_1 + 1), (rd_T50 y344 x5_1).f2⟩ : S50) : List (S50))).bind fun y345 => (laws_markLinkS.l0 k1 (y345.set (x5_1 : Int).toNat (⟨(rd_T50 y345 x5_1).f0, (rd_T50 y345 x5_1).f1, ((Int.tmod (wrap64 ((wrap64 (x1_1 + 1)) + 1)) 3) == 0)⟩ : S50)) (wrap64 ((wrap64 ((wrap64 (x1_1 + 1)) + 1)) + 1)) (wrap64 (x5_1 + 1)))) = some (r1, r2) := by first | (rw [hy344]; with_reducible exact H) | (have H2_ := (Option.bind_some _ _).symm.trans H; rw [hy344]; with_reducible exact H2_) | (have H2_ := (Option.bind_some _ _).symm.trans H; with_reducible exact H2_) | with_reducible exact H | (rw [hy344]; exact H) | exact H
     have Ny344 := Aside0.mk hy344
     clear hy344
     obtain ⟨y345, hy345⟩ : ∃ y_ : List (S50), y_ = (y344.set (x5_1 : Int).toNat (⟨(rd_T50 y344 x5_1).f0, wrap64 (x1_1 + 1), (rd_T50 y344 x5_1).f2⟩ : S50)) := ⟨_, rfl⟩
     replace H : (laws_markLinkS.l0 k1 (y345.set (x5_1 : Int).toNat (⟨(rd_T50 y345 x5_1).f0, (rd_T50 y345 x5_1).f1, ((Int.tmod (wrap64 ((wrap64 (x1_1 + 1)) + 1)) 3) == 0)⟩ : S50)) (wrap64 ((wrap64 ((wrap64 (x1_1 + 1)) + 1)) + 1)) (wrap64 (x5_1 + 1))) = some (r1, r2) := by first | (rw [hy345]; with_reducible exact H) | (have H2_ := (Option.bind_some _ _).symm.trans H; rw [hy345]; with_reducible exact H2_) | (have H2_ := (Option.bind_some _ _).symm.trans H; with_reducible exact H2_) | with_reducible exact H | (rw [hy345]; exact H) | exact H
     have Ny345 := Aside0.mk hy345
     clear hy345
     obtain ⟨y346, hy346⟩ : ∃ y_ : List (S50), y_ = (y345.set (x5_1 : Int).toNat (⟨(rd_T50 y345 x5_1).f0, (rd_T50 y345 x5_1).f1, ((Int.tmod (wrap64 ((wrap64 (x1_1 + 1)) + 1)) 3) == 0)⟩ : S50)) := ⟨_, rfl⟩
     replace H : (laws_markLinkS.l0 k1 y346 (wrap64 ((wrap64 ((wrap64 (x1_1 + 1)) + 1)) + 1)) (wrap64 (x5_1 + 1))) = some (r1, r2) := by first | (rw [hy346]; with_reducible exact H) | (have H2_ := (Option.bind_some _ _).symm.trans H; rw [hy346]; with_reducible exact H2_) | (have H2_ := (Option.bind_some _ _).symm.trans H; with_reducible exact H2_) | with_reducible exact H | (rw [hy346]; exact H) | exact H
     have Ny346 := Aside0.mk hy346
     clear hy346
     have H' := Aside0.mk H
     clear H
     obtain ⟨Ao8, co8, eo8⟩ := Kd.R_slice HO_0.out
     subst eo8
     have p5 : 0 ≤ (x5_1 : Int) := of_decide_eq_true (by assumption)
     have q5 : (x5_1 : Int) < ((x0_1.length : Int) : Int) := of_decide_eq_true (by assumption)
     obtain ⟨go5, co5, eo5, gb5, gl5, cl5, HG5⟩ := Kd.R_form HO_0.out (by omega)
     (first | cases eo5 | (injection eo5 with ea_ en_ ec_; (first | subst ea_ | (injection ea_ with ea_; subst ea_)); subst ec_; clear en_))
     have GB5 := Aside0.mk gb5
     have GG5 := Aside0.mk HG5
     clear gb5 gl5 HG5
     have HMgo5 := Aside0.mk (show (P0_ go5 ∨ w.heap.size ≤ go5) from (HO_0.out.1 _ rfl))
     obtain ⟨ce5, hcl5, hM5, hcc5, hfr5⟩ := Kd.R_elem HO_0.out z50 (x5_1 : Int) p5 q5
     obtain rfl := k50_openM hM5
     have hx5_0 : wr.cell? ⟨go5, (x5_1 : Int).toNat * 3, none⟩ = some (.int .i64 ((rd_T50 x0_1 x5_1).f0)) := hcc5 0 _ rfl
     have hx5_1 : wr.cell? ⟨go5, (x5_1 : Int).toNat * 3 + 1, none⟩ = some (.int .i64 ((rd_T50 x0_1 x5_1).f1)) := hcc5 1 _ rfl
     have hx5_2 : wr.cell? ⟨go5, (x5_1 : Int).toNat * 3 + 2, none⟩ = some (.bool ((rd_T50 x0_1 x5_1).f2)) := hcc5 2 _ rfl
     have hf5_0 : wr.frozen? ⟨go5, (x5_1 : Int).toNat * 3, none⟩ = false := hfr5 0
     have hf5_1 : wr.frozen? ⟨go5, (x5_1 : Int).toNat * 3 + 1, none⟩ = false := hfr5 1
     have hf5_2 : wr.frozen? ⟨go5, (x5_1 : Int).toNat * 3 + 2, none⟩ = false := hfr5 2
     clear hcl5 hcc5 hfr5 hM5
     replace p5 := eq_true p5
     replace q5 := eq_true q5
     have HX9 := Aside0.mk (show Kd.R k50 50 wr w0.heap.size (fun k_ => (P0_ k_ ∨ w.heap.size ≤ k_)) (.slice (some ⟨go5, 0, none⟩) x0_1.length co8) x0_1 from (rX HO_0.out))
     obtain ⟨ce9, hcl9, hM9, hcc9, hfr9⟩ := Kd.R_elem HX9.out z50 (x5_1 : Int) (of_decide_eq_true (by assumption)) (by have h_ : (x5_1 : Int) < ((x0_1.length : Int) : Int) := of_decide_eq_true (by assumption); first | exact h_ | (have e_ := (Kd.R_reads' HO_0.out).1; omega) | simpa using h_)
     obtain rfl := k50_openM hM9
     have HP9 := Kd.R_seg HX9.out (x5_1 : Int) (of_decide_eq_true (by assumption)) (by have h_ : (x5_1 : Int) < ((x0_1.length : Int) : Int) := of_decide_eq_true (by assumption); first | exact h_ | (have e_ := (Kd.R_reads' HO_0.out).1; omega) | simpa using h_) (seg := [.int .i64 x1_1]) (j := 0) hcl9 hcc9 (show 1 ≤ 3 from by decide) (x' := (⟨x1_1, (rd_T50 x0_1 x5_1).f1, (rd_T50 x0_1 x5_1).f2⟩ : S50)) (k50_mkM _ _ _ (⟨x1_1, (rd_T50 x0_1 x5_1).f1, (rd_T50 x0_1 x5_1).f2⟩ : S50) ) (fun _ hk => hk)
     have hx9_0 := hcc9 0 _ rfl
     (try simp only [show (k50).sz = 3 from rfl, Nat.mul_one, Nat.add_zero] at hx9_0)
     have hf9_0 := hfr9 0
     (try simp only [show (k50).sz = 3 from rfl, Nat.mul_one, Nat.add_zero] at hf9_0)
     clear hcl9 hcc9 hfr9 hM9
     go_wp2_with (first | ((with_reducible refine gate_store (t := 3) (p := 16) rfl ?_); refine store_event (t := 3) (p := 16) (v := ?vo_w10) (w1 := (wr.setCell ⟨go5, (x5_1 : Int).toNat * 3, none⟩ (.int .i64 x1_1))) ?hg ?ho ?hn ?hr ?_; (case ho => rfl); (case hg => rfl); (case hn => rfl); (case hr => first | (go_simp; done) | (go_simp; rfl)); intro w10 hw; have hg : wr.grownBy w10 (some go5) := (by rw [hw]; exact HP9.2); have hp_ : Kd.R k50 50 w10 w0.heap.size (fun k_ => (P0_ k_ ∨ w.heap.size ≤ k_)) (.slice (some ⟨go5, 0, none⟩) x0_1.length co8) y344 := (by rw [hw, Ny344.out]; exact HP9.1); clear HP9; have n0_ := Aside0.mk (hp_); have n1_ := Aside0.mk ((by rw [hw]; exact below_set (HB.out) GB5.out : Below w0.heap.size w0 w10)); have n2_ := Aside0.mk (Kept.of_grown (S := (fun k_ => P0_ k_)) hg (by repeat (first | (with_reducible first | exact HK.out | apply Kept.alloc | apply Kept.drewN | apply Kept.drew) | exact HK.out)) (fun k_ e_ => (HO_0.out.1 k_ e_))); clear HO_0; clear HB; clear HK; have HO_0 := n0_; have HB := n1_; have HK := n2_; clear n0_ n1_ n2_; clear hg hw hp_; have p6 : 0 ≤ (x5_1 : Int) := of_decide_eq_true (by assumption); have q6 : (x5_1 : Int) < ((x0_1.length : Int) : Int) := of_decide_eq_true (by assumption); obtain ⟨ce6, hcl6, hM6, hcc6, hfr6⟩ := Kd.R_elem HO_0.out z50 (x5_1 : Int) p6 q6; obtain rfl := k50_openM hM6; have hx6_0 : w10.cell? ⟨go5, (x5_1 : Int).toNat * 3, none⟩ = some (.int .i64 ((rd_T50 y344 x5_1).f0)) := hcc6 0 _ rfl; have hx6_1 : w10.cell? ⟨go5, (x5_1 : Int).toNat * 3 + 1, none⟩ = some (.int .i64 ((rd_T50 y344 x5_1).f1)) := hcc6 1 _ rfl; have hx6_2 : w10.cell? ⟨go5, (x5_1 : Int).toNat * 3 + 2, none⟩ = some (.bool ((rd_T50 y344 x5_1).f2)) := hcc6 2 _ rfl; have hf6_0 : w10.frozen? ⟨go5, (x5_1 : Int).toNat * 3, none⟩ = false := hfr6 0; have hf6_1 : w10.frozen? ⟨go5, (x5_1 : Int).toNat * 3 + 1, none⟩ = false := hfr6 1; have hf6_2 : w10.frozen? ⟨go5, (x5_1 : Int).toNat * 3 + 2, none⟩ = false := hfr6 2; clear hcl6 hcc6 hfr6 hM6; replace p6 := eq_true p6; replace q6 := eq_true q6; have HX11 := Aside0.mk (show Kd.R k50 50 w10 w0.heap.size (fun k_ => (P0_ k_ ∨ w.heap.size ≤ k_)) (.slice (some ⟨go5, 0, none⟩) x0_1.length co8) y344 from (rX HO_0.out)); obtain ⟨ce11, hcl11, hM11, hcc11, hfr11⟩ := Kd.R_elem HX11.out z50 (x5_1 : Int) (of_decide_eq_true (by assumption)) (by have h_ : (x5_1 : Int) < ((x0_1.length : Int) : Int) := of_decide_eq_true (by assumption); first | exact h_ | (have e_ := (Kd.R_reads' HO_0.out).1; omega) | simpa using h_); obtain rfl := k50_openM hM11; have HP11 := Kd.R_seg HX11.out (x5_1 : Int) (of_decide_eq_true (by assumption)) (by have h_ : (x5_1 : Int) < ((x0_1.length : Int) : Int) := of_decide_eq_true (by assumption); first | exact h_ | (have e_ := (Kd.R_reads' HO_0.out).1; omega) | simpa using h_) (seg := [.int .i64 (wrap64 (x1_1 + 1))]) (j := 1) hcl11 hcc11 (show 2 ≤ 3 from by decide) (x' := (⟨(rd_T50 y344 x5_1).f0, wrap64 (x1_1 + 1), (rd_T50 y344 x5_1).f2⟩ : S50)) (k50_mkM _ _ _ (⟨(rd_T50 y344 x5_1).f0, wrap64 (x1_1 + 1), (rd_T50 y344 x5_1).f2⟩ : S50) ) (fun _ hk => hk); have hx11_1 := hcc11 1 _ rfl; (try simp only [show (k50).sz = 3 from rfl, Nat.mul_one, Nat.add_zero] at hx11_1); have hf11_1 := hfr11 1; (try simp only [show (k50).sz = 3 from rfl, Nat.mul_one, Nat.add_zero] at hf11_1); clear hcl11 hcc11 hfr11 hM11) | ((with_reducible refine gate_store (t := 3) (p := 23) rfl ?_); refine store_event (t := 3) (p := 23) (v := ?vo_w12) (w1 := (w10.setCell ⟨go5, (x5_1 : Int).toNat * 3 + 1, none⟩ (.int .i64 (wrap64 (x1_1 + 1))))) ?hg ?ho ?hn ?hr ?_; (case ho => rfl); (case hg => rfl); (case hn => rfl); (case hr => first | (go_simp; done) | (go_simp; rfl)); intro w12 hw; have hg : w10.grownBy w12 (some go5) := (by rw [hw]; exact HP11.2); have hp_ : Kd.R k50 50 w12 w0.heap.size (fun k_ => (P0_ k_ ∨ w.heap.size ≤ k_)) (.slice (some ⟨go5, 0, none⟩) x0_1.length co8) y345 := (by rw [hw, Ny345.out]; exact HP11.1); clear HP11; have n0_ := Aside0.mk (hp_); have n1_ := Aside0.mk ((by rw [hw]; exact below_set (HB.out) GB5.out : Below w0.heap.size w0 w12)); have n2_ := Aside0.mk (Kept.of_grown (S := (fun k_ => P0_ k_)) hg (by repeat (first | (with_reducible first | exact HK.out | apply Kept.alloc | apply Kept.drewN | apply Kept.drew) | exact HK.out)) (fun k_ e_ => (HO_0.out.1 k_ e_))); clear HO_0; clear HB; clear HK; have HO_0 := n0_; have HB := n1_; have HK := n2_; clear n0_ n1_ n2_; clear hg hw hp_; have p7 : 0 ≤ (x5_1 : Int) := of_decide_eq_true (by assumption); have q7 : (x5_1 : Int) < ((x0_1.length : Int) : Int) := of_decide_eq_true (by assumption); obtain ⟨ce7, hcl7, hM7, hcc7, hfr7⟩ := Kd.R_elem HO_0.out z50 (x5_1 : Int) p7 q7; obtain rfl := k50_openM hM7; have hx7_0 : w12.cell? ⟨go5, (x5_1 : Int).toNat * 3, none⟩ = some (.int .i64 ((rd_T50 y345 x5_1).f0)) := hcc7 0 _ rfl; have hx7_1 : w12.cell? ⟨go5, (x5_1 : Int).toNat * 3 + 1, none⟩ = some (.int .i64 ((rd_T50 y345 x5_1).f1)) := hcc7 1 _ rfl; have hx7_2 : w12.cell? ⟨go5, (x5_1 : Int).toNat * 3 + 2, none⟩ = some (.bool ((rd_T50 y345 x5_1).f2)) := hcc7 2 _ rfl; have hf7_0 : w12.frozen? ⟨go5, (x5_1 : Int).toNat * 3, none⟩ = false := hfr7 0; have hf7_1 : w12.frozen? ⟨go5, (x5_1 : Int).toNat * 3 + 1, none⟩ = false := hfr7 1; have hf7_2 : w12.frozen? ⟨go5, (x5_1 : Int).toNat * 3 + 2, none⟩ = false := hfr7 2; clear hcl7 hcc7 hfr7 hM7; replace p7 := eq_true p7; replace q7 := eq_true q7; have HX13 := Aside0.mk (show Kd.R k50 50 w12 w0.heap.size (fun k_ => (P0_ k_ ∨ w.heap.size ≤ k_)) (.slice (some ⟨go5, 0, none⟩) x0_1.length co8) y345 from (rX HO_0.out)); obtain ⟨ce13, hcl13, hM13, hcc13, hfr13⟩ := Kd.R_elem HX13.out z50 (x5_1 : Int) (of_decide_eq_true (by assumption)) (by have h_ : (x5_1 : Int) < ((x0_1.length : Int) : Int) := of_decide_eq_true (by assumption); first | exact h_ | (have e_ := (Kd.R_reads' HO_0.out).1; omega) | simpa using h_); obtain rfl := k50_openM hM13; have HP13 := Kd.R_seg HX13.out (x5_1 : Int) (of_decide_eq_true (by assumption)) (by have h_ : (x5_1 : Int) < ((x0_1.length : Int) : Int) := of_decide_eq_true (by assumption); first | exact h_ | (have e_ := (Kd.R_reads' HO_0.out).1; omega) | simpa using h_) (seg := [.bool ((Int.tmod (wrap64 ((wrap64 (x1_1 + 1)) + 1)) 3) == 0)]) (j := 2) hcl13 hcc13 (show 3 ≤ 3 from by decide) (x' := (⟨(rd_T50 y345 x5_1).f0, (rd_T50 y345 x5_1).f1, ((Int.tmod (wrap64 ((wrap64 (x1_1 + 1)) + 1)) 3) == 0)⟩ : S50)) (k50_mkM _ _ _ (⟨(rd_T50 y345 x5_1).f0, (rd_T50 y345 x5_1).f1, ((Int.tmod (wrap64 ((wrap64 (x1_1 + 1)) + 1)) 3) == 0)⟩ : S50) ) (fun _ hk => hk); have hx13_2 := hcc13 2 _ rfl; (try simp only [show (k50).sz = 3 from rfl, Nat.mul_one, Nat.add_zero] at hx13_2); have hf13_2 := hfr13 2; (try simp only [show (k50).sz = 3 from rfl, Nat.mul_one, Nat.add_zero] at hf13_2); clear hcl13 hcc13 hfr13 hM13) | ((with_reducible refine gate_store (t := 4) (p := 32) rfl ?_); refine store_event (t := 4) (p := 32) (v := ?vo_w14) (w1 := (w12.setCell ⟨go5, (x5_1 : Int).toNat * 3 + 2, none⟩ (.bool ((Int.tmod (wrap64 ((wrap64 (x1_1 + 1)) + 1)) 3) == 0)))) ?hg ?ho ?hn ?hr ?_; (case ho => rfl); (case hg => rfl); (case hn => rfl); (case hr => first | (go_simp; done) | (go_simp; rfl)); intro w14 hw; have hg : w12.grownBy w14 (some go5) := (by rw [hw]; exact HP13.2); have hp_ : Kd.R k50 50 w14 w0.heap.size (fun k_ => (P0_ k_ ∨ w.heap.size ≤ k_)) (.slice (some ⟨go5, 0, none⟩) x0_1.length co8) y346 := (by rw [hw, Ny346.out]; exact HP13.1); clear HP13; have n0_ := Aside0.mk (hp_); have n1_ := Aside0.mk ((by rw [hw]; exact below_set (HB.out) GB5.out : Below w0.heap.size w0 w14)); have n2_ := Aside0.mk (Kept.of_grown (S := (fun k_ => P0_ k_)) hg (by repeat (first | (with_reducible first | exact HK.out | apply Kept.alloc | apply Kept.drewN | apply Kept.drew) | exact HK.out)) (fun k_ e_ => (HO_0.out.1 k_ e_))); clear HO_0; clear HB; clear HK; have HO_0 := n0_; have HB := n1_; have HK := n2_; clear n0_ n1_ n2_; clear hg hw hp_))
     go_roundg k1
     case measure => have := HK1.out; omega
     case rel => exact ⟨(y346), (wrap64 ((wrap64 ((wrap64 (x1_1 + 1)) + 1)) + 1)), (wrap64 (x5_1 + 1)), (by first | rfl | (simp; done) | (simp [*]; done)), (by first | rfl | (simp; done) | (simp [*]; done)), H', ⟨by have := HK1.out; omega⟩, ⟨rX HO_0.out⟩, ⟨by repeat (first | (with_reducible first | exact HK.out | apply Kept.alloc | apply Kept.drewN | apply Kept.drew) | exact HK.out)⟩, ⟨bX HB.out⟩⟩
    ·rw [if_neg c4] at H
     exact absurd H (by simp)
   ·rw [if_neg c3] at H
    have c3b0 : decide (x5_1 < (x0_1.length : Int)) = false := decide_eq_false c3
    clear c3
    simp only [Option.some.injEq, Prod.mk.injEq] at H
    obtain ⟨rfl, rfl⟩ := H
    obtain ⟨Ao15, co15, eo15⟩ := Kd.R_slice HO_0.out
    subst eo15
    go_wp2
    go_ret
    exact ⟨by first | rfl | (simp [*, errW_none, errW_some] <;> rfl), rX HO_0.out, bX HB.out, by repeat (first | (with_reducible first | exact HK.out | apply Kept.alloc | apply Kept.drewN | apply Kept.drew) | exact HK.out)⟩
def laws_markDominoS.l0 : Nat → List (S41) → Int → Int → Option (Int × (List (S41)))
 | 0, _, _, _ => none
 | k + 1, x0, x1, x5 => if x5 < (x0.length : Int) then (if 0 ≤ x5 then ((some (x0.set (x5 : Int).toNat (⟨x1, (rd_T41 x0 x5).f1, (rd_T41 x0 x5).f2⟩ : S41) : List (S41))).bind fun y347 => ((some (y347.set (x5 : Int).toNat (⟨(rd_T41 y347 x5).f0, wrap64 (x1 + 1), (rd_T41 y347 x5).f2⟩ : S41) : List (S41))).bind fun y348 => (laws_markDominoS.l0 k (y348.set (x5 : Int).toNat (⟨(rd_T41 y348 x5).f0, (rd_T41 y348 x5).f1, ((Int.tmod (wrap64 ((wrap64 (x1 + 1)) + 1)) 3) == 0)⟩ : S41)) (wrap64 ((wrap64 ((wrap64 (x1 + 1)) + 1)) + 1)) (wrap64 (x5 + 1))))) else (none)) else (some (x1, x0))
def laws_markDominoS.f (k : Nat) (l0 : List (S41)) (a1 : Int) : Option (Int × (List (S41))) := laws_markDominoS.l0 k l0 a1 0
theorem laws_markDominoS.mono_l : ∀ k, (∀ y0 y1 y2, LeO (laws_markDominoS.l0 k y0 y1 y2) (laws_markDominoS.l0 (k + 1) y0 y1 y2))
 | 0 => fun _ _ _ r h => by simp [laws_markDominoS.l0] at h
 | k + 1 => by
  have ih0 := laws_markDominoS.mono_l k
  ·intro y0 y1 y2
   unfold laws_markDominoS.l0
   repeat' with_reducible first
   | exact ih0 _ _ _
   | exact LeO.refl _
   | exact LeO.none _
   | refine LeO.ite ?_ ?_
   | refine LeO.bind ?_ (fun _ => ?_)
theorem laws_markDominoS.mono : ∀ a0 a1 k, LeO (laws_markDominoS.f k a0 a1) (laws_markDominoS.f (k + 1) a0 a1) := by
 intro a0 a1 k
 have ih0 := laws_markDominoS.mono_l k
 unfold laws_markDominoS.f
 repeat' first
   | (with_reducible exact ih0 _ _ _)
   | (with_reducible exact LeO.refl _)
   | (with_reducible exact LeO.none _)
   | (with_reducible refine LeO.ite ?_ ?_)
   | (with_reducible refine LeO.bind ?_ (fun _ => ?_))
   | exact ih0 _ _ _
   | exact LeO.none _
   | refine LeO.ite ?_ ?_
   | refine LeO.bind ?_ (fun _ => ?_)
set_option maxHeartbeats 8000000 in
set_option maxRecDepth 100000 in
theorem laws_markDominoS.calls (k : Nat) (P0_ : Nat → Prop) (u9000_ : Value) (l0 : List (S41)) (a1 : Int) (r1 : Int) (r2 : List (S41)) (w0 w : World) (hB : Below w0.heap.size w0 w) (ho0 : Kd.R k41 41 w w0.heap.size P0_ u9000_ l0) (h : laws_markDominoS.f k l0 a1 = some (r1, r2)) :
  Calls Try.prog 39 #[u9000_, .int .i64 a1] w fun e w' => e = .returned (.int .i64 r1) ∧ Kd.R k41 41 w' w0.heap.size (fun k_ => (P0_ k_ ∨ w.heap.size ≤ k_)) u9000_ r2 ∧ Below w0.heap.size w0 w' ∧ Kept w w' (fun k_ => P0_ k_) := by
 have HO0 := Aside0.mk (show Kd.R k41 41 w w0.heap.size (fun k_ => (P0_ k_ ∨ w.heap.size ≤ k_)) u9000_ l0 from Kd.R_mono ho0 (fun k_ hk => (.inl hk)))
 have HK := Aside0.mk (Kept.refl w (fun k_ => P0_ k_))
 have HW0 := Aside0.mk hB.size
 have HB := Aside0.mk hB
 clear hB
 have H : (laws_markDominoS.l0 k l0 a1 0) = some (r1, r2) := h
 clear h
 have H' := Aside0.mk H
 clear H
 go_enter Try.func39, Try.ntmps39
 go_wp2
 go_loopg [1, 5] k (fun kq v1 v5 w' => ∃ (x0_1 : List (S41)) (x1_1 : Int) (x5_1 : Int), v1 = .int .i64 x1_1 ∧ v5 = .int .i64 x5_1 ∧ Aside0 (laws_markDominoS.l0 kq x0_1 x1_1 x5_1 = some (r1, r2)) ∧ Aside0 (kq ≤ k) ∧ Aside0 (Kd.R k41 41 w' w0.heap.size (fun k_ => (P0_ k_ ∨ w.heap.size ≤ k_)) u9000_ x0_1) ∧ Aside0 (Kept w w' (fun k_ => P0_ k_)) ∧ Aside0 (Below w0.heap.size w0 w'))
 case atStart => exact ⟨(l0), (a1), (0), (by first | rfl | (simp; done) | (simp [*]; done)), (by first | rfl | (simp; done) | (simp [*]; done)), H', ⟨Nat.le_refl _⟩, ⟨rX HO0.out⟩, ⟨by repeat (first | (with_reducible first | exact HK.out | apply Kept.alloc | apply Kept.drewN | apply Kept.drew) | exact HK.out)⟩, ⟨bX HB.out⟩⟩
 case round =>
  clear H'
  try clear p2
  obtain ⟨x0_1, x1_1, x5_1, rfl, rfl, HA, HK1, HO_0, HK, HB⟩ := hrel
  cases gk with
  | zero => exact absurd HA.out (by simp [laws_markDominoS.l0])
  | succ k1 =>
   have H := HA.out
   clear HA
   simp only [laws_markDominoS.l0] at H
   by_cases c3 : x5_1 < (x0_1.length : Int)
   ·rw [if_pos c3] at H
    have c3b0 : decide (x5_1 < (x0_1.length : Int)) = true := decide_eq_true c3
    clear c3
    by_cases c4 : 0 ≤ x5_1
    ·rw [if_pos c4] at H
     have c4b0 : decide (0 ≤ x5_1) = true := decide_eq_true c4
     clear c4
     obtain ⟨y347, hy347⟩ : ∃ y_ : List (S41), y_ = (x0_1.set (x5_1 : Int).toNat (⟨x1_1, (rd_T41 x0_1 x5_1).f1, (rd_T41 x0_1 x5_1).f2⟩ : S41)) := ⟨_, rfl⟩
     replace H : ((some (y347.set (x5_1 : Int).toNat (⟨(rd_T41 y347 x5_1).f0, wrap64 (x1_1 + 1), (rd_T41 y347 x5_1).f2⟩ : S41) : List (S41))).bind fun y348 => (laws_markDominoS.l0 k1 (y348.set (x5_1 : Int).toNat (⟨(rd_T41 y348 x5_1).f0, (rd_T41 y348 x5_1).f1, ((Int.tmod (wrap64 ((wrap64 (x1_1 + 1)) + 1)) 3) == 0)⟩ : S41)) (wrap64 ((wrap64 ((wrap64 (x1_1 + 1)) + 1)) + 1)) (wrap64 (x5_1 + 1)))) = some (r1, r2) := by first | (rw [hy347]; with_reducible exact H) | (have H2_ := (Option.bind_some _ _).symm.trans H; rw [hy347]; with_reducible exact H2_) | (have H2_ := (Option.bind_some _ _).symm.trans H; with_reducible exact H2_) | with_reducible exact H | (rw [hy347]; exact H) | exact H
     have Ny347 := Aside0.mk hy347
     clear hy347
     obtain ⟨y348, hy348⟩ : ∃ y_ : List (S41), y_ = (y347.set (x5_1 : Int).toNat (⟨(rd_T41 y347 x5_1).f0, wrap64 (x1_1 + 1), (rd_T41 y347 x5_1).f2⟩ : S41)) := ⟨_, rfl⟩
     replace H : (laws_markDominoS.l0 k1 (y348.set (x5_1 : Int).toNat (⟨(rd_T41 y348 x5_1).f0, (rd_T41 y348 x5_1).f1, ((Int.tmod (wrap64 ((wrap64 (x1_1 + 1)) + 1)) 3) == 0)⟩ : S41)) (wrap64 ((wrap64 ((wrap64 (x1_1 + 1)) + 1)) + 1)) (wrap64 (x5_1 + 1))) = some (r1, r2) := by first | (rw [hy348]; with_reducible exact H) | (have H2_ := (Option.bind_some _ _).symm.trans H; rw [hy348]; with_reducible exact H2_) | (have H2_ := (Option.bind_some _ _).symm.trans H; with_reducible exact H2_) | with_reducible exact H | (rw [hy348]; exact H) | exact H
     have Ny348 := Aside0.mk hy348
     clear hy348
     obtain ⟨y349, hy349⟩ : ∃ y_ : List (S41), y_ = (y348.set (x5_1 : Int).toNat (⟨(rd_T41 y348 x5_1).f0, (rd_T41 y348 x5_1).f1, ((Int.tmod (wrap64 ((wrap64 (x1_1 + 1)) + 1)) 3) == 0)⟩ : S41)) := ⟨_, rfl⟩
     replace H : (laws_markDominoS.l0 k1 y349 (wrap64 ((wrap64 ((wrap64 (x1_1 + 1)) + 1)) + 1)) (wrap64 (x5_1 + 1))) = some (r1, r2) := by first | (rw [hy349]; with_reducible exact H) | (have H2_ := (Option.bind_some _ _).symm.trans H; rw [hy349]; with_reducible exact H2_) | (have H2_ := (Option.bind_some _ _).symm.trans H; with_reducible exact H2_) | with_reducible exact H | (rw [hy349]; exact H) | exact H
     have Ny349 := Aside0.mk hy349
     clear hy349
     have H' := Aside0.mk H
     clear H
     obtain ⟨Ao8, co8, eo8⟩ := Kd.R_slice HO_0.out
     subst eo8
     have p5 : 0 ≤ (x5_1 : Int) := of_decide_eq_true (by assumption)
     have q5 : (x5_1 : Int) < ((x0_1.length : Int) : Int) := of_decide_eq_true (by assumption)
     obtain ⟨go5, co5, eo5, gb5, gl5, cl5, HG5⟩ := Kd.R_form HO_0.out (by omega)
     (first | cases eo5 | (injection eo5 with ea_ en_ ec_; (first | subst ea_ | (injection ea_ with ea_; subst ea_)); subst ec_; clear en_))
     have GB5 := Aside0.mk gb5
     have GG5 := Aside0.mk HG5
     clear gb5 gl5 HG5
     have HMgo5 := Aside0.mk (show (P0_ go5 ∨ w.heap.size ≤ go5) from (HO_0.out.1 _ rfl))
     obtain ⟨ce5, hcl5, hM5, hcc5, hfr5⟩ := Kd.R_elem HO_0.out z41 (x5_1 : Int) p5 q5
     obtain rfl := k41_openM hM5
     have hx5_0 : wr.cell? ⟨go5, (x5_1 : Int).toNat * 3, none⟩ = some (.int .i64 ((rd_T41 x0_1 x5_1).f0)) := hcc5 0 _ rfl
     have hx5_1 : wr.cell? ⟨go5, (x5_1 : Int).toNat * 3 + 1, none⟩ = some (.int .i64 ((rd_T41 x0_1 x5_1).f1)) := hcc5 1 _ rfl
     have hx5_2 : wr.cell? ⟨go5, (x5_1 : Int).toNat * 3 + 2, none⟩ = some (.bool ((rd_T41 x0_1 x5_1).f2)) := hcc5 2 _ rfl
     have hf5_0 : wr.frozen? ⟨go5, (x5_1 : Int).toNat * 3, none⟩ = false := hfr5 0
     have hf5_1 : wr.frozen? ⟨go5, (x5_1 : Int).toNat * 3 + 1, none⟩ = false := hfr5 1
     have hf5_2 : wr.frozen? ⟨go5, (x5_1 : Int).toNat * 3 + 2, none⟩ = false := hfr5 2
     clear hcl5 hcc5 hfr5 hM5
     replace p5 := eq_true p5
     replace q5 := eq_true q5
     have HX9 := Aside0.mk (show Kd.R k41 41 wr w0.heap.size (fun k_ => (P0_ k_ ∨ w.heap.size ≤ k_)) (.slice (some ⟨go5, 0, none⟩) x0_1.length co8) x0_1 from (rX HO_0.out))
     obtain ⟨ce9, hcl9, hM9, hcc9, hfr9⟩ := Kd.R_elem HX9.out z41 (x5_1 : Int) (of_decide_eq_true (by assumption)) (by have h_ : (x5_1 : Int) < ((x0_1.length : Int) : Int) := of_decide_eq_true (by assumption); first | exact h_ | (have e_ := (Kd.R_reads' HO_0.out).1; omega) | simpa using h_)
     obtain rfl := k41_openM hM9
     have HP9 := Kd.R_seg HX9.out (x5_1 : Int) (of_decide_eq_true (by assumption)) (by have h_ : (x5_1 : Int) < ((x0_1.length : Int) : Int) := of_decide_eq_true (by assumption); first | exact h_ | (have e_ := (Kd.R_reads' HO_0.out).1; omega) | simpa using h_) (seg := [.int .i64 x1_1]) (j := 0) hcl9 hcc9 (show 1 ≤ 3 from by decide) (x' := (⟨x1_1, (rd_T41 x0_1 x5_1).f1, (rd_T41 x0_1 x5_1).f2⟩ : S41)) (k41_mkM _ _ _ (⟨x1_1, (rd_T41 x0_1 x5_1).f1, (rd_T41 x0_1 x5_1).f2⟩ : S41) ) (fun _ hk => hk)
     have hx9_0 := hcc9 0 _ rfl
     (try simp only [show (k41).sz = 3 from rfl, Nat.mul_one, Nat.add_zero] at hx9_0)
     have hf9_0 := hfr9 0
     (try simp only [show (k41).sz = 3 from rfl, Nat.mul_one, Nat.add_zero] at hf9_0)
     clear hcl9 hcc9 hfr9 hM9
     go_wp2_with (first | ((with_reducible refine gate_store (t := 3) (p := 16) rfl ?_); refine store_event (t := 3) (p := 16) (v := ?vo_w10) (w1 := (wr.setCell ⟨go5, (x5_1 : Int).toNat * 3, none⟩ (.int .i64 x1_1))) ?hg ?ho ?hn ?hr ?_; (case ho => rfl); (case hg => rfl); (case hn => rfl); (case hr => first | (go_simp; done) | (go_simp; rfl)); intro w10 hw; have hg : wr.grownBy w10 (some go5) := (by rw [hw]; exact HP9.2); have hp_ : Kd.R k41 41 w10 w0.heap.size (fun k_ => (P0_ k_ ∨ w.heap.size ≤ k_)) (.slice (some ⟨go5, 0, none⟩) x0_1.length co8) y347 := (by rw [hw, Ny347.out]; exact HP9.1); clear HP9; have n0_ := Aside0.mk (hp_); have n1_ := Aside0.mk ((by rw [hw]; exact below_set (HB.out) GB5.out : Below w0.heap.size w0 w10)); have n2_ := Aside0.mk (Kept.of_grown (S := (fun k_ => P0_ k_)) hg (by repeat (first | (with_reducible first | exact HK.out | apply Kept.alloc | apply Kept.drewN | apply Kept.drew) | exact HK.out)) (fun k_ e_ => (HO_0.out.1 k_ e_))); clear HO_0; clear HB; clear HK; have HO_0 := n0_; have HB := n1_; have HK := n2_; clear n0_ n1_ n2_; clear hg hw hp_; have p6 : 0 ≤ (x5_1 : Int) := of_decide_eq_true (by assumption); have q6 : (x5_1 : Int) < ((x0_1.length : Int) : Int) := of_decide_eq_true (by assumption); obtain ⟨ce6, hcl6, hM6, hcc6, hfr6⟩ := Kd.R_elem HO_0.out z41 (x5_1 : Int) p6 q6; obtain rfl := k41_openM hM6; have hx6_0 : w10.cell? ⟨go5, (x5_1 : Int).toNat * 3, none⟩ = some (.int .i64 ((rd_T41 y347 x5_1).f0)) := hcc6 0 _ rfl; have hx6_1 : w10.cell? ⟨go5, (x5_1 : Int).toNat * 3 + 1, none⟩ = some (.int .i64 ((rd_T41 y347 x5_1).f1)) := hcc6 1 _ rfl; have hx6_2 : w10.cell? ⟨go5, (x5_1 : Int).toNat * 3 + 2, none⟩ = some (.bool ((rd_T41 y347 x5_1).f2)) := hcc6 2 _ rfl; have hf6_0 : w10.frozen? ⟨go5, (x5_1 : Int).toNat * 3, none⟩ = false := hfr6 0; have hf6_1 : w10.frozen? ⟨go5, (x5_1 : Int).toNat * 3 + 1, none⟩ = false := hfr6 1; have hf6_2 : w10.frozen? ⟨go5, (x5_1 : Int).toNat * 3 + 2, none⟩ = false := hfr6 2; clear hcl6 hcc6 hfr6 hM6; replace p6 := eq_true p6; replace q6 := eq_true q6; have HX11 := Aside0.mk (show Kd.R k41 41 w10 w0.heap.size (fun k_ => (P0_ k_ ∨ w.heap.size ≤ k_)) (.slice (some ⟨go5, 0, none⟩) x0_1.length co8) y347 from (rX HO_0.out)); obtain ⟨ce11, hcl11, hM11, hcc11, hfr11⟩ := Kd.R_elem HX11.out z41 (x5_1 : Int) (of_decide_eq_true (by assumption)) (by have h_ : (x5_1 : Int) < ((x0_1.length : Int) : Int) := of_decide_eq_true (by assumption); first | exact h_ | (have e_ := (Kd.R_reads' HO_0.out).1; omega) | simpa using h_); obtain rfl := k41_openM hM11; have HP11 := Kd.R_seg HX11.out (x5_1 : Int) (of_decide_eq_true (by assumption)) (by have h_ : (x5_1 : Int) < ((x0_1.length : Int) : Int) := of_decide_eq_true (by assumption); first | exact h_ | (have e_ := (Kd.R_reads' HO_0.out).1; omega) | simpa using h_) (seg := [.int .i64 (wrap64 (x1_1 + 1))]) (j := 1) hcl11 hcc11 (show 2 ≤ 3 from by decide) (x' := (⟨(rd_T41 y347 x5_1).f0, wrap64 (x1_1 + 1), (rd_T41 y347 x5_1).f2⟩ : S41)) (k41_mkM _ _ _ (⟨(rd_T41 y347 x5_1).f0, wrap64 (x1_1 + 1), (rd_T41 y347 x5_1).f2⟩ : S41) ) (fun _ hk => hk); have hx11_1 := hcc11 1 _ rfl; (try simp only [show (k41).sz = 3 from rfl, Nat.mul_one, Nat.add_zero] at hx11_1); have hf11_1 := hfr11 1; (try simp only [show (k41).sz = 3 from rfl, Nat.mul_one, Nat.add_zero] at hf11_1); clear hcl11 hcc11 hfr11 hM11) | ((with_reducible refine gate_store (t := 3) (p := 23) rfl ?_); refine store_event (t := 3) (p := 23) (v := ?vo_w12) (w1 := (w10.setCell ⟨go5, (x5_1 : Int).toNat * 3 + 1, none⟩ (.int .i64 (wrap64 (x1_1 + 1))))) ?hg ?ho ?hn ?hr ?_; (case ho => rfl); (case hg => rfl); (case hn => rfl); (case hr => first | (go_simp; done) | (go_simp; rfl)); intro w12 hw; have hg : w10.grownBy w12 (some go5) := (by rw [hw]; exact HP11.2); have hp_ : Kd.R k41 41 w12 w0.heap.size (fun k_ => (P0_ k_ ∨ w.heap.size ≤ k_)) (.slice (some ⟨go5, 0, none⟩) x0_1.length co8) y348 := (by rw [hw, Ny348.out]; exact HP11.1); clear HP11; have n0_ := Aside0.mk (hp_); have n1_ := Aside0.mk ((by rw [hw]; exact below_set (HB.out) GB5.out : Below w0.heap.size w0 w12)); have n2_ := Aside0.mk (Kept.of_grown (S := (fun k_ => P0_ k_)) hg (by repeat (first | (with_reducible first | exact HK.out | apply Kept.alloc | apply Kept.drewN | apply Kept.drew) | exact HK.out)) (fun k_ e_ => (HO_0.out.1 k_ e_))); clear HO_0; clear HB; clear HK; have HO_0 := n0_; have HB := n1_; have HK := n2_; clear n0_ n1_ n2_; clear hg hw hp_; have p7 : 0 ≤ (x5_1 : Int) := of_decide_eq_true (by assumption); have q7 : (x5_1 : Int) < ((x0_1.length : Int) : Int) := of_decide_eq_true (by assumption); obtain ⟨ce7, hcl7, hM7, hcc7, hfr7⟩ := Kd.R_elem HO_0.out z41 (x5_1 : Int) p7 q7; obtain rfl := k41_openM hM7; have hx7_0 : w12.cell? ⟨go5, (x5_1 : Int).toNat * 3, none⟩ = some (.int .i64 ((rd_T41 y348 x5_1).f0)) := hcc7 0 _ rfl; have hx7_1 : w12.cell? ⟨go5, (x5_1 : Int).toNat * 3 + 1, none⟩ = some (.int .i64 ((rd_T41 y348 x5_1).f1)) := hcc7 1 _ rfl; have hx7_2 : w12.cell? ⟨go5, (x5_1 : Int).toNat * 3 + 2, none⟩ = some (.bool ((rd_T41 y348 x5_1).f2)) := hcc7 2 _ rfl; have hf7_0 : w12.frozen? ⟨go5, (x5_1 : Int).toNat * 3, none⟩ = false := hfr7 0; have hf7_1 : w12.frozen? ⟨go5, (x5_1 : Int).toNat * 3 + 1, none⟩ = false := hfr7 1; have hf7_2 : w12.frozen? ⟨go5, (x5_1 : Int).toNat * 3 + 2, none⟩ = false := hfr7 2; clear hcl7 hcc7 hfr7 hM7; replace p7 := eq_true p7; replace q7 := eq_true q7; have HX13 := Aside0.mk (show Kd.R k41 41 w12 w0.heap.size (fun k_ => (P0_ k_ ∨ w.heap.size ≤ k_)) (.slice (some ⟨go5, 0, none⟩) x0_1.length co8) y348 from (rX HO_0.out)); obtain ⟨ce13, hcl13, hM13, hcc13, hfr13⟩ := Kd.R_elem HX13.out z41 (x5_1 : Int) (of_decide_eq_true (by assumption)) (by have h_ : (x5_1 : Int) < ((x0_1.length : Int) : Int) := of_decide_eq_true (by assumption); first | exact h_ | (have e_ := (Kd.R_reads' HO_0.out).1; omega) | simpa using h_); obtain rfl := k41_openM hM13; have HP13 := Kd.R_seg HX13.out (x5_1 : Int) (of_decide_eq_true (by assumption)) (by have h_ : (x5_1 : Int) < ((x0_1.length : Int) : Int) := of_decide_eq_true (by assumption); first | exact h_ | (have e_ := (Kd.R_reads' HO_0.out).1; omega) | simpa using h_) (seg := [.bool ((Int.tmod (wrap64 ((wrap64 (x1_1 + 1)) + 1)) 3) == 0)]) (j := 2) hcl13 hcc13 (show 3 ≤ 3 from by decide) (x' := (⟨(rd_T41 y348 x5_1).f0, (rd_T41 y348 x5_1).f1, ((Int.tmod (wrap64 ((wrap64 (x1_1 + 1)) + 1)) 3) == 0)⟩ : S41)) (k41_mkM _ _ _ (⟨(rd_T41 y348 x5_1).f0, (rd_T41 y348 x5_1).f1, ((Int.tmod (wrap64 ((wrap64 (x1_1 + 1)) + 1)) 3) == 0)⟩ : S41) ) (fun _ hk => hk); have hx13_2 := hcc13 2 _ rfl; (try simp only [show (k41).sz = 3 from rfl, Nat.mul_one, Nat.add_zero] at hx13_2); have hf13_2 := hfr13 2; (try simp only [show (k41).sz = 3 from rfl, Nat.mul_one, Nat.add_zero] at hf13_2); clear hcl13 hcc13 hfr13 hM13) | ((with_reducible refine gate_store (t := 4) (p := 32) rfl ?_); refine store_event (t := 4) (p := 32) (v := ?vo_w14) (w1 := (w12.setCell ⟨go5, (x5_1 : Int).toNat * 3 + 2, none⟩ (.bool ((Int.tmod (wrap64 ((wrap64 (x1_1 + 1)) + 1)) 3) == 0)))) ?hg ?ho ?hn ?hr ?_; (case ho => rfl); (case hg => rfl); (case hn => rfl); (case hr => first | (go_simp; done) | (go_simp; rfl)); intro w14 hw; have hg : w12.grownBy w14 (some go5) := (by rw [hw]; exact HP13.2); have hp_ : Kd.R k41 41 w14 w0.heap.size (fun k_ => (P0_ k_ ∨ w.heap.size ≤ k_)) (.slice (some ⟨go5, 0, none⟩) x0_1.length co8) y349 := (by rw [hw, Ny349.out]; exact HP13.1); clear HP13; have n0_ := Aside0.mk (hp_); have n1_ := Aside0.mk ((by rw [hw]; exact below_set (HB.out) GB5.out : Below w0.heap.size w0 w14)); have n2_ := Aside0.mk (Kept.of_grown (S := (fun k_ => P0_ k_)) hg (by repeat (first | (with_reducible first | exact HK.out | apply Kept.alloc | apply Kept.drewN | apply Kept.drew) | exact HK.out)) (fun k_ e_ => (HO_0.out.1 k_ e_))); clear HO_0; clear HB; clear HK; have HO_0 := n0_; have HB := n1_; have HK := n2_; clear n0_ n1_ n2_; clear hg hw hp_))
     go_roundg k1
     case measure => have := HK1.out; omega
     case rel => exact ⟨(y349), (wrap64 ((wrap64 ((wrap64 (x1_1 + 1)) + 1)) + 1)), (wrap64 (x5_1 + 1)), (by first | rfl | (simp; done) | (simp [*]; done)), (by first | rfl | (simp; done) | (simp [*]; done)), H', ⟨by have := HK1.out; omega⟩, ⟨rX HO_0.out⟩, ⟨by repeat (first | (with_reducible first | exact HK.out | apply Kept.alloc | apply Kept.drewN | apply Kept.drew) | exact HK.out)⟩, ⟨bX HB.out⟩⟩
    ·rw [if_neg c4] at H
     exact absurd H (by simp)
   ·rw [if_neg c3] at H
    have c3b0 : decide (x5_1 < (x0_1.length : Int)) = false := decide_eq_false c3
    clear c3
    simp only [Option.some.injEq, Prod.mk.injEq] at H
    obtain ⟨rfl, rfl⟩ := H
    obtain ⟨Ao15, co15, eo15⟩ := Kd.R_slice HO_0.out
    subst eo15
    go_wp2
    go_ret
    exact ⟨by first | rfl | (simp [*, errW_none, errW_some] <;> rfl), rX HO_0.out, bX HB.out, by repeat (first | (with_reducible first | exact HK.out | apply Kept.alloc | apply Kept.drewN | apply Kept.drew) | exact HK.out)⟩
def laws_heldDominoS.l0 : Nat → List (S41) → Int → Int → Option (Int)
 | 0, _, _, _ => none
 | k + 1, x0, x1, x5 => if x5 < (x0.length : Int) then (if 0 ≤ x5 then (if ((rd_T41 x0 x5).f0) = x1 then (if ((rd_T41 x0 x5).f1) = (wrap64 (x1 + 1)) then (if (((rd_T41 x0 x5).f2) != ((Int.tmod (wrap64 ((wrap64 (x1 + 1)) + 1)) 3) == 0)) = true then (some (-1)) else (laws_heldDominoS.l0 k x0 (wrap64 ((wrap64 ((wrap64 (x1 + 1)) + 1)) + 1)) (wrap64 (x5 + 1)))) else (some (-1))) else (some (-1))) else (none)) else (some x1)
def laws_heldDominoS.f (k : Nat) (l0 : List (S41)) (a1 : Int) : Option (Int) := laws_heldDominoS.l0 k l0 a1 0
theorem laws_heldDominoS.mono_l : ∀ k, (∀ y0 y1 y2, LeO (laws_heldDominoS.l0 k y0 y1 y2) (laws_heldDominoS.l0 (k + 1) y0 y1 y2))
 | 0 => fun _ _ _ r h => by simp [laws_heldDominoS.l0] at h
 | k + 1 => by
  have ih0 := laws_heldDominoS.mono_l k
  ·intro y0 y1 y2
   unfold laws_heldDominoS.l0
   repeat' with_reducible first
   | exact ih0 _ _ _
   | exact LeO.refl _
   | exact LeO.none _
   | refine LeO.ite ?_ ?_
   | refine LeO.bind ?_ (fun _ => ?_)
theorem laws_heldDominoS.mono : ∀ a0 a1 k, LeO (laws_heldDominoS.f k a0 a1) (laws_heldDominoS.f (k + 1) a0 a1) := by
 intro a0 a1 k
 have ih0 := laws_heldDominoS.mono_l k
 unfold laws_heldDominoS.f
 repeat' first
   | (with_reducible exact ih0 _ _ _)
   | (with_reducible exact LeO.refl _)
   | (with_reducible exact LeO.none _)
   | (with_reducible refine LeO.ite ?_ ?_)
   | (with_reducible refine LeO.bind ?_ (fun _ => ?_))
   | exact ih0 _ _ _
   | exact LeO.none _
   | refine LeO.ite ?_ ?_
   | refine LeO.bind ?_ (fun _ => ?_)
set_option maxHeartbeats 8000000 in
set_option maxRecDepth 100000 in
theorem laws_heldDominoS.calls (k : Nat) (A0 : Option Addr) (c0 : Nat) (l0 : List (S41)) (a1 : Int) (r : Int) (w : World) (hr0 : Kd.C k41 w A0 l0.length l0) (hc0 : l0.length ≤ c0) (h : laws_heldDominoS.f k l0 a1 = some r) :
  Calls Try.prog 40 #[.slice A0 l0.length c0, .int .i64 a1] w fun e w' => e = .returned (.int .i64 r) ∧ Drawn0 w w' := by
 have HR0 := Aside0.mk hr0
 have HC0 := Aside0.mk hc0
 clear hr0 hc0
 have H : (laws_heldDominoS.l0 k l0 a1 0) = some r := h
 clear h
 have H' := Aside0.mk H
 clear H
 go_enter Try.func40, Try.ntmps40
 go_wp2
 go_loopg [1, 5] k (fun kq v1 v5 w' => ∃ (x1_1 : Int) (x5_1 : Int), v1 = .int .i64 x1_1 ∧ v5 = .int .i64 x5_1 ∧ Aside0 (laws_heldDominoS.l0 kq l0 x1_1 x5_1 = some r) ∧ Aside0 (kq ≤ k) ∧ Drawn0 w w')
 case atStart => exact ⟨(a1), (0), (by first | rfl | (simp; done) | (simp [*]; done)), (by first | rfl | (simp; done) | (simp [*]; done)), H', ⟨Nat.le_refl _⟩, by repeat (first | exact Drawn0.refl _ | apply Drawn0.step)⟩
 case round =>
  clear H'
  try clear p2
  obtain ⟨x1_1, x5_1, rfl, rfl, HA, HK1, ⟨m1, rfl⟩⟩ := hrel
  cases gk with
  | zero => exact absurd HA.out (by simp [laws_heldDominoS.l0])
  | succ k1 =>
   have H := HA.out
   clear HA
   simp only [laws_heldDominoS.l0] at H
   by_cases c3 : x5_1 < (l0.length : Int)
   ·rw [if_pos c3] at H
    have c3b0 : decide (x5_1 < (l0.length : Int)) = true := decide_eq_true c3
    clear c3
    by_cases c4 : 0 ≤ x5_1
    ·rw [if_pos c4] at H
     have c4b0 : decide (0 ≤ x5_1) = true := decide_eq_true c4
     clear c4
     by_cases c5 : ((rd_T41 l0 x5_1).f0) = x1_1
     ·rw [if_pos c5] at H
      have c5b0 : (((rd_T41 l0 x5_1).f0) == x1_1) = true := beq_iff_eq.mpr c5
      have c5b1 : (((rd_T41 l0 x5_1).f0) != x1_1) = false := bne_eq_false_iff_eq.mpr c5
      clear c5
      by_cases c6 : ((rd_T41 l0 x5_1).f1) = (wrap64 (x1_1 + 1))
      ·rw [if_pos c6] at H
       have c6b0 : (((rd_T41 l0 x5_1).f1) == (wrap64 (x1_1 + 1))) = true := beq_iff_eq.mpr c6
       have c6b1 : (((rd_T41 l0 x5_1).f1) != (wrap64 (x1_1 + 1))) = false := bne_eq_false_iff_eq.mpr c6
       clear c6
       by_cases c7 : (((rd_T41 l0 x5_1).f2) != ((Int.tmod (wrap64 ((wrap64 (x1_1 + 1)) + 1)) 3) == 0)) = true
       ·rw [if_pos c7] at H
        have c7b0 : (((rd_T41 l0 x5_1).f2) != ((Int.tmod (wrap64 ((wrap64 (x1_1 + 1)) + 1)) 3) == 0)) = true := c7
        (try (have c7b1 : decide (((rd_T41 l0 x5_1).f2) = ((Int.tmod (wrap64 ((wrap64 (x1_1 + 1)) + 1)) 3) == 0)) = false := by simpa using c7))
        (try (have c7b2 : (((rd_T41 l0 x5_1).f2) == ((Int.tmod (wrap64 ((wrap64 (x1_1 + 1)) + 1)) 3) == 0)) = false := by simpa using c7))
        (try (have c7b3 : ¬ (((rd_T41 l0 x5_1).f2) = ((Int.tmod (wrap64 ((wrap64 (x1_1 + 1)) + 1)) 3) == 0)) := by simpa using c7))
        clear c7
        obtain rfl := Option.some.inj H
        have p350 : 0 ≤ (x5_1 : Int) := of_decide_eq_true (by assumption)
        have q350 : x5_1 < (l0.length : Int) := of_decide_eq_true (by assumption)
        obtain ⟨ad350, e350, hx350_0, hx350_1, hx350_2⟩ := at_T41 HR0.out x5_1 p350 q350
        cases e350
        replace p350 := eq_true p350
        replace q350 := eq_true q350
        have p351 : 0 ≤ (x5_1 : Int) := of_decide_eq_true (by assumption)
        have q351 : x5_1 < (l0.length : Int) := of_decide_eq_true (by assumption)
        obtain ⟨ad351, e351, hx351_0, hx351_1, hx351_2⟩ := at_T41 HR0.out x5_1 p351 q351
        obtain rfl : ad350 = ad351 := (by injection e351)
        replace p351 := eq_true p351
        replace q351 := eq_true q351
        have p352 : 0 ≤ (x5_1 : Int) := of_decide_eq_true (by assumption)
        have q352 : x5_1 < (l0.length : Int) := of_decide_eq_true (by assumption)
        obtain ⟨ad352, e352, hx352_0, hx352_1, hx352_2⟩ := at_T41 HR0.out x5_1 p352 q352
        obtain rfl : ad350 = ad352 := (by injection e352)
        replace p352 := eq_true p352
        replace q352 := eq_true q352
        go_wp2
        go_ret
        exact ⟨by first | rfl | (simp; done) | (simp [*]; done), by repeat (first | exact Drawn0.refl _ | apply Drawn0.step)⟩
       ·rw [if_neg c7] at H
        have c7b0 : (((rd_T41 l0 x5_1).f2) != ((Int.tmod (wrap64 ((wrap64 (x1_1 + 1)) + 1)) 3) == 0)) = false := by simpa using c7
        (try (have c7b1 : decide (((rd_T41 l0 x5_1).f2) = ((Int.tmod (wrap64 ((wrap64 (x1_1 + 1)) + 1)) 3) == 0)) = true := by simpa using c7))
        (try (have c7b2 : (((rd_T41 l0 x5_1).f2) == ((Int.tmod (wrap64 ((wrap64 (x1_1 + 1)) + 1)) 3) == 0)) = true := by simpa using c7))
        clear c7
        have H' := Aside0.mk H
        clear H
        have p350 : 0 ≤ (x5_1 : Int) := of_decide_eq_true (by assumption)
        have q350 : x5_1 < (l0.length : Int) := of_decide_eq_true (by assumption)
        obtain ⟨ad350, e350, hx350_0, hx350_1, hx350_2⟩ := at_T41 HR0.out x5_1 p350 q350
        cases e350
        replace p350 := eq_true p350
        replace q350 := eq_true q350
        have p351 : 0 ≤ (x5_1 : Int) := of_decide_eq_true (by assumption)
        have q351 : x5_1 < (l0.length : Int) := of_decide_eq_true (by assumption)
        obtain ⟨ad351, e351, hx351_0, hx351_1, hx351_2⟩ := at_T41 HR0.out x5_1 p351 q351
        obtain rfl : ad350 = ad351 := (by injection e351)
        replace p351 := eq_true p351
        replace q351 := eq_true q351
        have p352 : 0 ≤ (x5_1 : Int) := of_decide_eq_true (by assumption)
        have q352 : x5_1 < (l0.length : Int) := of_decide_eq_true (by assumption)
        obtain ⟨ad352, e352, hx352_0, hx352_1, hx352_2⟩ := at_T41 HR0.out x5_1 p352 q352
        obtain rfl : ad350 = ad352 := (by injection e352)
        replace p352 := eq_true p352
        replace q352 := eq_true q352
        go_wp2
        go_roundg k1
        case measure => have := HK1.out; omega
        case rel => exact ⟨(wrap64 ((wrap64 ((wrap64 (x1_1 + 1)) + 1)) + 1)), (wrap64 (x5_1 + 1)), (by first | rfl | (simp; done) | (simp [*]; done)), (by first | rfl | (simp; done) | (simp [*]; done)), H', ⟨by have := HK1.out; omega⟩, by repeat (first | exact Drawn0.refl _ | apply Drawn0.step)⟩
      ·rw [if_neg c6] at H
       have c6b0 : (((rd_T41 l0 x5_1).f1) == (wrap64 (x1_1 + 1))) = false := beq_eq_false_iff_ne.mpr c6
       have c6b1 : (((rd_T41 l0 x5_1).f1) != (wrap64 (x1_1 + 1))) = true := bne_iff_ne.mpr c6
       obtain rfl := Option.some.inj H
       have p350 : 0 ≤ (x5_1 : Int) := of_decide_eq_true (by assumption)
       have q350 : x5_1 < (l0.length : Int) := of_decide_eq_true (by assumption)
       obtain ⟨ad350, e350, hx350_0, hx350_1, hx350_2⟩ := at_T41 HR0.out x5_1 p350 q350
       cases e350
       replace p350 := eq_true p350
       replace q350 := eq_true q350
       have p351 : 0 ≤ (x5_1 : Int) := of_decide_eq_true (by assumption)
       have q351 : x5_1 < (l0.length : Int) := of_decide_eq_true (by assumption)
       obtain ⟨ad351, e351, hx351_0, hx351_1, hx351_2⟩ := at_T41 HR0.out x5_1 p351 q351
       obtain rfl : ad350 = ad351 := (by injection e351)
       replace p351 := eq_true p351
       replace q351 := eq_true q351
       go_wp2
       go_ret
       exact ⟨by first | rfl | (simp; done) | (simp [*]; done), by repeat (first | exact Drawn0.refl _ | apply Drawn0.step)⟩
     ·rw [if_neg c5] at H
      have c5b0 : (((rd_T41 l0 x5_1).f0) == x1_1) = false := beq_eq_false_iff_ne.mpr c5
      have c5b1 : (((rd_T41 l0 x5_1).f0) != x1_1) = true := bne_iff_ne.mpr c5
      obtain rfl := Option.some.inj H
      have p350 : 0 ≤ (x5_1 : Int) := of_decide_eq_true (by assumption)
      have q350 : x5_1 < (l0.length : Int) := of_decide_eq_true (by assumption)
      obtain ⟨ad350, e350, hx350_0, hx350_1, hx350_2⟩ := at_T41 HR0.out x5_1 p350 q350
      cases e350
      replace p350 := eq_true p350
      replace q350 := eq_true q350
      go_wp2
      go_ret
      exact ⟨by first | rfl | (simp; done) | (simp [*]; done), by repeat (first | exact Drawn0.refl _ | apply Drawn0.step)⟩
    ·rw [if_neg c4] at H
     exact absurd H (by simp)
   ·rw [if_neg c3] at H
    have c3b0 : decide (x5_1 < (l0.length : Int)) = false := decide_eq_false c3
    clear c3
    obtain rfl := Option.some.inj H
    go_wp2
    go_ret
    exact ⟨by first | rfl | (simp; done) | (simp [*]; done), by repeat (first | exact Drawn0.refl _ | apply Drawn0.step)⟩
end Go.Proofs.Ytnfnlmilmpaofaa.PFnExactTilingOfTree
