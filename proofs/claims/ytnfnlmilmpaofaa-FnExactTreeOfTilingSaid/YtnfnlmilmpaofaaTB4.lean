/- Printed twins and contracts of functions, part 4; some are walked by hand. Nothing is assumed. -/
import Derived.Test.YtnfnlmilmpaofaaTA1
import Derived.Test.YtnfnlmilmpaofaaTB1
import Derived.Test.YtnfnlmilmpaofaaTB2
import Derived.Test.YtnfnlmilmpaofaaTB3
set_option maxHeartbeats 8000000
namespace Go.Proofs.Ytnfnlmilmpaofaa.PFnExactTreeOfTiling
open Go.RowKit Go.Proofs.YtnfnlmilmpaofaaW.PrintWords Go.Proofs.YtnfnlmilmpaofaaW.PrintLast Go.Proofs.YtnfnlmilmpaofaaW.PrintMore
attribute [local go_sem] max2_int min2_int max_two min_two max_three min_three max_four min_four
set_option linter.unusedVariables false
set_option linter.unusedSimpArgs false
def stRow (w h i : Nat) : Nat → List S39 → List S39
 | 0, t => t
 | m + 1, t => stRow w h i m (if (decide (w - m = 0) || decide (i = 0) || decide (w - m = w) || decide (i = h)) = true then t ++ [⟨2 * ((w - m : Nat) : Int) - 1, 2 * (i : Int) - 1⟩] else t)
def stRows (w h : Nat) : Nat → List S39 → List S39
 | 0, t => t
 | m + 1, t => stRows w h m (stRow w h (h - m) (w + 1) t)
/-- The place of a cell in 'done'. -/
def stIx (W : Int) (c : S39) : Int := (c.f1 + 1) * (W + 2) + c.f0 + 1
def stMark (W : Int) : List S39 → List Bool → Option (List Bool)
 | [], d => some d
 | c :: r, d => if -1 ≤ c.f0 ∧ c.f0 ≤ 9 ∧ -1 ≤ c.f1 ∧ c.f1 ≤ 9 ∧ stIx W c < d.length then stMark W r (d.set (stIx W c).toNat true) else none
def stDir : Nat → Int × Int
 | 0 => (1, 0)
 | 1 => (0, 1)
 | 2 => (-1, 0)
 | _ => (0, -1)
abbrev TSt := List Bool × List S39 × List S41
def hasL (l : S50) (x y : Int) : Bool := (!l.f2 && (x == wrap64 (wrap64 (2 * l.f0) + 1) && y == wrap64 (2 * l.f1))) || (l.f2 && (x == wrap64 (2 * l.f0) && y == wrap64 (wrap64 (2 * l.f1) + 1)))
def hasB (ls : List S50) (x y : Int) : Bool := ls.any fun l => hasL l x y
theorem has_l0 (ls : List S50) (x y : Int) (hl : ls.length < 4611686018427387904) : ∀ m i : Nat, i + m = ls.length → s_l24Has.l0 (m + 1) ls (i : Int) x y = some ((ls.drop i).any fun l => hasL l x y)
 | 0, i, h => by
  rw [s_l24Has.l0, if_neg (by omega), List.drop_eq_nil_of_le (by omega)]
  rfl
 | m + 1, i, h => by
  have hi : i < ls.length := by omega
  have hd : ls.drop i = rd_T50 ls (i : Int) :: ls.drop (i + 1) := by
   rw [List.drop_eq_getElem_cons hi]
   congr 1
   unfold rd_T50
   rw [Int.toNat_natCast, List.getD_eq_getElem?_getD, List.getElem?_eq_getElem hi]
   rfl
  have ih := has_l0 ls x y hl m (i + 1) (by omega)
  have hw : wrap64 ((i : Int) + 1) = ((i + 1 : Nat) : Int) := by unfold wrap64; omega
  rw [hd, List.any_cons, s_l24Has.l0, if_pos (by omega), if_pos (by omega), hw, ih]
  unfold hasL
  generalize (ls.drop (i + 1)).any (fun l => hasL l x y) = z
  by_cases h2 : (rd_T50 ls (i : Int)).f2 = true
  ·simp only [h2, if_true, Bool.not_true, Bool.false_and, Bool.true_and, Bool.false_or]
   by_cases h3 : x = wrap64 (2 * (rd_T50 ls (i : Int)).f0) <;> by_cases h4 : y = wrap64 (wrap64 (2 * (rd_T50 ls (i : Int)).f1) + 1) <;> simp [h3, h4]
  ·simp only [Bool.not_eq_true] at h2
   simp only [h2, Bool.false_eq_true, if_false, Bool.not_false, Bool.true_and, Bool.false_and, Bool.or_false]
   by_cases h3 : x = wrap64 (wrap64 (2 * (rd_T50 ls (i : Int)).f0) + 1) <;> by_cases h4 : y = wrap64 (2 * (rd_T50 ls (i : Int)).f1) <;> simp [h3, h4]
def ovS (a b c d : Int) : S41 := let r := (s_DominoOver.f 5 a b c d).getD (0, 0, false, false); ⟨r.1, r.2.1, r.2.2.1⟩
def stOut (W H tx ty mx my : Int) : Bool := decide (tx < 0) || decide (ty < 0) || decide (W ≤ tx) || decide (H ≤ ty) || decide (mx < 0) || decide (my < 0) || decide (W ≤ mx) || decide (H ≤ my)
/-- One way out of cell c. -/
def stWay (W H : Int) (ls : List S50) (rest : Int) (c : S39) (q : Nat) (s : TSt) : Option TSt :=
 if stOut W H (c.f0 + 2 * (stDir q).1) (c.f1 + 2 * (stDir q).2) (c.f0 + (stDir q).1) (c.f1 + (stDir q).2) = true then some s
 else if stIx W ⟨c.f0 + 2 * (stDir q).1, c.f1 + 2 * (stDir q).2⟩ < s.1.length ∧ s.2.1.length < 1000 ∧ s.2.2.length < 1000 then
  if (s.1.getD (stIx W ⟨c.f0 + 2 * (stDir q).1, c.f1 + 2 * (stDir q).2⟩).toNat false || (hasB ls (c.f0 + (stDir q).1) (c.f1 + (stDir q).2) != (rest == 0))) = true then some s
  else some (s.1.set (stIx W ⟨c.f0 + 2 * (stDir q).1, c.f1 + 2 * (stDir q).2⟩).toNat true, s.2.1 ++ [⟨c.f0 + 2 * (stDir q).1, c.f1 + 2 * (stDir q).2⟩],
   s.2.2 ++ [ovS (c.f0 + (stDir q).1) (c.f1 + (stDir q).2) (c.f0 + 2 * (stDir q).1) (c.f1 + 2 * (stDir q).2)])
 else none
def stWays (W H : Int) (ls : List S50) (rest : Int) (c : S39) : Nat → TSt → Option TSt
 | 0, s => some s
 | m + 1, s => (stWay W H ls rest c (3 - m) s).bind (stWays W H ls rest c m)
def stMain (W H : Int) (ls : List S50) (rest : Int) : Nat → Nat → TSt → Option (List S41)
 | 0, _, _ => none
 | k + 1, q, s => if q < s.2.1.length then
   (if -1 ≤ (s.2.1.getD q z39).f0 ∧ (s.2.1.getD q z39).f0 ≤ 9 ∧ -1 ≤ (s.2.1.getD q z39).f1 ∧ (s.2.1.getD q z39).f1 ≤ 9 then (stWays W H ls rest (s.2.1.getD q z39) 4 s).bind (stMain W H ls rest k (q + 1)) else none)
  else some s.2.2
def stAll (w h : Nat) (ls : List S50) (rest : Int) (k : Nat) : Option (List S41) :=
 let t := if rest = 0 then [⟨0, 0⟩] else stRows w h (h + 1) []
 (stMark (2 * (w : Int) - 1) t (List.replicate ((2 * w + 1) * (2 * h + 1)) false)).bind fun d => stMain (2 * (w : Int) - 1) (2 * (h : Int) - 1) ls rest k 0 (d, t, [])
theorem encC_at (xs : List S39) (k j : Nat) (hk : k < xs.length) (hj : j < 2) : (encC xs)[k * 2 + j]? = [.int .i64 (xs.getD k z39).f0, .int .i64 (xs.getD k z39).f1][j]? := by
 have h1 : xs = xs.take k ++ xs[k] :: xs.drop (k + 1) := by
  have := (List.take_append_drop k xs).symm
  rw [List.drop_eq_getElem_cons hk] at this
  exact this
 have hl : (encC (xs.take k)).length = k * 2 := by rw [encC_length, List.length_take, Nat.min_eq_left (Nat.le_of_lt hk)]
 have e1 : encC xs = encC (xs.take k) ++ ([.int .i64 xs[k].f0, .int .i64 xs[k].f1] ++ encC (xs.drop (k + 1))) := by
  have := congrArg encC h1
  rw [encC_append, encC_cons] at this
  exact this
 rw [e1, List.getElem?_append_right (by omega), hl, show k * 2 + j - k * 2 = j by omega, List.getElem?_append_left (by simpa using hj), List.getD_eq_getElem?_getD, List.getElem?_eq_getElem hk]
 rfl
structure SW (w0 w : World) (gd : Nat) (vt vo : Value) (dn : List Bool) (td : List S39) (ot : List S41) : Prop where
 hk : w.heap[gd]? = some (.cells (dn.map Value.bool).toArray 4 (0, 0))
 ht : w.ownsRow w0.heap.size 39 2 vt td.length (encC td)
 ho : w.ownsRow w0.heap.size 41 3 vo ot.length (encD ot)
 hb : Below w0.heap.size w0 w
 bk : w0.heap.size ≤ gd
section
variable {w0 w w1 : World} {gd : Nat} {vt vo : Value} {dn : List Bool} {td : List S39} {ot : List S41}
theorem SW.below (h : SW w0 w gd vt vo dn td ot) (hb : Below w.heap.size w w1) : SW w0 w1 gd vt vo dn td ot :=
 ⟨blk_below h.hk hb, pw_own_below h.ht hb, pw_own_below h.ho hb, below_step h.hb hb, h.bk⟩
theorem SW.alloc (h : SW w0 w gd vt vo dn td ot) (o : Obj) : SW w0 (w.alloc o) gd vt vo dn td ot := h.below (below_alloc (Below.refl _ _) o)
theorem SW.drew (h : SW w0 w gd vt vo dn td ot) : SW w0 w.drew gd vt vo dn td ot := h.below (below_drew1 (Below.refl _ _))
theorem SW.cellK (h : SW w0 w gd vt vo dn td ot) {f : Nat} (hf : f < dn.length) : w.cell? ⟨gd, f, none⟩ = some (.bool (dn.getD f false)) := by
 rw [blk_cell h.hk f]
 simp [List.getD_eq_getElem?_getD, hf]
theorem SW.freeK (h : SW w0 w gd vt vo dn td ot) (f : Nat) : w.frozen? ⟨gd, f, none⟩ = false := blk_frozen h.hk f
theorem SW.setK (h : SW w0 w gd vt vo dn td ot) {f : Nat} (hf : f < dn.length) : SW w0 (w.setCell ⟨gd, f, none⟩ (.bool true)) gd vt vo (dn.set f true) td ot := by
 refine ⟨?_, own_setCell h.ht (own_ne h.ht h.hk (by decide)) _, own_setCell h.ho (own_ne h.ho h.hk (by decide)) _, ?_, h.bk⟩
 ·rw [setCell_eq_setRow w gd f _ 4 (0, 0) (.bool true) h.hk, setRow_heap w gd _ _ 4 (0, 0) h.hk]
  simp [List.map_set]
 ·rw [setCell_eq_setRow w gd f _ 4 (0, 0) (.bool true) h.hk]
  exact h.hb.trans ⟨rfl, rfl, rfl, by simp [World.setRow], fun k hk => setRow_other w gd k _ (by have := h.bk; omega)⟩
theorem SW.growT (h : SW w0 w gd vt vo dn td ot) {v1 : Value} {c : S39} (ho : w1.ownsRow w0.heap.size 39 2 v1 (td.length + 1) (encC td ++ [.int .i64 c.f0, .int .i64 c.f1])) (hb : Below w0.heap.size w0 w1) (hg : w.grownBy w1 vt.ownBlock) : SW w0 w1 gd v1 vo dn (td ++ [c]) ot := by
 refine ⟨blk_grown h.hk hg (own_ne h.ht h.hk (by decide)), ?_, own_other h.ho hg (own_type_ne h.ho h.ht (by decide)), hb, h.bk⟩
 rw [List.length_append, encC_append]
 have e : encC [c] = [.int .i64 c.f0, .int .i64 c.f1] := by simp [encC]
 rw [e]
 exact ho
theorem SW.growO (h : SW w0 w gd vt vo dn td ot) {v1 : Value} {d : S41} (ho : w1.ownsRow w0.heap.size 41 3 v1 (ot.length + 1) (encD ot ++ [.int .i64 d.f0, .int .i64 d.f1, .bool d.f2])) (hb : Below w0.heap.size w0 w1) (hg : w.grownBy w1 vo.ownBlock) : SW w0 w1 gd vt v1 dn td (ot ++ [d]) := by
 refine ⟨blk_grown h.hk hg (own_ne h.ho h.hk (by decide)), own_other h.ht hg (own_type_ne h.ht h.ho (by decide)), ?_, hb, h.bk⟩
 rw [List.length_append, encD_append]
 have e : encD [d] = [.int .i64 d.f0, .int .i64 d.f1, .bool d.f2] := by simp [encD]
 rw [e]
 exact ho
end
theorem wrapS9 (z : Int) (h1 : -1000 ≤ z) (h2 : z ≤ 1000) : wrap64 z = z := by unfold wrap64; omega
theorem SW0 (w : World) (N : Nat) : SW w (((w.alloc (.cells (madeCells #[.bool false] N) 4 (0, 0))).alloc (.cells #[] 39 (0, 0))).alloc (.cells #[] 41 (0, 0))) w.heap.size (.slice (some ⟨w.heap.size + 1, 0, none⟩) 0 0) (.slice (some ⟨w.heap.size + 1 + 1, 0, none⟩) 0 0) (List.replicate N false) [] [] := by
 have e : madeCells #[.bool false] N = ((List.replicate N false).map Value.bool).toArray := by
  apply Array.ext'
  rw [toList_madeCells_one]
  simp
 have hs : ∀ (W : World) (o : Obj), (W.alloc o).heap.size = W.heap.size + 1 := fun W o => by rw [World.size_alloc]
 refine ⟨?_, ⟨rfl, Or.inr ⟨w.heap.size + 1, 0, #[], rfl, by omega, ?_, by simp, by simp, rfl, rfl⟩⟩, ⟨rfl, Or.inr ⟨w.heap.size + 1 + 1, 0, #[], rfl, by omega, ?_, by simp, by simp, rfl, rfl⟩⟩, below_alloc (below_alloc (below_alloc (Below.refl _ _) _) _) _, Nat.le_refl _⟩
 ·rw [← e]
  exact blk_alloc (blk_alloc (blk_new w _) _) _
 ·have h := blk_alloc (blk_new (w.alloc (.cells (madeCells #[.bool false] N) 4 (0, 0))) (.cells #[] 39 (0, 0))) (.cells #[] 41 (0, 0))
  rw [hs] at h
  exact h
 ·have h := blk_new ((w.alloc (.cells (madeCells #[.bool false] N) 4 (0, 0))).alloc (.cells #[] 39 (0, 0))) (.cells #[] 41 (0, 0))
  rw [hs, hs] at h
  exact h
theorem rowCells2 {w : World} {B m k : Nat} {At : Option Addr} {ct : Nat} {x y : Int} {xs : List S39} (h : w.ownsRow B 39 2 (.slice At m ct) m (encC xs)) (hk : k < m) (hc : xs.getD k z39 = ⟨x, y⟩) :
  (∃ g, At = some ⟨g, 0, none⟩) ∧ ∀ g, At = some ⟨g, 0, none⟩ → w.cell? ⟨g, k * 2, none⟩ = some (.int .i64 x) ∧ w.cell? ⟨g, k * 2 + 1, none⟩ = some (.int .i64 y) := by
 have hl : xs.length = m := by have := h.1; rw [encC_length] at this; omega
 refine ⟨?_, ?_⟩
 ·rcases h.2 with ⟨_, h0⟩ | ⟨g, cap, cur, hv, _⟩
  ·omega
  ·injection hv with a
   exact ⟨g, a⟩
 ·rintro g rfl
  have e0 := (h.cellAt (k * 2 + 0) (by omega)).trans (encC_at xs k 0 (by omega) (by omega))
  have e1 := (h.cellAt (k * 2 + 1) (by omega)).trans (encC_at xs k 1 (by omega) (by omega))
  rw [hc] at e0 e1
  exact ⟨e0, e1⟩
theorem stIx_ix {W x y : Int} {n : Nat} (hW : 1 ≤ W ∧ W ≤ 7) (hx : -1 ≤ x ∧ x ≤ 9) (hy : -1 ≤ y ∧ y ≤ 9) (h : stIx W ⟨x, y⟩ < n) :
  ∃ (P : Int) (g : Nat), wrap64 (y + 1) = y + 1 ∧ wrap64 ((y + 1) * (W + 2)) = P ∧ wrap64 (P + x) = P + x ∧ wrap64 (P + x + 1) = (g : Int) ∧ (stIx W ⟨x, y⟩).toNat = g ∧ g < n := by
 have h0 := Int.mul_nonneg (show (0 : Int) ≤ y + 1 by omega) (show (0 : Int) ≤ W + 2 by omega)
 have h1 : (y + 1) * (W + 2) ≤ 10 * 9 := Int.mul_le_mul (by omega) (by omega) (by omega) (by omega)
 have hs : stIx W ⟨x, y⟩ = (y + 1) * (W + 2) + x + 1 := rfl
 rw [hs] at h ⊢
 generalize (y + 1) * (W + 2) = P at h h0 h1 ⊢
 refine ⟨P, (P + x + 1).toNat, wrapS9 _ (by omega) (by omega), wrapS9 _ (by omega) (by omega), wrapS9 _ (by omega) (by omega), ?_, rfl, by omega⟩
 rw [wrapS9 _ (by omega) (by omega)]
 omega
theorem dirCellX {w : World} {j : Nat} {d : Int} (hj : j < 4) (hd : (stDir j).1 = d) : (w.alloc (.cells #[.int .i64 1, .int .i64 0, .int .i64 (-1), .int .i64 0] 3 (0, 0))).cell? ⟨w.heap.size, j, none⟩ = some (.int .i64 d) := by
 rw [blk_cell (blk_new w _) j]
 subst hd
 match j, hj with
 | 0, _ => rfl
 | 1, _ => rfl
 | 2, _ => rfl
 | 3, _ => rfl
theorem dirCellY {w : World} {j : Nat} {d : Int} (hj : j < 4) (hd : (stDir j).2 = d) : (w.alloc (.cells #[.int .i64 0, .int .i64 1, .int .i64 0, .int .i64 (-1)] 3 (0, 0))).cell? ⟨w.heap.size, j, none⟩ = some (.int .i64 d) := by
 rw [blk_cell (blk_new w _) j]
 subst hd
 match j, hj with
 | 0, _ => rfl
 | 1, _ => rfl
 | 2, _ => rfl
 | 3, _ => rfl
theorem dirList {j : Nat} {d : Int} (hj : j < 4) (hd : (stDir j).2 = d) : ([.int .i64 0, .int .i64 1, .int .i64 0, .int .i64 (-1)] : List Value)[j]'hj = .int .i64 d := by
 subst hd
 match j, hj with
 | 0, _ => rfl
 | 1, _ => rfl
 | 2, _ => rfl
 | 3, _ => rfl
theorem stDir_bd {j : Nat} {dx dy : Int} (hx : (stDir j).1 = dx) (hy : (stDir j).2 = dy) : -1 ≤ dx ∧ dx ≤ 1 ∧ -1 ≤ dy ∧ dy ≤ 1 := by
 subst hx
 subst hy
 match j with
 | 0 => decide
 | 1 => decide
 | 2 => decide
 | k + 3 => exact (by decide : -1 ≤ (0 : Int) ∧ (0 : Int) ≤ 1 ∧ -1 ≤ (-1 : Int) ∧ (-1 : Int) ≤ 1)
theorem nineWays (W H a b c d : Int) : (a < 0 ∧ True ∧ True ∧ True ∧ True ∧ True ∧ True ∧ True) ∨ (¬ a < 0 ∧ b < 0 ∧ True ∧ True ∧ True ∧ True ∧ True ∧ True) ∨ (¬ a < 0 ∧ ¬ b < 0 ∧ W ≤ a ∧ True ∧ True ∧ True ∧ True ∧ True) ∨ (¬ a < 0 ∧ ¬ b < 0 ∧ ¬ W ≤ a ∧ H ≤ b ∧ True ∧ True ∧ True ∧ True) ∨
  (¬ a < 0 ∧ ¬ b < 0 ∧ ¬ W ≤ a ∧ ¬ H ≤ b ∧ c < 0 ∧ True ∧ True ∧ True) ∨ (¬ a < 0 ∧ ¬ b < 0 ∧ ¬ W ≤ a ∧ ¬ H ≤ b ∧ ¬ c < 0 ∧ d < 0 ∧ True ∧ True) ∨ (¬ a < 0 ∧ ¬ b < 0 ∧ ¬ W ≤ a ∧ ¬ H ≤ b ∧ ¬ c < 0 ∧ ¬ d < 0 ∧ W ≤ c ∧ True) ∨
  (¬ a < 0 ∧ ¬ b < 0 ∧ ¬ W ≤ a ∧ ¬ H ≤ b ∧ ¬ c < 0 ∧ ¬ d < 0 ∧ ¬ W ≤ c ∧ H ≤ d) ∨ (¬ a < 0 ∧ ¬ b < 0 ∧ ¬ W ≤ a ∧ ¬ H ≤ b ∧ ¬ c < 0 ∧ ¬ d < 0 ∧ ¬ W ≤ c ∧ ¬ H ≤ d) := by
 by_cases h1 : a < 0
 ·exact .inl ⟨h1, by simp⟩
 by_cases h2 : b < 0
 ·exact .inr (.inl ⟨h1, h2, by simp⟩)
 by_cases h3 : W ≤ a
 ·exact .inr (.inr (.inl ⟨h1, h2, h3, by simp⟩))
 by_cases h4 : H ≤ b
 ·exact .inr (.inr (.inr (.inl ⟨h1, h2, h3, h4, by simp⟩)))
 by_cases h5 : c < 0
 ·exact .inr (.inr (.inr (.inr (.inl ⟨h1, h2, h3, h4, h5, by simp⟩))))
 by_cases h6 : d < 0
 ·exact .inr (.inr (.inr (.inr (.inr (.inl ⟨h1, h2, h3, h4, h5, h6, by simp⟩)))))
 by_cases h7 : W ≤ c
 ·exact .inr (.inr (.inr (.inr (.inr (.inr (.inl ⟨h1, h2, h3, h4, h5, h6, h7, trivial⟩))))))
 by_cases h8 : H ≤ d
 ·exact .inr (.inr (.inr (.inr (.inr (.inr (.inr (.inl ⟨h1, h2, h3, h4, h5, h6, h7, h8⟩)))))))
 exact .inr (.inr (.inr (.inr (.inr (.inr (.inr (.inr ⟨h1, h2, h3, h4, h5, h6, h7, h8⟩)))))))
theorem SW.setBox {w0 w : World} {gd : Nat} {vt vo : Value} {dn : List Bool} {td : List S39} {ot : List S41} (h : SW w0 w gd vt vo dn td ot) {b f : Nat} {cs : Array Value} (hx : w.heap[b]? = some (.cells cs 39 (0, 0))) : (w.setCell ⟨gd, f, none⟩ (.bool true)).heap[b]? = some (.cells cs 39 (0, 0)) := by
 rw [setCell_eq_setRow w gd f _ 4 (0, 0) (.bool true) h.hk]
 have hne : b ≠ gd := blk_ne hx h.hk (by decide)
 exact (setRow_other w gd b _ (by omega)).trans hx
theorem ovS_some (a b c d : Int) : s_DominoOver.f 5 a b c d = some ((ovS a b c d).f0, (ovS a b c d).f1, (ovS a b c d).f2, ((s_DominoOver.f 5 a b c d).getD (0, 0, false, false)).2.2.2) := by
 have h : ∃ q, s_DominoOver.f 5 a b c d = some q := by
  unfold s_DominoOver.f
  have h2 : ∃ q, s_AreNeighbors.f 5 a b c d = some q := by
   unfold s_AreNeighbors.f s_CellOk.f s_l01In.f
   repeat' (first | exact ⟨_, rfl⟩ | (simp only [Option.bind_some]; split) | split | (generalize decide (d ≤ 7) = z; cases z))
  obtain ⟨q, hq⟩ := h2
  rw [hq, Option.bind_some]
  split <;> exact ⟨_, rfl⟩
 obtain ⟨q, hq⟩ := h
 unfold ovS
 rw [hq]
 rfl
theorem SW1 (w : World) (N x : Nat) : SW w ((((((w.alloc (.cells (madeCells #[.bool false] N) 4 (0, 0))).alloc (.cells #[] 39 (0, 0))).alloc (.cells #[] 41 (0, 0))).alloc (.cells #[.int .i64 0, .int .i64 0] 39 (0, 0))).alloc (.cells (#[.int .i64 0, .int .i64 0] ++ Builtin.zeroCells #[.int .i64 0, .int .i64 0] ((Question.appendCap 1 0 39).cut x - 1)) 39 (0, 0))).drew) w.heap.size (.slice (some ⟨w.heap.size + 1 + 1 + 1 + 1, 0, none⟩) 1 ((Question.appendCap 1 0 39).cut x)) (.slice (some ⟨w.heap.size + 1 + 1, 0, none⟩) 0 0) (List.replicate N false) [⟨0, 0⟩] [] := by
 obtain ⟨c, hc⟩ : ∃ c, (Question.appendCap 1 0 39).cut x = c := ⟨_, rfl⟩
 have hc1 : 1 ≤ c ∧ c ≤ maxLen := by
  rw [← hc]
  show 1 ≤ 1 + x % (2 ^ 63 - 1) ∧ 1 + x % (2 ^ 63 - 1) ≤ 2 ^ 63 - 1
  have := Nat.mod_lt x (show 0 < 2 ^ 63 - 1 by decide)
  omega
 rw [hc]
 have h0 := SW0 w N
 have hs : ((((w.alloc (.cells (madeCells #[.bool false] N) 4 (0, 0))).alloc (.cells #[] 39 (0, 0))).alloc (.cells #[] 41 (0, 0))).alloc (.cells #[.int .i64 0, .int .i64 0] 39 (0, 0))).heap.size = w.heap.size + 1 + 1 + 1 + 1 := by simp only [World.size_alloc]
 have h1 := ((h0.alloc (.cells #[.int .i64 0, .int .i64 0] 39 (0, 0))).alloc (.cells (#[.int .i64 0, .int .i64 0] ++ Builtin.zeroCells #[.int .i64 0, .int .i64 0] (c - 1)) 39 (0, 0))).drew
 refine ⟨h1.hk, ⟨rfl, Or.inr ⟨w.heap.size + 1 + 1 + 1 + 1, c, #[.int .i64 0, .int .i64 0] ++ Builtin.zeroCells #[.int .i64 0, .int .i64 0] (c - 1), rfl, by omega, ?_, hc1.1, hc1.2, ?_, ?_⟩⟩, h1.ho, h1.hb, h1.bk⟩
 ·have h := blk_drew (blk_new ((((w.alloc (.cells (madeCells #[.bool false] N) 4 (0, 0))).alloc (.cells #[] 39 (0, 0))).alloc (.cells #[] 41 (0, 0))).alloc (.cells #[.int .i64 0, .int .i64 0] 39 (0, 0))) (.cells (#[.int .i64 0, .int .i64 0] ++ Builtin.zeroCells #[.int .i64 0, .int .i64 0] (c - 1)) 39 (0, 0)))
  rw [hs] at h
  exact h
 ·rw [Array.size_append, size_zeroCells]
  show 2 + (c - 1) * 2 = c * 2
  omega
 ·rw [Array.toList_append]
  rfl
def TPost (w : World) (o : List S41) : Ending → World → Prop := fun e w' => ∃ v0_ : Value, e = .returned (v0_) ∧ Kd.R k41 41 w' w.heap.size (fun _ => True) v0_ o ∧ Below w.heap.size w w'
set_option maxRecDepth 100000 in
theorem steps_calls (wd hd : Nat) (hw1 : 1 ≤ wd) (hw4 : wd ≤ 4) (hh1 : 1 ≤ hd) (hh4 : hd ≤ 4) (a3 : Int) (k : Nat) (A2 : Option Addr) (c2 : Nat) (ls : List S50) (r : List S41) (w : World)
  (hr2 : Kd.C k50 w A2 ls.length ls) (hc2 : ls.length ≤ c2) (hl2 : ls.length < 4611686018427387904) (h : stAll wd hd ls a3 k = some r) :
  Calls Try.prog 99 #[.int .i64 (wd : Int), .int .i64 (hd : Int), .slice A2 ls.length c2, .int .i64 a3] w (TPost w r) := by
 have HA := As.mk h
 have HR := As.mk hr2
 have HC := As.mk hc2
 have HL := As.mk hl2
 clear h hr2 hc2 hl2
 obtain ⟨Wi, hWi⟩ : ∃ Wi : Int, 2 * (wd : Int) - 1 = Wi := ⟨_, rfl⟩
 obtain ⟨Hi, hHi⟩ : ∃ Hi : Int, 2 * (hd : Int) - 1 = Hi := ⟨_, rfl⟩
 have w1_ : wrap64 (2 * (wd : Int)) = 2 * (wd : Int) := by unfold wrap64; omega
 have w2_ : wrap64 (2 * (wd : Int) - 1) = Wi := by rw [← hWi]; unfold wrap64; omega
 have w4_ : wrap64 (Wi + 2) = Wi + 2 := by rw [← hWi]; unfold wrap64; omega
 have h1_ : wrap64 (2 * (hd : Int)) = 2 * (hd : Int) := by unfold wrap64; omega
 have h2_ : wrap64 (2 * (hd : Int) - 1) = Hi := by rw [← hHi]; unfold wrap64; omega
 have h4_ : wrap64 (Hi + 2) = Hi + 2 := by rw [← hHi]; unfold wrap64; omega
 obtain ⟨N, hN⟩ : ∃ N, (2 * wd + 1) * (2 * hd + 1) = N := ⟨_, rfl⟩
 have hN9 : N ≤ 81 := by rw [← hN]; exact Nat.mul_le_mul (show 2 * wd + 1 ≤ 9 by omega) (show 2 * hd + 1 ≤ 9 by omega)
 have w3_ : wrap64 ((Wi + 2) * (Hi + 2)) = (N : Int) := by
  have e : (Wi + 2) * (Hi + 2) = (((2 * wd + 1) * (2 * hd + 1) : Nat) : Int) := by
   rw [← hWi, ← hHi]
   push_cast
   congr 1 <;> omega
  rw [e, hN]
  exact wrapS9 _ (by omega) (by omega)
 have HWH := As.mk (And.intro hWi (And.intro hHi (And.intro hN hN9)))
 have HW4 := As.mk (And.intro hw1 (And.intro hw4 (And.intro hh1 hh4)))
 have hmk := print_make_of (P := Try.prog) 89 4 (.bool false) 1 Try.underlying89 info4 rfl (by decide) N (by omega)
 clear hWi hHi hN hN9 hw1 hw4 hh1 hh4
 go_enter Try.func99, Try.ntmps99
 go_upto_if 41 with (fail)
 simp only [w1_, w2_, h1_, h2_, w4_, h4_, w3_]
 clear w1_ w2_ h1_ h2_ w3_ hmk
 obtain ⟨b3, hb3⟩ : ∃ b3, (a3 == 0) = b3 := ⟨_, rfl⟩
 have HB3 := As.mk hb3
 rw [hb3]
 clear hb3
 go_cut [12, 14, 15] (fun v12 v14 v15 wc => ∃ (td : List S39), As (td.length ≤ 100) ∧ As (td = if b3 = true then [⟨0, 0⟩] else stRows wd hd (hd + 1) []) ∧ As (SW w wc w.heap.size v12 (.slice (some ⟨w.heap.size + 1 + 1, 0, none⟩) 0 0) (List.replicate N false) td []))
 case first =>
  as_aux_lemma =>
   cases b3 with
   | true =>
    go_wp2
    go_meet
    case rel => exact ⟨[⟨0, 0⟩], ⟨by simp⟩, ⟨by rw [if_pos rfl]⟩, ⟨SW1 w N _⟩⟩
   | false =>
    have HS0 := As.mk (SW0 w N)
    go_wp2_with fail
    obtain ⟨ws, hws⟩ : ∃ ws, (((w.alloc (.cells (madeCells #[.bool false] N) 4 (0, 0))).alloc (.cells #[] 39 (0, 0))).alloc (.cells #[] 41 (0, 0))) = ws := ⟨_, rfl⟩
    rw [hws] at HS0
    rw [show (((w.alloc (.cells (madeCells #[.bool false] N) 4)).alloc (.cells #[] 39)).alloc (.cells #[] 41)) = ws from hws]
    clear hws
    go_loopw [12, 14, 15] (fun v12 v14 v15 wr => ∃ (i m : Nat) (td : List S39), As (SW w wr w.heap.size v12 (.slice (some ⟨w.heap.size + 1 + 1, 0, none⟩) 0 0) (List.replicate N false) td []) ∧ As (v14 = .int .i64 (2 * (i : Int) - 1)) ∧ i + m = hd + 1 ∧ td.length ≤ 5 * i ∧ As (stRows wd hd m td = stRows wd hd (hd + 1) [])) (fun _ v14 _ _ => 2 * hd + 3 - (intOf v14 + 1).toNat)
    case atStart => exact ⟨0, hd + 1, [], HS0, ⟨rfl⟩, by omega, by simp, ⟨rfl⟩⟩
    case round =>
     clear HS0
     obtain ⟨i, m, td, HS, hv14, him, htl, HT⟩ := hrel
     obtain rfl := hv14.out
     clear hv14
     obtain ⟨y, hy⟩ : ∃ y : Int, 2 * (i : Int) - 1 = y := ⟨_, rfl⟩
     have HY := As.mk hy
     have HI := As.mk him
     have HTL := As.mk htl
     rw [hy]
     have hw4 := HW4.out
     have hwh := HWH.out
     by_cases hi : i ≤ hd
     ·have hyH : y ≤ Hi := by omega
      obtain ⟨m, rfl⟩ : ∃ m1, m = m1 + 1 := ⟨m - 1, by omega⟩
      have HIm := As.mk hi
      have HT1 : As (stRows wd hd m (stRow wd hd i (wd + 1) td) = stRows wd hd (hd + 1) []) := ⟨by have h_ := HT.out; rw [stRows, show hd - m = i by omega] at h_; exact h_⟩
      clear HT hy him htl hw4 hwh hi
      go_wp2_with fail
      go_loopw [12, 15] (fun v12 v15 wr => ∃ (j m2 : Nat) (td1 : List S39), As (SW w wr w.heap.size v12 (.slice (some ⟨w.heap.size + 1 + 1, 0, none⟩) 0 0) (List.replicate N false) td1 []) ∧ As (v15 = .int .i64 (2 * (j : Int) - 1)) ∧ j + m2 = wd + 1 ∧ td1.length ≤ 5 * i + j ∧ As (stRow wd hd i m2 td1 = stRow wd hd i (wd + 1) td)) (fun _ v15 _ => 2 * wd + 3 - (intOf v15 + 1).toNat)
      case atStart => exact ⟨0, wd + 1, td, HS, ⟨rfl⟩, by omega, by have := HTL.out; omega, ⟨rfl⟩⟩
      case round =>
       clear HS
       obtain ⟨j, m2, td1, HS, hv15, hjm, htl1, HT2⟩ := hrel
       obtain rfl := hv15.out
       clear hv15
       obtain ⟨x, hx⟩ : ∃ x : Int, 2 * (j : Int) - 1 = x := ⟨_, rfl⟩
       have HX := As.mk hx
       have HJ := As.mk hjm
       have HTL1 := As.mk htl1
       rw [hx]
       have hw4 := HW4.out
       have hwh := HWH.out
       have hi := HIm.out
       have hy := HY.out
       by_cases hj : j ≤ wd
       ·have hxW : x ≤ Wi := by omega
        obtain ⟨m2, rfl⟩ : ∃ m1, m2 = m1 + 1 := ⟨m2 - 1, by omega⟩
        have HT3 : As (stRow wd hd i m2 (if (decide (x < 0) || decide (y < 0) || decide (Wi ≤ x) || decide (Hi ≤ y)) = true then td1 ++ [⟨x, y⟩] else td1) = stRow wd hd i (wd + 1) td) := ⟨by
         have h_ := HT2.out
         rw [stRow, show wd - m2 = j by omega] at h_
         rw [← h_, ← hx, ← hy, show decide (2 * (j : Int) - 1 < 0) = decide (j = 0) from decide_eq_decide.2 (by omega), show decide (2 * (i : Int) - 1 < 0) = decide (i = 0) from decide_eq_decide.2 (by omega), show decide (Wi ≤ 2 * (j : Int) - 1) = decide (j = wd) from decide_eq_decide.2 (by omega), show decide (Hi ≤ 2 * (i : Int) - 1) = decide (i = hd) from decide_eq_decide.2 (by omega)]⟩
        have wx_ : wrap64 (x + 2) = x + 2 := wrapS9 _ (by omega) (by omega)
        have hl9 : td1.length < 100 := by omega
        have HL9 := As.mk hl9
        clear HT2 hx hy hjm htl1 hi hw4 hwh hj hl9
        go_upto_region 14 with (fail)
        go_cut [71] (fun v71 wc => v71 = .bool (decide (x < 0) || decide (y < 0) || decide (Wi ≤ x) || decide (Hi ≤ y)) ∧ wc = wr)
        case first =>
         have hway : x < 0 ∨ (¬ x < 0 ∧ y < 0) ∨ (¬ x < 0 ∧ ¬ y < 0 ∧ Wi ≤ x) ∨ (¬ x < 0 ∧ ¬ y < 0 ∧ ¬ Wi ≤ x ∧ Hi ≤ y) ∨ (¬ x < 0 ∧ ¬ y < 0 ∧ ¬ Wi ≤ x ∧ ¬ Hi ≤ y) := by omega
         clear hyH hxW
         rcases hway with h1 | ⟨h1, h2⟩ | ⟨h1, h2, h3⟩ | ⟨h1, h2, h3, h4⟩ | ⟨h1, h2, h3, h4⟩
         ·go_wp2
          go_meet
          case rel => exact ⟨by simp [h1], rfl⟩
         ·go_wp2
          go_meet
          case rel => exact ⟨by simp [h1, h2], rfl⟩
         ·go_wp2
          go_meet
          case rel => exact ⟨by simp [h1, h2, h3], rfl⟩
         ·go_wp2
          go_meet
          case rel => exact ⟨by simp [h1, h2, h3, h4], rfl⟩
         ·go_wp2
          go_meet
          case rel => exact ⟨by simp [h1, h2, h3, h4], rfl⟩
        case rest =>
         obtain ⟨rfl, rfl⟩ := hcut
         generalize (decide (x < 0) || decide (y < 0) || decide (Wi ≤ x) || decide (Hi ≤ y)) = bb at HT3 ⊢
         cases bb with
         | true =>
          go_wp2_with (first | ((with_reducible refine gate_builtin (b := .append) (xs := #[.tmp 72, .tmp 76]) rfl ?_); at_builtin; refine print_append_cells (w0 := w) w.heap.size rfl (.tmp 72) (.tmp 76) 29 39 (.agg #[(.int .i64 0), (.int .i64 0)]) 2 16 rfl Try.underlying29 info39 rfl (by decide) (by decide) _ td1.length (encC td1) [.int .i64 x, .int .i64 y] rfl rfl rfl (by simp [Value.oneCell']) HS.out.ht HS.out.hb (below_size HS.out.hb) (by have := HL9.out; omega) ?_; intro v1 w8 ho hb hg hat; have HS8 := As.mk (HS.out.growT (c := ⟨x, y⟩) ho hb hg); clear ho hb hg hat HS))
          go_roundw
          case rel => exact ⟨j + 1, m2, td1 ++ [⟨x, y⟩], HS8, ⟨by have := HX.out; first | omega | (congr 1; omega)⟩, by have := HJ.out; omega, by rw [List.length_append, List.length_singleton]; have := HTL1.out; omega, HT3⟩
          case measure => have := HX.out; have := HJ.out; simp [intOf]; omega
         | false =>
          go_wp2
          go_roundw
          case rel => exact ⟨j + 1, m2, td1, HS, ⟨by have := HX.out; first | omega | (congr 1; omega)⟩, by have := HJ.out; omega, by have := HTL1.out; omega, HT3⟩
          case measure => have := HX.out; have := HJ.out; simp [intOf]; omega
       ·have hxW : ¬ x ≤ Wi := by omega
        obtain rfl : m2 = 0 := by omega
        have HT4 : As (stRows wd hd m td1 = stRows wd hd (hd + 1) []) := ⟨by have h_ := HT2.out; rw [stRow] at h_; rw [h_]; exact HT1.out⟩
        have wy_ : wrap64 (y + 2) = y + 2 := wrapS9 _ (by omega) (by omega)
        have hl4 : td1.length ≤ 5 * (i + 1) := by omega
        have HL4 := As.mk hl4
        clear hx hy hjm htl1 hi hw4 hwh hj hl4
        go_wp2
        go_roundw
        case rel => exact ⟨i + 1, m, td1, HS, ⟨by have := HY.out; first | omega | (congr 1; omega)⟩, by have := HI.out; omega, HL4.out, HT4⟩
        case measure => have := HY.out; have := HI.out; simp [intOf]; omega
     ·have hyH : ¬ y ≤ Hi := by omega
      obtain rfl : m = 0 := by omega
      have HT1 : As (td = stRows wd hd (hd + 1) []) := ⟨by have h_ := HT.out; rw [stRows] at h_; exact h_⟩
      clear hy him htl hw4 hwh hi
      go_wp2
      go_meet
      case rel => exact ⟨td, ⟨by have := HTL.out; have := HI.out; have := HW4.out; omega⟩, ⟨by rw [if_neg Bool.false_ne_true]; exact HT1.out⟩, HS⟩
 case rest =>
  obtain ⟨td, HTL, HT, HS⟩ := hcut
  have HM : As ((stMark Wi td (List.replicate N false)).bind (fun d => stMain Wi Hi ls a3 k 0 (d, td, [])) = some r) := ⟨by
   have h_ := HA.out
   unfold stAll at h_
   have ht : (if a3 = 0 then [⟨0, 0⟩] else stRows wd hd (hd + 1) []) = td := by
    rw [HT.out, ← HB3.out]
    by_cases h3 : a3 = 0 <;> simp [h3]
   dsimp only at h_
   rw [ht, HWH.out.1, HWH.out.2.1, HWH.out.2.2.1] at h_
   exact h_⟩
  obtain ⟨d1, hd1, hmain⟩ := Option.bind_eq_some_iff.1 HM.out
  have HD1 := As.mk hd1
  have HMN := As.mk hmain
  clear HM hd1 hmain HA HT
  obtain ⟨At, ct, et⟩ := own_slice HS.out.ht
  subst et
  go_wp2_with fail
  go_loopw [16] (fun v16 wr => ∃ (q : Nat) (dn : List Bool), As (SW w wr w.heap.size (.slice At td.length ct) (.slice (some ⟨w.heap.size + 1 + 1, 0, none⟩) 0 0) dn td []) ∧ v16 = .int .i64 (q : Int) ∧ q ≤ td.length ∧ As (dn.length = N) ∧ As (stMark Wi (td.drop q) dn = some d1)) (fun v16 _ => td.length - (intOf v16).toNat)
  case atStart => exact ⟨0, _, HS, rfl, Nat.zero_le _, ⟨by simp⟩, HD1⟩
  case round =>
   clear HS
   obtain ⟨q, dn, HS, rfl, hq, HDN, HD⟩ := hrel
   by_cases hqn : q < td.length
   ·obtain ⟨c, hc⟩ : ∃ c, td.getD q z39 = c := ⟨_, rfl⟩
    have HD2 : As (-1 ≤ c.f0 ∧ c.f0 ≤ 9 ∧ -1 ≤ c.f1 ∧ c.f1 ≤ 9 ∧ stIx Wi c < dn.length ∧ stMark Wi (td.drop (q + 1)) (dn.set (stIx Wi c).toNat true) = some d1) := ⟨by
     have h_ := HD.out
     have e : td[q] = c := by rw [← hc, List.getD_eq_getElem?_getD, List.getElem?_eq_getElem hqn]; rfl
     rw [List.drop_eq_getElem_cons hqn, stMark, e] at h_
     split at h_
     ·rename_i hb
      exact ⟨hb.1, hb.2.1, hb.2.2.1, hb.2.2.2.1, hb.2.2.2.2, h_⟩
     ·cases h_⟩
    clear HD
    obtain ⟨x, y⟩ := c
    obtain ⟨P, g, e1_, e2_, e3_, e4_, hg, hgN⟩ := stIx_ix (W := Wi) (x := x) (y := y) (n := N) (by have := HWH.out; have := HW4.out; omega) ⟨HD2.out.1, HD2.out.2.1⟩ ⟨HD2.out.2.2.1, HD2.out.2.2.2.1⟩ (by rw [← HDN.out]; exact HD2.out.2.2.2.2.1)
    have HG := As.mk (And.intro hg hgN)
    have HCL := As.mk (rowCells2 HS.out.drew.ht hqn hc)
    have HS2 := As.mk HS.out.drew
    clear HS hg hc
    obtain ⟨gt, egt⟩ := HCL.out.1
    subst egt
    have hbq : 0 ≤ (q : Int) ∧ (q : Int) < (td.length : Int) := by omega
    have hbg : 0 ≤ (g : Int) ∧ (g : Int) < (N : Int) := by omega
    have htl_ := HTL.out
    go_wp2_with fail
    refine sV [(0,84),(1,85),(2,86),(3,87),(4,88),(5,89),(6,90),(7,91),(8,92),(9,93),(10,94),(11,95),(12,96),(13,97),(14,98),(15,99),(16,100),(17,101),(18,0)] (fun w' => w'.cell? ⟨gt, q * 2, none⟩ = some (.int .i64 x) ∧ w'.cell? ⟨gt, q * 2 + 1, none⟩ = some (.int .i64 y)) [18] (by kernel_rfl) rfl (HCL.out.2 _ rfl) (fun hHeld => ?_)
    generalize World.drew wr = w3 at HS2 HCL hHeld ⊢
    iterate 3 refine pV rfl rfl (by kernel_rfl) (by rfl) (fun _ _ _ _ h => h) ⟨_, fun w' => by go_simp; with_reducible rfl, _, by simp only [Act.put, sA, sB, sC, i64_w, i32_w]; rfl, ?_⟩
    refine pV rfl rfl (by kernel_rfl) (by rfl) (fun _ _ _ _ h => h) ⟨_, fun w' => by go_simp; (try simp only [Int.toNat_natCast, if_pos hbq]); with_reducible rfl, _, by simp only [Act.put, sA, sB, sC, i64_w, i32_w]; rfl, ?_⟩
    refine pV rfl rfl (by kernel_rfl) (by rfl) (fun _ _ _ _ h => h) ⟨_, fun w' => by go_simp; with_reducible rfl, _, by simp only [Act.put, sA, sB, sC, i64_w, i32_w]; rfl, ?_⟩
    refine tV rfl rfl (by kernel_rfl) (by rfl) (fun _ _ _ _ h => h) hHeld ⟨_, fun w' s => by go_simp; with_reducible rfl, _, by simp only [Act.put, sA, sB, sC, i64_w, i32_w]; rfl, ?_⟩
    refine pV rfl rfl (by kernel_rfl) (by rfl) (fun _ _ _ _ h => h) ⟨_, fun w' => by go_simp; (try simp only [i64_w, e1_]); with_reducible rfl, _, by simp only [Act.put, sA, sB, sC, i64_w, i32_w]; rfl, ?_⟩
    refine pV rfl rfl (by kernel_rfl) (by rfl) (fun _ _ _ _ h => h) ⟨_, fun w' => by go_simp; with_reducible rfl, _, by simp only [Act.put, sA, sB, sC, i64_w, i32_w]; rfl, ?_⟩
    refine pV rfl rfl (by kernel_rfl) (by rfl) (fun _ _ _ _ h => h) ⟨_, fun w' => by go_simp; (try simp only [i64_w, w4_]); with_reducible rfl, _, by simp only [Act.put, sA, sB, sC, i64_w, i32_w]; rfl, ?_⟩
    refine pV rfl rfl (by kernel_rfl) (by rfl) (fun _ _ _ _ h => h) ⟨_, fun w' => by go_simp; (try simp only [i64_w, e2_]); with_reducible rfl, _, by simp only [Act.put, sA, sB, sC, i64_w, i32_w]; rfl, ?_⟩
    iterate 2 refine pV rfl rfl (by kernel_rfl) (by rfl) (fun _ _ _ _ h => h) ⟨_, fun w' => by go_simp; with_reducible rfl, _, by simp only [Act.put, sA, sB, sC, i64_w, i32_w]; rfl, ?_⟩
    refine pV rfl rfl (by kernel_rfl) (by rfl) (fun _ _ _ _ h => h) ⟨_, fun w' => by go_simp; (try simp only [Int.toNat_natCast, if_pos hbq]); with_reducible rfl, _, by simp only [Act.put, sA, sB, sC, i64_w, i32_w]; rfl, ?_⟩
    refine pV rfl rfl (by kernel_rfl) (by rfl) (fun _ _ _ _ h => h) ⟨_, fun w' => by go_simp; with_reducible rfl, _, by simp only [Act.put, sA, sB, sC, i64_w, i32_w]; rfl, ?_⟩
    refine tV rfl rfl (by kernel_rfl) (by rfl) (fun _ _ _ _ h => h) hHeld ⟨_, fun w' s => by go_simp; with_reducible rfl, _, by simp only [Act.put, sA, sB, sC, i64_w, i32_w]; rfl, ?_⟩
    refine pV rfl rfl (by kernel_rfl) (by rfl) (fun _ _ _ _ h => h) ⟨_, fun w' => by go_simp; (try simp only [i64_w, e3_]); with_reducible rfl, _, by simp only [Act.put, sA, sB, sC, i64_w, i32_w]; rfl, ?_⟩
    refine pV rfl rfl (by kernel_rfl) (by rfl) (fun _ _ _ _ h => h) ⟨_, fun w' => by go_simp; (try simp only [i64_w, e4_]); with_reducible rfl, _, by simp only [Act.put, sA, sB, sC, i64_w, i32_w]; rfl, ?_⟩
    refine pV rfl rfl (by kernel_rfl) (by rfl) (fun _ _ _ _ h => h) ⟨_, fun w' => by go_simp; (try simp only [Int.toNat_natCast, if_pos hbg]); with_reducible rfl, _, by simp only [Act.put, sA, sB, sC, i64_w, i32_w]; rfl, ?_⟩
    have ck_ := HS2.out.cellK (f := g) (by rw [HDN.out]; exact HG.out.2)
    have fk_ := HS2.out.freeK g
    refine lV (N := none) rfl rfl (by kernel_rfl) (by decide) (fun K hK => ?_)
    refine skip_ (w1 := ?_) (by rfl) rfl ?_ ?_
    rotate_left
    ·go_simp
     rfl
    refine hK.out _ _ ?_
    clear hK K
    clear ck_ fk_
    refine dV (by kernel_rfl) ?_
    clear e1_ e2_ e3_ e4_ hbq hbg
    go_wp2_with fail
    go_roundw
    case rel => exact ⟨q + 1, dn.set g true, ⟨HS2.out.setK (by rw [HDN.out]; exact HG.out.2)⟩, by go_num, by omega, ⟨by rw [List.length_set]; exact HDN.out⟩, ⟨by have h_ := HD2.out.2.2.2.2.2; rw [HG.out.1] at h_; exact h_⟩⟩
    case measure => simp [intOf]; omega
   ·have hqe : q = td.length := by omega
    have HDe : As (dn = d1) := ⟨by have h_ := HD.out; rw [hqe, List.drop_length, stMark] at h_; exact Option.some.inj h_⟩
    have hdn := HDe.out
    subst hdn
    clear HD hqe hq HDe HD1
    go_wp2_with fail
    go_loopg [12, 13, 17] k (fun kq v12 v13 v17 wr => ∃ (q1 : Nat) (dn1 : List Bool) (td1 : List S39) (ot1 : List S41), As (SW w wr w.heap.size v12 v13 dn1 td1 ot1) ∧ v17 = .int .i64 (q1 : Int) ∧ As (q1 ≤ td1.length) ∧ As (dn1.length = N) ∧ As (td1.length ≤ 1000 ∧ ot1.length ≤ 1000) ∧ As (stMain Wi Hi ls a3 kq q1 (dn1, td1, ot1) = some r))
    case atStart => exact ⟨0, dn, td, [], HS, rfl, ⟨Nat.zero_le _⟩, HDN, ⟨by have := HTL.out; simp; omega⟩, HMN⟩
    case round =>
     clear HS HDN HMN
     obtain ⟨q1, dn1, td1, ot1, HS, rfl, HQ, HDN, HLL, HA⟩ := hrel
     cases gk with
     | zero => exact absurd HA.out (by simp [stMain])
     | succ k1 =>
      obtain ⟨At1, ct1, et1⟩ := own_slice HS.out.ht
      subst et1
      by_cases hqn : q1 < td1.length
      ·obtain ⟨c, hc⟩ : ∃ c, td1.getD q1 z39 = c := ⟨_, rfl⟩
       obtain ⟨hb, s1, hws, hmn⟩ : (-1 ≤ c.f0 ∧ c.f0 ≤ 9 ∧ -1 ≤ c.f1 ∧ c.f1 ≤ 9) ∧ ∃ s1, stWays Wi Hi ls a3 c 4 (dn1, td1, ot1) = some s1 ∧ stMain Wi Hi ls a3 k1 (q1 + 1) s1 = some r := by
        have h_ := HA.out
        rw [stMain, if_pos hqn] at h_
        dsimp only at h_
        rw [hc] at h_
        split at h_
        ·rename_i hb
         exact ⟨hb, Option.bind_eq_some_iff.1 h_⟩
        ·cases h_
       obtain ⟨x, y⟩ := c
       have HBB := As.mk hb
       have HWS := As.mk hws
       have HMN := As.mk hmn
       have hcl := rowCells2 HS.out.ht hqn hc
       obtain ⟨gt, egt⟩ := hcl.1
       subst egt
       obtain ⟨p0_, p1_⟩ := hcl.2 _ rfl
       have hbq : 0 ≤ (q1 : Int) ∧ (q1 : Int) < (td1.length : Int) := by omega
       clear hb hws hmn hcl hc HA
       go_wp2_with fail
       have HX := As.mk (blk_new wr (.cells #[.int .i64 x, .int .i64 y] 39 (0, 0)))
       have HN : As (∀ kk, (Value.slice (some ⟨gt, 0, none⟩) td1.length ct1).ownBlock = some kk → kk ≠ wr.heap.size) := ⟨fun kk h_ => by have := own_lt HS.out.ht kk h_; omega⟩
       have HS4 := As.mk (HS.out.alloc (.cells #[.int .i64 x, .int .i64 y] 39 (0, 0)))
       clear HS p0_ p1_ hbq
       generalize wr.heap.size = gc at HX HN ⊢
       obtain ⟨w4, hw4⟩ : ∃ w4, wr.alloc (.cells #[.int .i64 x, .int .i64 y] 39 (0, 0)) = w4 := ⟨_, rfl⟩
       rw [hw4] at HX HS4
       rw [show wr.alloc (.cells #[.int .i64 x, .int .i64 y] 39) = w4 from hw4]
       clear hw4
       have HQ1 : As (q1 + 1 ≤ td1.length) := ⟨hqn⟩
       clear HQ hqn
       go_loopw [12, 13, 19] (fun v12 v13 v19 wr => ∃ (j m : Nat) (dn2 : List Bool) (td2 : List S39) (ot2 : List S41), As (SW w wr w.heap.size v12 v13 dn2 td2 ot2) ∧ v19 = .int .i64 (j : Int) ∧ j + m = 4 ∧ As (q1 + 1 ≤ td2.length) ∧ As (dn2.length = N) ∧ As (td2.length ≤ 1000 ∧ ot2.length ≤ 1000) ∧ As (stWays Wi Hi ls a3 ⟨x, y⟩ m (dn2, td2, ot2) = some s1) ∧ As (wr.heap[gc]? = some (.cells #[.int .i64 x, .int .i64 y] 39 (0, 0))) ∧ As (∀ kk, v12.ownBlock = some kk → kk ≠ gc)) (fun _ _ v19 _ => 4 - (intOf v19).toNat)
       case atStart => exact ⟨0, 4, dn1, td1, ot1, HS4, rfl, rfl, HQ1, HDN, HLL, HWS, HX, HN⟩
       case round =>
        clear HS4 HX HN HQ1 HDN HLL HWS
        obtain ⟨j, m, dn2, td2, ot2, HS, rfl, hjm, HQ, HDN, HLL, HWS, HX, HN⟩ := hrel
        by_cases hj : j < 4
        ·obtain ⟨m, rfl⟩ : ∃ m1, m = m1 + 1 := ⟨m - 1, by omega⟩
         obtain ⟨s2, hs2, hws⟩ : ∃ s2, stWay Wi Hi ls a3 ⟨x, y⟩ j (dn2, td2, ot2) = some s2 ∧ stWays Wi Hi ls a3 ⟨x, y⟩ m s2 = some s1 := by
          have h_ := HWS.out
          rw [stWays, show 3 - m = j by omega] at h_
          exact Option.bind_eq_some_iff.1 h_
         have HW1 := As.mk hs2
         have HWS := As.mk hws
         have HJM := As.mk hjm
         clear hs2 hws hjm
         obtain ⟨At2, ct2, et2⟩ := own_slice HS.out.ht
         obtain ⟨Ao2, co2, eo2⟩ := own_slice HS.out.ho
         subst et2
         subst eo2
         obtain ⟨dx, hdx⟩ : ∃ dx, (stDir j).1 = dx := ⟨_, rfl⟩
         obtain ⟨dy, hdy⟩ : ∃ dy, (stDir j).2 = dy := ⟨_, rfl⟩
         have dx4_ := dirCellX (w := wr) hj hdx
         have dy4_ := fun W => dirCellY (w := W) hj hdy
         have dy5_ := dy4_ (wr.alloc (.cells #[.int .i64 1, .int .i64 0, .int .i64 (-1), .int .i64 0] 3 (0, 0)))
         have HD := As.mk (And.intro hdx hdy)
         have hbj : 0 ≤ (j : Int) ∧ (j : Int) < 4 := by omega
         clear hdx hdy dy4_
         go_upto_region 29 with (fail)
         rw [show (([.int .i64 0, .int .i64 1, .int .i64 0, .int .i64 (-1)] : List Value)[j]'hj) = .int .i64 dy from dirList hj HD.out.2]
         have HSa := As.mk ((HS.out.alloc (.cells #[.int .i64 1, .int .i64 0, .int .i64 (-1), .int .i64 0] 3 (0, 0))).alloc (.cells #[.int .i64 0, .int .i64 1, .int .i64 0, .int .i64 (-1)] 3 (0, 0)))
         have HXa := As.mk (blk_alloc (blk_alloc HX.out (.cells #[.int .i64 1, .int .i64 0, .int .i64 (-1), .int .i64 0] 3 (0, 0))) (.cells #[.int .i64 0, .int .i64 1, .int .i64 0, .int .i64 (-1)] 3 (0, 0)))
         have HN1 : As (∀ kk, (Value.slice At2 td2.length ct2).ownBlock = some kk → kk < wr.heap.size) := ⟨fun kk h_ => own_lt HS.out.ht kk h_⟩
         have HGE : As (wr.heap.size ≤ ((wr.alloc (.cells #[.int .i64 1, .int .i64 0, .int .i64 (-1), .int .i64 0] 3 (0, 0))).alloc (.cells #[.int .i64 0, .int .i64 1, .int .i64 0, .int .i64 (-1)] 3 (0, 0))).heap.size) := ⟨by rw [World.size_alloc, World.size_alloc]; omega⟩
         obtain ⟨wc, hwc⟩ : ∃ wc, (wr.alloc (.cells #[.int .i64 1, .int .i64 0, .int .i64 (-1), .int .i64 0] 3 (0, 0))).alloc (.cells #[.int .i64 0, .int .i64 1, .int .i64 0, .int .i64 (-1)] 3 (0, 0)) = wc := ⟨_, rfl⟩
         rw [hwc] at HSa HXa HGE
         rw [show (wr.alloc (.cells #[.int .i64 1, .int .i64 0, .int .i64 (-1), .int .i64 0] 3)).alloc (.cells #[.int .i64 0, .int .i64 1, .int .i64 0, .int .i64 (-1)] 3) = wc from hwc]
         clear hwc HS HX dx4_ dy5_ hbj
         generalize wr.heap.size = nw at HN1 HGE
         have hd1 : -1 ≤ dx ∧ dx ≤ 1 ∧ -1 ≤ dy ∧ dy ≤ 1 := stDir_bd HD.out.1 HD.out.2
         have hbb := HBB.out
         try simp only at hbb
         obtain ⟨mx, hmx⟩ : ∃ mx, x + dx = mx := ⟨_, rfl⟩
         obtain ⟨my, hmy⟩ : ∃ my, y + dy = my := ⟨_, rfl⟩
         obtain ⟨tx, htx⟩ : ∃ tx, x + 2 * dx = tx := ⟨_, rfl⟩
         obtain ⟨ty, hty⟩ : ∃ ty, y + 2 * dy = ty := ⟨_, rfl⟩
         have f1_ : wrap64 (x + dx) = mx := by rw [hmx]; exact wrapS9 _ (by omega) (by omega)
         have f2_ : wrap64 (y + dy) = my := by rw [hmy]; exact wrapS9 _ (by omega) (by omega)
         have f3_ : wrap64 (2 * dx) = 2 * dx := wrapS9 _ (by omega) (by omega)
         have f4_ : wrap64 (2 * dy) = 2 * dy := wrapS9 _ (by omega) (by omega)
         have f5_ : wrap64 (x + 2 * dx) = tx := by rw [htx]; exact wrapS9 _ (by omega) (by omega)
         have f6_ : wrap64 (y + 2 * dy) = ty := by rw [hty]; exact wrapS9 _ (by omega) (by omega)
         have HV : As ((if stOut Wi Hi tx ty mx my = true then some (dn2, td2, ot2) else if stIx Wi ⟨tx, ty⟩ < dn2.length ∧ td2.length < 1000 ∧ ot2.length < 1000 then
           if (dn2.getD (stIx Wi ⟨tx, ty⟩).toNat false || (hasB ls mx my != (a3 == 0))) = true then some (dn2, td2, ot2) else some (dn2.set (stIx Wi ⟨tx, ty⟩).toNat true, td2 ++ [⟨tx, ty⟩], ot2 ++ [ovS mx my tx ty]) else none) = some s2) := ⟨by rw [← htx, ← hty, ← hmx, ← hmy, ← HD.out.1, ← HD.out.2]; exact HW1.out⟩
         have d0_ := (cell_of_two HXa.out).1
         have d1_ := (cell_of_two HXa.out).2
         have d2_ := (cell_of_two (blk_alloc HXa.out (.cells #[.int .i64 mx, .int .i64 my] 39 (0, 0)))).1
         have d3_ := (cell_of_two (blk_alloc HXa.out (.cells #[.int .i64 mx, .int .i64 my] 39 (0, 0)))).2
         clear hd1 hbb hmx hmy htx hty HW1 HD
         go_upto_region 31 with (fail)
         have HS5 := As.mk ((HSa.out.alloc (.cells #[.int .i64 mx, .int .i64 my] 39 (0, 0))).alloc (.cells #[.int .i64 tx, .int .i64 ty] 39 (0, 0)))
         have HX5 := As.mk (blk_alloc (blk_alloc HXa.out (.cells #[.int .i64 mx, .int .i64 my] 39 (0, 0))) (.cells #[.int .i64 tx, .int .i64 ty] 39 (0, 0)))
         have HM5 := As.mk (blk_alloc (blk_new wc (.cells #[.int .i64 mx, .int .i64 my] 39 (0, 0))) (.cells #[.int .i64 tx, .int .i64 ty] 39 (0, 0)))
         have HT5 := As.mk (blk_new (wc.alloc (.cells #[.int .i64 mx, .int .i64 my] 39 (0, 0))) (.cells #[.int .i64 tx, .int .i64 ty] 39 (0, 0)))
         rw [World.size_alloc] at HT5
         have HNm : As (∀ kk, (Value.slice At2 td2.length ct2).ownBlock = some kk → kk ≠ wc.heap.size ∧ kk ≠ wc.heap.size + 1) := ⟨fun kk h_ => by have := HN1.out kk h_; have := HGE.out; omega⟩
         clear d0_ d1_ d2_ d3_ f1_ f2_ f3_ f4_ f5_ f6_ HSa HXa HN1 HGE
         obtain ⟨w5, hw5⟩ : ∃ w5, (wc.alloc (.cells #[.int .i64 mx, .int .i64 my] 39 (0, 0))).alloc (.cells #[.int .i64 tx, .int .i64 ty] 39 (0, 0)) = w5 := ⟨_, rfl⟩
         rw [hw5] at HS5 HX5 HM5 HT5
         rw [show (wc.alloc (.cells #[.int .i64 mx, .int .i64 my] 39)).alloc (.cells #[.int .i64 tx, .int .i64 ty] 39) = w5 from hw5]
         clear hw5
         obtain ⟨go, hgo⟩ : ∃ go, wc.heap.size + 1 = go := ⟨_, rfl⟩
         rw [hgo] at HT5 HNm ⊢
         clear hgo
         generalize wc.heap.size = gm at HM5 HNm ⊢
         have d0_ := (cell_of_two HT5.out).1
         have d1_ := (cell_of_two HT5.out).2
         have d2_ := (cell_of_two HM5.out).1
         have d3_ := (cell_of_two HM5.out).2
         go_cut [185] (fun v185 wd => v185 = .bool (stOut Wi Hi tx ty mx my) ∧ wd = w5)
         case first =>
          as_aux_lemma =>
           rcases nineWays Wi Hi tx ty mx my with h | h | h | h | h | h | h | h | h <;> (obtain ⟨h1, h2, h3, h4, h5, h6, h7, h8⟩ := h; go_wp2; go_meet; case rel => exact ⟨by simp [stOut, *], rfl⟩)
         case rest =>
          obtain ⟨rfl, ewc⟩ := hcut
          rw [ewc]
          clear ewc
          obtain ⟨ob, hob⟩ : ∃ ob, stOut Wi Hi tx ty mx my = ob := ⟨_, rfl⟩
          have HOB := As.mk hob
          rw [hob]
          clear hob
          have hhj := HJM.out
          cases ob with
          | true =>
           have HE : As ((dn2, td2, ot2) = s2) := ⟨by have h_ := HV.out; rw [HOB.out, if_pos rfl] at h_; exact Option.some.inj h_⟩
           go_wp2
           go_roundw
           case rel => exact ⟨j + 1, m, dn2, td2, ot2, HS5, by go_num, by omega, HQ, HDN, HLL, ⟨by rw [HE.out]; exact HWS.out⟩, HX5, HN⟩
           case measure => simp [intOf]; omega
          | false =>
           obtain ⟨hi, HV2⟩ : (stIx Wi ⟨tx, ty⟩ < dn2.length ∧ td2.length < 1000 ∧ ot2.length < 1000) ∧ (if (dn2.getD (stIx Wi ⟨tx, ty⟩).toNat false || (hasB ls mx my != (a3 == 0))) = true then some (dn2, td2, ot2) else some (dn2.set (stIx Wi ⟨tx, ty⟩).toNat true, td2 ++ [⟨tx, ty⟩], ot2 ++ [ovS mx my tx ty])) = some s2 := by
            have h_ := HV.out
            rw [HOB.out, if_neg Bool.false_ne_true] at h_
            split at h_
            ·rename_i hb
             exact ⟨hb, h_⟩
            ·cases h_
           have hto : 0 ≤ tx ∧ tx < Wi ∧ 0 ≤ ty ∧ ty < Hi := by
            have h_ := HOB.out
            simp [stOut] at h_
            omega
           obtain ⟨P, g, e1_, e2_, e3_, e4_, hg, hgN⟩ := stIx_ix (W := Wi) (x := tx) (y := ty) (n := N) (by have := HWH.out; have := HW4.out; omega) (by have := HWH.out; have := HW4.out; omega) (by have := HWH.out; have := HW4.out; omega) (by rw [← HDN.out]; exact hi.1)
           rw [hg] at HV2
           have HG := As.mk hgN
           have HI := As.mk hi.2
           obtain ⟨kf, hkf⟩ : ∃ kf, dn2.getD g false = kf := ⟨_, rfl⟩
           rw [hkf] at HV2
           have HV3 := As.mk HV2
           have hbg : 0 ≤ (g : Int) ∧ (g : Int) < (N : Int) := by omega
           have ck_ : w5.cell? ⟨w.heap.size, g, none⟩ = some (.bool kf) := by rw [← hkf]; exact HS5.out.cellK (by rw [HDN.out]; exact HG.out)
           clear hkf hg HV2 HV hto hi hgN HOB hhj
           go_upto_region 32 with (fail)
           go_cut [206] (fun v206 we => v206 = .bool (kf || (hasB ls mx my != (a3 == 0))) ∧ As (SW w we w.heap.size (.slice At2 td2.length ct2) (.slice Ao2 ot2.length co2) dn2 td2 ot2) ∧ As (we.heap[gc]? = some (.cells #[.int .i64 x, .int .i64 y] 39 (0, 0))) ∧ As (we.heap[gm]? = some (.cells #[.int .i64 mx, .int .i64 my] 39 (0, 0))) ∧ As (we.heap[go]? = some (.cells #[.int .i64 tx, .int .i64 ty] 39 (0, 0))))
           case first =>
            as_aux_lemma =>
             cases kf with
             | true =>
              go_wp2
              go_meet
              case rel => exact ⟨by simp, HS5, HX5, HM5, HT5⟩
             | false =>
              go_wp2_with fail
              refine (s_l24Has.calls (ls.length + 1) A2 c2 ls mx my (hasB ls mx my) _ (Kd.C_below HR.out HS5.out.hb) HC.out (has_l0 ls mx my HL.out ls.length 0 (by omega))).mono ?_
              rintro e w6 ⟨rfl, hb6⟩
              have HB6 := As.mk hb6
              clear hb6
              go_wp2
              go_meet
              case rel => exact ⟨by cases hasB ls mx my <;> cases (a3 == 0) <;> rfl, ⟨HS5.out.below HB6.out⟩, ⟨blk_below HX5.out HB6.out⟩, ⟨blk_below HM5.out HB6.out⟩, ⟨blk_below HT5.out HB6.out⟩⟩
           case rest =>
            obtain ⟨rfl, HS6, HX6, HM6, HT6⟩ := hcut
            clear HS5 HX5 HM5 HT5 ck_ d0_ d1_ d2_ d3_
            obtain ⟨kk, hkk⟩ : ∃ kk, (kf || (hasB ls mx my != (a3 == 0))) = kk := ⟨_, rfl⟩
            have HKK := As.mk hkk
            rw [hkk]
            clear hkk
            have hhj := HJM.out
            cases kk with
            | true =>
             have HE : As ((dn2, td2, ot2) = s2) := ⟨by have h_ := HV3.out; rw [HKK.out, if_pos rfl] at h_; exact Option.some.inj h_⟩
             go_wp2
             go_roundw
             case rel => exact ⟨j + 1, m, dn2, td2, ot2, HS6, by go_num, by omega, HQ, HDN, HLL, ⟨by rw [HE.out]; exact HWS.out⟩, HX6, HN⟩
             case measure => simp [intOf]; omega
            | false =>
             have HE : As ((dn2.set g true, td2 ++ [⟨tx, ty⟩], ot2 ++ [ovS mx my tx ty]) = s2) := ⟨by have h_ := HV3.out; rw [HKK.out, if_neg Bool.false_ne_true] at h_; exact Option.some.inj h_⟩
             clear hhj HV3 HKK
             have d0_ := (cell_of_two HT6.out).1
             have d1_ := (cell_of_two HT6.out).2
             have d2_ := (cell_of_two HM6.out).1
             have d3_ := (cell_of_two HM6.out).2
             have ck_ := HS6.out.cellK (f := g) (by rw [HDN.out]; exact HG.out)
             have fk_ := HS6.out.freeK g
             go_upto_region 34 with (fail)
             have HS7 := As.mk (HS6.out.setK (f := g) (by rw [HDN.out]; exact HG.out))
             have HX7 := As.mk (HS6.out.setBox (f := g) HX6.out)
             have HM7 := As.mk (HS6.out.setBox (f := g) HM6.out)
             have HT7 := As.mk (HS6.out.setBox (f := g) HT6.out)
             clear ck_ fk_ e1_ e2_ e3_ e4_ hbg HS6 HX6 HM6 HT6 d0_ d1_ d2_ d3_
             generalize World.setCell wc ⟨w.heap.size, g, none⟩ (.bool true) = w7 at HS7 HX7 HM7 HT7 ⊢
             have d0_ := (cell_of_two HT7.out).1
             have d1_ := (cell_of_two HT7.out).2
             have d2_ := (cell_of_two HM7.out).1
             have d3_ := (cell_of_two HM7.out).2
             go_upto_region 35 with (first | ((with_reducible refine gate_builtin (b := .append) (xs := #[.tmp 219, .tmp 221]) rfl ?_); at_builtin; refine print_append_cells (w0 := w) w.heap.size rfl (.tmp 219) (.tmp 221) 29 39 (.agg #[(.int .i64 0), (.int .i64 0)]) 2 16 rfl Try.underlying29 info39 rfl (by decide) (by decide) _ td2.length (encC td2) [.int .i64 tx, .int .i64 ty] rfl rfl rfl (by simp [Value.oneCell']) HS7.out.ht HS7.out.hb (below_size HS7.out.hb) (by have := HI.out; omega) ?_; intro v1 w8 ho hb hg hat; have HS8 := As.mk (HS7.out.growT (c := ⟨tx, ty⟩) ho hb hg); have HX8 := As.mk (blk_grown HX7.out hg (fun h_ => HN.out gc h_.symm rfl)); have HM8 := As.mk (blk_grown HM7.out hg (fun h_ => (HNm.out gm h_.symm).1 rfl)); have HT8 := As.mk (blk_grown HT7.out hg (fun h_ => (HNm.out go h_.symm).2 rfl)); have HN8 : As (∀ kk, v1.ownBlock = some kk → kk ≠ gc) := ⟨offNext HX7.out HN.out hat⟩; clear ho hb hg hat HS7 HX7 HM7 HT7 d0_ d1_ d2_ d3_))
             have d0_ := (cell_of_two HT8.out).1
             have d1_ := (cell_of_two HT8.out).2
             have d2_ := (cell_of_two HM8.out).1
             have d3_ := (cell_of_two HM8.out).2
             go_upto_region 36 with (fail)
             refine (s_DominoOver.calls 5 mx my tx ty (ovS mx my tx ty).f0 (ovS mx my tx ty).f1 (ovS mx my tx ty).f2 _ _ (ovS_some mx my tx ty)).mono ?_
             rintro e w9 ⟨rfl, hb9⟩
             have HS9 := As.mk (HS8.out.below hb9)
             have HX9 := As.mk (blk_below HX8.out hb9)
             clear hb9 HS8 HX8 HM8 HT8 d0_ d1_ d2_ d3_
             obtain ⟨o, ho⟩ : ∃ o, ovS mx my tx ty = o := ⟨_, rfl⟩
             rw [ho]
             rw [ho] at HE
             clear ho
             go_upto_region 36 with (fail)
             have HS10 := As.mk (HS9.out.alloc (.cells #[.int .i64 o.f0, .int .i64 o.f1, .bool o.f2] 41 (0, 0)))
             have HX10 := As.mk (blk_alloc HX9.out (.cells #[.int .i64 o.f0, .int .i64 o.f1, .bool o.f2] 41 (0, 0)))
             obtain ⟨b0_, b1_, b2_⟩ := boxCells (d := o) (blk_new w9 (.cells #[.int .i64 o.f0, .int .i64 o.f1, .bool o.f2] 41 (0, 0)))
             clear HS9 HX9
             obtain ⟨w10, hw10⟩ : ∃ w10, w9.alloc (.cells #[.int .i64 o.f0, .int .i64 o.f1, .bool o.f2] 41 (0, 0)) = w10 := ⟨_, rfl⟩
             rw [hw10] at HS10 HX10 b0_ b1_ b2_
             rw [show w9.alloc (.cells #[.int .i64 o.f0, .int .i64 o.f1, .bool o.f2] 41) = w10 from hw10]
             clear hw10
             generalize w9.heap.size = bd at b0_ b1_ b2_ ⊢
             go_wp2_with (first | ((with_reducible refine gate_builtin (b := .append) (xs := #[.tmp 229, .tmp 231]) rfl ?_); at_builtin; refine print_append_cells (w0 := w) w.heap.size rfl (.tmp 229) (.tmp 231) 24 41 (.agg #[(.int .i64 0), (.int .i64 0), (.bool false)]) 3 24 rfl Try.underlying24 info41 rfl (by decide) (by decide) _ ot2.length (encD ot2) [.int .i64 o.f0, .int .i64 o.f1, .bool o.f2] rfl rfl rfl (by simp [Value.oneCell']) HS10.out.ho HS10.out.hb (below_size HS10.out.hb) (by have := HI.out; omega) ?_; intro v2 w11 ho hb hg hat; have HX11 := As.mk (blk_grown HX10.out hg (own_ne HS10.out.ho HX10.out (by decide))); have HS11 := As.mk (HS10.out.growO (d := o) ho hb hg); clear ho hb hg hat HS10 HX10 b0_ b1_ b2_))
             have hhj := HJM.out
             go_roundw
             case rel => exact ⟨j + 1, m, dn2.set g true, td2 ++ [⟨tx, ty⟩], ot2 ++ [o], HS11, by go_num, by omega, ⟨by rw [List.length_append]; have := HQ.out; omega⟩, ⟨by rw [List.length_set]; exact HDN.out⟩, ⟨by rw [List.length_append, List.length_append, List.length_singleton, List.length_singleton]; have := HI.out; omega⟩, ⟨by rw [HE.out]; exact HWS.out⟩, HX11, HN8⟩
             case measure => simp [intOf]; omega
        ·obtain rfl : m = 0 := by omega
         have HSS : As ((dn2, td2, ot2) = s1) := ⟨by have h_ := HWS.out; rw [stWays] at h_; exact Option.some.inj h_⟩
         have hl2 := HLL.out.1
         clear HWS
         have hq2 : q1 ≤ 1000 := by have := HQ.out; omega
         go_wp2
         go_roundg k1
         case measure => omega
         case rel => exact ⟨q1 + 1, dn2, td2, ot2, HS, by go_num, HQ, HDN, HLL, ⟨by have h_ := HMN.out; rw [← HSS.out] at h_; exact h_⟩⟩
      ·have hot : As (ot1 = r) := ⟨by have h_ := HA.out; rw [stMain, if_neg hqn] at h_; exact Option.some.inj h_⟩
       go_wp2
       go_ret
       refine ⟨_, rfl, ?_, HS.out.hb⟩
       rw [← hot.out]
       exact R41_of_own HS.out.ho (fun _ _ => trivial)
theorem stMain_mono (W H : Int) (ls : List S50) (rest : Int) : ∀ (k q : Nat) (s : TSt), LeO (stMain W H ls rest k q s) (stMain W H ls rest (k + 1) q s)
 | 0, q, s => LeO.none _
 | k + 1, q, s => by
  unfold stMain
  exact LeO.ite (LeO.ite (LeO.bind (LeO.refl _) (fun x => stMain_mono W H ls rest k (q + 1) x)) (LeO.refl _)) (LeO.refl _)
def s_l24Steps.f (k : Nat) (a0 : Int) (a1 : Int) (l2 : List (S50)) (a3 : Int) : Option ((List (S41))) :=
 if 1 ≤ a0 ∧ a0 ≤ 4 ∧ 1 ≤ a1 ∧ a1 ≤ 4 ∧ l2.length < 4611686018427387904 then stAll a0.toNat a1.toNat l2 a3 k else none
theorem s_l24Steps.mono : ∀ a0 a1 l2 a3 k, LeO (s_l24Steps.f k a0 a1 l2 a3) (s_l24Steps.f (k + 1) a0 a1 l2 a3) := by
 intro a0 a1 l2 a3 k
 unfold s_l24Steps.f
 refine LeO.ite ?_ (LeO.refl _)
 unfold stAll
 exact LeO.bind (LeO.refl _) (fun x => stMain_mono _ _ _ _ _ _ _)
theorem s_l24Steps.calls (k : Nat) (a0 : Int) (a1 : Int) (A2 : Option Addr) (c2 : Nat) (l2 : List (S50)) (a3 : Int) (r : List (S41)) (w : World) (hr2 : Kd.C k50 w A2 l2.length l2) (hc2 : l2.length ≤ c2) (h : s_l24Steps.f k a0 a1 l2 a3 = some r) :
  Calls Try.prog 99 #[.int .i64 a0, .int .i64 a1, .slice A2 l2.length c2, .int .i64 a3] w fun e w' => ∃ v0_ : Value, e = .returned (v0_) ∧ Kd.R k41 41 w' w.heap.size (fun _ => True) v0_ r ∧ Below w.heap.size w w' := by
 unfold s_l24Steps.f at h
 split at h
 ·rename_i hb
  obtain ⟨h1, h2, h3, h4, h5⟩ := hb
  obtain ⟨W, rfl⟩ := Int.eq_ofNat_of_zero_le (show 0 ≤ a0 by omega)
  obtain ⟨H, rfl⟩ := Int.eq_ofNat_of_zero_le (show 0 ≤ a1 by omega)
  exact steps_calls W H (by omega) (by omega) (by omega) (by omega) a3 k A2 c2 l2 r w hr2 hc2 h5 h
 ·cases h
end Go.Proofs.Ytnfnlmilmpaofaa.PFnExactTreeOfTiling
namespace Go.Proofs.Ytnfnlmilmpaofaa.PFnExactTreeOfTiling
open Go.RowKit Go.Proofs.YtnfnlmilmpaofaaW.PrintWords Go.Proofs.YtnfnlmilmpaofaaW.PrintLast Go.Proofs.YtnfnlmilmpaofaaW.PrintMore
attribute [local go_sem] max2_int min2_int max_two min_two max_three min_three max_four min_four
set_option linter.unusedVariables false
attribute [local go_sem high] cell_bk frozen_bk
set_option linter.unusedSimpArgs false
def s_TilingOfTree.f (k : Nat) (a0 : Int) (a1 : Int) (l2 : List (S50)) : Option ((List (S41)) × Bool) := (s_IsTree.f k a0 a1 l2).bind fun t431 => (if t431 = true then ((s_l24Steps.f k a0 a1 l2 0).bind fun t435 => ((s_l24Steps.f k a0 a1 l2 1).bind fun t438 => (if t435.length + t438.length < 5864062014805 then ((s_SortDominoes.f k (t435 ++ t438)).bind fun t444 => (some (t444, true))) else (none)))) else (some ((([] : List (S41))), false)))
theorem s_TilingOfTree.mono : ∀ a0 a1 a2 k, LeO (s_TilingOfTree.f k a0 a1 a2) (s_TilingOfTree.f (k + 1) a0 a1 a2) := by
 intro a0 a1 a2 k
 unfold s_TilingOfTree.f
 repeat' with_reducible first
 | exact s_IsTree.mono _ _ _ _
 | exact s_SortDominoes.mono _ _
 | exact s_l24Steps.mono _ _ _ _ _
 | exact LeO.refl _
 | exact LeO.none _
 | refine LeO.ite ?_ ?_
 | refine LeO.bind ?_ (fun _ => ?_)
set_option maxRecDepth 100000 in
theorem s_TilingOfTree.calls (k : Nat) (a0 : Int) (a1 : Int) (A2 : Option Addr) (c2 : Nat) (l2 : List (S50)) (r1 : List (S41)) (r2 : Bool) (w : World) (hr2 : Kd.C k50 w A2 l2.length l2) (hc2 : l2.length ≤ c2) (h : s_TilingOfTree.f k a0 a1 l2 = some (r1, r2)) :
  Calls Try.prog 34 #[.int .i64 a0, .int .i64 a1, .slice A2 l2.length c2] w fun e w' => ∃ v0_ : Value, e = .returned (.tuple #[v0_, .bool r2]) ∧ Kd.R k41 41 w' w.heap.size (fun _ => True) v0_ r1 ∧ Below w.heap.size w w' := by
 have HR2 := As.mk hr2
 have HC2 := As.mk hc2
 clear hr2 hc2
 have HB : Up w w := ⟨Below.refl _ _⟩
 have H : ((s_IsTree.f k a0 a1 l2).bind fun t431 => (if t431 = true then ((s_l24Steps.f k a0 a1 l2 0).bind fun t435 => ((s_l24Steps.f k a0 a1 l2 1).bind fun t438 => (if t435.length + t438.length < 5864062014805 then ((s_SortDominoes.f k (t435 ++ t438)).bind fun t444 => (some (t444, true))) else (none)))) else (some ((([] : List (S41))), false)))) = some (r1, r2) := h
 clear h
 obtain ⟨t431, A4, H⟩ := bI H
 replace H := bT H; rcases H with ⟨rfl, H⟩ | ⟨rfl, H⟩
 ·obtain ⟨t435, A6, H⟩ := bI H
  obtain ⟨t438, A7, H⟩ := bI H
  by_cases c8 : t435.length + t438.length < 5864062014805
  ·rw [if_pos c8] at H
   have LMc8 := As.mk c8
   clear c8
   obtain ⟨y441, hy441⟩ : ∃ y_ : List (S41), y_ = (t435 ++ t438) := ⟨_, rfl⟩
   replace H : ((s_SortDominoes.f k y441).bind fun t444 => (some (t444, true))) = some (r1, r2) := by first | (rw [hy441]; with_reducible exact H) | (have H2_ := (Option.bind_some _ _).symm.trans H; rw [hy441]; with_reducible exact H2_) | (have H2_ := (Option.bind_some _ _).symm.trans H; with_reducible exact H2_) | with_reducible exact H | (rw [hy441]; exact H) | exact H
   have Ny441 := As.mk hy441
   clear hy441
   obtain ⟨t444, A9, H⟩ := bI H
   simp only [Option.some.injEq, Prod.mk.injEq] at H
   obtain ⟨rfl, rfl⟩ := H
   go_enter Try.func34, Try.ntmps34
   go_wp2_with (first | ((with_reducible refine gC 27 rfl ?_); refine gK (some 11) rfl rfl Try.func27 (by kernel_rfl) rfl #[.int .i64 a0, .int .i64 a1, .slice A2 l2.length c2] rfl (by (try simp only [sD, sE, sF]); first | done | rfl) (s_IsTree.calls k a0 a1 _ _ l2 true _ ?side1 ?side2 A4.out) ?_; (case side1 => repeat (first | exact HR2.out | (with_reducible refine Kd.C_alloc ?_ _) | (with_reducible refine Kd.C_drewN ?_ _) | (with_reducible refine Kd.C_drew ?_))); (case side2 => exact HC2.out); intro w10 _) | ((with_reducible refine gC 99 rfl ?_); refine goesL_ (some 17) rfl rfl Try.func99 (by kernel_rfl) rfl #[.int .i64 a0, .int .i64 a1, .slice A2 l2.length c2, .int .i64 0] rfl (by (try simp only [sD, sE, sF]); first | done | rfl) ?_; (with_reducible refine (s_l24Steps.calls k a0 a1 _ _ l2 0 t435 _ ?side1 ?side2 A6.out).mono ?_); (case side1 => exact (Kd.C_below HR2.out (uw w))); (case side2 => exact HC2.out); rintro e w11 ⟨v436, rfl, ho0, hb⟩; refine ⟨_, rfl, ?_⟩; have := Stp.mk hb; have HO437 := As.mk (Kd.R_lower ho0 (below_size (uw w))); (try clear ho0)) | ((with_reducible refine gC 99 rfl ?_); refine goesL_ (some 21) rfl rfl Try.func99 (by kernel_rfl) rfl #[.int .i64 a0, .int .i64 a1, .slice A2 l2.length c2, .int .i64 1] rfl (by (try simp only [sD, sE, sF]); first | done | rfl) ?_; (with_reducible refine (s_l24Steps.calls k a0 a1 _ _ l2 1 t438 _ ?side1 ?side2 A7.out).mono ?_); (case side1 => exact (Kd.C_below HR2.out (uw w))); (case side2 => exact HC2.out); rintro e w12 ⟨v439, rfl, ho0, hb⟩; refine ⟨_, rfl, ?_⟩; have := Stp.mk hb; have n0_ := As.mk (Kd.R_elder' (rX HO437.out) (Kd.R_base ho0) hb); have n1_ := As.mk (Kd.R_lower (Kd.R_new' ho0 (Kd.R_lt (rX HO437.out))) (below_size (uw w))); clear HO437; have HO437 := n0_; have HO440 := n1_; clear n0_ n1_; (try clear ho0); obtain ⟨Ao14, co14, eo14⟩ := Kd.R_slice HO440.out; subst eo14) | ((with_reducible refine gate_builtin (b := .append) (xs := #[.tmp 17, .tmp 21]) rfl ?_); at_builtin; refine Kd.R_append_rows k41 (w0 := w) w.heap.size rfl (.tmp 17) (.tmp 21) 24 41 (.agg #[(.int .i64 0), (.int .i64 0), (.bool false)]) 24 rfl Try.underlying24 info41 rfl (by decide) (by omega) v436 t435 t438 _ _ _ (fun k_ => some k_ ≠ (.slice Ao14 t438.length co14 : Value).ownBlock) (fun _ => False) rfl rfl ?aO ?aR (fun _ _ h => h) (fun _ h => h.elim) ?aF ?aB ?aS ?aL ?_; (case aR => repeat (first | exact (Kd.R_reads' HO440.out).2.2 | (with_reducible refine Kd.C_alloc ?_ _) | (with_reducible refine Kd.C_drewN ?_ _) | (with_reducible refine Kd.C_drew ?_))); (case aB => exact (uw w)); (case aF => exact (fun k_ hk => Kd.fresh' (Kd.R_lt (rX HO440.out)) k_ hk)); (case aO => exact (by (with_reducible repeat (first | apply Kd.R_alloc | apply Kd.R_drewN | apply Kd.R_drew)); exact Kd.R_mono HO437.out (fun _ hk => hk.2))); (case aS => exact (below_size (uw w))); (case aL => have := LMc8.out; omega); intro v442 w13 ho hb hg hat; rw [← Ny441.out] at ho; have n0_ := As.mk (Kd.R_after (ok := (fun _ => True)) (rX HO440.out) hg hat); have n1_ := Up.mk (hb); have n2_ := As.mk (ho); clear HO440; clear HO437; have HO440 := n0_; have HB := n1_; have HO443 := n2_; clear n0_ n1_ n2_; clear ho hb hg hat; obtain ⟨Ao15, co15, eo15⟩ := Kd.R_slice HO443.out; subst eo15) | ((with_reducible refine gC 19 rfl ?_); refine goesL_ (some 23) rfl rfl Try.func19 (by kernel_rfl) rfl #[.slice Ao15 y441.length co15] rfl (by (try simp only [sD, sE, sF]); first | done | rfl) ?_; (with_reducible refine (s_SortDominoes.calls k _ _ y441 t444 _ ?side1 ?side2 A9.out).mono ?_); (case side1 => repeat (first | exact (Kd.R_reads' HO443.out).2.2 | (with_reducible refine Kd.C_alloc ?_ _) | (with_reducible refine Kd.C_drewN ?_ _) | (with_reducible refine Kd.C_drew ?_))); (case side2 => exact (Kd.R_reads' HO443.out).2.1); rintro e w16 ⟨v445, rfl, ho0, hb⟩; refine ⟨_, rfl, ?_⟩; have := Stp.mk hb; have n0_ := As.mk (Kd.R_elder' (rX HO440.out) (Kd.R_base ho0) hb); have n1_ := As.mk (Kd.R_elder' (rX HO443.out) (Kd.R_base ho0) hb); have n2_ := As.mk (Kd.R_lower (Kd.R_new' (Kd.R_new' ho0 (Kd.R_lt (rX HO440.out))) (Kd.R_lt (rX HO443.out))) (below_size (uw w))); clear HO440; clear HO443; have HO440 := n0_; have HO443 := n1_; have HO446 := n2_; clear n0_ n1_ n2_; (try clear ho0)))
   go_ret2
   exact ⟨_, by first | rfl | (simp [*, errW_none, errW_some] <;> rfl), by (with_reducible repeat (first | apply Kd.R_alloc | apply Kd.R_drewN | apply Kd.R_drew)); exact Kd.R_mono HO446.out (fun _ hk => trivial), uw w⟩
  ·rw [if_neg c8] at H
   exact absurd H (by simp)
 ·obtain ⟨y432, hy432⟩ : ∃ y_ : List (S41), y_ = (([] : List (S41))) := ⟨_, rfl⟩
  replace H : (some (y432, false)) = some (r1, r2) := by first | (rw [hy432]; with_reducible exact H) | (have H2_ := (Option.bind_some _ _).symm.trans H; rw [hy432]; with_reducible exact H2_) | (have H2_ := (Option.bind_some _ _).symm.trans H; with_reducible exact H2_) | with_reducible exact H | (rw [hy432]; exact H) | exact H
  have Ny432 := As.mk hy432
  clear hy432
  simp only [Option.some.injEq, Prod.mk.injEq] at H
  obtain ⟨rfl, rfl⟩ := H
  go_enter Try.func34, Try.ntmps34
  go_wp2_with (first | ((with_reducible refine gC 27 rfl ?_); refine gK (some 11) rfl rfl Try.func27 (by kernel_rfl) rfl #[.int .i64 a0, .int .i64 a1, .slice A2 l2.length c2] rfl (by (try simp only [sD, sE, sF]); first | done | rfl) (s_IsTree.calls k a0 a1 _ _ l2 false _ ?side1 ?side2 A4.out) ?_; (case side1 => repeat (first | exact HR2.out | (with_reducible refine Kd.C_alloc ?_ _) | (with_reducible refine Kd.C_drewN ?_ _) | (with_reducible refine Kd.C_drew ?_))); (case side2 => exact HC2.out); intro w17 _) | ((with_reducible refine gate_dst (N := 13) rfl ?_); refine Kd.R_lit k41 _ 41 ?hg (N := 13) ?hd (xs := ([] : List (S41))) (inner := []) (ok := fun _ => True) (okp := fun _ => True) ?hr ?hp (fun _ hk => hk) trivial (Below.refl _ _) (Nat.le_refl _) (by simp) ?_; (case hd => rfl); (case hg => rfl); (case hr => first | (go_simp; done) | (go_simp; rfl)); (case hp => exact (Reps.none _ _)); intro v433 w18 ho19 hb hg_ hnew_; clear hg_ hnew_; (first | rw [← Ny432.out] at ho19 | (simp only [Int.reduceToNat] at ho19; rw [← Ny432.out] at ho19)); have := Stp.mk hb; have HO434 := As.mk (Kd.R_lower ho19 (below_size (uw w))); clear hb ho19))
  go_ret2
  exact ⟨_, by first | rfl | (simp [*, errW_none, errW_some] <;> rfl), rX HO434.out, uw w⟩
end Go.Proofs.Ytnfnlmilmpaofaa.PFnExactTreeOfTiling
namespace Go.Proofs.Ytnfnlmilmpaofaa.PFnExactTreeOfTiling
open Go.RowKit Go.Proofs.YtnfnlmilmpaofaaW.PrintWords Go.Proofs.YtnfnlmilmpaofaaW.PrintLast Go.Proofs.YtnfnlmilmpaofaaW.PrintMore
attribute [local go_sem] max2_int min2_int max_two min_two max_three min_three max_four min_four
set_option linter.unusedVariables false
attribute [local go_sem high] cell_bk frozen_bk
set_option linter.unusedSimpArgs false
attribute [local go_sem high] eqA41
def s_SameDominoes.l0 : Nat → List (S41) → List (S41) → Int → Option (Bool)
 | 0, _, _, _ => none
 | k + 1, x0, x1, x5 => if x5 < (x0.length : Int) then (if 0 ≤ x5 then (if x5 < (x1.length : Int) then (if (!(((rd_T41 x0 x5).f0) == ((rd_T41 x1 x5).f0)) || (!(((rd_T41 x0 x5).f1) == ((rd_T41 x1 x5).f1)) || (!(((rd_T41 x0 x5).f2) == ((rd_T41 x1 x5).f2))))) = true then (some false) else (s_SameDominoes.l0 k x0 x1 (wrap64 (x5 + 1)))) else (none)) else (none)) else (some true)
def s_SameDominoes.f (k : Nat) (l0 : List (S41)) (l1 : List (S41)) : Option (Bool) := if (l0.length : Int) = (l1.length : Int) then (s_SameDominoes.l0 k l0 l1 0) else (some false)
theorem s_SameDominoes.mono_l : ∀ k, (∀ y0 y1 y2, LeO (s_SameDominoes.l0 k y0 y1 y2) (s_SameDominoes.l0 (k + 1) y0 y1 y2))
 | 0 => fun _ _ _ r h => by simp [s_SameDominoes.l0] at h
 | k + 1 => by
  have ih0 := s_SameDominoes.mono_l k
  ·intro y0 y1 y2
   unfold s_SameDominoes.l0
   repeat' with_reducible first
   | exact ih0 _ _ _
   | exact LeO.refl _
   | exact LeO.none _
   | refine LeO.ite ?_ ?_
   | refine LeO.bind ?_ (fun _ => ?_)
theorem s_SameDominoes.mono : ∀ a0 a1 k, LeO (s_SameDominoes.f k a0 a1) (s_SameDominoes.f (k + 1) a0 a1) := by
 intro a0 a1 k
 have ih0 := s_SameDominoes.mono_l k
 unfold s_SameDominoes.f
 repeat' with_reducible first
 | exact ih0 _ _ _
 | exact LeO.refl _
 | exact LeO.none _
 | refine LeO.ite ?_ ?_
 | refine LeO.bind ?_ (fun _ => ?_)
set_option maxRecDepth 100000 in
theorem s_SameDominoes.calls (k : Nat) (A0 : Option Addr) (c0 : Nat) (l0 : List (S41)) (A1 : Option Addr) (c1 : Nat) (l1 : List (S41)) (r : Bool) (w : World) (hr0 : Kd.C k41 w A0 l0.length l0) (hc0 : l0.length ≤ c0) (hr1 : Kd.C k41 w A1 l1.length l1) (hc1 : l1.length ≤ c1) (h : s_SameDominoes.f k l0 l1 = some r) :
  Calls Try.prog 106 #[.slice A0 l0.length c0, .slice A1 l1.length c1] w fun e w' => e = .returned (.bool r) ∧ Drawn0 w w' := by
 have hu41 := Try.underlying41
 have HR0 := As.mk hr0
 have HC0 := As.mk hc0
 clear hr0 hc0
 have HR1 := As.mk hr1
 have HC1 := As.mk hc1
 clear hr1 hc1
 have H : (if (l0.length : Int) = (l1.length : Int) then (s_SameDominoes.l0 k l0 l1 0) else (some false)) = some r := h
 clear h
 by_cases c3 : (l0.length : Int) = (l1.length : Int)
 ·rw [if_pos c3] at H
  have c3b0 : ((l0.length : Int) == (l1.length : Int)) = true := beq_iff_eq.mpr c3
  have c3b1 : ((l0.length : Int) != (l1.length : Int)) = false := bne_eq_false_iff_eq.mpr c3
  have c3b2 : (l0.length == l1.length) = true := by first | simpa using c3 | (simp at c3 ⊢; omega)
  clear c3
  have H' := As.mk H
  clear H
  go_enter Try.func106, Try.ntmps106
  go_wp2
  repeat (go_quiet (fail); try go_wp2)
  go_loopg [5] k (fun kq v5 w' => ∃ (x5_1 : Int), v5 = .int .i64 x5_1 ∧ As (s_SameDominoes.l0 kq l0 l1 x5_1 = some r) ∧ As (kq ≤ k) ∧ Drawn0 w w')
  case atStart => exact ⟨(0), (by first | rfl | (simp; done) | (simp [*]; done)), H', ⟨Nat.le_refl _⟩, by repeat (first | exact Drawn0.refl _ | apply Drawn0.step)⟩
  case round =>
   clear H'
   try clear c3
   try clear c3b0
   try clear c3b1
   try clear c3b2
   obtain ⟨x5_1, rfl, HA, HK1, ⟨m1, rfl⟩⟩ := hrel
   cases gk with
   | zero => exact absurd HA.out (by simp [s_SameDominoes.l0])
   | succ k1 =>
    have H := HA.out
    clear HA
    simp only [s_SameDominoes.l0] at H
    by_cases c4 : x5_1 < (l0.length : Int)
    ·rw [if_pos c4] at H
     have c4b0 : decide (x5_1 < (l0.length : Int)) = true := decide_eq_true c4
     clear c4
     by_cases c5 : 0 ≤ x5_1
     ·rw [if_pos c5] at H
      have c5b0 : decide (0 ≤ x5_1) = true := decide_eq_true c5
      clear c5
      by_cases c6 : x5_1 < (l1.length : Int)
      ·rw [if_pos c6] at H
       have c6b0 : decide (x5_1 < (l1.length : Int)) = true := decide_eq_true c6
       clear c6
       by_cases c7 : (!(((rd_T41 l0 x5_1).f0) == ((rd_T41 l1 x5_1).f0)) || (!(((rd_T41 l0 x5_1).f1) == ((rd_T41 l1 x5_1).f1)) || (!(((rd_T41 l0 x5_1).f2) == ((rd_T41 l1 x5_1).f2))))) = true
       ·rw [if_pos c7] at H
        have c7b0 : (!(((rd_T41 l0 x5_1).f0) == ((rd_T41 l1 x5_1).f0)) || (!(((rd_T41 l0 x5_1).f1) == ((rd_T41 l1 x5_1).f1)) || (!(((rd_T41 l0 x5_1).f2) == ((rd_T41 l1 x5_1).f2))))) = true := c7
        clear c7
        obtain rfl := Option.some.inj H
        have p447 : 0 ≤ (x5_1 : Int) := oD
        have q447 : x5_1 < (l0.length : Int) := oD
        obtain ⟨ad447, e447, hx447_0, hx447_1, hx447_2⟩ := at_T41 HR0.out x5_1 p447 q447
        cases e447
        replace p447 := eq_true p447
        replace q447 := eq_true q447
        have p448 : 0 ≤ (x5_1 : Int) := oD
        have q448 : x5_1 < (l1.length : Int) := oD
        obtain ⟨ad448, e448, hx448_0, hx448_1, hx448_2⟩ := at_T41 HR1.out x5_1 p448 q448
        cases e448
        replace p448 := eq_true p448
        replace q448 := eq_true q448
        go_wp2
        repeat (go_quiet (fail); try go_wp2)
        go_ret
        exact ⟨by first | rfl | (simp; done) | (simp [*]; done), by repeat (first | exact Drawn0.refl _ | apply Drawn0.step)⟩
       ·rw [if_neg c7] at H
        have c7b0 : (!(((rd_T41 l0 x5_1).f0) == ((rd_T41 l1 x5_1).f0)) || (!(((rd_T41 l0 x5_1).f1) == ((rd_T41 l1 x5_1).f1)) || (!(((rd_T41 l0 x5_1).f2) == ((rd_T41 l1 x5_1).f2))))) = false := by simpa using c7
        clear c7
        have H' := As.mk H
        clear H
        have p447 : 0 ≤ (x5_1 : Int) := oD
        have q447 : x5_1 < (l0.length : Int) := oD
        obtain ⟨ad447, e447, hx447_0, hx447_1, hx447_2⟩ := at_T41 HR0.out x5_1 p447 q447
        cases e447
        replace p447 := eq_true p447
        replace q447 := eq_true q447
        have p448 : 0 ≤ (x5_1 : Int) := oD
        have q448 : x5_1 < (l1.length : Int) := oD
        obtain ⟨ad448, e448, hx448_0, hx448_1, hx448_2⟩ := at_T41 HR1.out x5_1 p448 q448
        cases e448
        replace p448 := eq_true p448
        replace q448 := eq_true q448
        go_wp2
        repeat (go_quiet (fail); try go_wp2)
        go_roundg k1
        case measure => have := HK1.out; omega
        case rel => exact ⟨(wrap64 (x5_1 + 1)), (by first | rfl | (simp; done) | (simp [*]; done)), H', ⟨by have := HK1.out; omega⟩, by repeat (first | exact Drawn0.refl _ | apply Drawn0.step)⟩
      ·rw [if_neg c6] at H
       exact absurd H (by simp)
     ·rw [if_neg c5] at H
      exact absurd H (by simp)
    ·rw [if_neg c4] at H
     have c4b0 : decide (x5_1 < (l0.length : Int)) = false := decide_eq_false c4
     clear c4
     obtain rfl := Option.some.inj H
     go_wp2
     repeat (go_quiet (fail); try go_wp2)
     go_ret
     exact ⟨by first | rfl | (simp; done) | (simp [*]; done), by repeat (first | exact Drawn0.refl _ | apply Drawn0.step)⟩
 ·rw [if_neg c3] at H
  have c3b0 : ((l0.length : Int) == (l1.length : Int)) = false := beq_eq_false_iff_ne.mpr c3
  have c3b1 : ((l0.length : Int) != (l1.length : Int)) = true := bne_iff_ne.mpr c3
  have c3b2 : (l0.length == l1.length) = false := by first | simpa using c3 | (simp at c3 ⊢; omega)
  obtain rfl := Option.some.inj H
  go_enter Try.func106, Try.ntmps106
  go_wp2
  repeat (go_quiet (fail); try go_wp2)
  go_ret
  exact ⟨by first | rfl | (simp; done) | (simp [*]; done), by repeat (first | exact Drawn0.refl _ | apply Drawn0.step)⟩
end Go.Proofs.Ytnfnlmilmpaofaa.PFnExactTreeOfTiling
namespace Go.Proofs.Ytnfnlmilmpaofaa.PFnExactTreeOfTiling
open Go.RowKit Go.Proofs.YtnfnlmilmpaofaaW.PrintWords Go.Proofs.YtnfnlmilmpaofaaW.PrintLast Go.Proofs.YtnfnlmilmpaofaaW.PrintMore
attribute [local go_sem] max2_int min2_int max_two min_two max_three min_three max_four min_four
set_option linter.unusedVariables false
attribute [local go_sem high] cell_bk frozen_bk
set_option linter.unusedSimpArgs false
mutual
def s_TreeFloor.l0 : Nat → Int → Int → Int → List Int → Option (List Int)
 | 0, _, _, _, _ => none
 | k + 1, x0, x1, x6, x451000 => (s_GridOk.f x0 x1).bind fun t451 => (if t451 = true then (s_TreeFloor.j1 k x0 x1 x6 (decide (x6 < (wrap64 ((wrap64 (2 * x1)) - 1)))) x451000) else (s_TreeFloor.j1 k x0 x1 x6 false x451000))
def s_TreeFloor.j1 : Nat → Int → Int → Int → Bool → List Int → Option (List Int)
 | 0, _, _, _, _, _ => none
 | k + 1, x0, x1, x6, x18, x451000 => if x18 = true then (if 0 ≤ (wrap64 ((wrap64 (2 * x0)) - 1)) then (if x6 = 0 then (if x451000.length < 17592186044416 then (s_TreeFloor.l0 k x0 x1 (wrap64 (x6 + 1)) (x451000 ++ [wrap64 ((wrap64 ((shl .i64 1 (wrap64 ((wrap64 (2 * x0)) - 1))) - 1)) - 1)])) else (none)) else (if x451000.length < 17592186044416 then (s_TreeFloor.l0 k x0 x1 (wrap64 (x6 + 1)) (x451000 ++ [wrap64 ((shl .i64 1 (wrap64 ((wrap64 (2 * x0)) - 1))) - 1)])) else (none))) else (none)) else (some x451000)
end
def s_TreeFloor.f (k : Nat) (a0 : Int) (a1 : Int) : Option (List Int) := s_TreeFloor.l0 k a0 a1 0 ([] : List Int)
theorem s_TreeFloor.mono_l : ∀ k, (∀ y0 y1 y2 y3, LeO (s_TreeFloor.l0 k y0 y1 y2 y3) (s_TreeFloor.l0 (k + 1) y0 y1 y2 y3)) ∧ (∀ y0 y1 y2 y3 y4, LeO (s_TreeFloor.j1 k y0 y1 y2 y3 y4) (s_TreeFloor.j1 (k + 1) y0 y1 y2 y3 y4))
 | 0 => ⟨fun _ _ _ _ r h => by simp [s_TreeFloor.l0] at h, fun _ _ _ _ _ r h => by simp [s_TreeFloor.j1] at h⟩
 | k + 1 => by
  obtain ⟨ih0, ih1⟩ := s_TreeFloor.mono_l k
  refine ⟨?_, ?_⟩ <;> intros
  all_goals first | unfold s_TreeFloor.l0 | unfold s_TreeFloor.j1
  all_goals repeat' with_reducible first
  | exact ih0 _ _ _ _
  | exact ih1 _ _ _ _ _
  | exact LeO.refl _
  | exact LeO.none _
  | refine LeO.ite ?_ ?_
  | refine LeO.bind ?_ (fun _ => ?_)
theorem s_TreeFloor.mono : ∀ a0 a1 k, LeO (s_TreeFloor.f k a0 a1) (s_TreeFloor.f (k + 1) a0 a1) := by
 intro a0 a1 k
 obtain ⟨ih0, ih1⟩ := s_TreeFloor.mono_l k
 unfold s_TreeFloor.f
 repeat' with_reducible first
 | exact ih0 _ _ _ _
 | exact ih1 _ _ _ _ _
 | exact LeO.refl _
 | exact LeO.none _
 | refine LeO.ite ?_ ?_
 | refine LeO.bind ?_ (fun _ => ?_)
set_option maxRecDepth 100000 in
theorem s_TreeFloor.calls (k : Nat) (a0 : Int) (a1 : Int) (r : List Int) (w : World) (h : s_TreeFloor.f k a0 a1 = some r) :
  Calls Try.prog 119 #[.int .i64 a0, .int .i64 a1] w fun e w' => ∃ v0_ : Value, e = .returned (.agg #[v0_]) ∧ Kd.R (Kd.int .i64) 3 w' w.heap.size (fun _ => True) v0_ r ∧ Below w.heap.size w w' := by
 have hu33 := Try.underlying33
 have HB : Up w w := ⟨Below.refl _ _⟩
 have H : (s_TreeFloor.l0 k a0 a1 0 ([] : List Int)) = some r := h
 clear h
 have H' := As.mk H
 clear H
 go_enter Try.func119, Try.ntmps119
 go_wp2_with (first | ((with_reducible refine gD 4 rfl ?_); refine bxE rfl #[.slice none 0 0] 33 ?_ ?_; (focus first | (go_simp; done) | (go_simp; rfl)); intro gb449 _ w3 _ _) | ((with_reducible refine gD 5 rfl ?_); refine bxE rfl #[.slice none 0 0] 33 ?_ ?_; (focus first | (go_simp; done) | (go_simp; rfl)); intro gb450 _ w4 _ _))
 go_loopg [6] k (fun kq v6 w' => ∃ (x6_1 : Int) (x451000_1 : List Int) (u451000 : Value), v6 = .int .i64 x6_1 ∧ As (s_TreeFloor.l0 kq a0 a1 x6_1 x451000_1 = some r) ∧ As (kq ≤ k) ∧ As (Kd.R (Kd.int .i64) 3 w' w.heap.size (fun _ => True) u451000 x451000_1) ∧ Bk w' gb449 (.cells #[(.slice none 0 0)] 33 (0, 0)) ∧ Bk w' gb450 (.cells #[u451000] 33 (0, 0)) ∧ Up w w')
 case atStart => exact ⟨(0), (([] : List Int)), (.slice none 0 0), (by first | rfl | (simp; done) | (simp [*]; done)), H', ⟨Nat.le_refl _⟩, ⟨by first | exact Kd.R_nil _ _ _ _ _ | exact Kd.N_nil _ _ _ _ _ | exact Kd.V_nil _ _ _ _ _ | exact Kd.Q_nil _ _ _ _ _ | exact Kd.S_nil _ _ _ _ _⟩, bM (by rfl), bM (by rfl), ⟨uw w⟩⟩
 case round =>
  clear H'
  obtain ⟨x6_1, x451000_1, u451000, rfl, HA, HK1, HO_451000, BK449, BK450, HB⟩ := hrel
  cases gk with
  | zero => exact absurd HA.out (by simp [s_TreeFloor.l0])
  | succ k1 =>
   have H := HA.out
   clear HA
   simp only [s_TreeFloor.l0] at H
   have HC7 := As.mk H
   clear H
   go_upto_region 3 with (fail)
   go_cut [18] (fun v18 wc => ∃ (kq : Nat) (x18_6 : Bool), v18 = .bool x18_6 ∧ As (s_TreeFloor.j1 kq a0 a1 x6_1 x18_6 x451000_1 = some r) ∧ As (kq ≤ k1) ∧ As (Kd.R (Kd.int .i64) 3 wc w.heap.size (fun _ => True) u451000 x451000_1) ∧ Bk wc gb449 (.cells #[(.slice none 0 0)] 33 (0, 0)) ∧ Bk wc gb450 (.cells #[u451000] 33 (0, 0)) ∧ Up w wc)
   case first =>
    have H := HC7.out
    clear HC7
    obtain ⟨t451, A8, H⟩ := bI H
    replace H := bT H; rcases H with ⟨rfl, H⟩ | ⟨rfl, H⟩
    ·have H' := As.mk H
     clear H
     go_wp2_with (first | ((with_reducible refine gC 87 rfl ?_); refine goesL_ (some 11) rfl rfl Try.func87 (by kernel_rfl) rfl #[.int .i64 a0, .int .i64 a1] rfl (by (try simp only [sD, sE, sF]); first | done | rfl) ?_; (with_reducible refine (s_GridOk.calls a0 a1 true _ A8.out).mono ?_); rintro e w' ⟨rfl, ⟨nd, rfl⟩⟩; refine ⟨_, rfl, ?_⟩))
     go_meet
     case rel => exact ⟨_, (decide (x6_1 < (wrap64 ((wrap64 (2 * a1)) - 1)))), (by first | rfl | (simp; done) | (simp [*]; done)), H', ⟨by have := HK1.out; first | omega | exact Nat.le_refl _⟩, ⟨rX HO_451000.out⟩, bM (by rfl), bM (by rfl), ⟨uw w⟩⟩
    ·have H' := As.mk H
     clear H
     go_wp2_with (first | ((with_reducible refine gC 87 rfl ?_); refine goesL_ (some 11) rfl rfl Try.func87 (by kernel_rfl) rfl #[.int .i64 a0, .int .i64 a1] rfl (by (try simp only [sD, sE, sF]); first | done | rfl) ?_; (with_reducible refine (s_GridOk.calls a0 a1 false _ A8.out).mono ?_); rintro e w' ⟨rfl, ⟨nd, rfl⟩⟩; refine ⟨_, rfl, ?_⟩))
     go_meet
     case rel => exact ⟨_, (false), (by first | rfl | (simp; done) | (simp [*]; done)), H', ⟨by have := HK1.out; first | omega | exact Nat.le_refl _⟩, ⟨rX HO_451000.out⟩, bM (by rfl), bM (by rfl), ⟨uw w⟩⟩
   case rest =>
    clear HC7
    obtain ⟨kq, x18_6, rfl, HA, HJ6, HO_451000, BK449, BK450, HB⟩ := hcut
    cases kq with
    | zero => exact absurd HA.out (by simp [s_TreeFloor.j1])
    | succ kj6 =>
     have H := HA.out
     clear HA
     simp only [s_TreeFloor.j1] at H
     replace H := bT H; rcases H with ⟨rfl, H⟩ | ⟨rfl, H⟩
     ·obtain ⟨ji11, hji11⟩ : ∃ j_ : Int, (wrap64 ((wrap64 (2 * a0)) - 1)) = j_ := ⟨_, rfl⟩
      replace H : (if 0 ≤ (ji11) then (if x6_1 = 0 then (if x451000_1.length < 17592186044416 then (s_TreeFloor.l0 kj6 a0 a1 (wrap64 (x6_1 + 1)) (x451000_1 ++ [wrap64 ((wrap64 ((shl .i64 1 (ji11)) - 1)) - 1)])) else (none)) else (if x451000_1.length < 17592186044416 then (s_TreeFloor.l0 kj6 a0 a1 (wrap64 (x6_1 + 1)) (x451000_1 ++ [wrap64 ((shl .i64 1 (ji11)) - 1)])) else (none))) else (none)) = some r := by first | (rw [hji11] at H; exact H) | (simp only [hji11] at H ⊢; exact H)
      have hji11w : (IntKind.i64.wrap ((wrap64 (2 * a0)) - 1)) = ji11 := (i64_w _).trans hji11
      by_cases c12 : 0 ≤ (ji11)
      ·rw [if_pos c12] at H
       have c12b0 := eq_true c12
       have c12b1 : decide (0 ≤ (ji11)) = true := decide_eq_true c12
       clear c12
       obtain ⟨ji13, hji13⟩ : ∃ j_ : Int, (shl .i64 1 (ji11)) = j_ := ⟨_, rfl⟩
       replace H : (if x6_1 = 0 then (if x451000_1.length < 17592186044416 then (s_TreeFloor.l0 kj6 a0 a1 (wrap64 (x6_1 + 1)) (x451000_1 ++ [wrap64 ((wrap64 ((ji13) - 1)) - 1)])) else (none)) else (if x451000_1.length < 17592186044416 then (s_TreeFloor.l0 kj6 a0 a1 (wrap64 (x6_1 + 1)) (x451000_1 ++ [wrap64 ((ji13) - 1)])) else (none))) = some r := by first | (rw [hji13] at H; exact H) | (simp only [hji13] at H ⊢; exact H)
       have hji13_ : (IntKind.i64.wrap (1 * 2 ^ min (ji11).toNat 64)) = ji13 := hji13
       have hji13z : (ji11) ≤ 64 → (IntKind.i64.wrap (1 * 2 ^ (ji11).toNat)) = ji13 := shl_small hji13
       have hji13u : (IntKind.i64.wrap (2 ^ min (ji11).toNat 64)) = ji13 := by have h_ := hji13_; rw [Int.one_mul] at h_; exact h_
       have hji13v : (ji11) ≤ 64 → (IntKind.i64.wrap (2 ^ (ji11).toNat)) = ji13 := fun hle_ => by have h_ := hji13z hle_; rw [Int.one_mul] at h_; exact h_
       have hji13y : (wrap64 (1 * 2 ^ min (ji11).toNat 64)) = ji13 := (i64_w _).symm.trans hji13_
       have hji13x : (ji11) ≤ 64 → (wrap64 (1 * 2 ^ (ji11).toNat)) = ji13 := fun h_ => (i64_w _).symm.trans (hji13z h_)
       by_cases c14 : x6_1 = 0
       ·rw [if_pos c14] at H
        have c14b0 : (x6_1 == 0) = true := beq_iff_eq.mpr c14
        have c14b1 : (x6_1 != 0) = false := bne_eq_false_iff_eq.mpr c14
        clear c14
        by_cases c15 : x451000_1.length < 17592186044416
        ·rw [if_pos c15] at H
         have LMc15 := As.mk c15
         clear c15
         obtain ⟨y452, hy452⟩ : ∃ y_ : List Int, y_ = (x451000_1 ++ [wrap64 ((wrap64 ((ji13) - 1)) - 1)]) := ⟨_, rfl⟩
         replace H : (s_TreeFloor.l0 kj6 a0 a1 (wrap64 (x6_1 + 1)) y452) = some r := by first | (rw [hy452]; with_reducible exact H) | (have H2_ := (Option.bind_some _ _).symm.trans H; rw [hy452]; with_reducible exact H2_) | (have H2_ := (Option.bind_some _ _).symm.trans H; with_reducible exact H2_) | with_reducible exact H | (rw [hy452]; exact H) | exact H
         have Ny452 := As.mk hy452
         clear hy452
         have H' := As.mk H
         clear H
         go_wp2_with (first | ((with_reducible refine gate_builtin (b := .append) (xs := #[.tmp 31, .tmp 33]) rfl ?_); at_builtin; refine Kd.R_append (Kd.int .i64) (w0 := w) w.heap.size rfl (.tmp 31) (.tmp 33) 31 3 (.int .i64 0) 8 rfl Try.underlying31 info3 rfl (by decide) (by omega) u451000 x451000_1 (wrap64 ((wrap64 ((ji13) - 1)) - 1)) [.int .i64 (wrap64 ((wrap64 ((ji13) - 1)) - 1))] (fun _ => True) (fun _ => False) rfl rfl ?aP (fun _ hk => hk.elim) ?aF ?aO ?aB ?aS ?aL ?_; (case aP => exact rfl); (case aB => exact (uw w)); (case aF => exact (fun _ _ => trivial)); (case aO => exact (rX HO_451000.out)); (case aS => exact (below_size (uw w))); (case aL => have := LMc15.out; omega); intro v453 w18 ho hb hg hat; rw [← Ny452.out] at ho; have n0_ := Bk.mk (blk_grown (g := gb449) (o := .cells #[.slice none 0 0] 33 (0, 0)) (bkr gb449 (by rfl)) hg (Kd.R_ne HO_451000.out (bk gb449) (by decide))); have n1_ := Bk.mk (blk_grown (g := gb450) (o := .cells #[u451000] 33 (0, 0)) (bkr gb450 (by rfl)) hg (Kd.R_ne HO_451000.out (bk gb450) (by decide))); have n2_ := Up.mk (hb); have n3_ := As.mk (ho); clear HO_451000; have BK449 := n0_; have BK450 := n1_; have HB := n2_; have HO454 := n3_; clear n0_ n1_ n2_ n3_; clear ho hb hg hat; obtain ⟨Ao19, co19, eo19⟩ := Kd.R_slice HO454.out; subst eo19))
         go_roundg kj6
         case measure => have := HK1.out; have := HJ6.out; omega
         case rel => exact ⟨(wrap64 (x6_1 + 1)), (y452), (.slice Ao19 y452.length co19), (by first | rfl | (simp; done) | (simp [*]; done)), H', ⟨by have := HK1.out; have := HJ6.out; omega⟩, ⟨by (with_reducible repeat (first | apply Kd.R_alloc | apply Kd.R_drewN | apply Kd.R_drew)); exact Kd.R_mono (Kd.R_far (p := ⟨gb450, 0, none⟩) (Kd.R_types HO454.out (bk gb450) (by decide)) (fun _ hk => hk.2) (.slice Ao19 y452.length co19)) (fun _ hk => trivial)⟩, bM (by rfl), bM (by rfl), ⟨uw w⟩⟩
        ·rw [if_neg c15] at H
         exact absurd H (by simp)
       ·rw [if_neg c14] at H
        have c14b0 : (x6_1 == 0) = false := beq_eq_false_iff_ne.mpr c14
        have c14b1 : (x6_1 != 0) = true := bne_iff_ne.mpr c14
        by_cases c21 : x451000_1.length < 17592186044416
        ·rw [if_pos c21] at H
         have LMc21 := As.mk c21
         clear c21
         obtain ⟨y455, hy455⟩ : ∃ y_ : List Int, y_ = (x451000_1 ++ [wrap64 ((ji13) - 1)]) := ⟨_, rfl⟩
         replace H : (s_TreeFloor.l0 kj6 a0 a1 (wrap64 (x6_1 + 1)) y455) = some r := by first | (rw [hy455]; with_reducible exact H) | (have H2_ := (Option.bind_some _ _).symm.trans H; rw [hy455]; with_reducible exact H2_) | (have H2_ := (Option.bind_some _ _).symm.trans H; with_reducible exact H2_) | with_reducible exact H | (rw [hy455]; exact H) | exact H
         have Ny455 := As.mk hy455
         clear hy455
         have H' := As.mk H
         clear H
         go_wp2_with (first | ((with_reducible refine gate_builtin (b := .append) (xs := #[.tmp 31, .tmp 33]) rfl ?_); at_builtin; refine Kd.R_append (Kd.int .i64) (w0 := w) w.heap.size rfl (.tmp 31) (.tmp 33) 31 3 (.int .i64 0) 8 rfl Try.underlying31 info3 rfl (by decide) (by omega) u451000 x451000_1 (wrap64 ((ji13) - 1)) [.int .i64 (wrap64 ((ji13) - 1))] (fun _ => True) (fun _ => False) rfl rfl ?aP (fun _ hk => hk.elim) ?aF ?aO ?aB ?aS ?aL ?_; (case aP => exact rfl); (case aB => exact (uw w)); (case aF => exact (fun _ _ => trivial)); (case aO => exact (rX HO_451000.out)); (case aS => exact (below_size (uw w))); (case aL => have := LMc21.out; omega); intro v456 w24 ho hb hg hat; rw [← Ny455.out] at ho; have n0_ := Bk.mk (blk_grown (g := gb449) (o := .cells #[.slice none 0 0] 33 (0, 0)) (bkr gb449 (by rfl)) hg (Kd.R_ne HO_451000.out (bk gb449) (by decide))); have n1_ := Bk.mk (blk_grown (g := gb450) (o := .cells #[u451000] 33 (0, 0)) (bkr gb450 (by rfl)) hg (Kd.R_ne HO_451000.out (bk gb450) (by decide))); have n2_ := Up.mk (hb); have n3_ := As.mk (ho); clear HO_451000; have BK449 := n0_; have BK450 := n1_; have HB := n2_; have HO457 := n3_; clear n0_ n1_ n2_ n3_; clear ho hb hg hat; obtain ⟨Ao25, co25, eo25⟩ := Kd.R_slice HO457.out; subst eo25))
         go_roundg kj6
         case measure => have := HK1.out; have := HJ6.out; omega
         case rel => exact ⟨(wrap64 (x6_1 + 1)), (y455), (.slice Ao25 y455.length co25), (by first | rfl | (simp; done) | (simp [*]; done)), H', ⟨by have := HK1.out; have := HJ6.out; omega⟩, ⟨by (with_reducible repeat (first | apply Kd.R_alloc | apply Kd.R_drewN | apply Kd.R_drew)); exact Kd.R_mono (Kd.R_far (p := ⟨gb450, 0, none⟩) (Kd.R_types HO457.out (bk gb450) (by decide)) (fun _ hk => hk.2) (.slice Ao25 y455.length co25)) (fun _ hk => trivial)⟩, bM (by rfl), bM (by rfl), ⟨uw w⟩⟩
        ·rw [if_neg c21] at H
         exact absurd H (by simp)
      ·rw [if_neg c12] at H
       exact absurd H (by simp)
     ·obtain rfl := Option.some.inj H
      obtain ⟨Ao29, co29, eo29⟩ := Kd.R_slice HO_451000.out
      subst eo29
      go_wp2
      refine bodyPost_ret (results_cell_row rfl _ _ gb449 33 #[.slice Ao29 x451000_1.length co29] (0, 0) _ rfl (bkr gb449 (by rfl)) Try.underlying33 rfl (by kernel_rfl)) rfl ?_
      exact ⟨_, by first | rfl | (simp [*, errW_none, errW_some] <;> rfl), by (with_reducible repeat (first | apply Kd.R_alloc | apply Kd.R_drewN | apply Kd.R_drew)); exact Kd.R_mono (Kd.R_far (p := ⟨gb449, 0, none⟩) (Kd.R_types HO_451000.out (bk gb449) (by decide)) (fun _ hk => hk.2) (.slice Ao29 x451000_1.length co29)) (fun _ hk => trivial), uw w⟩
end Go.Proofs.Ytnfnlmilmpaofaa.PFnExactTreeOfTiling
namespace Go.Proofs.Ytnfnlmilmpaofaa.PFnExactTreeOfTiling
open Go.RowKit Go.Proofs.YtnfnlmilmpaofaaW.PrintWords Go.Proofs.YtnfnlmilmpaofaaW.PrintLast Go.Proofs.YtnfnlmilmpaofaaW.PrintMore
attribute [local go_sem] max2_int min2_int max_two min_two max_three min_three max_four min_four
set_option linter.unusedVariables false
attribute [local go_sem high] cell_bk frozen_bk
set_option linter.unusedSimpArgs false
attribute [local go_sem high] eqA39
mutual
def s_DominoAt.l0 : Nat → List (S41) → Int → Int → Int → Option (Int)
 | 0, _, _, _, _ => none
 | k + 1, x0, x5, x459000, x459001 => if x5 < (x0.length : Int) then (if 0 ≤ x5 then ((s_DominoOk.f ((rd_T41 x0 x5).f0) ((rd_T41 x0 x5).f1) ((rd_T41 x0 x5).f2)).bind fun t460 => (if t460 = true then ((s_CellsUnder.f ((rd_T41 x0 x5).f0) ((rd_T41 x0 x5).f1) ((rd_T41 x0 x5).f2)).bind fun bt462 => (if (bt462.1 == x459000 && (bt462.2.1 == x459001)) = true then (s_DominoAt.j1 k x0 x5 true x459000 x459001) else (s_DominoAt.j1 k x0 x5 (bt462.2.2.1 == x459000 && (bt462.2.2.2 == x459001)) x459000 x459001))) else (s_DominoAt.l0 k x0 (wrap64 (x5 + 1)) x459000 x459001))) else (none)) else (some (-1))
def s_DominoAt.j1 : Nat → List (S41) → Int → Bool → Int → Int → Option (Int)
 | 0, _, _, _, _, _ => none
 | k + 1, x0, x5, x35, x459000, x459001 => if x35 = true then (some x5) else (s_DominoAt.l0 k x0 (wrap64 (x5 + 1)) x459000 x459001)
end
def s_DominoAt.f (k : Nat) (l0 : List (S41)) (a1_0 : Int) (a1_1 : Int) : Option (Int) := s_DominoAt.l0 k l0 0 a1_0 a1_1
theorem s_DominoAt.mono_l : ∀ k, (∀ y0 y1 y2 y3, LeO (s_DominoAt.l0 k y0 y1 y2 y3) (s_DominoAt.l0 (k + 1) y0 y1 y2 y3)) ∧ (∀ y0 y1 y2 y3 y4, LeO (s_DominoAt.j1 k y0 y1 y2 y3 y4) (s_DominoAt.j1 (k + 1) y0 y1 y2 y3 y4))
 | 0 => ⟨fun _ _ _ _ r h => by simp [s_DominoAt.l0] at h, fun _ _ _ _ _ r h => by simp [s_DominoAt.j1] at h⟩
 | k + 1 => by
  obtain ⟨ih0, ih1⟩ := s_DominoAt.mono_l k
  refine ⟨?_, ?_⟩ <;> intros
  all_goals first | unfold s_DominoAt.l0 | unfold s_DominoAt.j1
  all_goals repeat' with_reducible first
  | exact ih0 _ _ _ _
  | exact ih1 _ _ _ _ _
  | exact LeO.refl _
  | exact LeO.none _
  | refine LeO.ite ?_ ?_
  | refine LeO.bind ?_ (fun _ => ?_)
theorem s_DominoAt.mono : ∀ a0 a1 a2 k, LeO (s_DominoAt.f k a0 a1 a2) (s_DominoAt.f (k + 1) a0 a1 a2) := by
 intro a0 a1 a2 k
 obtain ⟨ih0, ih1⟩ := s_DominoAt.mono_l k
 unfold s_DominoAt.f
 repeat' with_reducible first
 | exact ih0 _ _ _ _
 | exact ih1 _ _ _ _ _
 | exact LeO.refl _
 | exact LeO.none _
 | refine LeO.ite ?_ ?_
 | refine LeO.bind ?_ (fun _ => ?_)
set_option maxRecDepth 100000 in
theorem s_DominoAt.calls (k : Nat) (A0 : Option Addr) (c0 : Nat) (l0 : List (S41)) (a1_0 : Int) (a1_1 : Int) (r : Int) (w : World) (hr0 : Kd.C k41 w A0 l0.length l0) (hc0 : l0.length ≤ c0) (h : s_DominoAt.f k l0 a1_0 a1_1 = some r) :
  Calls Try.prog 120 #[.slice A0 l0.length c0, .agg #[.int .i64 a1_0, .int .i64 a1_1]] w fun e w' => e = .returned (.int .i64 r) ∧ Below w.heap.size w w' := by
 have hu39 := Try.underlying39
 have hu41 := Try.underlying41
 have HR0 := As.mk hr0
 have HC0 := As.mk hc0
 clear hr0 hc0
 have HB : Up w w := ⟨Below.refl _ _⟩
 have H : (s_DominoAt.l0 k l0 0 a1_0 a1_1) = some r := h
 clear h
 have H' := As.mk H
 clear H
 go_enter Try.func120, Try.ntmps120
 go_wp2_with (first | ((with_reducible refine gD 3 rfl ?_); refine bxE rfl #[.int .i64 a1_0, .int .i64 a1_1] 39 ?_ ?_; (focus first | (go_simp; done) | (go_simp; rfl)); intro gb458 _ w3 _ _))
 go_loopg [5] k (fun kq v5 w' => ∃ (x5_1 : Int), v5 = .int .i64 x5_1 ∧ As (s_DominoAt.l0 kq l0 x5_1 a1_0 a1_1 = some r) ∧ As (kq ≤ k) ∧ Bk w' gb458 (.cells #[.int .i64 a1_0, .int .i64 a1_1] 39 (0, 0)) ∧ Up w w')
 case atStart => exact ⟨(0), (by first | rfl | (simp; done) | (simp [*]; done)), H', ⟨Nat.le_refl _⟩, bM (by rfl), ⟨uw w⟩⟩
 case round =>
  clear H'
  obtain ⟨x5_1, rfl, HA, HK1, BK458, HB⟩ := hrel
  cases gk with
  | zero => exact absurd HA.out (by simp [s_DominoAt.l0])
  | succ k1 =>
   have H := HA.out
   clear HA
   simp only [s_DominoAt.l0] at H
   by_cases c4 : x5_1 < (l0.length : Int)
   ·rw [if_pos c4] at H
    have c4b0 : decide (x5_1 < (l0.length : Int)) = true := decide_eq_true c4
    clear c4
    by_cases c5 : 0 ≤ x5_1
    ·rw [if_pos c5] at H
     have c5b0 : decide (0 ≤ x5_1) = true := decide_eq_true c5
     clear c5
     obtain ⟨t460, A6, H⟩ := bI H
     replace H := bT H; rcases H with ⟨rfl, H⟩ | ⟨rfl, H⟩
     ·obtain ⟨⟨t462, t463, t464, t465⟩, A8, H⟩ := bI H
      dsimp only at H
      have HC9 := As.mk H
      clear H
      have p459 : 0 ≤ (x5_1 : Int) := oD
      have q459 : x5_1 < (l0.length : Int) := oD
      obtain ⟨ad459, e459, hx459_0, hx459_1, hx459_2⟩ := at_T41 HR0.out x5_1 p459 q459
      cases e459
      replace hx459_0 := cx wr hx459_0
      replace hx459_1 := cx wr hx459_1
      replace hx459_2 := cx wr hx459_2
      replace p459 := eq_true p459
      replace q459 := eq_true q459
      go_upto_region 6 with (first | ((with_reducible refine gC 68 rfl ?_); refine gK (some 18) rfl rfl Try.func68 (by kernel_rfl) rfl #[.agg #[.int .i64 ((rd_T41 l0 x5_1).f0), .int .i64 ((rd_T41 l0 x5_1).f1), .bool ((rd_T41 l0 x5_1).f2)]] rfl (by (try simp only [sD, sE, sF]); first | done | rfl) (s_DominoOk.calls ((rd_T41 l0 x5_1).f0) ((rd_T41 l0 x5_1).f1) ((rd_T41 l0 x5_1).f2) true _ A6.out) ?_; intro w10 _; have p461 : 0 ≤ (x5_1 : Int) := oD; have q461 : x5_1 < (l0.length : Int) := oD; obtain ⟨ad461, e461, hx461_0, hx461_1, hx461_2⟩ := at_T41 HR0.out x5_1 p461 q461; obtain rfl : ad459 = ad461 := (by injection e461); replace hx461_0 := cx w10 hx461_0; replace hx461_1 := cx w10 hx461_1; replace hx461_2 := cx w10 hx461_2; replace p461 := eq_true p461; replace q461 := eq_true q461) | ((with_reducible refine gC 70 rfl ?_); refine gK (some 25) rfl rfl Try.func70 (by kernel_rfl) rfl #[.agg #[.int .i64 ((rd_T41 l0 x5_1).f0), .int .i64 ((rd_T41 l0 x5_1).f1), .bool ((rd_T41 l0 x5_1).f2)]] rfl (by (try simp only [sD, sE, sF]); first | done | rfl) (s_CellsUnder.calls ((rd_T41 l0 x5_1).f0) ((rd_T41 l0 x5_1).f1) ((rd_T41 l0 x5_1).f2) t462 t463 t464 t465 _ A8.out) ?_; intro w11 _) | ((with_reducible refine gD 6 rfl ?_); refine bxE rfl #[.int .i64 0, .int .i64 0] 39 ?_ ?_; (focus first | (go_simp; done) | (go_simp; rfl)); intro gb466 _ w12 _ _) | ((with_reducible refine gD 7 rfl ?_); refine bxE rfl #[.int .i64 0, .int .i64 0] 39 ?_ ?_; (focus first | (go_simp; done) | (go_simp; rfl)); intro gb467 _ w13 _ _))
      (try simp only [Act.put, List.setIfInBounds_toArray, List.set_cons_zero, List.set_cons_succ])
      go_cut [35] (fun v35 wc => ∃ (kq : Nat) (x35_8 : Bool), v35 = .bool x35_8 ∧ As (s_DominoAt.j1 kq l0 x5_1 x35_8 a1_0 a1_1 = some r) ∧ As (kq ≤ k1) ∧ Bk wc gb458 (.cells #[.int .i64 a1_0, .int .i64 a1_1] 39 (0, 0)) ∧ Bk wc gb466 (.cells #[.int .i64 t462, .int .i64 t463] 39 (0, 0)) ∧ Bk wc gb467 (.cells #[.int .i64 t464, .int .i64 t465] 39 (0, 0)) ∧ Up w wc)
      case first =>
       have H := HC9.out
       clear HC9
       by_cases c19 : (t462 == a1_0 && (t463 == a1_1)) = true
       ·rw [if_pos c19] at H
        have c19b0 : (t462 == a1_0 && (t463 == a1_1)) = true := c19
        (try (have c19b1 : decide (t462 = a1_0 && (t463 == a1_1)) = true := by simpa using c19))
        (try (have c19b2 : (t462 == a1_0 && (t463 == a1_1)) = true := by simpa using c19))
        clear c19
        (first | rw [c19b0] | (simp only [i64_w, i32_w]; rw [c19b0]) | skip)
        have H' := As.mk H
        clear H
        go_wp2
        go_meet
        case rel => exact ⟨_, (true), (by first | rfl | (simp; done) | (simp [*]; done)), H', ⟨by have := HK1.out; first | omega | exact Nat.le_refl _⟩, bM (by rfl), bM (by rfl), bM (by rfl), ⟨uw w⟩⟩
       ·rw [if_neg c19] at H
        have c19b0 : (t462 == a1_0 && (t463 == a1_1)) = false := by simpa using c19
        (try (have c19b1 : decide (t462 = a1_0 && (t463 == a1_1)) = false := by simpa using c19))
        (try (have c19b2 : (t462 == a1_0 && (t463 == a1_1)) = false := by simpa using c19))
        (try (have c19b3 : ¬ (t462 = a1_0 && (t463 == a1_1)) := by simpa using c19))
        clear c19
        (first | rw [c19b0] | (simp only [i64_w, i32_w]; rw [c19b0]) | skip)
        have H' := As.mk H
        clear H
        go_wp2
        go_meet
        case rel => exact ⟨_, ((t464 == a1_0 && (t465 == a1_1))), (by first | rfl | (simp; done) | (simp [*]; done)), H', ⟨by have := HK1.out; first | omega | exact Nat.le_refl _⟩, bM (by rfl), bM (by rfl), bM (by rfl), ⟨uw w⟩⟩
      case rest =>
       clear HC9
       try clear c4
       try clear c4b0
       try clear c5
       try clear c5b0
       try clear c7
       try clear hx459_0
       try clear hx459_1
       try clear hx459_2
       try clear hx461_0
       try clear hx461_1
       try clear hx461_2
       try clear p459
       try clear p461
       try clear q459
       try clear q461
       obtain ⟨kq, x35_8, rfl, HA, HJ8, BK458, BK466, BK467, HB⟩ := hcut
       cases kq with
       | zero => exact absurd HA.out (by simp [s_DominoAt.j1])
       | succ kj8 =>
        have H := HA.out
        clear HA
        simp only [s_DominoAt.j1] at H
        replace H := bT H; rcases H with ⟨rfl, H⟩ | ⟨rfl, H⟩
        ·obtain rfl := Option.some.inj H
         go_wp2
         go_ret
         exact ⟨by first | rfl | (simp [*, errW_none, errW_some] <;> rfl), uw w⟩
        ·have H' := As.mk H
         clear H
         go_wp2
         go_roundg kj8
         case measure => have := HK1.out; have := HJ8.out; omega
         case rel => exact ⟨(wrap64 (x5_1 + 1)), (by first | rfl | (simp; done) | (simp [*]; done)), H', ⟨by have := HK1.out; have := HJ8.out; omega⟩, bM (by rfl), ⟨uw w⟩⟩
     ·have H' := As.mk H
      clear H
      have p459 : 0 ≤ (x5_1 : Int) := oD
      have q459 : x5_1 < (l0.length : Int) := oD
      obtain ⟨ad459, e459, hx459_0, hx459_1, hx459_2⟩ := at_T41 HR0.out x5_1 p459 q459
      cases e459
      replace hx459_0 := cx wr hx459_0
      replace hx459_1 := cx wr hx459_1
      replace hx459_2 := cx wr hx459_2
      replace p459 := eq_true p459
      replace q459 := eq_true q459
      go_wp2_with (first | ((with_reducible refine gC 68 rfl ?_); refine gK (some 18) rfl rfl Try.func68 (by kernel_rfl) rfl #[.agg #[.int .i64 ((rd_T41 l0 x5_1).f0), .int .i64 ((rd_T41 l0 x5_1).f1), .bool ((rd_T41 l0 x5_1).f2)]] rfl (by (try simp only [sD, sE, sF]); first | done | rfl) (s_DominoOk.calls ((rd_T41 l0 x5_1).f0) ((rd_T41 l0 x5_1).f1) ((rd_T41 l0 x5_1).f2) false _ A6.out) ?_; intro w32 _))
      go_roundg k1
      case measure => have := HK1.out; omega
      case rel => exact ⟨(wrap64 (x5_1 + 1)), (by first | rfl | (simp; done) | (simp [*]; done)), H', ⟨by have := HK1.out; omega⟩, bM (by rfl), ⟨uw w⟩⟩
    ·rw [if_neg c5] at H
     exact absurd H (by simp)
   ·rw [if_neg c4] at H
    have c4b0 : decide (x5_1 < (l0.length : Int)) = false := decide_eq_false c4
    clear c4
    obtain rfl := Option.some.inj H
    go_wp2
    go_ret
    exact ⟨by first | rfl | (simp [*, errW_none, errW_some] <;> rfl), uw w⟩
end Go.Proofs.Ytnfnlmilmpaofaa.PFnExactTreeOfTiling
namespace Go.Proofs.Ytnfnlmilmpaofaa.PFnExactTreeOfTiling
open Go.RowKit Go.Proofs.YtnfnlmilmpaofaaW.PrintWords Go.Proofs.YtnfnlmilmpaofaaW.PrintLast Go.Proofs.YtnfnlmilmpaofaaW.PrintMore
attribute [local go_sem] max2_int min2_int max_two min_two max_three min_three max_four min_four
set_option linter.unusedVariables false
attribute [local go_sem high] cell_bk frozen_bk
set_option linter.unusedSimpArgs false
mutual
def s_TreeOfTiling.j0 : Nat → Int → Int → List (S41) → List (S50) → Bool → Option ((List (S50)) × Bool)
 | 0, _, _, _, _, _ => none
 | k + 1, x0, x1, x2, x8, x30 => if x30 = true then (some (x8, false)) else ((s_LinksOf.f k x0 x1).bind fun t479 => (s_TreeOfTiling.l0 k x0 x1 x2 x8 (([] : List (S50))) t479 0))
def s_TreeOfTiling.l0 : Nat → Int → Int → List (S41) → List (S50) → List (S50) → List (S50) → Int → Option ((List (S50)) × Bool)
 | 0, _, _, _, _, _, _, _ => none
 | k + 1, x0, x1, x2, x8, x9, x10, x11 => if x11 < (x10.length : Int) then (if 0 ≤ x11 then (if (rd_T50 x10 x11).f2 = true then (s_TreeOfTiling.j2 k x0 x1 x2 x8 x9 x10 x11 (wrap64 (2 * ((rd_T50 x10 x11).f0))) (wrap64 ((wrap64 (2 * ((rd_T50 x10 x11).f1))) + 1))) else (s_TreeOfTiling.j2 k x0 x1 x2 x8 x9 x10 x11 (wrap64 ((wrap64 (2 * ((rd_T50 x10 x11).f0))) + 1)) (wrap64 (2 * ((rd_T50 x10 x11).f1))))) else (none)) else ((s_TilingOfTree.f k x0 x1 x9).bind fun bt501 => (if bt501.2 = true then ((s_SameDominoes.f k bt501.1 x2).bind fun t505 => (s_TreeOfTiling.j4 k x8 x9 (!t505))) else (s_TreeOfTiling.j4 k x8 x9 true)))
def s_TreeOfTiling.j2 : Nat → Int → Int → List (S41) → List (S50) → List (S50) → List (S50) → Int → Int → Int → Option ((List (S50)) × Bool)
 | 0, _, _, _, _, _, _, _, _, _ => none
 | k + 1, x0, x1, x2, x8, x9, x10, x11, x485000, x485001 => (s_DominoAt.f k x2 x485000 x485001).bind fun t488 => (if 0 ≤ t488 then (if t488 < (x2.length : Int) then ((s_CellsUnder.f ((rd_T41 x2 t488).f0) ((rd_T41 x2 t488).f1) ((rd_T41 x2 t488).f2)).bind fun bt491 => (if (Int.tmod bt491.1 2) = 0 then (if (Int.tmod bt491.2.1 2) = 0 then (s_TreeOfTiling.j3 k x0 x1 x2 x8 x9 x10 x11 true) else (if (Int.tmod bt491.2.2.1 2) = 0 then (s_TreeOfTiling.j3 k x0 x1 x2 x8 x9 x10 x11 ((Int.tmod bt491.2.2.2 2) == 0)) else (s_TreeOfTiling.j3 k x0 x1 x2 x8 x9 x10 x11 false))) else (if (Int.tmod bt491.2.2.1 2) = 0 then (s_TreeOfTiling.j3 k x0 x1 x2 x8 x9 x10 x11 ((Int.tmod bt491.2.2.2 2) == 0)) else (s_TreeOfTiling.j3 k x0 x1 x2 x8 x9 x10 x11 false)))) else (none)) else (none))
def s_TreeOfTiling.j3 : Nat → Int → Int → List (S41) → List (S50) → List (S50) → List (S50) → Int → Bool → Option ((List (S50)) × Bool)
 | 0, _, _, _, _, _, _, _, _ => none
 | k + 1, x0, x1, x2, x8, x9, x10, x11, x107 => if x107 = true then (if 0 ≤ x11 then (if x11 < (x10.length : Int) then (if x9.length < 5864062014805 then (s_TreeOfTiling.l0 k x0 x1 x2 x8 (x9 ++ [(⟨(rd_T50 x10 x11).f0, (rd_T50 x10 x11).f1, (rd_T50 x10 x11).f2⟩ : S50)]) x10 (wrap64 (x11 + 1))) else (none)) else (none)) else (none)) else (s_TreeOfTiling.l0 k x0 x1 x2 x8 x9 x10 (wrap64 (x11 + 1)))
def s_TreeOfTiling.j4 : Nat → List (S50) → List (S50) → Bool → Option ((List (S50)) × Bool)
 | 0, _, _, _ => none
 | k + 1, x8, x9, x129 => if x129 = true then (some (x8, false)) else (some (x9, true))
end
def s_TreeOfTiling.f (k : Nat) (a0 : Int) (a1 : Int) (l2 : List (S41)) : Option ((List (S50)) × Bool) := (some (([] : List (S50)) : List (S50))).bind fun y468 => ((s_GridOk.f a0 a1).bind fun t471 => (if t471 = true then ((s_TreeFloor.f k a0 a1).bind fun t472 => ((s_IsTiling.f k t472 l2).bind fun t475 => (s_TreeOfTiling.j0 k a0 a1 l2 y468 (!t475)))) else (s_TreeOfTiling.j0 k a0 a1 l2 y468 true)))
theorem s_TreeOfTiling.mono_l : ∀ k, (∀ y0 y1 y2 y3 y4, LeO (s_TreeOfTiling.j0 k y0 y1 y2 y3 y4) (s_TreeOfTiling.j0 (k + 1) y0 y1 y2 y3 y4)) ∧ (∀ y0 y1 y2 y3 y4 y5 y6, LeO (s_TreeOfTiling.l0 k y0 y1 y2 y3 y4 y5 y6) (s_TreeOfTiling.l0 (k + 1) y0 y1 y2 y3 y4 y5 y6)) ∧ (∀ y0 y1 y2 y3 y4 y5 y6 y7 y8, LeO (s_TreeOfTiling.j2 k y0 y1 y2 y3 y4 y5 y6 y7 y8) (s_TreeOfTiling.j2 (k + 1) y0 y1 y2 y3 y4 y5 y6 y7 y8)) ∧ (∀ y0 y1 y2 y3 y4 y5 y6 y7, LeO (s_TreeOfTiling.j3 k y0 y1 y2 y3 y4 y5 y6 y7) (s_TreeOfTiling.j3 (k + 1) y0 y1 y2 y3 y4 y5 y6 y7)) ∧ (∀ y0 y1 y2, LeO (s_TreeOfTiling.j4 k y0 y1 y2) (s_TreeOfTiling.j4 (k + 1) y0 y1 y2))
 | 0 => ⟨fun _ _ _ _ _ r h => by simp [s_TreeOfTiling.j0] at h, fun _ _ _ _ _ _ _ r h => by simp [s_TreeOfTiling.l0] at h, fun _ _ _ _ _ _ _ _ _ r h => by simp [s_TreeOfTiling.j2] at h, fun _ _ _ _ _ _ _ _ r h => by simp [s_TreeOfTiling.j3] at h, fun _ _ _ r h => by simp [s_TreeOfTiling.j4] at h⟩
 | k + 1 => by
  obtain ⟨ih0, ih1, ih2, ih3, ih4⟩ := s_TreeOfTiling.mono_l k
  refine ⟨?_, ?_, ?_, ?_, ?_⟩ <;> intros
  all_goals first | unfold s_TreeOfTiling.j0 | unfold s_TreeOfTiling.l0 | unfold s_TreeOfTiling.j2 | unfold s_TreeOfTiling.j3 | unfold s_TreeOfTiling.j4
  all_goals repeat' with_reducible first
  | exact ih0 _ _ _ _ _
  | exact ih1 _ _ _ _ _ _ _
  | exact ih2 _ _ _ _ _ _ _ _ _
  | exact ih3 _ _ _ _ _ _ _ _
  | exact ih4 _ _ _
  | exact s_DominoAt.mono _ _ _ _
  | exact s_IsTiling.mono _ _ _
  | exact s_LinksOf.mono _ _ _
  | exact s_SameDominoes.mono _ _ _
  | exact s_TilingOfTree.mono _ _ _ _
  | exact s_TreeFloor.mono _ _ _
  | exact LeO.refl _
  | exact LeO.none _
  | refine LeO.ite ?_ ?_
  | refine LeO.bind ?_ (fun _ => ?_)
theorem s_TreeOfTiling.mono : ∀ a0 a1 a2 k, LeO (s_TreeOfTiling.f k a0 a1 a2) (s_TreeOfTiling.f (k + 1) a0 a1 a2) := by
 intro a0 a1 a2 k
 obtain ⟨ih0, ih1, ih2, ih3, ih4⟩ := s_TreeOfTiling.mono_l k
 unfold s_TreeOfTiling.f
 repeat' with_reducible first
 | exact ih0 _ _ _ _ _
 | exact ih1 _ _ _ _ _ _ _
 | exact ih2 _ _ _ _ _ _ _ _ _
 | exact ih3 _ _ _ _ _ _ _ _
 | exact ih4 _ _ _
 | exact s_DominoAt.mono _ _ _ _
 | exact s_IsTiling.mono _ _ _
 | exact s_LinksOf.mono _ _ _
 | exact s_SameDominoes.mono _ _ _
 | exact s_TilingOfTree.mono _ _ _ _
 | exact s_TreeFloor.mono _ _ _
 | exact LeO.refl _
 | exact LeO.none _
 | refine LeO.ite ?_ ?_
 | refine LeO.bind ?_ (fun _ => ?_)
def s_TreeOfTiling.T9 : Bool × List (List Nat × List Nat) := (true, [([], []), ([], []), ([0, 1], [0, 1]), ([2], [2]), ([3], [3]), ([4], [4]), ([5], [5]), ([], []), ([], []), ([7, 8], [7, 8]), ([9], [9]), ([10], [10]), ([11], [11]), ([6, 12], [6, 12]), ([], []), ([14, 13, 0, 1, 2, 3, 4, 5, 6, 7, 8, 9, 10, 11, 12, 13, 14], [13, 14])])
def s_TreeOfTiling.B9 : List Nat := [0, 0, 3, 7, 15, 31, 63, 0, 0, 384, 896, 1920, 3968, 8191, 0, 32767]
theorem s_TreeOfTiling.tab9 : rtab .any (opsOf Try.f51 9) = s_TreeOfTiling.T9 := by kernel_rfl
theorem s_TreeOfTiling.bits9 : waitsOk s_TreeOfTiling.T9.2 s_TreeOfTiling.B9 = true := by kernel_rfl
def s_TreeOfTiling.T11 : Bool × List (List Nat × List Nat) := (true, [([], []), ([], []), ([0, 1], [0, 1]), ([2], [2]), ([3], [3]), ([4], [4]), ([], []), ([], []), ([6, 7], [6, 7]), ([8], [8]), ([9], [9]), ([10], [10]), ([11], [11]), ([5, 12], [5, 12]), ([13, 0, 1, 2, 3, 4, 5, 6, 7, 8, 9, 10, 11, 12, 13], [13])])
def s_TreeOfTiling.B11 : List Nat := [0, 0, 3, 7, 15, 31, 0, 0, 192, 448, 960, 1984, 4032, 8191, 16383]
theorem s_TreeOfTiling.tab11 : rtab .any (opsOf Try.f51 11) = s_TreeOfTiling.T11 := by kernel_rfl
theorem s_TreeOfTiling.bits11 : waitsOk s_TreeOfTiling.T11.2 s_TreeOfTiling.B11 = true := by kernel_rfl
set_option maxRecDepth 100000 in
theorem s_TreeOfTiling.calls (k : Nat) (a0 : Int) (a1 : Int) (A2 : Option Addr) (c2 : Nat) (l2 : List (S41)) (r1 : List (S50)) (r2 : Bool) (w : World) (hr2 : Kd.C k41 w A2 l2.length l2) (hc2 : l2.length ≤ c2) (h : s_TreeOfTiling.f k a0 a1 l2 = some (r1, r2)) :
  Calls Try.prog 51 #[.int .i64 a0, .int .i64 a1, .slice A2 l2.length c2] w fun e w' => ∃ v0_ : Value, e = .returned (.tuple #[v0_, .bool r2]) ∧ Kd.R k50 50 w' w.heap.size (fun _ => True) v0_ r1 ∧ Below w.heap.size w w' := by
 have hu39 := Try.underlying39
 have hu41 := Try.underlying41
 have hu50 := Try.underlying50
 have HR2 := As.mk hr2
 have HC2 := As.mk hc2
 clear hr2 hc2
 have HB : Up w w := ⟨Below.refl _ _⟩
 have H : ((some (([] : List (S50)) : List (S50))).bind fun y468 => ((s_GridOk.f a0 a1).bind fun t471 => (if t471 = true then ((s_TreeFloor.f k a0 a1).bind fun t472 => ((s_IsTiling.f k t472 l2).bind fun t475 => (s_TreeOfTiling.j0 k a0 a1 l2 y468 (!t475)))) else (s_TreeOfTiling.j0 k a0 a1 l2 y468 true)))) = some (r1, r2) := h
 clear h
 obtain ⟨y468, hy468⟩ : ∃ y_ : List (S50), y_ = (([] : List (S50))) := ⟨_, rfl⟩
 replace H : ((s_GridOk.f a0 a1).bind fun t471 => (if t471 = true then ((s_TreeFloor.f k a0 a1).bind fun t472 => ((s_IsTiling.f k t472 l2).bind fun t475 => (s_TreeOfTiling.j0 k a0 a1 l2 y468 (!t475)))) else (s_TreeOfTiling.j0 k a0 a1 l2 y468 true))) = some (r1, r2) := by first | (rw [hy468]; with_reducible exact H) | (have H2_ := (Option.bind_some _ _).symm.trans H; rw [hy468]; with_reducible exact H2_) | (have H2_ := (Option.bind_some _ _).symm.trans H; with_reducible exact H2_) | with_reducible exact H | (rw [hy468]; exact H) | exact H
 have Ny468 := As.mk hy468
 clear hy468
 have HC4 := As.mk H
 clear H
 go_enter Try.func51, Try.ntmps51
 go_upto_region 2 with (first | ((with_reducible refine gate_dst (N := 18) rfl ?_); refine Kd.R_lit k50 _ 50 ?hg (N := 18) ?hd (xs := ([] : List (S50))) (inner := []) (ok := fun _ => True) (okp := fun _ => True) ?hr ?hp (fun _ hk => hk) trivial (Below.refl _ _) (Nat.le_refl _) (by simp) ?_; (case hd => rfl); (case hg => rfl); (case hr => first | (go_simp; done) | (go_simp; rfl)); (case hp => exact (Reps.none _ _)); intro v469 w5 ho6 hb hg_ hnew_; clear hg_ hnew_; (first | rw [← Ny468.out] at ho6 | (simp only [Int.reduceToNat] at ho6; rw [← Ny468.out] at ho6)); have := Stp.mk hb; have HO470 := As.mk (Kd.R_lower ho6 (below_size (uw w))); clear hb ho6))
 (try simp only [Act.put, List.setIfInBounds_toArray, List.set_cons_zero, List.set_cons_succ])
 go_cut [30] (fun v30 wc => ∃ (kq : Nat) (x30_3 : Bool), v30 = .bool x30_3 ∧ As (s_TreeOfTiling.j0 kq a0 a1 l2 y468 x30_3 = some (r1, r2)) ∧ As (kq ≤ k) ∧ As (Kd.R k50 50 wc w.heap.size (fun _ => True) v469 y468) ∧ Up w wc)
 case first =>
  have H := HC4.out
  clear HC4
  obtain ⟨t471, A7, H⟩ := bI H
  replace H := bT H; rcases H with ⟨rfl, H⟩ | ⟨rfl, H⟩
  ·obtain ⟨t472, A9, H⟩ := bI H
   obtain ⟨t475, A10, H⟩ := bI H
   have H' := As.mk H
   clear H
   go_wp2_with (first | ((with_reducible refine gC 87 rfl ?_); refine goesL_ (some 21) rfl rfl Try.func87 (by kernel_rfl) rfl #[.int .i64 a0, .int .i64 a1] rfl (by (try simp only [sD, sE, sF]); first | done | rfl) ?_; (with_reducible refine (s_GridOk.calls a0 a1 true _ A7.out).mono ?_); rintro e w' ⟨rfl, ⟨nd, rfl⟩⟩; refine ⟨_, rfl, ?_⟩) | (go_at_call 119; (with_reducible refine (s_TreeFloor.calls k a0 a1 t472 _ A9.out).mono ?_); rintro e w11 ⟨v473, rfl, ho0, hb⟩; have := Stp.mk hb; replace HO470 := hB HO470 hb; have HO474 := As.mk (Kd.R_lower ho0 (below_size (uw w))); (try clear ho0); obtain ⟨Ao12, co12, eo12⟩ := Kd.R_slice HO474.out; subst eo12) | (go_at_call 18; (with_reducible refine (s_IsTiling.calls k _ _ t472 _ _ l2 t475 _ ?side1 ?side2 ?side3 ?side4 A10.out).mono ?_); (case side1 => repeat (first | exact (Kd.R_reads' HO474.out).2.2 | (with_reducible refine Kd.C_alloc ?_ _) | (with_reducible refine Kd.C_drewN ?_ _) | (with_reducible refine Kd.C_drew ?_))); (case side2 => exact (Kd.R_reads' HO474.out).2.1); (case side3 => exact (Kd.C_below HR2.out (uw w))); (case side4 => exact HC2.out); rintro e w13 ⟨rfl, hb⟩; have := Stp.mk hb; replace HO470 := hB HO470 hb; replace HO474 := hB HO474 hb))
   go_meet
   case rel => exact ⟨_, (!t475), (by first | rfl | (simp; done) | (simp [*]; done)), H', ⟨by first | omega | exact Nat.le_refl _⟩, ⟨rX HO470.out⟩, ⟨uw w⟩⟩
  ·have H' := As.mk H
   clear H
   go_wp2_with (first | ((with_reducible refine gC 87 rfl ?_); refine goesL_ (some 21) rfl rfl Try.func87 (by kernel_rfl) rfl #[.int .i64 a0, .int .i64 a1] rfl (by (try simp only [sD, sE, sF]); first | done | rfl) ?_; (with_reducible refine (s_GridOk.calls a0 a1 false _ A7.out).mono ?_); rintro e w' ⟨rfl, ⟨nd, rfl⟩⟩; refine ⟨_, rfl, ?_⟩))
   go_meet
   case rel => exact ⟨_, (true), (by first | rfl | (simp; done) | (simp [*]; done)), H', ⟨by first | omega | exact Nat.le_refl _⟩, ⟨rX HO470.out⟩, ⟨uw w⟩⟩
 case rest =>
  clear HC4
  obtain ⟨kq, x30_3, rfl, HA, HJ3, HO_8, HB⟩ := hcut
  cases kq with
  | zero => exact absurd HA.out (by simp [s_TreeOfTiling.j0])
  | succ kj3 =>
   have H := HA.out
   clear HA
   simp only [s_TreeOfTiling.j0] at H
   replace H := bT H; rcases H with ⟨rfl, H⟩ | ⟨rfl, H⟩
   ·simp only [Option.some.injEq, Prod.mk.injEq] at H
    obtain ⟨rfl, rfl⟩ := H
    go_wp2
    go_ret2
    exact ⟨_, by first | rfl | (simp [*, errW_none, errW_some] <;> rfl), rX HO_8.out, uw w⟩
   ·obtain ⟨y476, hy476⟩ : ∃ y_ : List (S50), y_ = (([] : List (S50))) := ⟨_, rfl⟩
    replace H : ((s_LinksOf.f kj3 a0 a1).bind fun t479 => (s_TreeOfTiling.l0 kj3 a0 a1 l2 y468 y476 t479 0)) = some (r1, r2) := by first | (rw [hy476]; with_reducible exact H) | (have H2_ := (Option.bind_some _ _).symm.trans H; rw [hy476]; with_reducible exact H2_) | (have H2_ := (Option.bind_some _ _).symm.trans H; with_reducible exact H2_) | with_reducible exact H | (rw [hy476]; exact H) | exact H
    have Ny476 := As.mk hy476
    clear hy476
    obtain ⟨t479, A15, H⟩ := bI H
    have H' := As.mk H
    clear H
    go_wp2_with (first | ((with_reducible refine gate_dst (N := 32) rfl ?_); refine Kd.R_lit k50 _ 50 ?hg (N := 32) ?hd (xs := ([] : List (S50))) (inner := []) (ok := fun _ => True) (okp := fun _ => True) ?hr ?hp (fun _ hk => hk) trivial (Below.refl _ _) (Nat.le_refl _) (by simp) ?_; (case hd => rfl); (case hg => rfl); (case hr => first | (go_simp; done) | (go_simp; rfl)); (case hp => exact (Reps.none _ _)); intro v477 w16 ho17 hb hg_ hnew_; clear hg_ hnew_; (first | rw [← Ny476.out] at ho17 | (simp only [Int.reduceToNat] at ho17; rw [← Ny476.out] at ho17)); have := Stp.mk hb; have n0_ := As.mk (Kd.R_elder' (rX HO_8.out) (Kd.R_base ho17) hb); have n1_ := As.mk (Kd.R_lower (Kd.R_new' ho17 (Kd.R_lt (rX HO_8.out))) (below_size (uw w))); clear HO_8; have HO_8 := n0_; have HO478 := n1_; clear n0_ n1_; clear hb ho17) | ((with_reducible refine gC 88 rfl ?_); refine goesL_ (some 35) rfl rfl Try.func88 (by kernel_rfl) rfl #[.int .i64 a0, .int .i64 a1] rfl (by (try simp only [sD, sE, sF]); first | done | rfl) ?_; (with_reducible refine (s_LinksOf.calls kj3 a0 a1 t479 _ A15.out).mono ?_); rintro e w18 ⟨v480, rfl, ho0, hb⟩; refine ⟨_, rfl, ?_⟩; have := Stp.mk hb; have n0_ := As.mk (Kd.R_elder' (rX HO_8.out) (Kd.R_base ho0) hb); have n1_ := As.mk (Kd.R_elder' (rX HO478.out) (Kd.R_base ho0) hb); have n2_ := As.mk (Kd.R_lower (Kd.R_new' (Kd.R_new' ho0 (Kd.R_lt (rX HO_8.out))) (Kd.R_lt (rX HO478.out))) (below_size (uw w))); clear HO_8; clear HO478; have HO_8 := n0_; have HO478 := n1_; have HO481 := n2_; clear n0_ n1_ n2_; (try clear ho0)))
    go_loopg [9, 11] kj3 (fun kq v9 v11 w' => ∃ (x9_2 : List (S50)) (x11_2 : Int), v11 = .int .i64 x11_2 ∧ As (s_TreeOfTiling.l0 kq a0 a1 l2 y468 x9_2 t479 x11_2 = some (r1, r2)) ∧ As (kq ≤ kj3) ∧ As (Kd.R k50 50 w' w.heap.size (fun k_ => some k_ ≠ (v9 : Value).ownBlock ∧ some k_ ≠ (v480 : Value).ownBlock) v469 y468) ∧ As (Kd.R k50 50 w' w.heap.size (fun k_ => some k_ ≠ (v469 : Value).ownBlock ∧ some k_ ≠ (v480 : Value).ownBlock) v9 x9_2) ∧ As (Kd.R k50 50 w' w.heap.size (fun k_ => some k_ ≠ (v469 : Value).ownBlock ∧ some k_ ≠ (v9 : Value).ownBlock) v480 t479) ∧ Up w w')
    case atStart => exact ⟨(y476), (0), (by first | rfl | (simp; done) | (simp [*]; done)), H', ⟨Nat.le_refl _⟩, ⟨by (with_reducible repeat (first | apply Kd.R_alloc | apply Kd.R_drewN | apply Kd.R_drew)); exact Kd.R_mono HO_8.out (fun _ hk => ⟨hk.1.2, hk.2⟩)⟩, ⟨by (with_reducible repeat (first | apply Kd.R_alloc | apply Kd.R_drewN | apply Kd.R_drew)); exact Kd.R_mono HO478.out (fun _ hk => ⟨hk.1.2, hk.2⟩)⟩, ⟨by (with_reducible repeat (first | apply Kd.R_alloc | apply Kd.R_drewN | apply Kd.R_drew)); exact Kd.R_mono HO481.out (fun _ hk => ⟨hk.1.2, hk.2⟩)⟩, ⟨uw w⟩⟩
    case round =>
     clear H'
     try clear c14
     obtain ⟨x9_2, x11_2, rfl, HA, HK2, HO_8, HO_9, HO_10, HB⟩ := hrel
     cases gk with
     | zero => exact absurd HA.out (by simp [s_TreeOfTiling.l0])
     | succ k2 =>
      have H := HA.out
      clear HA
      simp only [s_TreeOfTiling.l0] at H
      by_cases c19 : x11_2 < (t479.length : Int)
      ·rw [if_pos c19] at H
       have c19b0 : decide (x11_2 < (t479.length : Int)) = true := decide_eq_true c19
       clear c19
       by_cases c20 : 0 ≤ x11_2
       ·rw [if_pos c20] at H
        have c20b0 : decide (0 ≤ x11_2) = true := decide_eq_true c20
        clear c20
        have HC21 := As.mk H
        clear H
        obtain ⟨Ao22, co22, eo22⟩ := Kd.R_slice HO_10.out
        subst eo22
        try go_wp2
        replace HO_8 := As.mk (Kd.R_drew HO_8.out)
        replace HO_9 := As.mk (Kd.R_drew HO_9.out)
        replace HO_10 := As.mk (Kd.R_drew HO_10.out)
        have p482 : 0 ≤ (x11_2 : Int) := oD
        have q482 : x11_2 < (t479.length : Int) := oD
        obtain ⟨ad482, e482, hx482_0, hx482_1, hx482_2⟩ := at_T50 (Kd.R_reads' HO_10.out).2.2 x11_2 p482 q482
        cases e482
        replace p482 := eq_true p482
        replace q482 := eq_true q482
        have p483 : 0 ≤ (x11_2 : Int) := oD
        have q483 : x11_2 < (t479.length : Int) := oD
        obtain ⟨ad483, e483, hx483_0, hx483_1, hx483_2⟩ := at_T50 (Kd.R_reads' HO_10.out).2.2 x11_2 p483 q483
        obtain rfl : ad482 = ad483 := (by injection e483)
        replace p483 := eq_true p483
        replace q483 := eq_true q483
        refine sV [(0,42),(1,43),(2,44),(3,45),(7,49),(8,50),(9,51),(10,52),(4,46),(5,47),(6,48),(11,53),(12,54),(13,55),(14,12),(15,0)] (fun w' => w'.cell? (ad482.add ((x11_2).toNat * 3)) = some (.int .i64 ((rd_T50 t479 x11_2).f0)) ∧ w'.cell? ⟨(ad482.add ((x11_2).toNat * 3)).block, (ad482.add ((x11_2).toNat * 3)).off + 1, none⟩ = some (.int .i64 ((rd_T50 t479 x11_2).f1)) ∧ w'.cell? ⟨(ad482.add ((x11_2).toNat * 3)).block, (ad482.add ((x11_2).toNat * 3)).off + 2, none⟩ = some (.bool ((rd_T50 t479 x11_2).f2)) ∧ w'.cell? (ad482.add ((x11_2).toNat * 3)) = some (.int .i64 ((rd_T50 t479 x11_2).f0)) ∧ w'.cell? ⟨(ad482.add ((x11_2).toNat * 3)).block, (ad482.add ((x11_2).toNat * 3)).off + 1, none⟩ = some (.int .i64 ((rd_T50 t479 x11_2).f1)) ∧ w'.cell? ⟨(ad482.add ((x11_2).toNat * 3)).block, (ad482.add ((x11_2).toNat * 3)).off + 2, none⟩ = some (.bool ((rd_T50 t479 x11_2).f2))) [] (by kernel_rfl) rfl ⟨hx482_0, hx482_1, hx482_2, hx483_0, hx483_1, hx483_2⟩ (fun hHeld => ?_); refine wTW s_TreeOfTiling.tab9 s_TreeOfTiling.bits9 (fun HT_ HW_ => ?_)
        have hd_ := stD wr
        generalize wr.drew = w23 at hd_ HO_8 HO_9 HO_10 hx482_0 hx482_1 hx482_2 hx483_0 hx483_1 hx483_2 hHeld ⊢
        iterate 8 refine pV rfl rfl (any_of HT_.out (by kernel_rfl)) (by rfl) (fun _ _ _ _ h => h) ⟨_, fun w' => by go_simp; with_reducible rfl, _, by simp only [Act.put, sA, sB, sC, i64_w, i32_w]; rfl, ?_⟩
        refine tV rfl rfl (take_ofW HT_.out HW_.out (by kernel_rfl)) (by rfl) (fun _ _ _ _ h => h) hHeld ⟨_, fun w' s => by go_simp; with_reducible rfl, _, by simp only [Act.put, sA, sB, sC, i64_w, i32_w]; rfl, ?_⟩
        iterate 2 refine pV rfl rfl (any_of HT_.out (by kernel_rfl)) (by rfl) (fun _ _ _ _ h => h) ⟨_, fun w' => by go_simp; with_reducible rfl, _, by simp only [Act.put, sA, sB, sC, i64_w, i32_w]; rfl, ?_⟩
        refine tV rfl rfl (take_ofW HT_.out HW_.out (by kernel_rfl)) (by rfl) (fun _ _ _ _ h => h) hHeld ⟨_, fun w' s => by go_simp; with_reducible rfl, _, by simp only [Act.put, sA, sB, sC, i64_w, i32_w]; rfl, ?_⟩
        iterate 2 refine pV rfl rfl (any_of HT_.out (by kernel_rfl)) (by rfl) (fun _ _ _ _ h => h) ⟨_, fun w' => by go_simp; with_reducible rfl, _, by simp only [Act.put, sA, sB, sC, i64_w, i32_w]; rfl, ?_⟩
        refine oV (N := some 12) rfl rfl (one_of HT_.out (by kernel_rfl)) (by decide) (fun K hK => ?_)
        refine box_step ?hg (N := 12) ?hd (cs := #[.int .i64 0, .int .i64 0]) (t := 39) ?hr ?_; (case hd => rfl); (case hg => rfl); (case hr => first | (go_simp; done) | (go_simp; rfl))
        intro gb484 hg w24 hbox hb
        have HS0_ := (hb.cell (World.block_lt_of_cell? _ _ (hHeld.1))).trans (hHeld.1)
        have HS1_ := (hb.cell (World.block_lt_of_cell? _ _ (hHeld.2.1))).trans (hHeld.2.1)
        have HS2_ := (hb.cell (World.block_lt_of_cell? _ _ (hHeld.2.2.1))).trans (hHeld.2.2.1)
        have HS3_ := (hb.cell (World.block_lt_of_cell? _ _ (hHeld.2.2.2.1))).trans (hHeld.2.2.2.1)
        have HS4_ := (hb.cell (World.block_lt_of_cell? _ _ (hHeld.2.2.2.2.1))).trans (hHeld.2.2.2.2.1)
        have HS5_ := (hb.cell (World.block_lt_of_cell? _ _ (hHeld.2.2.2.2.2))).trans (hHeld.2.2.2.2.2)
        have := Stp.mk hb
        have := New.mk hg
        have := Bk.mk hbox
        replace HO_8 := hB HO_8 hb
        replace HO_9 := hB HO_9 hb
        replace HO_10 := hB HO_10 hb
        clear hb hbox hg
        refine hK.out _ _ ⟨HS0_, HS1_, HS2_, HS3_, HS4_, HS5_⟩ (fun hHeld => ?_)
        clear hK K
        refine nV ⟨_, by show Act.put _ (some 12) _ = _; simp only [Act.put, sA, sB, sC, i64_w, i32_w]; rfl, ?_⟩
        refine oV (N := none) rfl rfl (one_of HT_.out (by kernel_rfl)) (by decide) (fun K hK => ?_)
        have hs25 : w24.cell? ⟨gb484, 0, none⟩ = some (.int .i64 0) := cl gb484 0 (by rfl)
        have hs26 : w24.cell? ⟨gb484, 1, none⟩ = some (.int .i64 0) := cl gb484 1 (by rfl)
        refine skip_ (w1 := ?_) (by rfl) rfl ?_ ?_
        rotate_left
        ·go_simp
         rfl
        refine hK.out _ _ ⟨((cell_far (p := ⟨gb484, _, none⟩) (by first | exact Kd.own_blk (Kd.R_ne HO_10.out (bk gb484) (by decide)) | (rw [add_block]; exact Kd.own_blk (Kd.R_ne HO_10.out (bk gb484) (by decide))) | (show (Addr.add _ _).block ≠ _; rw [add_block]; exact Kd.own_blk (Kd.R_ne HO_10.out (bk gb484) (by decide))) | (dsimp only; exact Kd.own_blk (Kd.R_ne HO_10.out (bk gb484) (by decide)))) _).trans (((cell_far (p := ⟨gb484, _, none⟩) (by first | exact Kd.own_blk (Kd.R_ne HO_10.out (bk gb484) (by decide)) | (rw [add_block]; exact Kd.own_blk (Kd.R_ne HO_10.out (bk gb484) (by decide))) | (show (Addr.add _ _).block ≠ _; rw [add_block]; exact Kd.own_blk (Kd.R_ne HO_10.out (bk gb484) (by decide))) | (dsimp only; exact Kd.own_blk (Kd.R_ne HO_10.out (bk gb484) (by decide)))) _).trans (hHeld.1)))), ((cell_far (p := ⟨gb484, _, none⟩) (by first | exact Kd.own_blk (Kd.R_ne HO_10.out (bk gb484) (by decide)) | (rw [add_block]; exact Kd.own_blk (Kd.R_ne HO_10.out (bk gb484) (by decide))) | (show (Addr.add _ _).block ≠ _; rw [add_block]; exact Kd.own_blk (Kd.R_ne HO_10.out (bk gb484) (by decide))) | (dsimp only; exact Kd.own_blk (Kd.R_ne HO_10.out (bk gb484) (by decide)))) _).trans (((cell_far (p := ⟨gb484, _, none⟩) (by first | exact Kd.own_blk (Kd.R_ne HO_10.out (bk gb484) (by decide)) | (rw [add_block]; exact Kd.own_blk (Kd.R_ne HO_10.out (bk gb484) (by decide))) | (show (Addr.add _ _).block ≠ _; rw [add_block]; exact Kd.own_blk (Kd.R_ne HO_10.out (bk gb484) (by decide))) | (dsimp only; exact Kd.own_blk (Kd.R_ne HO_10.out (bk gb484) (by decide)))) _).trans (hHeld.2.1)))), ((cell_far (p := ⟨gb484, _, none⟩) (by first | exact Kd.own_blk (Kd.R_ne HO_10.out (bk gb484) (by decide)) | (rw [add_block]; exact Kd.own_blk (Kd.R_ne HO_10.out (bk gb484) (by decide))) | (show (Addr.add _ _).block ≠ _; rw [add_block]; exact Kd.own_blk (Kd.R_ne HO_10.out (bk gb484) (by decide))) | (dsimp only; exact Kd.own_blk (Kd.R_ne HO_10.out (bk gb484) (by decide)))) _).trans (((cell_far (p := ⟨gb484, _, none⟩) (by first | exact Kd.own_blk (Kd.R_ne HO_10.out (bk gb484) (by decide)) | (rw [add_block]; exact Kd.own_blk (Kd.R_ne HO_10.out (bk gb484) (by decide))) | (show (Addr.add _ _).block ≠ _; rw [add_block]; exact Kd.own_blk (Kd.R_ne HO_10.out (bk gb484) (by decide))) | (dsimp only; exact Kd.own_blk (Kd.R_ne HO_10.out (bk gb484) (by decide)))) _).trans (hHeld.2.2.1)))), ((cell_far (p := ⟨gb484, _, none⟩) (by first | exact Kd.own_blk (Kd.R_ne HO_10.out (bk gb484) (by decide)) | (rw [add_block]; exact Kd.own_blk (Kd.R_ne HO_10.out (bk gb484) (by decide))) | (show (Addr.add _ _).block ≠ _; rw [add_block]; exact Kd.own_blk (Kd.R_ne HO_10.out (bk gb484) (by decide))) | (dsimp only; exact Kd.own_blk (Kd.R_ne HO_10.out (bk gb484) (by decide)))) _).trans (((cell_far (p := ⟨gb484, _, none⟩) (by first | exact Kd.own_blk (Kd.R_ne HO_10.out (bk gb484) (by decide)) | (rw [add_block]; exact Kd.own_blk (Kd.R_ne HO_10.out (bk gb484) (by decide))) | (show (Addr.add _ _).block ≠ _; rw [add_block]; exact Kd.own_blk (Kd.R_ne HO_10.out (bk gb484) (by decide))) | (dsimp only; exact Kd.own_blk (Kd.R_ne HO_10.out (bk gb484) (by decide)))) _).trans (hHeld.2.2.2.1)))), ((cell_far (p := ⟨gb484, _, none⟩) (by first | exact Kd.own_blk (Kd.R_ne HO_10.out (bk gb484) (by decide)) | (rw [add_block]; exact Kd.own_blk (Kd.R_ne HO_10.out (bk gb484) (by decide))) | (show (Addr.add _ _).block ≠ _; rw [add_block]; exact Kd.own_blk (Kd.R_ne HO_10.out (bk gb484) (by decide))) | (dsimp only; exact Kd.own_blk (Kd.R_ne HO_10.out (bk gb484) (by decide)))) _).trans (((cell_far (p := ⟨gb484, _, none⟩) (by first | exact Kd.own_blk (Kd.R_ne HO_10.out (bk gb484) (by decide)) | (rw [add_block]; exact Kd.own_blk (Kd.R_ne HO_10.out (bk gb484) (by decide))) | (show (Addr.add _ _).block ≠ _; rw [add_block]; exact Kd.own_blk (Kd.R_ne HO_10.out (bk gb484) (by decide))) | (dsimp only; exact Kd.own_blk (Kd.R_ne HO_10.out (bk gb484) (by decide)))) _).trans (hHeld.2.2.2.2.1)))), ((cell_far (p := ⟨gb484, _, none⟩) (by first | exact Kd.own_blk (Kd.R_ne HO_10.out (bk gb484) (by decide)) | (rw [add_block]; exact Kd.own_blk (Kd.R_ne HO_10.out (bk gb484) (by decide))) | (show (Addr.add _ _).block ≠ _; rw [add_block]; exact Kd.own_blk (Kd.R_ne HO_10.out (bk gb484) (by decide))) | (dsimp only; exact Kd.own_blk (Kd.R_ne HO_10.out (bk gb484) (by decide)))) _).trans (((cell_far (p := ⟨gb484, _, none⟩) (by first | exact Kd.own_blk (Kd.R_ne HO_10.out (bk gb484) (by decide)) | (rw [add_block]; exact Kd.own_blk (Kd.R_ne HO_10.out (bk gb484) (by decide))) | (show (Addr.add _ _).block ≠ _; rw [add_block]; exact Kd.own_blk (Kd.R_ne HO_10.out (bk gb484) (by decide))) | (dsimp only; exact Kd.own_blk (Kd.R_ne HO_10.out (bk gb484) (by decide)))) _).trans (hHeld.2.2.2.2.2))))⟩ (fun hHeld => ?_)
        clear hK K
        refine dV (done_of HT_.out (by kernel_rfl)) ?_
        have p485 : 0 ≤ (x11_2 : Int) := oD
        have q485 : x11_2 < (t479.length : Int) := oD
        obtain ⟨ad485, e485, hx485_0, hx485_1, hx485_2⟩ := at_T50 (Kd.R_reads' HO_10.out).2.2 x11_2 p485 q485
        obtain rfl : ad482 = ad485 := (by injection e485)
        have hn485_0 : ad482.block ≠ gb484 := Kd.own_blk (Kd.R_ne HO_10.out (bk gb484) (by decide))
        have hn485_1 : ad482.block ≠ gb484 := Kd.own_blk (Kd.R_ne HO_10.out (bk gb484) (by decide))
        replace hx485_0 := (cell_far (p := ⟨gb484, 0, none⟩) (by first | (rw [add_block]; exact hn485_0) | (show (Addr.add _ _).block ≠ _; rw [add_block]; exact hn485_0) | exact hn485_0) (.int .i64 (wrap64 ((wrap64 (2 * ((rd_T50 t479 x11_2).f0))) + 1)))).trans hx485_0
        replace hx485_1 := (cell_far (p := ⟨gb484, 0, none⟩) (by first | (rw [add_block]; exact hn485_0) | (show (Addr.add _ _).block ≠ _; rw [add_block]; exact hn485_0) | exact hn485_0) (.int .i64 (wrap64 ((wrap64 (2 * ((rd_T50 t479 x11_2).f0))) + 1)))).trans hx485_1
        replace hx485_2 := (cell_far (p := ⟨gb484, 0, none⟩) (by first | (rw [add_block]; exact hn485_0) | (show (Addr.add _ _).block ≠ _; rw [add_block]; exact hn485_0) | exact hn485_0) (.int .i64 (wrap64 ((wrap64 (2 * ((rd_T50 t479 x11_2).f0))) + 1)))).trans hx485_2
        replace hx485_0 := (cell_far (p := ⟨gb484, 1, none⟩) (by first | (rw [add_block]; exact hn485_1) | (show (Addr.add _ _).block ≠ _; rw [add_block]; exact hn485_1) | exact hn485_1) (.int .i64 (wrap64 (2 * ((rd_T50 t479 x11_2).f1))))).trans hx485_0
        replace hx485_1 := (cell_far (p := ⟨gb484, 1, none⟩) (by first | (rw [add_block]; exact hn485_1) | (show (Addr.add _ _).block ≠ _; rw [add_block]; exact hn485_1) | exact hn485_1) (.int .i64 (wrap64 (2 * ((rd_T50 t479 x11_2).f1))))).trans hx485_1
        replace hx485_2 := (cell_far (p := ⟨gb484, 1, none⟩) (by first | (rw [add_block]; exact hn485_1) | (show (Addr.add _ _).block ≠ _; rw [add_block]; exact hn485_1) | exact hn485_1) (.int .i64 (wrap64 (2 * ((rd_T50 t479 x11_2).f1))))).trans hx485_2
        clear hn485_0
        clear hn485_1
        replace p485 := eq_true p485
        replace q485 := eq_true q485
        go_upto_if 60 with (fail)
        go_cut [] (fun wc => ∃ (kq : Nat) (x485000_20 : Int) (x485001_20 : Int), As (s_TreeOfTiling.j2 kq a0 a1 l2 y468 x9_2 t479 x11_2 x485000_20 x485001_20 = some (r1, r2)) ∧ As (kq ≤ k2) ∧ As (Kd.R k50 50 wc w.heap.size (fun k_ => some k_ ≠ (u9 : Value).ownBlock ∧ some k_ ≠ ((.slice (some ad482) t479.length co22) : Value).ownBlock) v469 y468) ∧ As (Kd.R k50 50 wc w.heap.size (fun k_ => some k_ ≠ (v469 : Value).ownBlock ∧ some k_ ≠ ((.slice (some ad482) t479.length co22) : Value).ownBlock) u9 x9_2) ∧ As (Kd.R k50 50 wc w.heap.size (fun k_ => some k_ ≠ (v469 : Value).ownBlock ∧ some k_ ≠ (u9 : Value).ownBlock) (.slice (some ad482) t479.length co22) t479) ∧ Bk wc gb484 (.cells #[.int .i64 x485000_20, .int .i64 x485001_20] 39 (0, 0)) ∧ Up w wc)
        case first =>
         have H := HC21.out
         clear HC21
         obtain ⟨bq27, hbq27⟩ : ∃ b_ : Bool, b_ = ((rd_T50 t479 x11_2).f2) := ⟨_, rfl⟩
         replace H : (if bq27 = true then (s_TreeOfTiling.j2 k2 a0 a1 l2 y468 x9_2 t479 x11_2 (wrap64 (2 * ((rd_T50 t479 x11_2).f0))) (wrap64 ((wrap64 (2 * ((rd_T50 t479 x11_2).f1))) + 1))) else (s_TreeOfTiling.j2 k2 a0 a1 l2 y468 x9_2 t479 x11_2 (wrap64 ((wrap64 (2 * ((rd_T50 t479 x11_2).f0))) + 1)) (wrap64 (2 * ((rd_T50 t479 x11_2).f1))))) = some (r1, r2) := by rw [← hbq27] at H; exact H
         have Nbq27 := As.mk hbq27
         clear hbq27
         (try rw [← Nbq27.out])
         replace H := bT H; rcases H with ⟨rfl, H⟩ | ⟨rfl, H⟩
         ·have H' := As.mk H
          clear H
          try go_wp2
          have n0_ : As (Kd.R k50 50 ((w24.setCell ⟨gb484, 0, none⟩ (.int .i64 (wrap64 ((wrap64 (2 * ((rd_T50 t479 x11_2).f0))) + 1)))).setCell ⟨gb484, 1, none⟩ (.int .i64 (wrap64 (2 * ((rd_T50 t479 x11_2).f1))))) w.heap.size (fun k_ => some k_ ≠ (u9 : Value).ownBlock ∧ some k_ ≠ (.slice (some ad482) t479.length co22 : Value).ownBlock) v469 y468) := ⟨by (with_reducible repeat (first | apply Kd.R_alloc | apply Kd.R_drewN | apply Kd.R_drew)); exact Kd.R_mono (Kd.R_far (p := ⟨gb484, 1, none⟩) (Kd.R_far (p := ⟨gb484, 0, none⟩) (Kd.R_types HO_8.out (bk gb484) (by decide)) (fun _ hk => hk.2) (.int .i64 (wrap64 ((wrap64 (2 * ((rd_T50 t479 x11_2).f0))) + 1)))) (fun _ hk => hk.2) (.int .i64 (wrap64 (2 * ((rd_T50 t479 x11_2).f1))))) (fun _ hk => ⟨hk.1.1, hk.1.2⟩)⟩
          have n1_ : As (Kd.R k50 50 ((w24.setCell ⟨gb484, 0, none⟩ (.int .i64 (wrap64 ((wrap64 (2 * ((rd_T50 t479 x11_2).f0))) + 1)))).setCell ⟨gb484, 1, none⟩ (.int .i64 (wrap64 (2 * ((rd_T50 t479 x11_2).f1))))) w.heap.size (fun k_ => some k_ ≠ (v469 : Value).ownBlock ∧ some k_ ≠ (.slice (some ad482) t479.length co22 : Value).ownBlock) u9 x9_2) := ⟨by (with_reducible repeat (first | apply Kd.R_alloc | apply Kd.R_drewN | apply Kd.R_drew)); exact Kd.R_mono (Kd.R_far (p := ⟨gb484, 1, none⟩) (Kd.R_far (p := ⟨gb484, 0, none⟩) (Kd.R_types HO_9.out (bk gb484) (by decide)) (fun _ hk => hk.2) (.int .i64 (wrap64 ((wrap64 (2 * ((rd_T50 t479 x11_2).f0))) + 1)))) (fun _ hk => hk.2) (.int .i64 (wrap64 (2 * ((rd_T50 t479 x11_2).f1))))) (fun _ hk => ⟨hk.1.1, hk.1.2⟩)⟩
          have n2_ : As (Kd.R k50 50 ((w24.setCell ⟨gb484, 0, none⟩ (.int .i64 (wrap64 ((wrap64 (2 * ((rd_T50 t479 x11_2).f0))) + 1)))).setCell ⟨gb484, 1, none⟩ (.int .i64 (wrap64 (2 * ((rd_T50 t479 x11_2).f1))))) w.heap.size (fun k_ => some k_ ≠ (v469 : Value).ownBlock ∧ some k_ ≠ (u9 : Value).ownBlock) (.slice (some ad482) t479.length co22) t479) := ⟨by (with_reducible repeat (first | apply Kd.R_alloc | apply Kd.R_drewN | apply Kd.R_drew)); exact Kd.R_mono (Kd.R_far (p := ⟨gb484, 1, none⟩) (Kd.R_far (p := ⟨gb484, 0, none⟩) (Kd.R_types HO_10.out (bk gb484) (by decide)) (fun _ hk => hk.2) (.int .i64 (wrap64 ((wrap64 (2 * ((rd_T50 t479 x11_2).f0))) + 1)))) (fun _ hk => hk.2) (.int .i64 (wrap64 (2 * ((rd_T50 t479 x11_2).f1))))) (fun _ hk => ⟨hk.1.1, hk.1.2⟩)⟩
          have n3_ : Bk ((w24.setCell ⟨gb484, 0, none⟩ (.int .i64 (wrap64 ((wrap64 (2 * ((rd_T50 t479 x11_2).f0))) + 1)))).setCell ⟨gb484, 1, none⟩ (.int .i64 (wrap64 (2 * ((rd_T50 t479 x11_2).f1))))) gb484 (.cells #[.int .i64 (wrap64 ((wrap64 (2 * ((rd_T50 t479 x11_2).f0))) + 1)), .int .i64 (wrap64 (2 * ((rd_T50 t479 x11_2).f1)))] 39 (0, 0)) := bM (by rfl)
          have n4_ : Up w ((w24.setCell ⟨gb484, 0, none⟩ (.int .i64 (wrap64 ((wrap64 (2 * ((rd_T50 t479 x11_2).f0))) + 1)))).setCell ⟨gb484, 1, none⟩ (.int .i64 (wrap64 (2 * ((rd_T50 t479 x11_2).f1))))) := ⟨uw w⟩
          (try clear HO_8)
          (try clear HO_9)
          (try clear HO_10)
          generalize ((w24.setCell ⟨gb484, 0, none⟩ (.int .i64 (wrap64 ((wrap64 (2 * ((rd_T50 t479 x11_2).f0))) + 1)))).setCell ⟨gb484, 1, none⟩ (.int .i64 (wrap64 (2 * ((rd_T50 t479 x11_2).f1))))) = w29 at n0_ n1_ n2_ n3_ n4_ ⊢
          have HO_8 := n0_
          have HO_9 := n1_
          have HO_10 := n2_
          have BK484 := n3_
          have HB := n4_
          clear n0_ n1_ n2_ n3_ n4_
          replace HO_8 := As.mk (Kd.R_drew HO_8.out)
          replace HO_9 := As.mk (Kd.R_drew HO_9.out)
          replace HO_10 := As.mk (Kd.R_drew HO_10.out)
          have p486 : 0 ≤ (x11_2 : Int) := oD
          have q486 : x11_2 < (t479.length : Int) := oD
          obtain ⟨ad486, e486, hx486_0, hx486_1, hx486_2⟩ := at_T50 (Kd.R_reads' HO_10.out).2.2 x11_2 p486 q486
          (try rw [← Nbq27.out] at hx486_2)
          obtain rfl : ad482 = ad486 := (by injection e486)
          replace p486 := eq_true p486
          replace q486 := eq_true q486
          have p487 : 0 ≤ (x11_2 : Int) := oD
          have q487 : x11_2 < (t479.length : Int) := oD
          obtain ⟨ad487, e487, hx487_0, hx487_1, hx487_2⟩ := at_T50 (Kd.R_reads' HO_10.out).2.2 x11_2 p487 q487
          (try rw [← Nbq27.out] at hx487_2)
          obtain rfl : ad482 = ad487 := (by injection e487)
          replace p487 := eq_true p487
          replace q487 := eq_true q487
          refine sV [(0,61),(1,62),(2,63),(3,64),(6,67),(7,68),(8,69),(9,70),(4,65),(5,66),(10,71),(11,72),(12,73),(13,74),(14,0)] (fun w' => w'.cell? (ad482.add ((x11_2).toNat * 3)) = some (.int .i64 ((rd_T50 t479 x11_2).f0)) ∧ w'.cell? ⟨(ad482.add ((x11_2).toNat * 3)).block, (ad482.add ((x11_2).toNat * 3)).off + 1, none⟩ = some (.int .i64 ((rd_T50 t479 x11_2).f1)) ∧ w'.cell? ⟨(ad482.add ((x11_2).toNat * 3)).block, (ad482.add ((x11_2).toNat * 3)).off + 2, none⟩ = some (.bool (true)) ∧ w'.cell? (ad482.add ((x11_2).toNat * 3)) = some (.int .i64 ((rd_T50 t479 x11_2).f0)) ∧ w'.cell? ⟨(ad482.add ((x11_2).toNat * 3)).block, (ad482.add ((x11_2).toNat * 3)).off + 1, none⟩ = some (.int .i64 ((rd_T50 t479 x11_2).f1)) ∧ w'.cell? ⟨(ad482.add ((x11_2).toNat * 3)).block, (ad482.add ((x11_2).toNat * 3)).off + 2, none⟩ = some (.bool (true))) [] (by kernel_rfl) rfl ⟨hx486_0, hx486_1, hx486_2, hx487_0, hx487_1, hx487_2⟩ (fun hHeld => ?_); refine wTW s_TreeOfTiling.tab11 s_TreeOfTiling.bits11 (fun HT_ HW_ => ?_)
          have hd_ := stD w29
          generalize w29.drew = w30 at hd_ HO_8 HO_9 HO_10 hx486_0 hx486_1 hx486_2 hx487_0 hx487_1 hx487_2 hHeld ⊢
          iterate 8 refine pV rfl rfl (any_of HT_.out (by kernel_rfl)) (by rfl) (fun _ _ _ _ h => h) ⟨_, fun w' => by go_simp; with_reducible rfl, _, by simp only [Act.put, sA, sB, sC, i64_w, i32_w]; rfl, ?_⟩
          refine tV rfl rfl (take_ofW HT_.out HW_.out (by kernel_rfl)) (by rfl) (fun _ _ _ _ h => h) hHeld ⟨_, fun w' s => by go_simp; with_reducible rfl, _, by simp only [Act.put, sA, sB, sC, i64_w, i32_w]; rfl, ?_⟩
          refine pV rfl rfl (any_of HT_.out (by kernel_rfl)) (by rfl) (fun _ _ _ _ h => h) ⟨_, fun w' => by go_simp; with_reducible rfl, _, by simp only [Act.put, sA, sB, sC, i64_w, i32_w]; rfl, ?_⟩
          refine tV rfl rfl (take_ofW HT_.out HW_.out (by kernel_rfl)) (by rfl) (fun _ _ _ _ h => h) hHeld ⟨_, fun w' s => by go_simp; with_reducible rfl, _, by simp only [Act.put, sA, sB, sC, i64_w, i32_w]; rfl, ?_⟩
          iterate 3 refine pV rfl rfl (any_of HT_.out (by kernel_rfl)) (by rfl) (fun _ _ _ _ h => h) ⟨_, fun w' => by go_simp; with_reducible rfl, _, by simp only [Act.put, sA, sB, sC, i64_w, i32_w]; rfl, ?_⟩
          refine oV (N := none) rfl rfl (one_of HT_.out (by kernel_rfl)) (by decide) (fun K hK => ?_)
          have hs31 : w30.cell? ⟨gb484, 0, none⟩ = some (.int .i64 (wrap64 ((wrap64 (2 * ((rd_T50 t479 x11_2).f0))) + 1))) := cl gb484 0 (by rfl)
          have hs32 : w30.cell? ⟨gb484, 1, none⟩ = some (.int .i64 (wrap64 (2 * ((rd_T50 t479 x11_2).f1)))) := cl gb484 1 (by rfl)
          refine skip_ (w1 := ?_) (by rfl) rfl ?_ ?_
          rotate_left
          ·go_simp
           rfl
          refine hK.out _ _ ⟨((cell_far (p := ⟨gb484, _, none⟩) (by first | exact Kd.own_blk (Kd.R_ne HO_10.out (bk gb484) (by decide)) | (rw [add_block]; exact Kd.own_blk (Kd.R_ne HO_10.out (bk gb484) (by decide))) | (show (Addr.add _ _).block ≠ _; rw [add_block]; exact Kd.own_blk (Kd.R_ne HO_10.out (bk gb484) (by decide))) | (dsimp only; exact Kd.own_blk (Kd.R_ne HO_10.out (bk gb484) (by decide)))) _).trans (((cell_far (p := ⟨gb484, _, none⟩) (by first | exact Kd.own_blk (Kd.R_ne HO_10.out (bk gb484) (by decide)) | (rw [add_block]; exact Kd.own_blk (Kd.R_ne HO_10.out (bk gb484) (by decide))) | (show (Addr.add _ _).block ≠ _; rw [add_block]; exact Kd.own_blk (Kd.R_ne HO_10.out (bk gb484) (by decide))) | (dsimp only; exact Kd.own_blk (Kd.R_ne HO_10.out (bk gb484) (by decide)))) _).trans (hHeld.1)))), ((cell_far (p := ⟨gb484, _, none⟩) (by first | exact Kd.own_blk (Kd.R_ne HO_10.out (bk gb484) (by decide)) | (rw [add_block]; exact Kd.own_blk (Kd.R_ne HO_10.out (bk gb484) (by decide))) | (show (Addr.add _ _).block ≠ _; rw [add_block]; exact Kd.own_blk (Kd.R_ne HO_10.out (bk gb484) (by decide))) | (dsimp only; exact Kd.own_blk (Kd.R_ne HO_10.out (bk gb484) (by decide)))) _).trans (((cell_far (p := ⟨gb484, _, none⟩) (by first | exact Kd.own_blk (Kd.R_ne HO_10.out (bk gb484) (by decide)) | (rw [add_block]; exact Kd.own_blk (Kd.R_ne HO_10.out (bk gb484) (by decide))) | (show (Addr.add _ _).block ≠ _; rw [add_block]; exact Kd.own_blk (Kd.R_ne HO_10.out (bk gb484) (by decide))) | (dsimp only; exact Kd.own_blk (Kd.R_ne HO_10.out (bk gb484) (by decide)))) _).trans (hHeld.2.1)))), ((cell_far (p := ⟨gb484, _, none⟩) (by first | exact Kd.own_blk (Kd.R_ne HO_10.out (bk gb484) (by decide)) | (rw [add_block]; exact Kd.own_blk (Kd.R_ne HO_10.out (bk gb484) (by decide))) | (show (Addr.add _ _).block ≠ _; rw [add_block]; exact Kd.own_blk (Kd.R_ne HO_10.out (bk gb484) (by decide))) | (dsimp only; exact Kd.own_blk (Kd.R_ne HO_10.out (bk gb484) (by decide)))) _).trans (((cell_far (p := ⟨gb484, _, none⟩) (by first | exact Kd.own_blk (Kd.R_ne HO_10.out (bk gb484) (by decide)) | (rw [add_block]; exact Kd.own_blk (Kd.R_ne HO_10.out (bk gb484) (by decide))) | (show (Addr.add _ _).block ≠ _; rw [add_block]; exact Kd.own_blk (Kd.R_ne HO_10.out (bk gb484) (by decide))) | (dsimp only; exact Kd.own_blk (Kd.R_ne HO_10.out (bk gb484) (by decide)))) _).trans (hHeld.2.2.1)))), ((cell_far (p := ⟨gb484, _, none⟩) (by first | exact Kd.own_blk (Kd.R_ne HO_10.out (bk gb484) (by decide)) | (rw [add_block]; exact Kd.own_blk (Kd.R_ne HO_10.out (bk gb484) (by decide))) | (show (Addr.add _ _).block ≠ _; rw [add_block]; exact Kd.own_blk (Kd.R_ne HO_10.out (bk gb484) (by decide))) | (dsimp only; exact Kd.own_blk (Kd.R_ne HO_10.out (bk gb484) (by decide)))) _).trans (((cell_far (p := ⟨gb484, _, none⟩) (by first | exact Kd.own_blk (Kd.R_ne HO_10.out (bk gb484) (by decide)) | (rw [add_block]; exact Kd.own_blk (Kd.R_ne HO_10.out (bk gb484) (by decide))) | (show (Addr.add _ _).block ≠ _; rw [add_block]; exact Kd.own_blk (Kd.R_ne HO_10.out (bk gb484) (by decide))) | (dsimp only; exact Kd.own_blk (Kd.R_ne HO_10.out (bk gb484) (by decide)))) _).trans (hHeld.2.2.2.1)))), ((cell_far (p := ⟨gb484, _, none⟩) (by first | exact Kd.own_blk (Kd.R_ne HO_10.out (bk gb484) (by decide)) | (rw [add_block]; exact Kd.own_blk (Kd.R_ne HO_10.out (bk gb484) (by decide))) | (show (Addr.add _ _).block ≠ _; rw [add_block]; exact Kd.own_blk (Kd.R_ne HO_10.out (bk gb484) (by decide))) | (dsimp only; exact Kd.own_blk (Kd.R_ne HO_10.out (bk gb484) (by decide)))) _).trans (((cell_far (p := ⟨gb484, _, none⟩) (by first | exact Kd.own_blk (Kd.R_ne HO_10.out (bk gb484) (by decide)) | (rw [add_block]; exact Kd.own_blk (Kd.R_ne HO_10.out (bk gb484) (by decide))) | (show (Addr.add _ _).block ≠ _; rw [add_block]; exact Kd.own_blk (Kd.R_ne HO_10.out (bk gb484) (by decide))) | (dsimp only; exact Kd.own_blk (Kd.R_ne HO_10.out (bk gb484) (by decide)))) _).trans (hHeld.2.2.2.2.1)))), ((cell_far (p := ⟨gb484, _, none⟩) (by first | exact Kd.own_blk (Kd.R_ne HO_10.out (bk gb484) (by decide)) | (rw [add_block]; exact Kd.own_blk (Kd.R_ne HO_10.out (bk gb484) (by decide))) | (show (Addr.add _ _).block ≠ _; rw [add_block]; exact Kd.own_blk (Kd.R_ne HO_10.out (bk gb484) (by decide))) | (dsimp only; exact Kd.own_blk (Kd.R_ne HO_10.out (bk gb484) (by decide)))) _).trans (((cell_far (p := ⟨gb484, _, none⟩) (by first | exact Kd.own_blk (Kd.R_ne HO_10.out (bk gb484) (by decide)) | (rw [add_block]; exact Kd.own_blk (Kd.R_ne HO_10.out (bk gb484) (by decide))) | (show (Addr.add _ _).block ≠ _; rw [add_block]; exact Kd.own_blk (Kd.R_ne HO_10.out (bk gb484) (by decide))) | (dsimp only; exact Kd.own_blk (Kd.R_ne HO_10.out (bk gb484) (by decide)))) _).trans (hHeld.2.2.2.2.2))))⟩ (fun hHeld => ?_)
          clear hK K
          refine dV (done_of HT_.out (by kernel_rfl)) ?_
          try go_wp2
          go_meet
          case rel => exact ⟨_, (wrap64 (2 * ((rd_T50 t479 x11_2).f0))), (wrap64 ((wrap64 (2 * ((rd_T50 t479 x11_2).f1))) + 1)), H', ⟨by have := HJ3.out; have := HK2.out; first | omega | exact Nat.le_refl _⟩, ⟨by (with_reducible repeat (first | apply Kd.R_alloc | apply Kd.R_drewN | apply Kd.R_drew)); exact Kd.R_mono (Kd.R_far (p := ⟨gb484, 1, none⟩) (Kd.R_far (p := ⟨gb484, 0, none⟩) (Kd.R_types HO_8.out (bk gb484) (by decide)) (fun _ hk => hk.2) (.int .i64 (wrap64 (2 * ((rd_T50 t479 x11_2).f0))))) (fun _ hk => hk.2) (.int .i64 (wrap64 ((wrap64 (2 * ((rd_T50 t479 x11_2).f1))) + 1)))) (fun _ hk => ⟨hk.1.1, hk.1.2⟩)⟩, ⟨by (with_reducible repeat (first | apply Kd.R_alloc | apply Kd.R_drewN | apply Kd.R_drew)); exact Kd.R_mono (Kd.R_far (p := ⟨gb484, 1, none⟩) (Kd.R_far (p := ⟨gb484, 0, none⟩) (Kd.R_types HO_9.out (bk gb484) (by decide)) (fun _ hk => hk.2) (.int .i64 (wrap64 (2 * ((rd_T50 t479 x11_2).f0))))) (fun _ hk => hk.2) (.int .i64 (wrap64 ((wrap64 (2 * ((rd_T50 t479 x11_2).f1))) + 1)))) (fun _ hk => ⟨hk.1.1, hk.1.2⟩)⟩, ⟨by (with_reducible repeat (first | apply Kd.R_alloc | apply Kd.R_drewN | apply Kd.R_drew)); exact Kd.R_mono (Kd.R_far (p := ⟨gb484, 1, none⟩) (Kd.R_far (p := ⟨gb484, 0, none⟩) (Kd.R_types HO_10.out (bk gb484) (by decide)) (fun _ hk => hk.2) (.int .i64 (wrap64 (2 * ((rd_T50 t479 x11_2).f0))))) (fun _ hk => hk.2) (.int .i64 (wrap64 ((wrap64 (2 * ((rd_T50 t479 x11_2).f1))) + 1)))) (fun _ hk => ⟨hk.1.1, hk.1.2⟩)⟩, bM (by rfl), ⟨uw w⟩⟩
         ·have H' := As.mk H
          clear H
          go_wp2
          go_meet
          case rel => exact ⟨_, (wrap64 ((wrap64 (2 * ((rd_T50 t479 x11_2).f0))) + 1)), (wrap64 (2 * ((rd_T50 t479 x11_2).f1))), H', ⟨by have := HJ3.out; have := HK2.out; first | omega | exact Nat.le_refl _⟩, ⟨by (with_reducible repeat (first | apply Kd.R_alloc | apply Kd.R_drewN | apply Kd.R_drew)); exact Kd.R_mono (Kd.R_far (p := ⟨gb484, 1, none⟩) (Kd.R_far (p := ⟨gb484, 0, none⟩) (Kd.R_types HO_8.out (bk gb484) (by decide)) (fun _ hk => hk.2) (.int .i64 (wrap64 ((wrap64 (2 * ((rd_T50 t479 x11_2).f0))) + 1)))) (fun _ hk => hk.2) (.int .i64 (wrap64 (2 * ((rd_T50 t479 x11_2).f1))))) (fun _ hk => ⟨hk.1.1, hk.1.2⟩)⟩, ⟨by (with_reducible repeat (first | apply Kd.R_alloc | apply Kd.R_drewN | apply Kd.R_drew)); exact Kd.R_mono (Kd.R_far (p := ⟨gb484, 1, none⟩) (Kd.R_far (p := ⟨gb484, 0, none⟩) (Kd.R_types HO_9.out (bk gb484) (by decide)) (fun _ hk => hk.2) (.int .i64 (wrap64 ((wrap64 (2 * ((rd_T50 t479 x11_2).f0))) + 1)))) (fun _ hk => hk.2) (.int .i64 (wrap64 (2 * ((rd_T50 t479 x11_2).f1))))) (fun _ hk => ⟨hk.1.1, hk.1.2⟩)⟩, ⟨by (with_reducible repeat (first | apply Kd.R_alloc | apply Kd.R_drewN | apply Kd.R_drew)); exact Kd.R_mono (Kd.R_far (p := ⟨gb484, 1, none⟩) (Kd.R_far (p := ⟨gb484, 0, none⟩) (Kd.R_types HO_10.out (bk gb484) (by decide)) (fun _ hk => hk.2) (.int .i64 (wrap64 ((wrap64 (2 * ((rd_T50 t479 x11_2).f0))) + 1)))) (fun _ hk => hk.2) (.int .i64 (wrap64 (2 * ((rd_T50 t479 x11_2).f1))))) (fun _ hk => ⟨hk.1.1, hk.1.2⟩)⟩, bM (by rfl), ⟨uw w⟩⟩
        case rest =>
         clear HC21
         try clear c14
         try clear c19
         try clear c19b0
         try clear c20
         try clear c20b0
         try clear hx482_0
         try clear hx482_1
         try clear hx482_2
         try clear hx483_0
         try clear hx483_1
         try clear hx483_2
         try clear hx485_0
         try clear hx485_1
         try clear hx485_2
         try clear p482
         try clear p483
         try clear p485
         try clear q482
         try clear q483
         try clear q485
         obtain ⟨kq, x485000_20, x485001_20, HA, HJ20, HO_8, HO_9, HO_10, BK484, HB⟩ := hcut
         cases kq with
         | zero => exact absurd HA.out (by simp [s_TreeOfTiling.j2])
         | succ kj20 =>
          have H := HA.out
          clear HA
          simp only [s_TreeOfTiling.j2] at H
          obtain ⟨t488, A33, H⟩ := bI H
          by_cases c34 : 0 ≤ t488
          ·rw [if_pos c34] at H
           have c34b0 : decide (0 ≤ t488) = true := decide_eq_true c34
           clear c34
           by_cases c35 : t488 < (l2.length : Int)
           ·rw [if_pos c35] at H
            have c35b0 : decide (t488 < (l2.length : Int)) = true := decide_eq_true c35
            clear c35
            obtain ⟨⟨t491, t492, t493, t494⟩, A36, H⟩ := bI H
            dsimp only at H
            have HC37 := As.mk H
            clear H
            go_upto_region 14 with (first | ((with_reducible refine gC 120 rfl ?_); refine gK (some 78) rfl rfl Try.func120 (by kernel_rfl) rfl #[.slice A2 l2.length c2, .agg #[.int .i64 x485000_20, .int .i64 x485001_20]] rfl (by (try simp only [sD, sE, sF]); first | done | rfl) (s_DominoAt.calls kj20 _ _ l2 x485000_20 x485001_20 t488 _ ?side1 ?side2 A33.out) ?_; (case side1 => exact (Kd.C_below HR2.out (uw w))); (case side2 => exact HC2.out); intro w39 sb; have hb := sb.out; replace HO_8 := hB HO_8 hb; replace HO_9 := hB HO_9 hb; replace HO_10 := hB HO_10 hb; have p489 : 0 ≤ (t488 : Int) := oD; have q489 : t488 < (l2.length : Int) := oD; obtain ⟨ad489, e489, hx489_0, hx489_1, hx489_2⟩ := at_T41 HR2.out t488 p489 q489; cases e489; replace hx489_0 := cx w39 hx489_0; replace hx489_1 := cx w39 hx489_1; replace hx489_2 := cx w39 hx489_2; replace p489 := eq_true p489; replace q489 := eq_true q489) | ((with_reducible refine gD 13 rfl ?_); refine bxE rfl #[.int .i64 0, .int .i64 0, .bool false] 41 ?_ ?_; (focus first | (go_simp; done) | (go_simp; rfl)); intro gb490 _ w40 sb _; have hb := sb.out; have hg := nw gb490; have hbox := bk gb490 (w := w40); replace HO_8 := hB HO_8 hb; replace HO_9 := hB HO_9 hb; replace HO_10 := hB HO_10 hb; clear hb hg hbox) | ((with_reducible refine gC 70 rfl ?_); refine gK (some 83) rfl rfl Try.func70 (by kernel_rfl) rfl #[.agg #[.int .i64 ((rd_T41 l2 t488).f0), .int .i64 ((rd_T41 l2 t488).f1), .bool ((rd_T41 l2 t488).f2)]] rfl (by (try simp only [sD, sE, sF]); first | done | rfl) (s_CellsUnder.calls ((rd_T41 l2 t488).f0) ((rd_T41 l2 t488).f1) ((rd_T41 l2 t488).f2) t491 t492 t493 t494 _ A36.out) ?_; intro w43 sb; have hb := sb.out; replace HO_8 := As.mk (Kd.R_below (by (with_reducible repeat (first | apply Kd.R_alloc | apply Kd.R_drewN | apply Kd.R_drew)); exact (Kd.R_mono (Kd.R_far (p := ⟨gb490, 2, none⟩) (Kd.R_far (p := ⟨gb490, 1, none⟩) (Kd.R_far (p := ⟨gb490, 0, none⟩) (Kd.R_types HO_8.out (bk gb490) (by decide)) (fun _ hk => hk.2) (.int .i64 ((rd_T41 l2 t488).f0))) (fun _ hk => hk.2) (.int .i64 ((rd_T41 l2 t488).f1))) (fun _ hk => hk.2) (.bool ((rd_T41 l2 t488).f2))) (fun _ h_ => h_.1))) hb); replace HO_9 := As.mk (Kd.R_below (by (with_reducible repeat (first | apply Kd.R_alloc | apply Kd.R_drewN | apply Kd.R_drew)); exact (Kd.R_mono (Kd.R_far (p := ⟨gb490, 2, none⟩) (Kd.R_far (p := ⟨gb490, 1, none⟩) (Kd.R_far (p := ⟨gb490, 0, none⟩) (Kd.R_types HO_9.out (bk gb490) (by decide)) (fun _ hk => hk.2) (.int .i64 ((rd_T41 l2 t488).f0))) (fun _ hk => hk.2) (.int .i64 ((rd_T41 l2 t488).f1))) (fun _ hk => hk.2) (.bool ((rd_T41 l2 t488).f2))) (fun _ h_ => h_.1))) hb); replace HO_10 := As.mk (Kd.R_below (by (with_reducible repeat (first | apply Kd.R_alloc | apply Kd.R_drewN | apply Kd.R_drew)); exact (Kd.R_mono (Kd.R_far (p := ⟨gb490, 2, none⟩) (Kd.R_far (p := ⟨gb490, 1, none⟩) (Kd.R_far (p := ⟨gb490, 0, none⟩) (Kd.R_types HO_10.out (bk gb490) (by decide)) (fun _ hk => hk.2) (.int .i64 ((rd_T41 l2 t488).f0))) (fun _ hk => hk.2) (.int .i64 ((rd_T41 l2 t488).f1))) (fun _ hk => hk.2) (.bool ((rd_T41 l2 t488).f2))) (fun _ h_ => h_.1))) hb)) | ((with_reducible refine gD 14 rfl ?_); refine bxE rfl #[.int .i64 0, .int .i64 0] 39 ?_ ?_; (focus first | (go_simp; done) | (go_simp; rfl)); intro gb495 _ w44 sb _; have hb := sb.out; have hg := nw gb495; have hbox := bk gb495 (w := w44); replace HO_8 := hB HO_8 hb; replace HO_9 := hB HO_9 hb; replace HO_10 := hB HO_10 hb; clear hb hg hbox) | ((with_reducible refine gD 15 rfl ?_); refine bxE rfl #[.int .i64 0, .int .i64 0] 39 ?_ ?_; (focus first | (go_simp; done) | (go_simp; rfl)); intro gb496 _ w45 sb _; have hb := sb.out; have hg := nw gb496; have hbox := bk gb496 (w := w45); replace HO_8 := hB HO_8 hb; replace HO_9 := hB HO_9 hb; replace HO_10 := hB HO_10 hb; clear hb hg hbox))
            (try simp only [Act.put, List.setIfInBounds_toArray, List.set_cons_zero, List.set_cons_succ])
            go_cut [107] (fun v107 wc => ∃ (kq : Nat) (x107_36 : Bool), v107 = .bool x107_36 ∧ As (s_TreeOfTiling.j3 kq a0 a1 l2 y468 x9_2 t479 x11_2 x107_36 = some (r1, r2)) ∧ As (kq ≤ kj20) ∧ As (Kd.R k50 50 wc w.heap.size (fun k_ => some k_ ≠ (u9 : Value).ownBlock ∧ some k_ ≠ ((.slice (some ad482) t479.length co22) : Value).ownBlock) v469 y468) ∧ As (Kd.R k50 50 wc w.heap.size (fun k_ => some k_ ≠ (v469 : Value).ownBlock ∧ some k_ ≠ ((.slice (some ad482) t479.length co22) : Value).ownBlock) u9 x9_2) ∧ As (Kd.R k50 50 wc w.heap.size (fun k_ => some k_ ≠ (v469 : Value).ownBlock ∧ some k_ ≠ (u9 : Value).ownBlock) (.slice (some ad482) t479.length co22) t479) ∧ Bk wc gb484 (.cells #[.int .i64 x485000_20, .int .i64 x485001_20] 39 (0, 0)) ∧ Bk wc gb490 (.cells #[.int .i64 ((rd_T41 l2 t488).f0), .int .i64 ((rd_T41 l2 t488).f1), .bool ((rd_T41 l2 t488).f2)] 41 (0, 0)) ∧ Bk wc gb495 (.cells #[.int .i64 t491, .int .i64 t492] 39 (0, 0)) ∧ Bk wc gb496 (.cells #[.int .i64 t493, .int .i64 t494] 39 (0, 0)) ∧ Up w wc)
            case first =>
             have H := HC37.out
             clear HC37
             by_cases c53 : (Int.tmod t491 2) = 0
             ·rw [if_pos c53] at H
              have c53b0 : ((Int.tmod t491 2) == 0) = true := beq_iff_eq.mpr c53
              have c53b1 : ((Int.tmod t491 2) != 0) = false := bne_eq_false_iff_eq.mpr c53
              clear c53
              (first | rw [c53b0] | (simp only [i64_w, i32_w]; rw [c53b0]) | skip)
              by_cases c54 : (Int.tmod t492 2) = 0
              ·rw [if_pos c54] at H
               have c54b0 : ((Int.tmod t492 2) == 0) = true := beq_iff_eq.mpr c54
               have c54b1 : ((Int.tmod t492 2) != 0) = false := bne_eq_false_iff_eq.mpr c54
               clear c54
               have H' := As.mk H
               clear H
               go_wp2
               go_meet
               have g0_ : Fc (w.heap.size ≤ gb484) := inferInstance
               have g1_ : Fc (w.heap.size ≤ gb490) := inferInstance
               have g2_ : Fc (w.heap.size ≤ gb495) := inferInstance
               have g3_ : Fc (w.heap.size ≤ gb496) := inferInstance
               have f0_ : Fc (gb484 ≠ gb490) := inferInstance
               have f1_ : Fc (gb484 ≠ gb495) := inferInstance
               have f2_ : Fc (gb484 ≠ gb496) := inferInstance
               have f3_ : Fc (gb490 ≠ gb495) := inferInstance
               have f4_ : Fc (gb490 ≠ gb496) := inferInstance
               have f5_ : Fc (gb495 ≠ gb496) := inferInstance
               case rel => exact ⟨_, (true), (by first | rfl | (simp; done) | (simp [*]; done)), H', ⟨by have := HJ3.out; have := HK2.out; have := HJ20.out; first | omega | exact Nat.le_refl _⟩, ⟨by (with_reducible repeat (first | apply Kd.R_alloc | apply Kd.R_drewN | apply Kd.R_drew)); exact Kd.R_mono (Kd.R_far (p := ⟨gb496, 1, none⟩) (Kd.R_far (p := ⟨gb496, 0, none⟩) (Kd.R_far (p := ⟨gb495, 1, none⟩) (Kd.R_far (p := ⟨gb495, 0, none⟩) (Kd.R_types (Kd.R_types HO_8.out (bk gb495) (by decide)) (bk gb496) (by decide)) (fun _ hk => hk.1.2) (.int .i64 t491)) (fun _ hk => hk.1.2) (.int .i64 t492)) (fun _ hk => hk.2) (.int .i64 t493)) (fun _ hk => hk.2) (.int .i64 t494)) (fun _ hk => ⟨hk.1.1.1, hk.1.1.2⟩)⟩, ⟨by (with_reducible repeat (first | apply Kd.R_alloc | apply Kd.R_drewN | apply Kd.R_drew)); exact Kd.R_mono (Kd.R_far (p := ⟨gb496, 1, none⟩) (Kd.R_far (p := ⟨gb496, 0, none⟩) (Kd.R_far (p := ⟨gb495, 1, none⟩) (Kd.R_far (p := ⟨gb495, 0, none⟩) (Kd.R_types (Kd.R_types HO_9.out (bk gb495) (by decide)) (bk gb496) (by decide)) (fun _ hk => hk.1.2) (.int .i64 t491)) (fun _ hk => hk.1.2) (.int .i64 t492)) (fun _ hk => hk.2) (.int .i64 t493)) (fun _ hk => hk.2) (.int .i64 t494)) (fun _ hk => ⟨hk.1.1.1, hk.1.1.2⟩)⟩, ⟨by (with_reducible repeat (first | apply Kd.R_alloc | apply Kd.R_drewN | apply Kd.R_drew)); exact Kd.R_mono (Kd.R_far (p := ⟨gb496, 1, none⟩) (Kd.R_far (p := ⟨gb496, 0, none⟩) (Kd.R_far (p := ⟨gb495, 1, none⟩) (Kd.R_far (p := ⟨gb495, 0, none⟩) (Kd.R_types (Kd.R_types HO_10.out (bk gb495) (by decide)) (bk gb496) (by decide)) (fun _ hk => hk.1.2) (.int .i64 t491)) (fun _ hk => hk.1.2) (.int .i64 t492)) (fun _ hk => hk.2) (.int .i64 t493)) (fun _ hk => hk.2) (.int .i64 t494)) (fun _ hk => ⟨hk.1.1.1, hk.1.1.2⟩)⟩, bM (by rfl), bM (by rfl), bM (by rfl), bM (by rfl), ⟨uw w⟩⟩
              ·rw [if_neg c54] at H
               have c54b0 : ((Int.tmod t492 2) == 0) = false := beq_eq_false_iff_ne.mpr c54
               have c54b1 : ((Int.tmod t492 2) != 0) = true := bne_iff_ne.mpr c54
               by_cases c59 : (Int.tmod t493 2) = 0
               ·rw [if_pos c59] at H
                have c59b0 : ((Int.tmod t493 2) == 0) = true := beq_iff_eq.mpr c59
                have c59b1 : ((Int.tmod t493 2) != 0) = false := bne_eq_false_iff_eq.mpr c59
                clear c59
                have H' := As.mk H
                clear H
                go_wp2
                go_meet
                have g0_ : Fc (w.heap.size ≤ gb484) := inferInstance
                have g1_ : Fc (w.heap.size ≤ gb490) := inferInstance
                have g2_ : Fc (w.heap.size ≤ gb495) := inferInstance
                have g3_ : Fc (w.heap.size ≤ gb496) := inferInstance
                have f0_ : Fc (gb484 ≠ gb490) := inferInstance
                have f1_ : Fc (gb484 ≠ gb495) := inferInstance
                have f2_ : Fc (gb484 ≠ gb496) := inferInstance
                have f3_ : Fc (gb490 ≠ gb495) := inferInstance
                have f4_ : Fc (gb490 ≠ gb496) := inferInstance
                have f5_ : Fc (gb495 ≠ gb496) := inferInstance
                case rel => exact ⟨_, (((Int.tmod t494 2) == 0)), (by first | rfl | (simp; done) | (simp [*]; done)), H', ⟨by have := HJ3.out; have := HK2.out; have := HJ20.out; first | omega | exact Nat.le_refl _⟩, ⟨by (with_reducible repeat (first | apply Kd.R_alloc | apply Kd.R_drewN | apply Kd.R_drew)); exact Kd.R_mono (Kd.R_far (p := ⟨gb496, 1, none⟩) (Kd.R_far (p := ⟨gb496, 0, none⟩) (Kd.R_far (p := ⟨gb495, 1, none⟩) (Kd.R_far (p := ⟨gb495, 0, none⟩) (Kd.R_types (Kd.R_types HO_8.out (bk gb495) (by decide)) (bk gb496) (by decide)) (fun _ hk => hk.1.2) (.int .i64 t491)) (fun _ hk => hk.1.2) (.int .i64 t492)) (fun _ hk => hk.2) (.int .i64 t493)) (fun _ hk => hk.2) (.int .i64 t494)) (fun _ hk => ⟨hk.1.1.1, hk.1.1.2⟩)⟩, ⟨by (with_reducible repeat (first | apply Kd.R_alloc | apply Kd.R_drewN | apply Kd.R_drew)); exact Kd.R_mono (Kd.R_far (p := ⟨gb496, 1, none⟩) (Kd.R_far (p := ⟨gb496, 0, none⟩) (Kd.R_far (p := ⟨gb495, 1, none⟩) (Kd.R_far (p := ⟨gb495, 0, none⟩) (Kd.R_types (Kd.R_types HO_9.out (bk gb495) (by decide)) (bk gb496) (by decide)) (fun _ hk => hk.1.2) (.int .i64 t491)) (fun _ hk => hk.1.2) (.int .i64 t492)) (fun _ hk => hk.2) (.int .i64 t493)) (fun _ hk => hk.2) (.int .i64 t494)) (fun _ hk => ⟨hk.1.1.1, hk.1.1.2⟩)⟩, ⟨by (with_reducible repeat (first | apply Kd.R_alloc | apply Kd.R_drewN | apply Kd.R_drew)); exact Kd.R_mono (Kd.R_far (p := ⟨gb496, 1, none⟩) (Kd.R_far (p := ⟨gb496, 0, none⟩) (Kd.R_far (p := ⟨gb495, 1, none⟩) (Kd.R_far (p := ⟨gb495, 0, none⟩) (Kd.R_types (Kd.R_types HO_10.out (bk gb495) (by decide)) (bk gb496) (by decide)) (fun _ hk => hk.1.2) (.int .i64 t491)) (fun _ hk => hk.1.2) (.int .i64 t492)) (fun _ hk => hk.2) (.int .i64 t493)) (fun _ hk => hk.2) (.int .i64 t494)) (fun _ hk => ⟨hk.1.1.1, hk.1.1.2⟩)⟩, bM (by rfl), bM (by rfl), bM (by rfl), bM (by rfl), ⟨uw w⟩⟩
               ·rw [if_neg c59] at H
                have c59b0 : ((Int.tmod t493 2) == 0) = false := beq_eq_false_iff_ne.mpr c59
                have c59b1 : ((Int.tmod t493 2) != 0) = true := bne_iff_ne.mpr c59
                have H' := As.mk H
                clear H
                go_wp2
                go_meet
                have g0_ : Fc (w.heap.size ≤ gb484) := inferInstance
                have g1_ : Fc (w.heap.size ≤ gb490) := inferInstance
                have g2_ : Fc (w.heap.size ≤ gb495) := inferInstance
                have g3_ : Fc (w.heap.size ≤ gb496) := inferInstance
                have f0_ : Fc (gb484 ≠ gb490) := inferInstance
                have f1_ : Fc (gb484 ≠ gb495) := inferInstance
                have f2_ : Fc (gb484 ≠ gb496) := inferInstance
                have f3_ : Fc (gb490 ≠ gb495) := inferInstance
                have f4_ : Fc (gb490 ≠ gb496) := inferInstance
                have f5_ : Fc (gb495 ≠ gb496) := inferInstance
                case rel => exact ⟨_, (false), (by first | rfl | (simp; done) | (simp [*]; done)), H', ⟨by have := HJ3.out; have := HK2.out; have := HJ20.out; first | omega | exact Nat.le_refl _⟩, ⟨by (with_reducible repeat (first | apply Kd.R_alloc | apply Kd.R_drewN | apply Kd.R_drew)); exact Kd.R_mono (Kd.R_far (p := ⟨gb496, 1, none⟩) (Kd.R_far (p := ⟨gb496, 0, none⟩) (Kd.R_far (p := ⟨gb495, 1, none⟩) (Kd.R_far (p := ⟨gb495, 0, none⟩) (Kd.R_types (Kd.R_types HO_8.out (bk gb495) (by decide)) (bk gb496) (by decide)) (fun _ hk => hk.1.2) (.int .i64 t491)) (fun _ hk => hk.1.2) (.int .i64 t492)) (fun _ hk => hk.2) (.int .i64 t493)) (fun _ hk => hk.2) (.int .i64 t494)) (fun _ hk => ⟨hk.1.1.1, hk.1.1.2⟩)⟩, ⟨by (with_reducible repeat (first | apply Kd.R_alloc | apply Kd.R_drewN | apply Kd.R_drew)); exact Kd.R_mono (Kd.R_far (p := ⟨gb496, 1, none⟩) (Kd.R_far (p := ⟨gb496, 0, none⟩) (Kd.R_far (p := ⟨gb495, 1, none⟩) (Kd.R_far (p := ⟨gb495, 0, none⟩) (Kd.R_types (Kd.R_types HO_9.out (bk gb495) (by decide)) (bk gb496) (by decide)) (fun _ hk => hk.1.2) (.int .i64 t491)) (fun _ hk => hk.1.2) (.int .i64 t492)) (fun _ hk => hk.2) (.int .i64 t493)) (fun _ hk => hk.2) (.int .i64 t494)) (fun _ hk => ⟨hk.1.1.1, hk.1.1.2⟩)⟩, ⟨by (with_reducible repeat (first | apply Kd.R_alloc | apply Kd.R_drewN | apply Kd.R_drew)); exact Kd.R_mono (Kd.R_far (p := ⟨gb496, 1, none⟩) (Kd.R_far (p := ⟨gb496, 0, none⟩) (Kd.R_far (p := ⟨gb495, 1, none⟩) (Kd.R_far (p := ⟨gb495, 0, none⟩) (Kd.R_types (Kd.R_types HO_10.out (bk gb495) (by decide)) (bk gb496) (by decide)) (fun _ hk => hk.1.2) (.int .i64 t491)) (fun _ hk => hk.1.2) (.int .i64 t492)) (fun _ hk => hk.2) (.int .i64 t493)) (fun _ hk => hk.2) (.int .i64 t494)) (fun _ hk => ⟨hk.1.1.1, hk.1.1.2⟩)⟩, bM (by rfl), bM (by rfl), bM (by rfl), bM (by rfl), ⟨uw w⟩⟩
             ·rw [if_neg c53] at H
              have c53b0 : ((Int.tmod t491 2) == 0) = false := beq_eq_false_iff_ne.mpr c53
              have c53b1 : ((Int.tmod t491 2) != 0) = true := bne_iff_ne.mpr c53
              (first | rw [c53b0] | (simp only [i64_w, i32_w]; rw [c53b0]) | skip)
              by_cases c74 : (Int.tmod t493 2) = 0
              ·rw [if_pos c74] at H
               have c74b0 : ((Int.tmod t493 2) == 0) = true := beq_iff_eq.mpr c74
               have c74b1 : ((Int.tmod t493 2) != 0) = false := bne_eq_false_iff_eq.mpr c74
               clear c74
               have H' := As.mk H
               clear H
               go_wp2
               go_meet
               have g0_ : Fc (w.heap.size ≤ gb484) := inferInstance
               have g1_ : Fc (w.heap.size ≤ gb490) := inferInstance
               have g2_ : Fc (w.heap.size ≤ gb495) := inferInstance
               have g3_ : Fc (w.heap.size ≤ gb496) := inferInstance
               have f0_ : Fc (gb484 ≠ gb490) := inferInstance
               have f1_ : Fc (gb484 ≠ gb495) := inferInstance
               have f2_ : Fc (gb484 ≠ gb496) := inferInstance
               have f3_ : Fc (gb490 ≠ gb495) := inferInstance
               have f4_ : Fc (gb490 ≠ gb496) := inferInstance
               have f5_ : Fc (gb495 ≠ gb496) := inferInstance
               case rel => exact ⟨_, (((Int.tmod t494 2) == 0)), (by first | rfl | (simp; done) | (simp [*]; done)), H', ⟨by have := HJ3.out; have := HK2.out; have := HJ20.out; first | omega | exact Nat.le_refl _⟩, ⟨by (with_reducible repeat (first | apply Kd.R_alloc | apply Kd.R_drewN | apply Kd.R_drew)); exact Kd.R_mono (Kd.R_far (p := ⟨gb496, 1, none⟩) (Kd.R_far (p := ⟨gb496, 0, none⟩) (Kd.R_far (p := ⟨gb495, 1, none⟩) (Kd.R_far (p := ⟨gb495, 0, none⟩) (Kd.R_types (Kd.R_types HO_8.out (bk gb495) (by decide)) (bk gb496) (by decide)) (fun _ hk => hk.1.2) (.int .i64 t491)) (fun _ hk => hk.1.2) (.int .i64 t492)) (fun _ hk => hk.2) (.int .i64 t493)) (fun _ hk => hk.2) (.int .i64 t494)) (fun _ hk => ⟨hk.1.1.1, hk.1.1.2⟩)⟩, ⟨by (with_reducible repeat (first | apply Kd.R_alloc | apply Kd.R_drewN | apply Kd.R_drew)); exact Kd.R_mono (Kd.R_far (p := ⟨gb496, 1, none⟩) (Kd.R_far (p := ⟨gb496, 0, none⟩) (Kd.R_far (p := ⟨gb495, 1, none⟩) (Kd.R_far (p := ⟨gb495, 0, none⟩) (Kd.R_types (Kd.R_types HO_9.out (bk gb495) (by decide)) (bk gb496) (by decide)) (fun _ hk => hk.1.2) (.int .i64 t491)) (fun _ hk => hk.1.2) (.int .i64 t492)) (fun _ hk => hk.2) (.int .i64 t493)) (fun _ hk => hk.2) (.int .i64 t494)) (fun _ hk => ⟨hk.1.1.1, hk.1.1.2⟩)⟩, ⟨by (with_reducible repeat (first | apply Kd.R_alloc | apply Kd.R_drewN | apply Kd.R_drew)); exact Kd.R_mono (Kd.R_far (p := ⟨gb496, 1, none⟩) (Kd.R_far (p := ⟨gb496, 0, none⟩) (Kd.R_far (p := ⟨gb495, 1, none⟩) (Kd.R_far (p := ⟨gb495, 0, none⟩) (Kd.R_types (Kd.R_types HO_10.out (bk gb495) (by decide)) (bk gb496) (by decide)) (fun _ hk => hk.1.2) (.int .i64 t491)) (fun _ hk => hk.1.2) (.int .i64 t492)) (fun _ hk => hk.2) (.int .i64 t493)) (fun _ hk => hk.2) (.int .i64 t494)) (fun _ hk => ⟨hk.1.1.1, hk.1.1.2⟩)⟩, bM (by rfl), bM (by rfl), bM (by rfl), bM (by rfl), ⟨uw w⟩⟩
              ·rw [if_neg c74] at H
               have c74b0 : ((Int.tmod t493 2) == 0) = false := beq_eq_false_iff_ne.mpr c74
               have c74b1 : ((Int.tmod t493 2) != 0) = true := bne_iff_ne.mpr c74
               have H' := As.mk H
               clear H
               go_wp2
               go_meet
               have g0_ : Fc (w.heap.size ≤ gb484) := inferInstance
               have g1_ : Fc (w.heap.size ≤ gb490) := inferInstance
               have g2_ : Fc (w.heap.size ≤ gb495) := inferInstance
               have g3_ : Fc (w.heap.size ≤ gb496) := inferInstance
               have f0_ : Fc (gb484 ≠ gb490) := inferInstance
               have f1_ : Fc (gb484 ≠ gb495) := inferInstance
               have f2_ : Fc (gb484 ≠ gb496) := inferInstance
               have f3_ : Fc (gb490 ≠ gb495) := inferInstance
               have f4_ : Fc (gb490 ≠ gb496) := inferInstance
               have f5_ : Fc (gb495 ≠ gb496) := inferInstance
               case rel => exact ⟨_, (false), (by first | rfl | (simp; done) | (simp [*]; done)), H', ⟨by have := HJ3.out; have := HK2.out; have := HJ20.out; first | omega | exact Nat.le_refl _⟩, ⟨by (with_reducible repeat (first | apply Kd.R_alloc | apply Kd.R_drewN | apply Kd.R_drew)); exact Kd.R_mono (Kd.R_far (p := ⟨gb496, 1, none⟩) (Kd.R_far (p := ⟨gb496, 0, none⟩) (Kd.R_far (p := ⟨gb495, 1, none⟩) (Kd.R_far (p := ⟨gb495, 0, none⟩) (Kd.R_types (Kd.R_types HO_8.out (bk gb495) (by decide)) (bk gb496) (by decide)) (fun _ hk => hk.1.2) (.int .i64 t491)) (fun _ hk => hk.1.2) (.int .i64 t492)) (fun _ hk => hk.2) (.int .i64 t493)) (fun _ hk => hk.2) (.int .i64 t494)) (fun _ hk => ⟨hk.1.1.1, hk.1.1.2⟩)⟩, ⟨by (with_reducible repeat (first | apply Kd.R_alloc | apply Kd.R_drewN | apply Kd.R_drew)); exact Kd.R_mono (Kd.R_far (p := ⟨gb496, 1, none⟩) (Kd.R_far (p := ⟨gb496, 0, none⟩) (Kd.R_far (p := ⟨gb495, 1, none⟩) (Kd.R_far (p := ⟨gb495, 0, none⟩) (Kd.R_types (Kd.R_types HO_9.out (bk gb495) (by decide)) (bk gb496) (by decide)) (fun _ hk => hk.1.2) (.int .i64 t491)) (fun _ hk => hk.1.2) (.int .i64 t492)) (fun _ hk => hk.2) (.int .i64 t493)) (fun _ hk => hk.2) (.int .i64 t494)) (fun _ hk => ⟨hk.1.1.1, hk.1.1.2⟩)⟩, ⟨by (with_reducible repeat (first | apply Kd.R_alloc | apply Kd.R_drewN | apply Kd.R_drew)); exact Kd.R_mono (Kd.R_far (p := ⟨gb496, 1, none⟩) (Kd.R_far (p := ⟨gb496, 0, none⟩) (Kd.R_far (p := ⟨gb495, 1, none⟩) (Kd.R_far (p := ⟨gb495, 0, none⟩) (Kd.R_types (Kd.R_types HO_10.out (bk gb495) (by decide)) (bk gb496) (by decide)) (fun _ hk => hk.1.2) (.int .i64 t491)) (fun _ hk => hk.1.2) (.int .i64 t492)) (fun _ hk => hk.2) (.int .i64 t493)) (fun _ hk => hk.2) (.int .i64 t494)) (fun _ hk => ⟨hk.1.1.1, hk.1.1.2⟩)⟩, bM (by rfl), bM (by rfl), bM (by rfl), bM (by rfl), ⟨uw w⟩⟩
            case rest =>
             clear HC37
             try clear c14
             try clear c19
             try clear c19b0
             try clear c20
             try clear c20b0
             try clear c34
             try clear c34b0
             try clear c35
             try clear c35b0
             try clear hx482_0
             try clear hx482_1
             try clear hx482_2
             try clear hx483_0
             try clear hx483_1
             try clear hx483_2
             try clear hx485_0
             try clear hx485_1
             try clear hx485_2
             try clear hx489_0
             try clear hx489_1
             try clear hx489_2
             try clear p482
             try clear p483
             try clear p485
             try clear p489
             try clear q482
             try clear q483
             try clear q485
             try clear q489
             obtain ⟨kq, x107_36, rfl, HA, HJ36, HO_8, HO_9, HO_10, BK484, BK490, BK495, BK496, HB⟩ := hcut
             cases kq with
             | zero => exact absurd HA.out (by simp [s_TreeOfTiling.j3])
             | succ kj36 =>
              have H := HA.out
              clear HA
              simp only [s_TreeOfTiling.j3] at H
              replace H := bT H; rcases H with ⟨rfl, H⟩ | ⟨rfl, H⟩
              ·by_cases c90 : 0 ≤ x11_2
               ·rw [if_pos c90] at H
                have c90b0 : decide (0 ≤ x11_2) = true := decide_eq_true c90
                clear c90
                by_cases c91 : x11_2 < (t479.length : Int)
                ·rw [if_pos c91] at H
                 have c91b0 : decide (x11_2 < (t479.length : Int)) = true := decide_eq_true c91
                 clear c91
                 by_cases c92 : x9_2.length < 5864062014805
                 ·rw [if_pos c92] at H
                  have LMc92 := As.mk c92
                  clear c92
                  obtain ⟨y498, hy498⟩ : ∃ y_ : List (S50), y_ = (x9_2 ++ [(⟨(rd_T50 t479 x11_2).f0, (rd_T50 t479 x11_2).f1, (rd_T50 t479 x11_2).f2⟩ : S50)]) := ⟨_, rfl⟩
                  replace H : (s_TreeOfTiling.l0 kj36 a0 a1 l2 y468 y498 t479 (wrap64 (x11_2 + 1))) = some (r1, r2) := by first | (rw [hy498]; with_reducible exact H) | (have H2_ := (Option.bind_some _ _).symm.trans H; rw [hy498]; with_reducible exact H2_) | (have H2_ := (Option.bind_some _ _).symm.trans H; with_reducible exact H2_) | with_reducible exact H | (rw [hy498]; exact H) | exact H
                  have Ny498 := As.mk hy498
                  clear hy498
                  have H' := As.mk H
                  clear H
                  have p497 : 0 ≤ (x11_2 : Int) := oD
                  have q497 : x11_2 < (t479.length : Int) := oD
                  obtain ⟨ad497, e497, hx497_0, hx497_1, hx497_2⟩ := at_T50 (Kd.R_reads' HO_10.out).2.2 x11_2 p497 q497
                  obtain rfl : ad482 = ad497 := (by injection e497)
                  replace p497 := eq_true p497
                  replace q497 := eq_true q497
                  go_wp2_with (first | ((with_reducible refine gate_builtin (b := .append) (xs := #[.tmp 108, .tmp 113]) rfl ?_); at_builtin; refine Kd.R_append k50 (w0 := w) w.heap.size rfl (.tmp 108) (.tmp 113) 44 50 (.agg #[(.int .i64 0), (.int .i64 0), (.bool false)]) 24 rfl Try.underlying44 info50 rfl (by decide) (by omega) u9 x9_2 (⟨(rd_T50 t479 x11_2).f0, (rd_T50 t479 x11_2).f1, (rd_T50 t479 x11_2).f2⟩ : S50) [.int .i64 ((rd_T50 t479 x11_2).f0), .int .i64 ((rd_T50 t479 x11_2).f1), .bool ((rd_T50 t479 x11_2).f2)] (fun k_ => some k_ ≠ (v469 : Value).ownBlock ∧ some k_ ≠ (.slice (some ad482) t479.length co22 : Value).ownBlock) (fun _ => False) rfl rfl ?aP (fun _ hk => hk.elim) ?aF ?aO ?aB ?aS ?aL ?_; (case aP => exact k50_mkM _ _ _ (⟨(rd_T50 t479 x11_2).f0, (rd_T50 t479 x11_2).f1, (rd_T50 t479 x11_2).f2⟩ : S50)); (case aB => exact (uw w)); (case aF => exact (fun k_ hk => ⟨Kd.fresh' (Kd.R_lt (rX HO_8.out)) k_ hk, Kd.fresh' (Kd.R_lt (rX HO_10.out)) k_ hk⟩)); (case aO => exact (rX HO_9.out)); (case aS => exact (below_size (uw w))); (case aL => have := LMc92.out; omega); intro v499 w93 ho hb hg hat; rw [← Ny498.out] at ho; have n0_ := As.mk (Kd.R_after (ok := (fun k_ => some k_ ≠ (.slice (some ad482) t479.length co22 : Value).ownBlock)) (by (with_reducible repeat (first | apply Kd.R_alloc | apply Kd.R_drewN | apply Kd.R_drew)); exact Kd.R_mono HO_8.out (fun _ hk => ⟨hk.2, hk.1⟩)) hg hat); have n1_ := As.mk (Kd.R_after (ok := (fun k_ => some k_ ≠ (v469 : Value).ownBlock)) (rX HO_10.out) hg hat); have n2_ := Bk.mk (blk_grown (g := gb484) (o := .cells #[.int .i64 x485000_20, .int .i64 x485001_20] 39 (0, 0)) (bkr gb484 (by rfl)) hg (Kd.R_ne HO_9.out (bk gb484) (by decide))); have n3_ := Bk.mk (blk_grown (g := gb490) (o := .cells #[.int .i64 ((rd_T41 l2 t488).f0), .int .i64 ((rd_T41 l2 t488).f1), .bool ((rd_T41 l2 t488).f2)] 41 (0, 0)) (bkr gb490 (by rfl)) hg (Kd.R_ne HO_9.out (bk gb490) (by decide))); have n4_ := Bk.mk (blk_grown (g := gb495) (o := .cells #[.int .i64 t491, .int .i64 t492] 39 (0, 0)) (bkr gb495 (by rfl)) hg (Kd.R_ne HO_9.out (bk gb495) (by decide))); have n5_ := Bk.mk (blk_grown (g := gb496) (o := .cells #[.int .i64 t493, .int .i64 t494] 39 (0, 0)) (bkr gb496 (by rfl)) hg (Kd.R_ne HO_9.out (bk gb496) (by decide))); have n6_ := Up.mk (hb); have n7_ := As.mk (ho); clear HO_8; clear HO_10; clear HO_9; have HO_8 := n0_; have HO_10 := n1_; have BK484 := n2_; have BK490 := n3_; have BK495 := n4_; have BK496 := n5_; have HB := n6_; have HO500 := n7_; clear n0_ n1_ n2_ n3_ n4_ n5_ n6_ n7_; clear ho hb hg hat))
                  go_roundg kj36
                  case measure => have := HJ3.out; have := HK2.out; have := HJ20.out; have := HJ36.out; omega
                  case rel => exact ⟨(y498), (wrap64 (x11_2 + 1)), (by first | rfl | (simp; done) | (simp [*]; done)), H', ⟨by have := HJ3.out; have := HK2.out; have := HJ20.out; have := HJ36.out; omega⟩, ⟨by (with_reducible repeat (first | apply Kd.R_alloc | apply Kd.R_drewN | apply Kd.R_drew)); exact Kd.R_mono HO_8.out (fun _ hk => ⟨hk.2, hk.1⟩)⟩, ⟨rX HO500.out⟩, ⟨rX HO_10.out⟩, ⟨uw w⟩⟩
                 ·rw [if_neg c92] at H
                  exact absurd H (by simp)
                ·rw [if_neg c91] at H
                 exact absurd H (by simp)
               ·rw [if_neg c90] at H
                exact absurd H (by simp)
              ·have H' := As.mk H
               clear H
               go_wp2
               go_roundg kj36
               case measure => have := HJ3.out; have := HK2.out; have := HJ20.out; have := HJ36.out; omega
               case rel => exact ⟨(x9_2), (wrap64 (x11_2 + 1)), (by first | rfl | (simp; done) | (simp [*]; done)), H', ⟨by have := HJ3.out; have := HK2.out; have := HJ20.out; have := HJ36.out; omega⟩, ⟨rX HO_8.out⟩, ⟨rX HO_9.out⟩, ⟨rX HO_10.out⟩, ⟨uw w⟩⟩
           ·rw [if_neg c35] at H
            exact absurd H (by simp)
          ·rw [if_neg c34] at H
           exact absurd H (by simp)
       ·rw [if_neg c20] at H
        exact absurd H (by simp)
      ·rw [if_neg c19] at H
       have c19b0 : decide (x11_2 < (t479.length : Int)) = false := decide_eq_false c19
       clear c19
       obtain ⟨⟨t501, t502⟩, A94, H⟩ := bI H
       dsimp only at H
       have HC95 := As.mk H
       clear H
       obtain ⟨Ao96, co96, eo96⟩ := Kd.R_slice HO_10.out
       subst eo96
       obtain ⟨Ao97, co97, eo97⟩ := Kd.R_slice HO_9.out
       subst eo97
       go_upto_region 17 with (first | ((with_reducible refine gC 34 rfl ?_); refine goesL_ (some 119) rfl rfl Try.func34 (by kernel_rfl) rfl #[.int .i64 a0, .int .i64 a1, .slice Ao97 x9_2.length co97] rfl (by (try simp only [sD, sE, sF]); first | done | rfl) ?_; (with_reducible refine (s_TilingOfTree.calls k2 a0 a1 _ _ x9_2 t501 t502 _ ?side1 ?side2 A94.out).mono ?_); (case side1 => repeat (first | exact (Kd.R_reads' HO_9.out).2.2 | (with_reducible refine Kd.C_alloc ?_ _) | (with_reducible refine Kd.C_drewN ?_ _) | (with_reducible refine Kd.C_drew ?_))); (case side2 => exact (Kd.R_reads' HO_9.out).2.1); rintro e w98 ⟨v503, rfl, ho0, hb⟩; refine ⟨_, rfl, ?_⟩; have := Stp.mk hb; replace HO_8 := hB HO_8 hb; replace HO_9 := hB HO_9 hb; replace HO_10 := hB HO_10 hb; have HO504 := As.mk (Kd.R_lower ho0 (below_size (uw w))); (try clear ho0)))
       (try simp only [Act.put, List.setIfInBounds_toArray, List.set_cons_zero, List.set_cons_succ])
       go_cut [129] (fun v129 wc => ∃ (kq : Nat) (x129_94 : Bool), v129 = .bool x129_94 ∧ As (s_TreeOfTiling.j4 kq y468 x9_2 x129_94 = some (r1, r2)) ∧ As (kq ≤ k2) ∧ As (Kd.R k50 50 wc w.heap.size (fun k_ => some k_ ≠ ((.slice Ao97 x9_2.length co97) : Value).ownBlock) v469 y468) ∧ As (Kd.R k50 50 wc w.heap.size (fun k_ => some k_ ≠ (v469 : Value).ownBlock) (.slice Ao97 x9_2.length co97) x9_2) ∧ Up w wc)
       case first =>
        have H := HC95.out
        clear HC95
        replace H := bT H; rcases H with ⟨rfl, H⟩ | ⟨rfl, H⟩
        ·obtain ⟨t505, A100, H⟩ := bI H
         have H' := As.mk H
         clear H
         obtain ⟨Ao101, co101, eo101⟩ := Kd.R_slice HO504.out
         subst eo101
         go_wp2_with (first | (go_at_call 106; (with_reducible refine (s_SameDominoes.calls k2 _ _ t501 _ _ l2 t505 _ ?side1 ?side2 ?side3 ?side4 A100.out).mono ?_); (case side1 => repeat (first | exact (Kd.R_reads' HO504.out).2.2 | (with_reducible refine Kd.C_alloc ?_ _) | (with_reducible refine Kd.C_drewN ?_ _) | (with_reducible refine Kd.C_drew ?_))); (case side2 => exact (Kd.R_reads' HO504.out).2.1); (case side3 => exact (Kd.C_below HR2.out (uw w))); (case side4 => exact HC2.out); rintro e w' ⟨rfl, ⟨nd, rfl⟩⟩))
         go_meet
         case rel => exact ⟨_, (!t505), (by first | rfl | (simp; done) | (simp [*]; done)), H', ⟨by have := HJ3.out; have := HK2.out; first | omega | exact Nat.le_refl _⟩, ⟨by (with_reducible repeat (first | apply Kd.R_alloc | apply Kd.R_drewN | apply Kd.R_drew)); exact Kd.R_mono HO_8.out (fun _ hk => hk.1)⟩, ⟨by (with_reducible repeat (first | apply Kd.R_alloc | apply Kd.R_drewN | apply Kd.R_drew)); exact Kd.R_mono HO_9.out (fun _ hk => hk.1)⟩, ⟨uw w⟩⟩
        ·have H' := As.mk H
         clear H
         go_wp2
         go_meet
         case rel => exact ⟨_, (true), (by first | rfl | (simp; done) | (simp [*]; done)), H', ⟨by have := HJ3.out; have := HK2.out; first | omega | exact Nat.le_refl _⟩, ⟨by (with_reducible repeat (first | apply Kd.R_alloc | apply Kd.R_drewN | apply Kd.R_drew)); exact Kd.R_mono HO_8.out (fun _ hk => hk.1)⟩, ⟨by (with_reducible repeat (first | apply Kd.R_alloc | apply Kd.R_drewN | apply Kd.R_drew)); exact Kd.R_mono HO_9.out (fun _ hk => hk.1)⟩, ⟨uw w⟩⟩
       case rest =>
        clear HC95
        try clear c14
        try clear c19
        try clear c19b0
        obtain ⟨kq, x129_94, rfl, HA, HJ94, HO_8, HO_9, HB⟩ := hcut
        cases kq with
        | zero => exact absurd HA.out (by simp [s_TreeOfTiling.j4])
        | succ kj94 =>
         have H := HA.out
         clear HA
         simp only [s_TreeOfTiling.j4] at H
         replace H := bT H; rcases H with ⟨rfl, H⟩ | ⟨rfl, H⟩
         ·simp only [Option.some.injEq, Prod.mk.injEq] at H
          obtain ⟨rfl, rfl⟩ := H
          go_wp2
          go_ret2
          exact ⟨_, by first | rfl | (simp [*, errW_none, errW_some] <;> rfl), by (with_reducible repeat (first | apply Kd.R_alloc | apply Kd.R_drewN | apply Kd.R_drew)); exact Kd.R_mono HO_8.out (fun _ hk => trivial), uw w⟩
         ·simp only [Option.some.injEq, Prod.mk.injEq] at H
          obtain ⟨rfl, rfl⟩ := H
          go_wp2
          go_ret2
          exact ⟨_, by first | rfl | (simp [*, errW_none, errW_some] <;> rfl), by (with_reducible repeat (first | apply Kd.R_alloc | apply Kd.R_drewN | apply Kd.R_drew)); exact Kd.R_mono HO_9.out (fun _ hk => trivial), uw w⟩
def l_toDomino.f (a0_0 : Int) (a0_1 : Int) (a0_2 : Bool) : Option (Int × Int × Bool) := some (a0_0, a0_1, a0_2)
set_option maxRecDepth 100000 in
theorem l_toDomino.calls (a0_0 : Int) (a0_1 : Int) (a0_2 : Bool) (r1 : Int) (r2 : Int) (r3 : Bool) (w : World) (h : l_toDomino.f a0_0 a0_1 a0_2 = some (r1, r2, r3)) :
  Calls Try.prog 121 #[.agg #[.int .i64 a0_0, .int .i64 a0_1, .bool a0_2]] w fun e w' => e = .returned (.agg #[.int .i64 r1, .int .i64 r2, .bool r3]) ∧ Below w.heap.size w w' := by
 have hu132 := Try.underlying132
 have hu41 := Try.underlying41
 have HB : Up w w := ⟨Below.refl _ _⟩
 have H : (some (a0_0, a0_1, a0_2)) = some (r1, r2, r3) := h
 clear h
 simp only [Option.some.injEq, Prod.mk.injEq] at H
 obtain ⟨rfl, rfl, rfl⟩ := H
 go_enter Try.func121, Try.ntmps121
 go_wp2_with (first | ((with_reducible refine gD 1 rfl ?_); refine bxE rfl #[.int .i64 a0_0, .int .i64 a0_1, .bool a0_2] 132 ?_ ?_; (focus first | (go_simp; done) | (go_simp; rfl)); intro gb506 _ w2 _ _) | ((with_reducible refine gD 2 rfl ?_); refine bxE rfl #[.int .i64 0, .int .i64 0, .bool false] 41 ?_ ?_; (focus first | (go_simp; done) | (go_simp; rfl)); intro gb507 _ w3 _ _) | ((with_reducible refine gD 3 rfl ?_); refine bxE rfl #[.int .i64 0, .int .i64 0, .bool false] 41 ?_ ?_; (focus first | (go_simp; done) | (go_simp; rfl)); intro gb508 _ w4 _ _))
 refine bodyPost_ret (results_cell_row rfl _ _ gb507 41 #[.int .i64 a0_0, .int .i64 a0_1, .bool a0_2] (0, 0) _ rfl (bkr gb507 (by rfl)) Try.underlying41 rfl (by kernel_rfl)) rfl ?_
 exact ⟨by first | rfl | (simp [*, errW_none, errW_some] <;> rfl), uw w⟩
def l_toDominoS.l0 : Nat → List (S132) → List (S41) → Int → Option ((List (S41)))
 | 0, _, _, _ => none
 | k + 1, x0, x3, x4 => if x4 < (x0.length : Int) then (if 0 ≤ x4 then ((l_toDomino.f ((rd_T132 x0 x4).f0) ((rd_T132 x0 x4).f1) ((rd_T132 x0 x4).f2)).bind fun bt513 => (if x4 < (x3.length : Int) then (l_toDominoS.l0 k x0 (x3.set (x4 : Int).toNat (⟨bt513.1, bt513.2.1, bt513.2.2⟩ : S41)) (wrap64 (x4 + 1))) else (none))) else (none)) else (some x3)
def l_toDominoS.f (k : Nat) (l0 : List (S132)) : Option ((List (S41))) := if 0 ≤ (l0.length : Int) then (if ((l0.length : Int) : Int).toNat ≤ 11728124029610 then (l_toDominoS.l0 k l0 (List.replicate ((l0.length : Int) : Int).toNat z41) 0) else (none)) else (none)
theorem l_toDominoS.mono_l : ∀ k, (∀ y0 y1 y2, LeO (l_toDominoS.l0 k y0 y1 y2) (l_toDominoS.l0 (k + 1) y0 y1 y2))
 | 0 => fun _ _ _ r h => by simp [l_toDominoS.l0] at h
 | k + 1 => by
  have ih0 := l_toDominoS.mono_l k
  ·intro y0 y1 y2
   unfold l_toDominoS.l0
   repeat' with_reducible first
   | exact ih0 _ _ _
   | exact LeO.refl _
   | exact LeO.none _
   | refine LeO.ite ?_ ?_
   | refine LeO.bind ?_ (fun _ => ?_)
theorem l_toDominoS.mono : ∀ a0 k, LeO (l_toDominoS.f k a0) (l_toDominoS.f (k + 1) a0) := by
 intro a0 k
 have ih0 := l_toDominoS.mono_l k
 unfold l_toDominoS.f
 repeat' with_reducible first
 | exact ih0 _ _ _
 | exact LeO.refl _
 | exact LeO.none _
 | refine LeO.ite ?_ ?_
 | refine LeO.bind ?_ (fun _ => ?_)
set_option maxRecDepth 100000 in
theorem l_toDominoS.calls (k : Nat) (A0 : Option Addr) (c0 : Nat) (l0 : List (S132)) (r : List (S41)) (w : World) (hr0 : Kd.C k132 w A0 l0.length l0) (hc0 : l0.length ≤ c0) (h : l_toDominoS.f k l0 = some r) :
  Calls Try.prog 52 #[.slice A0 l0.length c0] w fun e w' => ∃ v0_ : Value, e = .returned (v0_) ∧ Kd.R k41 41 w' w.heap.size (fun _ => True) v0_ r ∧ Below w.heap.size w w' := by
 have hu132 := Try.underlying132
 have hu41 := Try.underlying41
 have HR0 := As.mk hr0
 have HC0 := As.mk hc0
 clear hr0 hc0
 have HB : Up w w := ⟨Below.refl _ _⟩
 have H : (if 0 ≤ (l0.length : Int) then (if ((l0.length : Int) : Int).toNat ≤ 11728124029610 then (l_toDominoS.l0 k l0 (List.replicate ((l0.length : Int) : Int).toNat z41) 0) else (none)) else (none)) = some r := h
 clear h
 by_cases c2 : 0 ≤ (l0.length : Int)
 ·rw [if_pos c2] at H
  have c2b0 := eq_true c2
  have c2b1 : decide (0 ≤ (l0.length : Int)) = true := decide_eq_true c2
  clear c2
  by_cases c3 : ((l0.length : Int) : Int).toNat ≤ 11728124029610
  ·rw [if_pos c3] at H
   have c3b0 := eq_true c3
   have c3b1 : decide (((l0.length : Int) : Int).toNat ≤ 11728124029610) = true := decide_eq_true c3
   clear c3
   obtain ⟨y509, hy509⟩ : ∃ y_ : List (S41), y_ = (List.replicate ((l0.length : Int) : Int).toNat z41) := ⟨_, rfl⟩
   replace H : (l_toDominoS.l0 k l0 y509 0) = some r := by first | (rw [hy509]; with_reducible exact H) | (have H2_ := (Option.bind_some _ _).symm.trans H; rw [hy509]; with_reducible exact H2_) | (have H2_ := (Option.bind_some _ _).symm.trans H; with_reducible exact H2_) | with_reducible exact H | (rw [hy509]; exact H) | exact H
   have Ny509 := As.mk hy509
   clear hy509
   have H' := As.mk H
   clear H
   go_enter Try.func52, Try.ntmps52
   go_wp2_with (first | ((with_reducible refine gate_dst (N := 7) rfl ?_); refine Kd.R_make k41 _ 41 rfl (N := 7) rfl 24 _ _ rfl (l0.length : Int) rfl rfl Try.underlying24 (.agg #[(.int .i64 0), (.int .i64 0), (.bool false)]) 24 info41 rfl (by decide) (by omega) z41 (ok := fun _ => True) (okp := fun _ => True) (k41_mkM _ _ _ z41 ) (fun _ hk => hk) trivial (oD) (Nat.le_trans (Nat.mul_le_mul_right _ (oD : (l0.length : Int).toNat ≤ 11728124029610)) (by omega)) (Below.refl _ _) (Nat.le_refl _) ?_; intro v510 w4 ho5 hb hg_ hnew_; clear hg_ hnew_; (first | rw [← Ny509.out] at ho5 | (simp only [Int.reduceToNat] at ho5; rw [← Ny509.out] at ho5)); have := Stp.mk hb; have HO511 := As.mk (Kd.R_lower ho5 (below_size (uw w))); clear hb ho5))
   go_loopg [4] k (fun kq v4 w' => ∃ (x3_1 : List (S41)) (x4_1 : Int), v4 = .int .i64 x4_1 ∧ As (l_toDominoS.l0 kq l0 x3_1 x4_1 = some r) ∧ As (kq ≤ k) ∧ As (Kd.R k41 41 w' w.heap.size (fun _ => True) v510 x3_1) ∧ Up w w')
   case atStart => exact ⟨(y509), (0), (by first | rfl | (simp; done) | (simp [*]; done)), H', ⟨Nat.le_refl _⟩, ⟨rX HO511.out⟩, ⟨uw w⟩⟩
   case round =>
    clear H'
    try clear c2
    try clear c2b0
    try clear c2b1
    try clear c3
    try clear c3b0
    try clear c3b1
    obtain ⟨x3_1, x4_1, rfl, HA, HK1, HO_3, HB⟩ := hrel
    cases gk with
    | zero => exact absurd HA.out (by simp [l_toDominoS.l0])
    | succ k1 =>
     have H := HA.out
     clear HA
     simp only [l_toDominoS.l0] at H
     by_cases c6 : x4_1 < (l0.length : Int)
     ·rw [if_pos c6] at H
      have c6b0 : decide (x4_1 < (l0.length : Int)) = true := decide_eq_true c6
      clear c6
      by_cases c7 : 0 ≤ x4_1
      ·rw [if_pos c7] at H
       have c7b0 : decide (0 ≤ x4_1) = true := decide_eq_true c7
       clear c7
       obtain ⟨⟨t513, t514, t515⟩, A8, H⟩ := bI H
       dsimp only at H
       by_cases c9 : x4_1 < (x3_1.length : Int)
       ·rw [if_pos c9] at H
        have c9b0 : decide (x4_1 < (x3_1.length : Int)) = true := decide_eq_true c9
        clear c9
        obtain ⟨y516, hy516⟩ : ∃ y_ : List (S41), y_ = (x3_1.set (x4_1 : Int).toNat (⟨t513, t514, t515⟩ : S41)) := ⟨_, rfl⟩
        replace H : (l_toDominoS.l0 k1 l0 y516 (wrap64 (x4_1 + 1))) = some r := by first | (rw [hy516]; with_reducible exact H) | (have H2_ := (Option.bind_some _ _).symm.trans H; rw [hy516]; with_reducible exact H2_) | (have H2_ := (Option.bind_some _ _).symm.trans H; with_reducible exact H2_) | with_reducible exact H | (rw [hy516]; exact H) | exact H
        have Ny516 := As.mk hy516
        clear hy516
        have H' := As.mk H
        clear H
        have p512 : 0 ≤ (x4_1 : Int) := oD
        have q512 : x4_1 < (l0.length : Int) := oD
        obtain ⟨ad512, e512, hx512_0, hx512_1, hx512_2⟩ := at_T132 HR0.out x4_1 p512 q512
        cases e512
        replace hx512_0 := cx wr hx512_0
        replace hx512_1 := cx wr hx512_1
        replace hx512_2 := cx wr hx512_2
        replace p512 := eq_true p512
        replace q512 := eq_true q512
        go_wp2_with (first | ((with_reducible refine gC 121 rfl ?_); refine gK (some 20) rfl rfl Try.func121 (by kernel_rfl) rfl #[.agg #[.int .i64 ((rd_T132 l0 x4_1).f0), .int .i64 ((rd_T132 l0 x4_1).f1), .bool ((rd_T132 l0 x4_1).f2)]] rfl (by (try simp only [sD, sE, sF]); first | done | rfl) (l_toDomino.calls ((rd_T132 l0 x4_1).f0) ((rd_T132 l0 x4_1).f1) ((rd_T132 l0 x4_1).f2) t513 t514 t515 _ A8.out) ?_; intro w11 sb; have hb := sb.out; replace HO_3 := hB HO_3 hb; have p10 : 0 ≤ (x4_1 : Int) := oD; have q10 : (x4_1 : Int) < ((x3_1.length : Int) : Int) := oD; obtain ⟨go10, co10, eo10, gb10, gl10, cl10, HG10⟩ := Kd.R_form HO_3.out (by omega); (first | cases eo10 | (injection eo10 with ea_ en_ ec_; (first | subst ea_ | (injection ea_ with ea_; subst ea_)); subst ec_; clear en_)); have GB10 := As.mk gb10; have GG10 := As.mk HG10; clear gb10 gl10 HG10; obtain ⟨ce10, hcl10, hM10, hcc10, hfr10⟩ := Kd.R_elem HO_3.out z41 (x4_1 : Int) p10 q10; obtain rfl := k41_openM hM10; have hx10_0 : w11.cell? ⟨go10, (x4_1 : Int).toNat * 3, none⟩ = some (.int .i64 ((rd_T41 x3_1 x4_1).f0)) := hcc10 0 _ rfl; have hx10_1 : w11.cell? ⟨go10, (x4_1 : Int).toNat * 3 + 1, none⟩ = some (.int .i64 ((rd_T41 x3_1 x4_1).f1)) := hcc10 1 _ rfl; have hx10_2 : w11.cell? ⟨go10, (x4_1 : Int).toNat * 3 + 2, none⟩ = some (.bool ((rd_T41 x3_1 x4_1).f2)) := hcc10 2 _ rfl; have hf10_0 : w11.frozen? ⟨go10, (x4_1 : Int).toNat * 3, none⟩ = false := hfr10 0; have hf10_1 : w11.frozen? ⟨go10, (x4_1 : Int).toNat * 3 + 1, none⟩ = false := hfr10 1; have hf10_2 : w11.frozen? ⟨go10, (x4_1 : Int).toNat * 3 + 2, none⟩ = false := hfr10 2; clear hcl10 hcc10 hfr10 hM10; replace p10 := eq_true p10; replace q10 := eq_true q10; have HX12 := As.mk (show Kd.R k41 41 w11 w.heap.size (fun _ => True) (.slice (some ⟨go10, 0, none⟩) x3_1.length co10) x3_1 from (rX HO_3.out)); obtain ⟨ce12, hcl12, hM12, hcc12, hfr12⟩ := Kd.R_elem HX12.out z41 (x4_1 : Int) (oD) (by have h_ : (x4_1 : Int) < ((x3_1.length : Int) : Int) := oD; first | exact h_ | (have e_ := (Kd.R_reads' HO_3.out).1; omega) | simpa using h_); obtain rfl := k41_openM hM12; have HP12 := Kd.R_seg HX12.out (x4_1 : Int) (oD) (by have h_ : (x4_1 : Int) < ((x3_1.length : Int) : Int) := oD; first | exact h_ | (have e_ := (Kd.R_reads' HO_3.out).1; omega) | simpa using h_) (seg := [.int .i64 t513, .int .i64 t514, .bool t515]) (j := 0) hcl12 hcc12 (show 3 ≤ 3 from by decide) (x' := (⟨t513, t514, t515⟩ : S41)) (k41_mkM _ _ _ (⟨t513, t514, t515⟩ : S41) ) (fun _ hk => hk); have hx12_0 := hcc12 0 _ rfl; (try simp only [show (k41).sz = 3 from rfl, Nat.mul_one, Nat.add_zero] at hx12_0); have hf12_0 := hfr12 0; (try simp only [show (k41).sz = 3 from rfl, Nat.mul_one, Nat.add_zero] at hf12_0); have hx12_1 := hcc12 1 _ rfl; (try simp only [show (k41).sz = 3 from rfl, Nat.mul_one, Nat.add_zero] at hx12_1); have hf12_1 := hfr12 1; (try simp only [show (k41).sz = 3 from rfl, Nat.mul_one, Nat.add_zero] at hf12_1); have hx12_2 := hcc12 2 _ rfl; (try simp only [show (k41).sz = 3 from rfl, Nat.mul_one, Nat.add_zero] at hx12_2); have hf12_2 := hfr12 2; (try simp only [show (k41).sz = 3 from rfl, Nat.mul_one, Nat.add_zero] at hf12_2); clear hcl12 hcc12 hfr12 hM12) | ((with_reducible refine gate_store (t := 41) (p := 21) rfl ?_); refine store_event (t := 41) (p := 21) (v := ?vo_w13) (w1 := (((w11.setCell ⟨go10, (x4_1 : Int).toNat * 3, none⟩ (.int .i64 t513)).setCell ⟨go10, (x4_1 : Int).toNat * 3 + 1, none⟩ (.int .i64 t514)).setCell ⟨go10, (x4_1 : Int).toNat * 3 + 2, none⟩ (.bool t515))) ?hg ?ho ?hn ?hr ?_; (case ho => rfl); (case hg => rfl); (case hn => rfl); (case hr => first | (go_simp; done) | (go_simp; rfl)); intro w13 hw; have hg : w11.grownBy w13 (some go10) := (by rw [hw]; exact HP12.2); have hp_ : Kd.R k41 41 w13 w.heap.size (fun _ => True) (.slice (some ⟨go10, 0, none⟩) x3_1.length co10) y516 := (by rw [hw, Ny516.out]; exact HP12.1); clear HP12; replace HO_3 := As.mk (hp_); have HB := Up.mk ((by rw [hw]; exact below_set (below_set (below_set ((uw w (w := w11))) GB10.out) GB10.out) GB10.out : Below w.heap.size w w13)); clear hg hw hp_))
        go_roundg k1
        case measure => have := HK1.out; omega
        case rel => exact ⟨(y516), (wrap64 (x4_1 + 1)), (by first | rfl | (simp; done) | (simp [*]; done)), H', ⟨by have := HK1.out; omega⟩, ⟨rX HO_3.out⟩, ⟨uw w⟩⟩
       ·rw [if_neg c9] at H
        exact absurd H (by simp)
      ·rw [if_neg c7] at H
       exact absurd H (by simp)
     ·rw [if_neg c6] at H
      have c6b0 : decide (x4_1 < (l0.length : Int)) = false := decide_eq_false c6
      clear c6
      obtain rfl := Option.some.inj H
      go_wp2
      go_ret
      exact ⟨_, by first | rfl | (simp [*, errW_none, errW_some] <;> rfl), rX HO_3.out, uw w⟩
  ·rw [if_neg c3] at H
   exact absurd H (by simp)
 ·rw [if_neg c2] at H
  exact absurd H (by simp)
def l_heldLinkS.l0 : Nat → List (S50) → Int → Int → Option (Int)
 | 0, _, _, _ => none
 | k + 1, x0, x1, x5 => if x5 < (x0.length : Int) then (if 0 ≤ x5 then (if ((rd_T50 x0 x5).f0) = x1 then (if ((rd_T50 x0 x5).f1) = (wrap64 (x1 + 1)) then (if (((rd_T50 x0 x5).f2) != ((Int.tmod (wrap64 ((wrap64 (x1 + 1)) + 1)) 3) == 0)) = true then (some (-1)) else (l_heldLinkS.l0 k x0 (wrap64 ((wrap64 ((wrap64 (x1 + 1)) + 1)) + 1)) (wrap64 (x5 + 1)))) else (some (-1))) else (some (-1))) else (none)) else (some x1)
def l_heldLinkS.f (k : Nat) (l0 : List (S50)) (a1 : Int) : Option (Int) := l_heldLinkS.l0 k l0 a1 0
theorem l_heldLinkS.mono_l : ∀ k, (∀ y0 y1 y2, LeO (l_heldLinkS.l0 k y0 y1 y2) (l_heldLinkS.l0 (k + 1) y0 y1 y2))
 | 0 => fun _ _ _ r h => by simp [l_heldLinkS.l0] at h
 | k + 1 => by
  have ih0 := l_heldLinkS.mono_l k
  ·intro y0 y1 y2
   unfold l_heldLinkS.l0
   repeat' with_reducible first
   | exact ih0 _ _ _
   | exact LeO.refl _
   | exact LeO.none _
   | refine LeO.ite ?_ ?_
   | refine LeO.bind ?_ (fun _ => ?_)
theorem l_heldLinkS.mono : ∀ a0 a1 k, LeO (l_heldLinkS.f k a0 a1) (l_heldLinkS.f (k + 1) a0 a1) := by
 intro a0 a1 k
 have ih0 := l_heldLinkS.mono_l k
 unfold l_heldLinkS.f
 repeat' with_reducible first
 | exact ih0 _ _ _
 | exact LeO.refl _
 | exact LeO.none _
 | refine LeO.ite ?_ ?_
 | refine LeO.bind ?_ (fun _ => ?_)
set_option maxRecDepth 100000 in
theorem l_heldLinkS.calls (k : Nat) (A0 : Option Addr) (c0 : Nat) (l0 : List (S50)) (a1 : Int) (r : Int) (w : World) (hr0 : Kd.C k50 w A0 l0.length l0) (hc0 : l0.length ≤ c0) (h : l_heldLinkS.f k l0 a1 = some r) :
  Calls Try.prog 53 #[.slice A0 l0.length c0, .int .i64 a1] w fun e w' => e = .returned (.int .i64 r) ∧ Drawn0 w w' := by
 have HR0 := As.mk hr0
 have HC0 := As.mk hc0
 clear hr0 hc0
 have H : (l_heldLinkS.l0 k l0 a1 0) = some r := h
 clear h
 have H' := As.mk H
 clear H
 go_enter Try.func53, Try.ntmps53
 go_wp2
 go_loopg [1, 5] k (fun kq v1 v5 w' => ∃ (x1_1 : Int) (x5_1 : Int), v1 = .int .i64 x1_1 ∧ v5 = .int .i64 x5_1 ∧ As (l_heldLinkS.l0 kq l0 x1_1 x5_1 = some r) ∧ As (kq ≤ k) ∧ Drawn0 w w')
 case atStart => exact ⟨(a1), (0), (by first | rfl | (simp; done) | (simp [*]; done)), (by first | rfl | (simp; done) | (simp [*]; done)), H', ⟨Nat.le_refl _⟩, by repeat (first | exact Drawn0.refl _ | apply Drawn0.step)⟩
 case round =>
  clear H'
  obtain ⟨x1_1, x5_1, rfl, rfl, HA, HK1, ⟨m1, rfl⟩⟩ := hrel
  cases gk with
  | zero => exact absurd HA.out (by simp [l_heldLinkS.l0])
  | succ k1 =>
   have H := HA.out
   clear HA
   simp only [l_heldLinkS.l0] at H
   by_cases c3 : x5_1 < (l0.length : Int)
   ·rw [if_pos c3] at H
    have c3b0 : decide (x5_1 < (l0.length : Int)) = true := decide_eq_true c3
    clear c3
    by_cases c4 : 0 ≤ x5_1
    ·rw [if_pos c4] at H
     have c4b0 : decide (0 ≤ x5_1) = true := decide_eq_true c4
     clear c4
     by_cases c5 : ((rd_T50 l0 x5_1).f0) = x1_1
     ·rw [if_pos c5] at H
      have c5b0 : (((rd_T50 l0 x5_1).f0) == x1_1) = true := beq_iff_eq.mpr c5
      have c5b1 : (((rd_T50 l0 x5_1).f0) != x1_1) = false := bne_eq_false_iff_eq.mpr c5
      clear c5
      by_cases c6 : ((rd_T50 l0 x5_1).f1) = (wrap64 (x1_1 + 1))
      ·rw [if_pos c6] at H
       have c6b0 : (((rd_T50 l0 x5_1).f1) == (wrap64 (x1_1 + 1))) = true := beq_iff_eq.mpr c6
       have c6b1 : (((rd_T50 l0 x5_1).f1) != (wrap64 (x1_1 + 1))) = false := bne_eq_false_iff_eq.mpr c6
       clear c6
       by_cases c7 : (((rd_T50 l0 x5_1).f2) != ((Int.tmod (wrap64 ((wrap64 (x1_1 + 1)) + 1)) 3) == 0)) = true
       ·rw [if_pos c7] at H
        have c7b0 : (((rd_T50 l0 x5_1).f2) != ((Int.tmod (wrap64 ((wrap64 (x1_1 + 1)) + 1)) 3) == 0)) = true := c7
        (try (have c7b1 : decide (((rd_T50 l0 x5_1).f2) = ((Int.tmod (wrap64 ((wrap64 (x1_1 + 1)) + 1)) 3) == 0)) = false := by simpa using c7))
        (try (have c7b2 : (((rd_T50 l0 x5_1).f2) == ((Int.tmod (wrap64 ((wrap64 (x1_1 + 1)) + 1)) 3) == 0)) = false := by simpa using c7))
        (try (have c7b3 : ¬ (((rd_T50 l0 x5_1).f2) = ((Int.tmod (wrap64 ((wrap64 (x1_1 + 1)) + 1)) 3) == 0)) := by simpa using c7))
        clear c7
        obtain rfl := Option.some.inj H
        have p517 : 0 ≤ (x5_1 : Int) := oD
        have q517 : x5_1 < (l0.length : Int) := oD
        obtain ⟨ad517, e517, hx517_0, hx517_1, hx517_2⟩ := at_T50 HR0.out x5_1 p517 q517
        cases e517
        replace p517 := eq_true p517
        replace q517 := eq_true q517
        have p518 : 0 ≤ (x5_1 : Int) := oD
        have q518 : x5_1 < (l0.length : Int) := oD
        obtain ⟨ad518, e518, hx518_0, hx518_1, hx518_2⟩ := at_T50 HR0.out x5_1 p518 q518
        obtain rfl : ad517 = ad518 := (by injection e518)
        replace p518 := eq_true p518
        replace q518 := eq_true q518
        have p519 : 0 ≤ (x5_1 : Int) := oD
        have q519 : x5_1 < (l0.length : Int) := oD
        obtain ⟨ad519, e519, hx519_0, hx519_1, hx519_2⟩ := at_T50 HR0.out x5_1 p519 q519
        obtain rfl : ad517 = ad519 := (by injection e519)
        replace p519 := eq_true p519
        replace q519 := eq_true q519
        go_wp2
        go_ret
        exact ⟨by first | rfl | (simp; done) | (simp [*]; done), by repeat (first | exact Drawn0.refl _ | apply Drawn0.step)⟩
       ·rw [if_neg c7] at H
        have c7b0 : (((rd_T50 l0 x5_1).f2) != ((Int.tmod (wrap64 ((wrap64 (x1_1 + 1)) + 1)) 3) == 0)) = false := by simpa using c7
        (try (have c7b1 : decide (((rd_T50 l0 x5_1).f2) = ((Int.tmod (wrap64 ((wrap64 (x1_1 + 1)) + 1)) 3) == 0)) = true := by simpa using c7))
        (try (have c7b2 : (((rd_T50 l0 x5_1).f2) == ((Int.tmod (wrap64 ((wrap64 (x1_1 + 1)) + 1)) 3) == 0)) = true := by simpa using c7))
        clear c7
        have H' := As.mk H
        clear H
        have p517 : 0 ≤ (x5_1 : Int) := oD
        have q517 : x5_1 < (l0.length : Int) := oD
        obtain ⟨ad517, e517, hx517_0, hx517_1, hx517_2⟩ := at_T50 HR0.out x5_1 p517 q517
        cases e517
        replace p517 := eq_true p517
        replace q517 := eq_true q517
        have p518 : 0 ≤ (x5_1 : Int) := oD
        have q518 : x5_1 < (l0.length : Int) := oD
        obtain ⟨ad518, e518, hx518_0, hx518_1, hx518_2⟩ := at_T50 HR0.out x5_1 p518 q518
        obtain rfl : ad517 = ad518 := (by injection e518)
        replace p518 := eq_true p518
        replace q518 := eq_true q518
        have p519 : 0 ≤ (x5_1 : Int) := oD
        have q519 : x5_1 < (l0.length : Int) := oD
        obtain ⟨ad519, e519, hx519_0, hx519_1, hx519_2⟩ := at_T50 HR0.out x5_1 p519 q519
        obtain rfl : ad517 = ad519 := (by injection e519)
        replace p519 := eq_true p519
        replace q519 := eq_true q519
        go_wp2
        go_roundg k1
        case measure => have := HK1.out; omega
        case rel => exact ⟨(wrap64 ((wrap64 ((wrap64 (x1_1 + 1)) + 1)) + 1)), (wrap64 (x5_1 + 1)), (by first | rfl | (simp; done) | (simp [*]; done)), (by first | rfl | (simp; done) | (simp [*]; done)), H', ⟨by have := HK1.out; omega⟩, by repeat (first | exact Drawn0.refl _ | apply Drawn0.step)⟩
      ·rw [if_neg c6] at H
       have c6b0 : (((rd_T50 l0 x5_1).f1) == (wrap64 (x1_1 + 1))) = false := beq_eq_false_iff_ne.mpr c6
       have c6b1 : (((rd_T50 l0 x5_1).f1) != (wrap64 (x1_1 + 1))) = true := bne_iff_ne.mpr c6
       obtain rfl := Option.some.inj H
       have p517 : 0 ≤ (x5_1 : Int) := oD
       have q517 : x5_1 < (l0.length : Int) := oD
       obtain ⟨ad517, e517, hx517_0, hx517_1, hx517_2⟩ := at_T50 HR0.out x5_1 p517 q517
       cases e517
       replace p517 := eq_true p517
       replace q517 := eq_true q517
       have p518 : 0 ≤ (x5_1 : Int) := oD
       have q518 : x5_1 < (l0.length : Int) := oD
       obtain ⟨ad518, e518, hx518_0, hx518_1, hx518_2⟩ := at_T50 HR0.out x5_1 p518 q518
       obtain rfl : ad517 = ad518 := (by injection e518)
       replace p518 := eq_true p518
       replace q518 := eq_true q518
       go_wp2
       go_ret
       exact ⟨by first | rfl | (simp; done) | (simp [*]; done), by repeat (first | exact Drawn0.refl _ | apply Drawn0.step)⟩
     ·rw [if_neg c5] at H
      have c5b0 : (((rd_T50 l0 x5_1).f0) == x1_1) = false := beq_eq_false_iff_ne.mpr c5
      have c5b1 : (((rd_T50 l0 x5_1).f0) != x1_1) = true := bne_iff_ne.mpr c5
      obtain rfl := Option.some.inj H
      have p517 : 0 ≤ (x5_1 : Int) := oD
      have q517 : x5_1 < (l0.length : Int) := oD
      obtain ⟨ad517, e517, hx517_0, hx517_1, hx517_2⟩ := at_T50 HR0.out x5_1 p517 q517
      cases e517
      replace p517 := eq_true p517
      replace q517 := eq_true q517
      go_wp2
      go_ret
      exact ⟨by first | rfl | (simp; done) | (simp [*]; done), by repeat (first | exact Drawn0.refl _ | apply Drawn0.step)⟩
    ·rw [if_neg c4] at H
     exact absurd H (by simp)
   ·rw [if_neg c3] at H
    have c3b0 : decide (x5_1 < (l0.length : Int)) = false := decide_eq_false c3
    clear c3
    obtain rfl := Option.some.inj H
    go_wp2
    go_ret
    exact ⟨by first | rfl | (simp; done) | (simp [*]; done), by repeat (first | exact Drawn0.refl _ | apply Drawn0.step)⟩
mutual
def l_FnExactTreeOfTiling.j0 : Nat → Int → Int → List (S132) → List (S50) → Bool → List (S41) → List (S50) → Bool → Bool → Option (Bool)
 | 0, _, _, _, _, _, _, _, _, _ => none
 | k + 1, x0, x1, x2, x8, x9, x10, x11, x12, x48 => if x48 = true then (some false) else ((l_toDominoS.f k x2).bind fun t536 => ((l_eqDominoS.f k x10 t536).bind fun t539 => (if t539 = true then ((l_markDominoS.f k x10 1).bind fun bt540 => (if bt540.1 < 0 then (l_FnExactTreeOfTiling.j1 k x0 x1 x2 x8 x9 x11 true) else ((l_eqLinkS.f k x11 x8).bind fun t542 => (if t542 = true then (l_FnExactTreeOfTiling.j1 k x0 x1 x2 x8 x9 x11 (x12 != x9)) else (l_FnExactTreeOfTiling.j1 k x0 x1 x2 x8 x9 x11 true))))) else (some false))))
def l_FnExactTreeOfTiling.j1 : Nat → Int → Int → List (S132) → List (S50) → Bool → List (S50) → Bool → Option (Bool)
 | 0, _, _, _, _, _, _, _ => none
 | k + 1, x0, x1, x2, x8, x9, x11, x69 => if x69 = true then (some false) else ((l_markLinkS.f k x11 1).bind fun bt543 => ((l_heldLinkS.f k bt543.2 1).bind fun t545 => (if t545 < 0 then (some false) else (if t545 = bt543.1 then ((l_toDominoS.f k x2).bind fun t546 => ((i_TreeOfTiling.f k x0 x1 t546).bind fun bt549 => ((l_eqLinkS.f k bt549.1 x8).bind fun t553 => (if t553 = true then (l_FnExactTreeOfTiling.j2 k bt543.2 bt543.1 (bt549.2 != x9)) else (l_FnExactTreeOfTiling.j2 k bt543.2 bt543.1 true))))) else (some false)))))
def l_FnExactTreeOfTiling.j2 : Nat → List (S50) → Int → Bool → Option (Bool)
 | 0, _, _, _ => none
 | k + 1, x11, x14, x97 => if x97 = true then (some false) else ((l_heldLinkS.f k x11 1).bind fun t554 => (if t554 < 0 then (some false) else (if t554 = x14 then (some true) else (some false))))
end
def l_FnExactTreeOfTiling.f (k : Nat) (a0 : Int) (a1 : Int) (l2 : List (S132)) : Option (Bool) := (l_szDominoS.f l2 1048576).bind fun t520 => (if t520 < 0 then (some true) else ((l_toDominoS.f k l2).bind fun t521 => ((s_TreeOfTiling.f k a0 a1 t521).bind fun bt524 => ((l_toDominoS.f k l2).bind fun t528 => ((i_TreeOfTiling.f k a0 a1 t528).bind fun bt531 => ((l_eqLinkS.f k bt531.1 bt524.1).bind fun t535 => (if t535 = true then (l_FnExactTreeOfTiling.j0 k a0 a1 l2 bt524.1 bt524.2 t528 bt531.1 bt531.2 (bt531.2 != bt524.2)) else (l_FnExactTreeOfTiling.j0 k a0 a1 l2 bt524.1 bt524.2 t528 bt531.1 bt531.2 true))))))))
theorem l_FnExactTreeOfTiling.mono_l : ∀ k, (∀ y0 y1 y2 y3 y4 y5 y6 y7 y8, LeO (l_FnExactTreeOfTiling.j0 k y0 y1 y2 y3 y4 y5 y6 y7 y8) (l_FnExactTreeOfTiling.j0 (k + 1) y0 y1 y2 y3 y4 y5 y6 y7 y8)) ∧ (∀ y0 y1 y2 y3 y4 y5 y6, LeO (l_FnExactTreeOfTiling.j1 k y0 y1 y2 y3 y4 y5 y6) (l_FnExactTreeOfTiling.j1 (k + 1) y0 y1 y2 y3 y4 y5 y6)) ∧ (∀ y0 y1 y2, LeO (l_FnExactTreeOfTiling.j2 k y0 y1 y2) (l_FnExactTreeOfTiling.j2 (k + 1) y0 y1 y2))
 | 0 => ⟨fun _ _ _ _ _ _ _ _ _ r h => by simp [l_FnExactTreeOfTiling.j0] at h, fun _ _ _ _ _ _ _ r h => by simp [l_FnExactTreeOfTiling.j1] at h, fun _ _ _ r h => by simp [l_FnExactTreeOfTiling.j2] at h⟩
 | k + 1 => by
  obtain ⟨ih0, ih1, ih2⟩ := l_FnExactTreeOfTiling.mono_l k
  refine ⟨?_, ?_, ?_⟩ <;> intros
  all_goals first | unfold l_FnExactTreeOfTiling.j0 | unfold l_FnExactTreeOfTiling.j1 | unfold l_FnExactTreeOfTiling.j2
  all_goals repeat' with_reducible first
  | exact ih0 _ _ _ _ _ _ _ _ _
  | exact ih1 _ _ _ _ _ _ _
  | exact ih2 _ _ _
  | exact i_TreeOfTiling.mono _ _ _ _
  | exact l_eqDominoS.mono _ _ _
  | exact l_eqLinkS.mono _ _ _
  | exact l_heldLinkS.mono _ _ _
  | exact l_markDominoS.mono _ _ _
  | exact l_markLinkS.mono _ _ _
  | exact l_toDominoS.mono _ _
  | exact s_TreeOfTiling.mono _ _ _ _
  | exact LeO.refl _
  | exact LeO.none _
  | refine LeO.ite ?_ ?_
  | refine LeO.bind ?_ (fun _ => ?_)
theorem l_FnExactTreeOfTiling.mono : ∀ a0 a1 a2 k, LeO (l_FnExactTreeOfTiling.f k a0 a1 a2) (l_FnExactTreeOfTiling.f (k + 1) a0 a1 a2) := by
 intro a0 a1 a2 k
 obtain ⟨ih0, ih1, ih2⟩ := l_FnExactTreeOfTiling.mono_l k
 unfold l_FnExactTreeOfTiling.f
 repeat' with_reducible first
 | exact ih0 _ _ _ _ _ _ _ _ _
 | exact ih1 _ _ _ _ _ _ _
 | exact ih2 _ _ _
 | exact i_TreeOfTiling.mono _ _ _ _
 | exact l_eqDominoS.mono _ _ _
 | exact l_eqLinkS.mono _ _ _
 | exact l_heldLinkS.mono _ _ _
 | exact l_markDominoS.mono _ _ _
 | exact l_markLinkS.mono _ _ _
 | exact l_toDominoS.mono _ _
 | exact s_TreeOfTiling.mono _ _ _ _
 | exact LeO.refl _
 | exact LeO.none _
 | refine LeO.ite ?_ ?_
 | refine LeO.bind ?_ (fun _ => ?_)
set_option maxRecDepth 100000 in
theorem l_FnExactTreeOfTiling.calls (k : Nat) (a0 : Int) (a1 : Int) (A2 : Option Addr) (c2 : Nat) (l2 : List (S132)) (r : Bool) (w : World) (hr2 : Kd.C k132 w A2 l2.length l2) (hc2 : l2.length ≤ c2) (h : l_FnExactTreeOfTiling.f k a0 a1 l2 = some r) :
  Calls Try.prog 9 #[.int .i64 a0, .int .i64 a1, .slice A2 l2.length c2] w fun e w' => e = .returned (.bool r) ∧ Below w.heap.size w w' := by
 have HR2 := As.mk hr2
 have HC2 := As.mk hc2
 clear hr2 hc2
 have HB : Up w w := ⟨Below.refl _ _⟩
 have H : ((l_szDominoS.f l2 1048576).bind fun t520 => (if t520 < 0 then (some true) else ((l_toDominoS.f k l2).bind fun t521 => ((s_TreeOfTiling.f k a0 a1 t521).bind fun bt524 => ((l_toDominoS.f k l2).bind fun t528 => ((i_TreeOfTiling.f k a0 a1 t528).bind fun bt531 => ((l_eqLinkS.f k bt531.1 bt524.1).bind fun t535 => (if t535 = true then (l_FnExactTreeOfTiling.j0 k a0 a1 l2 bt524.1 bt524.2 t528 bt531.1 bt531.2 (bt531.2 != bt524.2)) else (l_FnExactTreeOfTiling.j0 k a0 a1 l2 bt524.1 bt524.2 t528 bt531.1 bt531.2 true))))))))) = some r := h
 clear h
 obtain ⟨t520, A4, H⟩ := bI H
 by_cases c5 : t520 < 0
 ·rw [if_pos c5] at H
  have c5b0 : decide (t520 < 0) = true := decide_eq_true c5
  clear c5
  obtain rfl := Option.some.inj H
  go_enter Try.func9, Try.ntmps9
  go_wp2_with (first | ((with_reducible refine gate_callee (f := 50) rfl ?_); refine goesL_ (some 20) rfl rfl Try.func50 (by kernel_rfl) rfl #[.slice A2 l2.length c2, .int .i64 1048576] rfl (by (try simp only [sD, sE, sF]); first | done | rfl) ?_; (with_reducible refine (l_szDominoS.calls _ _ l2 1048576 t520 _ ?side1 ?side2 A4.out).mono ?_); (case side1 => repeat (first | exact HR2.out | (with_reducible refine Kd.C_alloc ?_ _) | (with_reducible refine Kd.C_drewN ?_ _) | (with_reducible refine Kd.C_drew ?_))); (case side2 => exact HC2.out); rintro e w' ⟨rfl, ⟨nd, rfl⟩⟩; refine ⟨_, rfl, ?_⟩))
  go_ret
  exact ⟨by first | rfl | (simp [*, errW_none, errW_some] <;> rfl), uw w⟩
 ·rw [if_neg c5] at H
  have c5b0 : decide (t520 < 0) = false := decide_eq_false c5
  clear c5
  obtain ⟨t521, A6, H⟩ := bI H
  obtain ⟨⟨t524, t525⟩, A7, H⟩ := bI H
  dsimp only at H
  obtain ⟨t528, A8, H⟩ := bI H
  obtain ⟨⟨t531, t532⟩, A9, H⟩ := bI H
  dsimp only at H
  have HC10 := As.mk H
  clear H
  go_enter Try.func9, Try.ntmps9
  go_upto_region 8 with (first | ((with_reducible refine gate_callee (f := 50) rfl ?_); refine goesL_ (some 20) rfl rfl Try.func50 (by kernel_rfl) rfl #[.slice A2 l2.length c2, .int .i64 1048576] rfl (by (try simp only [sD, sE, sF]); first | done | rfl) ?_; (with_reducible refine (l_szDominoS.calls _ _ l2 1048576 t520 _ ?side1 ?side2 A4.out).mono ?_); (case side1 => repeat (first | exact HR2.out | (with_reducible refine Kd.C_alloc ?_ _) | (with_reducible refine Kd.C_drewN ?_ _) | (with_reducible refine Kd.C_drew ?_))); (case side2 => exact HC2.out); rintro e w' ⟨rfl, ⟨nd, rfl⟩⟩; refine ⟨_, rfl, ?_⟩) | ((with_reducible refine gate_callee (f := 52) rfl ?_); refine goesL_ (some 27) rfl rfl Try.func52 (by kernel_rfl) rfl #[.slice A2 l2.length c2] rfl (by (try simp only [sD, sE, sF]); first | done | rfl) ?_; (with_reducible refine (l_toDominoS.calls k _ _ l2 t521 _ ?side1 ?side2 A6.out).mono ?_); (case side1 => repeat (first | exact HR2.out | (with_reducible refine Kd.C_alloc ?_ _) | (with_reducible refine Kd.C_drewN ?_ _) | (with_reducible refine Kd.C_drew ?_))); (case side2 => exact HC2.out); rintro e w11 ⟨v522, rfl, ho0, hb⟩; refine ⟨_, rfl, ?_⟩; have := Stp.mk hb; have HO523 := As.mk (Kd.R_lower ho0 (below_size (uw w))); (try clear ho0); obtain ⟨Ao12, co12, eo12⟩ := Kd.R_slice HO523.out; subst eo12) | ((with_reducible refine gate_callee (f := 51) rfl ?_); refine goesL_ (some 28) rfl rfl Try.func51 (by kernel_rfl) rfl #[.int .i64 a0, .int .i64 a1, .slice Ao12 t521.length co12] rfl (by (try simp only [sD, sE, sF]); first | done | rfl) ?_; (with_reducible refine (s_TreeOfTiling.calls k a0 a1 _ _ t521 t524 t525 _ ?side1 ?side2 A7.out).mono ?_); (case side1 => repeat (first | exact (Kd.R_reads' HO523.out).2.2 | (with_reducible refine Kd.C_alloc ?_ _) | (with_reducible refine Kd.C_drewN ?_ _) | (with_reducible refine Kd.C_drew ?_))); (case side2 => exact (Kd.R_reads' HO523.out).2.1); rintro e w13 ⟨v526, rfl, ho0, hb⟩; refine ⟨_, rfl, ?_⟩; have := Stp.mk hb; replace HO523 := As.mk (Kd.R_below (rX HO523.out) hb); have HO527 := As.mk (Kd.R_lower ho0 (below_size (uw w))); (try clear ho0)) | ((with_reducible refine gate_callee (f := 52) rfl ?_); refine goesL_ (some 32) rfl rfl Try.func52 (by kernel_rfl) rfl #[.slice A2 l2.length c2] rfl (by (try simp only [sD, sE, sF]); first | done | rfl) ?_; (with_reducible refine (l_toDominoS.calls k _ _ l2 t528 _ ?side1 ?side2 A8.out).mono ?_); (case side1 => repeat (first | exact (Kd.C_below HR2.out (uw w)) | (with_reducible refine Kd.C_alloc ?_ _) | (with_reducible refine Kd.C_drewN ?_ _) | (with_reducible refine Kd.C_drew ?_))); (case side2 => exact HC2.out); rintro e w14 ⟨v529, rfl, ho0, hb⟩; refine ⟨_, rfl, ?_⟩; have := Stp.mk hb; have n0_ := As.mk (Kd.R_elder' (rX HO523.out) (Kd.R_base ho0) hb); have n1_ := As.mk (Kd.R_below (rX HO527.out) hb); have n2_ := As.mk (Kd.R_lower (Kd.R_new' ho0 (Kd.R_lt (rX HO523.out))) (below_size (uw w))); clear HO523; clear HO527; have HO523 := n0_; have HO527 := n1_; have HO530 := n2_; clear n0_ n1_ n2_; (try clear ho0); obtain ⟨Ao15, co15, eo15⟩ := Kd.R_slice HO530.out; subst eo15) | ((with_reducible refine gate_callee (f := 24) rfl ?_); refine goesL_ (some 37) rfl rfl Try.func24 (by kernel_rfl) rfl #[.int .i64 a0, .int .i64 a1, .slice Ao15 t528.length co15] rfl (by (try simp only [sD, sE, sF]); first | done | rfl) ?_; (with_reducible refine (i_TreeOfTiling.calls k a0 a1 _ _ t528 t531 t532 _ ?side1 ?side2 A9.out).mono ?_); (case side1 => repeat (first | exact (Kd.R_reads' HO530.out).2.2 | (with_reducible refine Kd.C_alloc ?_ _) | (with_reducible refine Kd.C_drewN ?_ _) | (with_reducible refine Kd.C_drew ?_))); (case side2 => exact (Kd.R_reads' HO530.out).2.1); rintro e w16 ⟨v533, rfl, ho0, hb⟩; refine ⟨_, rfl, ?_⟩; have := Stp.mk hb; have n0_ := As.mk (Kd.R_below (rX HO523.out) hb); have n1_ := As.mk (Kd.R_elder' (rX HO527.out) (Kd.R_base ho0) hb); have n2_ := As.mk (Kd.R_below (rX HO530.out) hb); have n3_ := As.mk (Kd.R_lower (Kd.R_new' ho0 (Kd.R_lt (rX HO527.out))) (below_size (uw w))); clear HO523; clear HO527; clear HO530; have HO523 := n0_; have HO527 := n1_; have HO530 := n2_; have HO534 := n3_; clear n0_ n1_ n2_ n3_; (try clear ho0)))
  (try simp only [Act.put, List.setIfInBounds_toArray, List.set_cons_zero, List.set_cons_succ])
  go_cut [48] (fun v48 wc => ∃ (kq : Nat) (x48_9 : Bool), v48 = .bool x48_9 ∧ As (l_FnExactTreeOfTiling.j0 kq a0 a1 l2 t524 t525 t528 t531 t532 x48_9 = some r) ∧ As (kq ≤ k) ∧ As (Kd.R k50 50 wc w.heap.size (fun k_ => some k_ ≠ (v533 : Value).ownBlock) v526 t524) ∧ As (Kd.R k41 41 wc w.heap.size (fun _ => True) (.slice Ao15 t528.length co15) t528) ∧ As (Kd.R k50 50 wc w.heap.size (fun k_ => some k_ ≠ (v526 : Value).ownBlock) v533 t531) ∧ Up w wc)
  case first =>
   have H := HC10.out
   clear HC10
   obtain ⟨t535, A17, H⟩ := bI H
   by_cases c18 : t535 = true
   ·subst c18
    rw [if_pos rfl] at H
    have H' := As.mk H
    clear H
    obtain ⟨Ao19, co19, eo19⟩ := Kd.R_slice HO534.out
    subst eo19
    obtain ⟨Ao20, co20, eo20⟩ := Kd.R_slice HO527.out
    subst eo20
    go_wp2_with (first | ((with_reducible refine gate_callee (f := 37) rfl ?_); refine goesL_ (some 42) rfl rfl Try.func37 (by kernel_rfl) rfl #[.slice Ao19 t531.length co19, .slice Ao20 t524.length co20] rfl (by (try simp only [sD, sE, sF]); first | done | rfl) ?_; (with_reducible refine (l_eqLinkS.calls k _ _ t531 _ _ t524 true _ ?side1 ?side2 ?side3 ?side4 A17.out).mono ?_); (case side1 => repeat (first | exact (Kd.R_reads' HO534.out).2.2 | (with_reducible refine Kd.C_alloc ?_ _) | (with_reducible refine Kd.C_drewN ?_ _) | (with_reducible refine Kd.C_drew ?_))); (case side2 => exact (Kd.R_reads' HO534.out).2.1); (case side3 => repeat (first | exact (Kd.R_reads' HO527.out).2.2 | (with_reducible refine Kd.C_alloc ?_ _) | (with_reducible refine Kd.C_drewN ?_ _) | (with_reducible refine Kd.C_drew ?_))); (case side4 => exact (Kd.R_reads' HO527.out).2.1); rintro e w21 ⟨rfl, hb⟩; refine ⟨_, rfl, ?_⟩; have := Stp.mk hb; replace HO523 := As.mk (Kd.R_below (rX HO523.out) hb); replace HO527 := As.mk (Kd.R_below (rX HO527.out) hb); replace HO530 := As.mk (Kd.R_below (rX HO530.out) hb); replace HO534 := As.mk (Kd.R_below (rX HO534.out) hb)))
    go_meet
    case rel => exact ⟨_, ((t532 != t525)), (by first | rfl | (simp; done) | (simp [*]; done)), H', ⟨by first | omega | exact Nat.le_refl _⟩, ⟨by (with_reducible repeat (first | apply Kd.R_alloc | apply Kd.R_drewN | apply Kd.R_drew)); exact Kd.R_mono HO527.out (fun _ hk => hk.2)⟩, ⟨by (with_reducible repeat (first | apply Kd.R_alloc | apply Kd.R_drewN | apply Kd.R_drew)); exact Kd.R_mono HO530.out (fun _ hk => trivial)⟩, ⟨by (with_reducible repeat (first | apply Kd.R_alloc | apply Kd.R_drewN | apply Kd.R_drew)); exact Kd.R_mono HO534.out (fun _ hk => hk.2)⟩, ⟨uw w⟩⟩
   ·replace c18 := Bool.eq_false_iff.mpr c18
    subst c18
    rw [if_neg Bool.false_ne_true] at H
    have H' := As.mk H
    clear H
    obtain ⟨Ao22, co22, eo22⟩ := Kd.R_slice HO534.out
    subst eo22
    obtain ⟨Ao23, co23, eo23⟩ := Kd.R_slice HO527.out
    subst eo23
    go_wp2_with (first | ((with_reducible refine gate_callee (f := 37) rfl ?_); refine goesL_ (some 42) rfl rfl Try.func37 (by kernel_rfl) rfl #[.slice Ao22 t531.length co22, .slice Ao23 t524.length co23] rfl (by (try simp only [sD, sE, sF]); first | done | rfl) ?_; (with_reducible refine (l_eqLinkS.calls k _ _ t531 _ _ t524 false _ ?side1 ?side2 ?side3 ?side4 A17.out).mono ?_); (case side1 => repeat (first | exact (Kd.R_reads' HO534.out).2.2 | (with_reducible refine Kd.C_alloc ?_ _) | (with_reducible refine Kd.C_drewN ?_ _) | (with_reducible refine Kd.C_drew ?_))); (case side2 => exact (Kd.R_reads' HO534.out).2.1); (case side3 => repeat (first | exact (Kd.R_reads' HO527.out).2.2 | (with_reducible refine Kd.C_alloc ?_ _) | (with_reducible refine Kd.C_drewN ?_ _) | (with_reducible refine Kd.C_drew ?_))); (case side4 => exact (Kd.R_reads' HO527.out).2.1); rintro e w24 ⟨rfl, hb⟩; refine ⟨_, rfl, ?_⟩; have := Stp.mk hb; replace HO523 := As.mk (Kd.R_below (rX HO523.out) hb); replace HO527 := As.mk (Kd.R_below (rX HO527.out) hb); replace HO530 := As.mk (Kd.R_below (rX HO530.out) hb); replace HO534 := As.mk (Kd.R_below (rX HO534.out) hb)))
    go_meet
    case rel => exact ⟨_, (true), (by first | rfl | (simp; done) | (simp [*]; done)), H', ⟨by first | omega | exact Nat.le_refl _⟩, ⟨by (with_reducible repeat (first | apply Kd.R_alloc | apply Kd.R_drewN | apply Kd.R_drew)); exact Kd.R_mono HO527.out (fun _ hk => hk.2)⟩, ⟨by (with_reducible repeat (first | apply Kd.R_alloc | apply Kd.R_drewN | apply Kd.R_drew)); exact Kd.R_mono HO530.out (fun _ hk => trivial)⟩, ⟨by (with_reducible repeat (first | apply Kd.R_alloc | apply Kd.R_drewN | apply Kd.R_drew)); exact Kd.R_mono HO534.out (fun _ hk => hk.2)⟩, ⟨uw w⟩⟩
  case rest =>
   clear HC10
   try clear c5
   try clear c5b0
   obtain ⟨kq, x48_9, rfl, HA, HJ9, HO_8, HO_10, HO_11, HB⟩ := hcut
   cases kq with
   | zero => exact absurd HA.out (by simp [l_FnExactTreeOfTiling.j0])
   | succ kj9 =>
    have H := HA.out
    clear HA
    simp only [l_FnExactTreeOfTiling.j0] at H
    by_cases c25 : x48_9 = true
    ·subst c25
     rw [if_pos rfl] at H
     obtain rfl := Option.some.inj H
     go_wp2
     go_ret
     exact ⟨by first | rfl | (simp [*, errW_none, errW_some] <;> rfl), uw w⟩
    ·replace c25 := Bool.eq_false_iff.mpr c25
     subst c25
     rw [if_neg Bool.false_ne_true] at H
     obtain ⟨t536, A26, H⟩ := bI H
     obtain ⟨t539, A27, H⟩ := bI H
     by_cases c28 : t539 = true
     ·subst c28
      rw [if_pos rfl] at H
      obtain ⟨⟨t540, t541⟩, A29, H⟩ := bI H
      dsimp only at H
      have HC30 := As.mk H
      clear H
      go_upto_region 14 with (first | ((with_reducible refine gate_callee (f := 52) rfl ?_); refine goesL_ (some 51) rfl rfl Try.func52 (by kernel_rfl) rfl #[.slice A2 l2.length c2] rfl (by (try simp only [sD, sE, sF]); first | done | rfl) ?_; (with_reducible refine (l_toDominoS.calls kj9 _ _ l2 t536 _ ?side1 ?side2 A26.out).mono ?_); (case side1 => repeat (first | exact (Kd.C_below HR2.out (uw w)) | (with_reducible refine Kd.C_alloc ?_ _) | (with_reducible refine Kd.C_drewN ?_ _) | (with_reducible refine Kd.C_drew ?_))); (case side2 => exact HC2.out); rintro e w31 ⟨v537, rfl, ho0, hb⟩; refine ⟨_, rfl, ?_⟩; have := Stp.mk hb; have n0_ := As.mk (Kd.R_below (rX HO_8.out) hb); have n1_ := As.mk (Kd.R_elder' (rX HO_10.out) (Kd.R_base ho0) hb); have n2_ := As.mk (Kd.R_below (rX HO_11.out) hb); have n3_ := As.mk (Kd.R_lower (Kd.R_new' ho0 (Kd.R_lt (rX HO_10.out))) (below_size (uw w))); clear HO_8; clear HO_10; clear HO_11; have HO_8 := n0_; have HO_10 := n1_; have HO_11 := n2_; have HO538 := n3_; clear n0_ n1_ n2_ n3_; (try clear ho0); obtain ⟨Ao32, co32, eo32⟩ := Kd.R_slice HO538.out; subst eo32) | ((with_reducible refine gate_callee (f := 36) rfl ?_); refine goesL_ (some 52) rfl rfl Try.func36 (by kernel_rfl) rfl #[.slice Ao15 t528.length co15, .slice Ao32 t536.length co32] rfl (by (try simp only [sD, sE, sF]); first | done | rfl) ?_; (with_reducible refine (l_eqDominoS.calls kj9 _ _ t528 _ _ t536 true _ ?side1 ?side2 ?side3 ?side4 A27.out).mono ?_); (case side1 => repeat (first | exact (Kd.R_reads' HO_10.out).2.2 | (with_reducible refine Kd.C_alloc ?_ _) | (with_reducible refine Kd.C_drewN ?_ _) | (with_reducible refine Kd.C_drew ?_))); (case side2 => exact (Kd.R_reads' HO_10.out).2.1); (case side3 => repeat (first | exact (Kd.R_reads' HO538.out).2.2 | (with_reducible refine Kd.C_alloc ?_ _) | (with_reducible refine Kd.C_drewN ?_ _) | (with_reducible refine Kd.C_drew ?_))); (case side4 => exact (Kd.R_reads' HO538.out).2.1); rintro e w33 ⟨rfl, hb⟩; refine ⟨_, rfl, ?_⟩; have := Stp.mk hb; replace HO_8 := As.mk (Kd.R_below (rX HO_8.out) hb); replace HO_10 := As.mk (Kd.R_below (rX HO_10.out) hb); replace HO_11 := As.mk (Kd.R_below (rX HO_11.out) hb); replace HO538 := As.mk (Kd.R_below (rX HO538.out) hb)) | ((with_reducible refine gate_callee (f := 39) rfl ?_); refine goesL_ (some 56) rfl rfl Try.func39 (by kernel_rfl) rfl #[.slice Ao15 t528.length co15, .int .i64 1] rfl (by (try simp only [sD, sE, sF]); first | done | rfl) ?_; (with_reducible refine (l_markDominoS.calls kj9 (fun k_ => some k_ = (.slice Ao15 t528.length co15 : Value).ownBlock) (.slice Ao15 t528.length co15) t528 1 t540 t541 w _ ?side1 ?side2 A29.out).mono ?_); (case side1 => repeat (first | (with_reducible first | exact (uw w (w := w33)) | apply below_alloc | apply pw_below_drewN | apply below_drew1) | exact (uw w (w := w33)))); (case side2 => exact Kd.R_tight rfl HO_10.out); rintro e w34 ⟨rfl, hy0, hb, hkp⟩; refine ⟨_, rfl, ?_⟩; have := Stp.mk hb; have n0_ := As.mk (Kd.R_mono (ok' := fun k_ => some k_ ≠ (v533 : Value).ownBlock) (Kd.R_keptB ((Kd.R_apart' HO_8.out (Kd.R_typed HO_10.out) (by decide))) hkp (fun k_ hk_ hs_ => (hk_.2) hs_)) (fun k_ hk_ => hk_.1.1)); have n1_ := As.mk (Kd.R_reok rfl hy0 (fun k_ e_ => HO_10.out.1 k_ e_)); have n2_ := As.mk (Kd.R_mono (ok' := fun k_ => some k_ ≠ (v526 : Value).ownBlock) (Kd.R_keptB ((Kd.R_apart' HO_11.out (Kd.R_typed HO_10.out) (by decide))) hkp (fun k_ hk_ hs_ => (hk_.2) hs_)) (fun k_ hk_ => hk_.1.1)); have n3_ := As.mk (Kd.R_mono (ok' := fun k_ => some k_ ≠ (.slice Ao15 t528.length co15 : Value).ownBlock) (Kd.R_keptB (HO538.out) hkp (fun k_ hk_ hs_ => (hk_.2) hs_)) (fun k_ hk_ => hk_.1.2)); have n4_ := Up.mk (hb); clear HO_8; clear HO_10; clear HO_11; clear HO538; have HO_8 := n0_; have HO_10 := n1_; have HO_11 := n2_; have HO538 := n3_; have HB := n4_; clear n0_ n1_ n2_ n3_ n4_; (try clear hkp); (try clear hy0)))
      (try simp only [Act.put, List.setIfInBounds_toArray, List.set_cons_zero, List.set_cons_succ])
      go_cut [69] (fun v69 wc => ∃ (kq : Nat) (x69_29 : Bool), v69 = .bool x69_29 ∧ As (l_FnExactTreeOfTiling.j1 kq a0 a1 l2 t524 t525 t531 x69_29 = some r) ∧ As (kq ≤ kj9) ∧ As (Kd.R k50 50 wc w.heap.size (fun k_ => some k_ ≠ (v533 : Value).ownBlock) v526 t524) ∧ As (Kd.R k50 50 wc w.heap.size (fun k_ => some k_ ≠ (v526 : Value).ownBlock) v533 t531) ∧ Up w wc)
      case first =>
       have H := HC30.out
       clear HC30
       by_cases c35 : t540 < 0
       ·rw [if_pos c35] at H
        have c35b0 : decide (t540 < 0) = true := decide_eq_true c35
        clear c35
        (first | rw [c35b0] | (simp only [i64_w, i32_w]; rw [c35b0]) | skip)
        have H' := As.mk H
        clear H
        go_wp2
        go_meet
        case rel => exact ⟨_, (true), (by first | rfl | (simp; done) | (simp [*]; done)), H', ⟨by have := HJ9.out; first | omega | exact Nat.le_refl _⟩, ⟨rX HO_8.out⟩, ⟨rX HO_11.out⟩, ⟨uw w⟩⟩
       ·rw [if_neg c35] at H
        have c35b0 : decide (t540 < 0) = false := decide_eq_false c35
        clear c35
        (first | rw [c35b0] | (simp only [i64_w, i32_w]; rw [c35b0]) | skip)
        obtain ⟨t542, A36, H⟩ := bI H
        by_cases c37 : t542 = true
        ·subst c37
         rw [if_pos rfl] at H
         have H' := As.mk H
         clear H
         obtain ⟨Ao38, co38, eo38⟩ := Kd.R_slice HO_11.out
         subst eo38
         obtain ⟨Ao39, co39, eo39⟩ := Kd.R_slice HO_8.out
         subst eo39
         go_wp2_with (first | (go_at_call 37; (with_reducible refine (l_eqLinkS.calls kj9 _ _ t531 _ _ t524 true _ ?side1 ?side2 ?side3 ?side4 A36.out).mono ?_); (case side1 => repeat (first | exact (Kd.R_reads' HO_11.out).2.2 | (with_reducible refine Kd.C_alloc ?_ _) | (with_reducible refine Kd.C_drewN ?_ _) | (with_reducible refine Kd.C_drew ?_))); (case side2 => exact (Kd.R_reads' HO_11.out).2.1); (case side3 => repeat (first | exact (Kd.R_reads' HO_8.out).2.2 | (with_reducible refine Kd.C_alloc ?_ _) | (with_reducible refine Kd.C_drewN ?_ _) | (with_reducible refine Kd.C_drew ?_))); (case side4 => exact (Kd.R_reads' HO_8.out).2.1); rintro e w40 ⟨rfl, hb⟩; have := Stp.mk hb; replace HO_8 := As.mk (Kd.R_below (rX HO_8.out) hb); replace HO_10 := As.mk (Kd.R_below (rX HO_10.out) hb); replace HO_11 := As.mk (Kd.R_below (rX HO_11.out) hb); replace HO538 := As.mk (Kd.R_below (rX HO538.out) hb)))
         go_meet
         case rel => exact ⟨_, ((t532 != t525)), (by first | rfl | (simp; done) | (simp [*]; done)), H', ⟨by have := HJ9.out; first | omega | exact Nat.le_refl _⟩, ⟨rX HO_8.out⟩, ⟨rX HO_11.out⟩, ⟨uw w⟩⟩
        ·replace c37 := Bool.eq_false_iff.mpr c37
         subst c37
         rw [if_neg Bool.false_ne_true] at H
         have H' := As.mk H
         clear H
         obtain ⟨Ao41, co41, eo41⟩ := Kd.R_slice HO_11.out
         subst eo41
         obtain ⟨Ao42, co42, eo42⟩ := Kd.R_slice HO_8.out
         subst eo42
         go_wp2_with (first | (go_at_call 37; (with_reducible refine (l_eqLinkS.calls kj9 _ _ t531 _ _ t524 false _ ?side1 ?side2 ?side3 ?side4 A36.out).mono ?_); (case side1 => repeat (first | exact (Kd.R_reads' HO_11.out).2.2 | (with_reducible refine Kd.C_alloc ?_ _) | (with_reducible refine Kd.C_drewN ?_ _) | (with_reducible refine Kd.C_drew ?_))); (case side2 => exact (Kd.R_reads' HO_11.out).2.1); (case side3 => repeat (first | exact (Kd.R_reads' HO_8.out).2.2 | (with_reducible refine Kd.C_alloc ?_ _) | (with_reducible refine Kd.C_drewN ?_ _) | (with_reducible refine Kd.C_drew ?_))); (case side4 => exact (Kd.R_reads' HO_8.out).2.1); rintro e w43 ⟨rfl, hb⟩; have := Stp.mk hb; replace HO_8 := As.mk (Kd.R_below (rX HO_8.out) hb); replace HO_10 := As.mk (Kd.R_below (rX HO_10.out) hb); replace HO_11 := As.mk (Kd.R_below (rX HO_11.out) hb); replace HO538 := As.mk (Kd.R_below (rX HO538.out) hb)))
         go_meet
         case rel => exact ⟨_, (true), (by first | rfl | (simp; done) | (simp [*]; done)), H', ⟨by have := HJ9.out; first | omega | exact Nat.le_refl _⟩, ⟨rX HO_8.out⟩, ⟨rX HO_11.out⟩, ⟨uw w⟩⟩
      case rest =>
       clear HC30
       try clear c5
       try clear c5b0
       try clear c25
       try clear c28
       obtain ⟨kq, x69_29, rfl, HA, HJ29, HO_8, HO_11, HB⟩ := hcut
       cases kq with
       | zero => exact absurd HA.out (by simp [l_FnExactTreeOfTiling.j1])
       | succ kj29 =>
        have H := HA.out
        clear HA
        simp only [l_FnExactTreeOfTiling.j1] at H
        by_cases c44 : x69_29 = true
        ·subst c44
         rw [if_pos rfl] at H
         obtain rfl := Option.some.inj H
         go_wp2
         go_ret
         exact ⟨by first | rfl | (simp [*, errW_none, errW_some] <;> rfl), uw w⟩
        ·replace c44 := Bool.eq_false_iff.mpr c44
         subst c44
         rw [if_neg Bool.false_ne_true] at H
         obtain ⟨⟨t543, t544⟩, A45, H⟩ := bI H
         dsimp only at H
         obtain ⟨t545, A46, H⟩ := bI H
         by_cases c47 : t545 < 0
         ·rw [if_pos c47] at H
          have c47b0 : decide (t545 < 0) = true := decide_eq_true c47
          clear c47
          obtain rfl := Option.some.inj H
          obtain ⟨Ao48, co48, eo48⟩ := Kd.R_slice HO_11.out
          subst eo48
          go_wp2_with (first | ((with_reducible refine gate_callee (f := 38) rfl ?_); refine goesL_ (some 72) rfl rfl Try.func38 (by kernel_rfl) rfl #[.slice Ao48 t531.length co48, .int .i64 1] rfl (by (try simp only [sD, sE, sF]); first | done | rfl) ?_; (with_reducible refine (l_markLinkS.calls kj29 (fun k_ => some k_ = (.slice Ao48 t531.length co48 : Value).ownBlock) (.slice Ao48 t531.length co48) t531 1 t543 t544 w _ ?side1 ?side2 A45.out).mono ?_); (case side1 => repeat (first | (with_reducible first | exact (uw w (w := wc)) | apply below_alloc | apply pw_below_drewN | apply below_drew1) | exact (uw w (w := wc)))); (case side2 => exact Kd.R_tight rfl HO_11.out); rintro e w49 ⟨rfl, hy0, hb, hkp⟩; refine ⟨_, rfl, ?_⟩; have := Stp.mk hb; replace HO_8 := As.mk (Kd.R_mono (ok' := fun k_ => some k_ ≠ (.slice Ao48 t531.length co48 : Value).ownBlock) (Kd.R_keptB (HO_8.out) hkp (fun k_ hk_ hs_ => (hk_) hs_)) (fun k_ hk_ => hk_.1)); replace HO_11 := As.mk (Kd.R_reok rfl hy0 (fun k_ e_ => HO_11.out.1 k_ e_)); have HB := Up.mk (hb); (try clear hkp); (try clear hy0)) | ((with_reducible refine gate_callee (f := 53) rfl ?_); refine goesL_ (some 75) rfl rfl Try.func53 (by kernel_rfl) rfl #[.slice Ao48 t544.length co48, .int .i64 1] rfl (by (try simp only [List.map_toArray, List.map_cons, List.map_nil]); first | done | (rw [show t544.length = t531.length from (Kd.R_reads' HO_11.out).1.symm] <;> rfl) | rfl | (simp only [List.length_drop, List.length_take]; rfl)) ?_; (with_reducible refine (l_heldLinkS.calls kj29 _ _ t544 1 t545 _ ?side1 ?side2 A46.out).mono ?_); (case side1 => repeat (first | exact (Kd.R_reads' HO_11.out).2.2 | (with_reducible refine Kd.C_alloc ?_ _) | (with_reducible refine Kd.C_drewN ?_ _) | (with_reducible refine Kd.C_drew ?_))); (case side2 => rw [show t544.length = t531.length from (Kd.R_reads' HO_11.out).1.symm]; exact (Kd.R_reads' HO_11.out).2.1); rintro e w' ⟨rfl, ⟨nd, rfl⟩⟩; refine ⟨_, rfl, ?_⟩))
          go_ret
          exact ⟨by first | rfl | (simp [*, errW_none, errW_some] <;> rfl), uw w⟩
         ·rw [if_neg c47] at H
          have c47b0 : decide (t545 < 0) = false := decide_eq_false c47
          clear c47
          by_cases c50 : t545 = t543
          ·rw [if_pos c50] at H
           have c50b0 : (t545 == t543) = true := beq_iff_eq.mpr c50
           have c50b1 : (t545 != t543) = false := bne_eq_false_iff_eq.mpr c50
           clear c50
           obtain ⟨t546, A51, H⟩ := bI H
           obtain ⟨⟨t549, t550⟩, A52, H⟩ := bI H
           dsimp only at H
           have HC53 := As.mk H
           clear H
           obtain ⟨Ao54, co54, eo54⟩ := Kd.R_slice HO_11.out
           subst eo54
           go_upto_region 25 with (first | ((with_reducible refine gate_callee (f := 38) rfl ?_); refine goesL_ (some 72) rfl rfl Try.func38 (by kernel_rfl) rfl #[.slice Ao54 t531.length co54, .int .i64 1] rfl (by (try simp only [sD, sE, sF]); first | done | rfl) ?_; (with_reducible refine (l_markLinkS.calls kj29 (fun k_ => some k_ = (.slice Ao54 t531.length co54 : Value).ownBlock) (.slice Ao54 t531.length co54) t531 1 t543 t544 w _ ?side1 ?side2 A45.out).mono ?_); (case side1 => repeat (first | (with_reducible first | exact (uw w (w := wc)) | apply below_alloc | apply pw_below_drewN | apply below_drew1) | exact (uw w (w := wc)))); (case side2 => exact Kd.R_tight rfl HO_11.out); rintro e w55 ⟨rfl, hy0, hb, hkp⟩; refine ⟨_, rfl, ?_⟩; have := Stp.mk hb; replace HO_8 := As.mk (Kd.R_mono (ok' := fun k_ => some k_ ≠ (.slice Ao54 t531.length co54 : Value).ownBlock) (Kd.R_keptB (HO_8.out) hkp (fun k_ hk_ hs_ => (hk_) hs_)) (fun k_ hk_ => hk_.1)); replace HO_11 := As.mk (Kd.R_reok rfl hy0 (fun k_ e_ => HO_11.out.1 k_ e_)); have HB := Up.mk (hb); (try clear hkp); (try clear hy0)) | ((with_reducible refine gate_callee (f := 53) rfl ?_); refine goesL_ (some 75) rfl rfl Try.func53 (by kernel_rfl) rfl #[.slice Ao54 t544.length co54, .int .i64 1] rfl (by (try simp only [List.map_toArray, List.map_cons, List.map_nil]); first | done | (rw [show t544.length = t531.length from (Kd.R_reads' HO_11.out).1.symm] <;> rfl) | rfl | (simp only [List.length_drop, List.length_take]; rfl)) ?_; (with_reducible refine (l_heldLinkS.calls kj29 _ _ t544 1 t545 _ ?side1 ?side2 A46.out).mono ?_); (case side1 => repeat (first | exact (Kd.R_reads' HO_11.out).2.2 | (with_reducible refine Kd.C_alloc ?_ _) | (with_reducible refine Kd.C_drewN ?_ _) | (with_reducible refine Kd.C_drew ?_))); (case side2 => rw [show t544.length = t531.length from (Kd.R_reads' HO_11.out).1.symm]; exact (Kd.R_reads' HO_11.out).2.1); rintro e w' ⟨rfl, ⟨nd, rfl⟩⟩; refine ⟨_, rfl, ?_⟩) | ((with_reducible refine gate_callee (f := 52) rfl ?_); refine goesL_ (some 85) rfl rfl Try.func52 (by kernel_rfl) rfl #[.slice A2 l2.length c2] rfl (by (try simp only [sD, sE, sF]); first | done | rfl) ?_; (with_reducible refine (l_toDominoS.calls kj29 _ _ l2 t546 _ ?side1 ?side2 A51.out).mono ?_); (case side1 => repeat (first | exact (Kd.C_below HR2.out (uw w)) | (with_reducible refine Kd.C_alloc ?_ _) | (with_reducible refine Kd.C_drewN ?_ _) | (with_reducible refine Kd.C_drew ?_))); (case side2 => exact HC2.out); rintro e w56 ⟨v547, rfl, ho0, hb⟩; refine ⟨_, rfl, ?_⟩; have := Stp.mk hb; replace HO_8 := As.mk (Kd.R_below (rX HO_8.out) hb); replace HO_11 := As.mk (Kd.R_below (rX HO_11.out) hb); have HO548 := As.mk (Kd.R_lower ho0 (below_size (uw w))); (try clear ho0); obtain ⟨Ao57, co57, eo57⟩ := Kd.R_slice HO548.out; subst eo57) | ((with_reducible refine gate_callee (f := 24) rfl ?_); refine goesL_ (some 86) rfl rfl Try.func24 (by kernel_rfl) rfl #[.int .i64 a0, .int .i64 a1, .slice Ao57 t546.length co57] rfl (by (try simp only [sD, sE, sF]); first | done | rfl) ?_; (with_reducible refine (i_TreeOfTiling.calls kj29 a0 a1 _ _ t546 t549 t550 _ ?side1 ?side2 A52.out).mono ?_); (case side1 => repeat (first | exact (Kd.R_reads' HO548.out).2.2 | (with_reducible refine Kd.C_alloc ?_ _) | (with_reducible refine Kd.C_drewN ?_ _) | (with_reducible refine Kd.C_drew ?_))); (case side2 => exact (Kd.R_reads' HO548.out).2.1); rintro e w58 ⟨v551, rfl, ho0, hb⟩; refine ⟨_, rfl, ?_⟩; have := Stp.mk hb; have n0_ := As.mk (Kd.R_elder' (rX HO_8.out) (Kd.R_base ho0) hb); have n1_ := As.mk (Kd.R_elder' (rX HO_11.out) (Kd.R_base ho0) hb); have n2_ := As.mk (Kd.R_below (rX HO548.out) hb); have n3_ := As.mk (Kd.R_lower (Kd.R_new' (Kd.R_new' ho0 (Kd.R_lt (rX HO_8.out))) (Kd.R_lt (rX HO_11.out))) (below_size (uw w))); clear HO_8; clear HO_11; clear HO548; have HO_8 := n0_; have HO_11 := n1_; have HO548 := n2_; have HO552 := n3_; clear n0_ n1_ n2_ n3_; (try clear ho0)))
           (try simp only [Act.put, List.setIfInBounds_toArray, List.set_cons_zero, List.set_cons_succ])
           go_cut [97] (fun v97 wc => ∃ (kq : Nat) (x97_52 : Bool), v97 = .bool x97_52 ∧ As (l_FnExactTreeOfTiling.j2 kq t544 t543 x97_52 = some r) ∧ As (kq ≤ kj29) ∧ As (Kd.R k50 50 wc w.heap.size (fun _ => True) (.slice Ao54 t531.length co54) t544) ∧ Up w wc)
           case first =>
            have H := HC53.out
            clear HC53
            obtain ⟨t553, A59, H⟩ := bI H
            by_cases c60 : t553 = true
            ·subst c60
             rw [if_pos rfl] at H
             have H' := As.mk H
             clear H
             obtain ⟨Ao61, co61, eo61⟩ := Kd.R_slice HO552.out
             subst eo61
             obtain ⟨Ao62, co62, eo62⟩ := Kd.R_slice HO_8.out
             subst eo62
             go_wp2_with (first | ((with_reducible refine gate_callee (f := 37) rfl ?_); refine goesL_ (some 91) rfl rfl Try.func37 (by kernel_rfl) rfl #[.slice Ao61 t549.length co61, .slice Ao62 t524.length co62] rfl (by (try simp only [sD, sE, sF]); first | done | rfl) ?_; (with_reducible refine (l_eqLinkS.calls kj29 _ _ t549 _ _ t524 true _ ?side1 ?side2 ?side3 ?side4 A59.out).mono ?_); (case side1 => repeat (first | exact (Kd.R_reads' HO552.out).2.2 | (with_reducible refine Kd.C_alloc ?_ _) | (with_reducible refine Kd.C_drewN ?_ _) | (with_reducible refine Kd.C_drew ?_))); (case side2 => exact (Kd.R_reads' HO552.out).2.1); (case side3 => repeat (first | exact (Kd.R_reads' HO_8.out).2.2 | (with_reducible refine Kd.C_alloc ?_ _) | (with_reducible refine Kd.C_drewN ?_ _) | (with_reducible refine Kd.C_drew ?_))); (case side4 => exact (Kd.R_reads' HO_8.out).2.1); rintro e w63 ⟨rfl, hb⟩; refine ⟨_, rfl, ?_⟩; have := Stp.mk hb; replace HO_8 := As.mk (Kd.R_below (rX HO_8.out) hb); replace HO_11 := As.mk (Kd.R_below (rX HO_11.out) hb); replace HO548 := As.mk (Kd.R_below (rX HO548.out) hb); replace HO552 := As.mk (Kd.R_below (rX HO552.out) hb)))
             go_meet
             case rel => exact ⟨_, ((t550 != t525)), (by first | rfl | (simp; done) | (simp [*]; done)), H', ⟨by have := HJ9.out; have := HJ29.out; first | omega | exact Nat.le_refl _⟩, ⟨by (with_reducible repeat (first | apply Kd.R_alloc | apply Kd.R_drewN | apply Kd.R_drew)); exact Kd.R_mono HO_11.out (fun _ hk => trivial)⟩, ⟨uw w⟩⟩
            ·replace c60 := Bool.eq_false_iff.mpr c60
             subst c60
             rw [if_neg Bool.false_ne_true] at H
             have H' := As.mk H
             clear H
             obtain ⟨Ao64, co64, eo64⟩ := Kd.R_slice HO552.out
             subst eo64
             obtain ⟨Ao65, co65, eo65⟩ := Kd.R_slice HO_8.out
             subst eo65
             go_wp2_with (first | ((with_reducible refine gate_callee (f := 37) rfl ?_); refine goesL_ (some 91) rfl rfl Try.func37 (by kernel_rfl) rfl #[.slice Ao64 t549.length co64, .slice Ao65 t524.length co65] rfl (by (try simp only [sD, sE, sF]); first | done | rfl) ?_; (with_reducible refine (l_eqLinkS.calls kj29 _ _ t549 _ _ t524 false _ ?side1 ?side2 ?side3 ?side4 A59.out).mono ?_); (case side1 => repeat (first | exact (Kd.R_reads' HO552.out).2.2 | (with_reducible refine Kd.C_alloc ?_ _) | (with_reducible refine Kd.C_drewN ?_ _) | (with_reducible refine Kd.C_drew ?_))); (case side2 => exact (Kd.R_reads' HO552.out).2.1); (case side3 => repeat (first | exact (Kd.R_reads' HO_8.out).2.2 | (with_reducible refine Kd.C_alloc ?_ _) | (with_reducible refine Kd.C_drewN ?_ _) | (with_reducible refine Kd.C_drew ?_))); (case side4 => exact (Kd.R_reads' HO_8.out).2.1); rintro e w66 ⟨rfl, hb⟩; refine ⟨_, rfl, ?_⟩; have := Stp.mk hb; replace HO_8 := As.mk (Kd.R_below (rX HO_8.out) hb); replace HO_11 := As.mk (Kd.R_below (rX HO_11.out) hb); replace HO548 := As.mk (Kd.R_below (rX HO548.out) hb); replace HO552 := As.mk (Kd.R_below (rX HO552.out) hb)))
             go_meet
             case rel => exact ⟨_, (true), (by first | rfl | (simp; done) | (simp [*]; done)), H', ⟨by have := HJ9.out; have := HJ29.out; first | omega | exact Nat.le_refl _⟩, ⟨by (with_reducible repeat (first | apply Kd.R_alloc | apply Kd.R_drewN | apply Kd.R_drew)); exact Kd.R_mono HO_11.out (fun _ hk => trivial)⟩, ⟨uw w⟩⟩
           case rest =>
            clear HC53
            try clear c5
            try clear c5b0
            try clear c25
            try clear c28
            try clear c44
            try clear c47
            try clear c47b0
            try clear c50
            try clear c50b0
            try clear c50b1
            obtain ⟨kq, x97_52, rfl, HA, HJ52, HO_11, HB⟩ := hcut
            have hl11_52 := (Kd.R_reads' HO_11.out).1
            rw [hl11_52] at HO_11
            (try simp only [hl11_52])
            cases kq with
            | zero => exact absurd HA.out (by simp [l_FnExactTreeOfTiling.j2])
            | succ kj52 =>
             have H := HA.out
             clear HA
             simp only [l_FnExactTreeOfTiling.j2] at H
             by_cases c67 : x97_52 = true
             ·subst c67
              rw [if_pos rfl] at H
              obtain rfl := Option.some.inj H
              go_wp2
              go_ret
              exact ⟨by first | rfl | (simp [*, errW_none, errW_some] <;> rfl), uw w⟩
             ·replace c67 := Bool.eq_false_iff.mpr c67
              subst c67
              rw [if_neg Bool.false_ne_true] at H
              obtain ⟨t554, A68, H⟩ := bI H
              by_cases c69 : t554 < 0
              ·rw [if_pos c69] at H
               have c69b0 : decide (t554 < 0) = true := decide_eq_true c69
               clear c69
               obtain rfl := Option.some.inj H
               go_wp2_with (first | ((with_reducible refine gate_callee (f := 53) rfl ?_); refine goesL_ (some 100) rfl rfl Try.func53 (by kernel_rfl) rfl #[.slice Ao54 t544.length co54, .int .i64 1] rfl (by (try simp only [sD, sE, sF]); first | done | rfl) ?_; (with_reducible refine (l_heldLinkS.calls kj52 _ _ t544 1 t554 _ ?side1 ?side2 A68.out).mono ?_); (case side1 => repeat (first | exact (Kd.R_reads' HO_11.out).2.2 | (with_reducible refine Kd.C_alloc ?_ _) | (with_reducible refine Kd.C_drewN ?_ _) | (with_reducible refine Kd.C_drew ?_))); (case side2 => exact (Kd.R_reads' HO_11.out).2.1); rintro e w' ⟨rfl, ⟨nd, rfl⟩⟩; refine ⟨_, rfl, ?_⟩))
               go_ret
               exact ⟨by first | rfl | (simp [*, errW_none, errW_some] <;> rfl), uw w⟩
              ·rw [if_neg c69] at H
               have c69b0 : decide (t554 < 0) = false := decide_eq_false c69
               clear c69
               by_cases c70 : t554 = t543
               ·rw [if_pos c70] at H
                have c70b0 : (t554 == t543) = true := beq_iff_eq.mpr c70
                have c70b1 : (t554 != t543) = false := bne_eq_false_iff_eq.mpr c70
                clear c70
                obtain rfl := Option.some.inj H
                go_wp2_with (first | ((with_reducible refine gate_callee (f := 53) rfl ?_); refine goesL_ (some 100) rfl rfl Try.func53 (by kernel_rfl) rfl #[.slice Ao54 t544.length co54, .int .i64 1] rfl (by (try simp only [sD, sE, sF]); first | done | rfl) ?_; (with_reducible refine (l_heldLinkS.calls kj52 _ _ t544 1 t554 _ ?side1 ?side2 A68.out).mono ?_); (case side1 => repeat (first | exact (Kd.R_reads' HO_11.out).2.2 | (with_reducible refine Kd.C_alloc ?_ _) | (with_reducible refine Kd.C_drewN ?_ _) | (with_reducible refine Kd.C_drew ?_))); (case side2 => exact (Kd.R_reads' HO_11.out).2.1); rintro e w' ⟨rfl, ⟨nd, rfl⟩⟩; refine ⟨_, rfl, ?_⟩))
                go_ret
                exact ⟨by first | rfl | (simp [*, errW_none, errW_some] <;> rfl), uw w⟩
               ·rw [if_neg c70] at H
                have c70b0 : (t554 == t543) = false := beq_eq_false_iff_ne.mpr c70
                have c70b1 : (t554 != t543) = true := bne_iff_ne.mpr c70
                obtain rfl := Option.some.inj H
                go_wp2_with (first | ((with_reducible refine gate_callee (f := 53) rfl ?_); refine goesL_ (some 100) rfl rfl Try.func53 (by kernel_rfl) rfl #[.slice Ao54 t544.length co54, .int .i64 1] rfl (by (try simp only [sD, sE, sF]); first | done | rfl) ?_; (with_reducible refine (l_heldLinkS.calls kj52 _ _ t544 1 t554 _ ?side1 ?side2 A68.out).mono ?_); (case side1 => repeat (first | exact (Kd.R_reads' HO_11.out).2.2 | (with_reducible refine Kd.C_alloc ?_ _) | (with_reducible refine Kd.C_drewN ?_ _) | (with_reducible refine Kd.C_drew ?_))); (case side2 => exact (Kd.R_reads' HO_11.out).2.1); rintro e w' ⟨rfl, ⟨nd, rfl⟩⟩; refine ⟨_, rfl, ?_⟩))
                go_ret
                exact ⟨by first | rfl | (simp [*, errW_none, errW_some] <;> rfl), uw w⟩
          ·rw [if_neg c50] at H
           have c50b0 : (t545 == t543) = false := beq_eq_false_iff_ne.mpr c50
           have c50b1 : (t545 != t543) = true := bne_iff_ne.mpr c50
           obtain rfl := Option.some.inj H
           obtain ⟨Ao71, co71, eo71⟩ := Kd.R_slice HO_11.out
           subst eo71
           go_wp2_with (first | ((with_reducible refine gate_callee (f := 38) rfl ?_); refine goesL_ (some 72) rfl rfl Try.func38 (by kernel_rfl) rfl #[.slice Ao71 t531.length co71, .int .i64 1] rfl (by (try simp only [sD, sE, sF]); first | done | rfl) ?_; (with_reducible refine (l_markLinkS.calls kj29 (fun k_ => some k_ = (.slice Ao71 t531.length co71 : Value).ownBlock) (.slice Ao71 t531.length co71) t531 1 t543 t544 w _ ?side1 ?side2 A45.out).mono ?_); (case side1 => repeat (first | (with_reducible first | exact (uw w (w := wc)) | apply below_alloc | apply pw_below_drewN | apply below_drew1) | exact (uw w (w := wc)))); (case side2 => exact Kd.R_tight rfl HO_11.out); rintro e w72 ⟨rfl, hy0, hb, hkp⟩; refine ⟨_, rfl, ?_⟩; have := Stp.mk hb; replace HO_8 := As.mk (Kd.R_mono (ok' := fun k_ => some k_ ≠ (.slice Ao71 t531.length co71 : Value).ownBlock) (Kd.R_keptB (HO_8.out) hkp (fun k_ hk_ hs_ => (hk_) hs_)) (fun k_ hk_ => hk_.1)); replace HO_11 := As.mk (Kd.R_reok rfl hy0 (fun k_ e_ => HO_11.out.1 k_ e_)); have HB := Up.mk (hb); (try clear hkp); (try clear hy0)) | ((with_reducible refine gate_callee (f := 53) rfl ?_); refine goesL_ (some 75) rfl rfl Try.func53 (by kernel_rfl) rfl #[.slice Ao71 t544.length co71, .int .i64 1] rfl (by (try simp only [List.map_toArray, List.map_cons, List.map_nil]); first | done | (rw [show t544.length = t531.length from (Kd.R_reads' HO_11.out).1.symm] <;> rfl) | rfl | (simp only [List.length_drop, List.length_take]; rfl)) ?_; (with_reducible refine (l_heldLinkS.calls kj29 _ _ t544 1 t545 _ ?side1 ?side2 A46.out).mono ?_); (case side1 => repeat (first | exact (Kd.R_reads' HO_11.out).2.2 | (with_reducible refine Kd.C_alloc ?_ _) | (with_reducible refine Kd.C_drewN ?_ _) | (with_reducible refine Kd.C_drew ?_))); (case side2 => rw [show t544.length = t531.length from (Kd.R_reads' HO_11.out).1.symm]; exact (Kd.R_reads' HO_11.out).2.1); rintro e w' ⟨rfl, ⟨nd, rfl⟩⟩; refine ⟨_, rfl, ?_⟩))
           go_ret
           exact ⟨by first | rfl | (simp [*, errW_none, errW_some] <;> rfl), uw w⟩
     ·replace c28 := Bool.eq_false_iff.mpr c28
      subst c28
      rw [if_neg Bool.false_ne_true] at H
      obtain rfl := Option.some.inj H
      go_wp2_with (first | ((with_reducible refine gate_callee (f := 52) rfl ?_); refine goesL_ (some 51) rfl rfl Try.func52 (by kernel_rfl) rfl #[.slice A2 l2.length c2] rfl (by (try simp only [sD, sE, sF]); first | done | rfl) ?_; (with_reducible refine (l_toDominoS.calls kj9 _ _ l2 t536 _ ?side1 ?side2 A26.out).mono ?_); (case side1 => repeat (first | exact (Kd.C_below HR2.out (uw w)) | (with_reducible refine Kd.C_alloc ?_ _) | (with_reducible refine Kd.C_drewN ?_ _) | (with_reducible refine Kd.C_drew ?_))); (case side2 => exact HC2.out); rintro e w73 ⟨v537, rfl, ho0, hb⟩; refine ⟨_, rfl, ?_⟩; have := Stp.mk hb; have n0_ := As.mk (Kd.R_below (rX HO_8.out) hb); have n1_ := As.mk (Kd.R_elder' (rX HO_10.out) (Kd.R_base ho0) hb); have n2_ := As.mk (Kd.R_below (rX HO_11.out) hb); have n3_ := As.mk (Kd.R_lower (Kd.R_new' ho0 (Kd.R_lt (rX HO_10.out))) (below_size (uw w))); clear HO_8; clear HO_10; clear HO_11; have HO_8 := n0_; have HO_10 := n1_; have HO_11 := n2_; have HO538 := n3_; clear n0_ n1_ n2_ n3_; (try clear ho0); obtain ⟨Ao74, co74, eo74⟩ := Kd.R_slice HO538.out; subst eo74) | ((with_reducible refine gate_callee (f := 36) rfl ?_); refine goesL_ (some 52) rfl rfl Try.func36 (by kernel_rfl) rfl #[.slice Ao15 t528.length co15, .slice Ao74 t536.length co74] rfl (by (try simp only [sD, sE, sF]); first | done | rfl) ?_; (with_reducible refine (l_eqDominoS.calls kj9 _ _ t528 _ _ t536 false _ ?side1 ?side2 ?side3 ?side4 A27.out).mono ?_); (case side1 => repeat (first | exact (Kd.R_reads' HO_10.out).2.2 | (with_reducible refine Kd.C_alloc ?_ _) | (with_reducible refine Kd.C_drewN ?_ _) | (with_reducible refine Kd.C_drew ?_))); (case side2 => exact (Kd.R_reads' HO_10.out).2.1); (case side3 => repeat (first | exact (Kd.R_reads' HO538.out).2.2 | (with_reducible refine Kd.C_alloc ?_ _) | (with_reducible refine Kd.C_drewN ?_ _) | (with_reducible refine Kd.C_drew ?_))); (case side4 => exact (Kd.R_reads' HO538.out).2.1); rintro e w75 ⟨rfl, hb⟩; refine ⟨_, rfl, ?_⟩; have := Stp.mk hb; replace HO_8 := As.mk (Kd.R_below (rX HO_8.out) hb); replace HO_10 := As.mk (Kd.R_below (rX HO_10.out) hb); replace HO_11 := As.mk (Kd.R_below (rX HO_11.out) hb); replace HO538 := As.mk (Kd.R_below (rX HO538.out) hb)))
      go_ret
      exact ⟨by first | rfl | (simp [*, errW_none, errW_some] <;> rfl), uw w⟩
end Go.Proofs.Ytnfnlmilmpaofaa.PFnExactTreeOfTiling
