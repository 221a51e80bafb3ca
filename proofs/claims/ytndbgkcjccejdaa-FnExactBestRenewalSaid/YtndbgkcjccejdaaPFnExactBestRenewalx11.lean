-- written by a program of this session (mkp.py) out of the translation; Lean checks it. -- squeezed
import Derived.Deep.RegionHeld3
import Derived.Test.YtndbgkcjccejdaaPFnExactBestRenewalx0
import Derived.Test.YtndbgkcjccejdaaPFnExactBestRenewalx6
import Derived.Test.YtndbgkcjccejdaaPFnExactBestRenewalx7
import Derived.Test.YtndbgkcjccejdaaPFnExactBestRenewalx9
import Derived.Test.YtndbgkcjccejdaaPFnExactBestRenewalx10
namespace Go.Proofs.Ytndbgkcjccejdaa.PFnExactBestRenewal
open Go.RowKit Go.Proofs.YtndbgkcjccejdaaW.PrintWords Go.Proofs.YtndbgkcjccejdaaW.PrintLast Go.Proofs.YtndbgkcjccejdaaW.PrintMore
attribute [local go_sem] bin_leq bin_gtr bin_geq max2_int min2_int max_two min_two max_three min_three max_four min_four   -- for this text's walks alone
set_option linter.unusedVariables false
set_option linter.unusedSimpArgs false

/-! ### impl_BestRenewal: function 30 -/
/-- Blocks of one type stay as they are. -/
def KeepsT (t : Nat) (w w' : World) : Prop := ∀ (k : Nat) (cs : Array Value), w.heap[k]? = some (.cells cs t (0, 0)) → w'.heap[k]? = some (.cells cs t (0, 0))
theorem KeepsT.refl (t : Nat) (w : World) : KeepsT t w w := fun _ _ h => h
theorem KeepsT.trans {t : Nat} {w w1 w2 : World} (h : KeepsT t w w1) (h2 : KeepsT t w1 w2) : KeepsT t w w2 := fun k cs hk => h2 k cs (h k cs hk)
theorem KeepsT.below {t : Nat} {w w1 w2 : World} (h : KeepsT t w w1) (hb : Below w1.heap.size w1 w2) : KeepsT t w w2 := fun k cs hk => blk_below (h k cs hk) hb
theorem KeepsT.drewN {t : Nat} {w w1 : World} (h : KeepsT t w w1) (n : Nat) : KeepsT t w (w1.drewN n) := h
theorem KeepsT.drew {t : Nat} {w w1 : World} (h : KeepsT t w w1) : KeepsT t w w1.drew := h
theorem KeepsT.alloc {t : Nat} {w w1 : World} (h : KeepsT t w w1) (o : Obj) : KeepsT t w (w1.alloc o) := fun k cs hk => blk_alloc (h k cs hk) o
theorem KeepsT.set {t t2 p : Nat} {c2 : Array Value} {w w1 : World} (h : KeepsT t w w1) (hP : w1.heap[p]? = some (.cells c2 t2 (0, 0))) (ht : t ≠ t2) (i : Nat) (u : Value) : KeepsT t w (w1.setCell ⟨p, i, none⟩ u) := fun k cs hk => blk_far (h k cs hk) (p := ⟨p, i, none⟩) (blk_ne (h k cs hk) hP ht) u
theorem KeepsT.grown {t base : Nat} {ok : Nat → Prop} {v : Value} {xs : List Int} {w w1 w2 : World} (h : KeepsT t w w1) (hg : w1.grownBy w2 v.ownBlock) (hR : Kd.R (Kd.int .i64) 2 w1 base ok v xs) (ht : 2 ≠ t) : KeepsT t w w2 := fun k cs hk => blk_grown (h k cs hk) hg (Kd.R_ne hR (h k cs hk) ht)
theorem KeepsT.setNew {t g : Nat} {w w1 : World} (h : KeepsT t w w1) (hg : w.heap.size ≤ g) (i : Nat) (u : Value) : KeepsT t w (w1.setCell ⟨g, i, none⟩ u) := fun k cs hk => blk_far (h k cs hk) (p := ⟨g, i, none⟩) (by have := blk_lt hk; show k ≠ g; omega) u
theorem cells6 {w : World} {p t : Nat} {x0 x1 x2 x3 x4 x5 : Value} (h : w.heap[p]? = some (.cells #[x0, x1, x2, x3, x4, x5] t (0, 0))) :
  w.cell? ⟨p, 0, none⟩ = some x0 ∧ w.cell? ⟨p, 1, none⟩ = some x1 ∧ w.cell? ⟨p, 2, none⟩ = some x2 ∧ w.cell? ⟨p, 3, none⟩ = some x3 ∧ w.cell? ⟨p, 4, none⟩ = some x4 ∧ w.cell? ⟨p, 5, none⟩ = some x5 ∧ ∀ i, w.frozen? ⟨p, i, none⟩ = false :=
 ⟨(blk_cell h 0).trans rfl, (blk_cell h 1).trans rfl, (blk_cell h 2).trans rfl, (blk_cell h 3).trans rfl, (blk_cell h 4).trans rfl, (blk_cell h 5).trans rfl, fun i => blk_frozen h i⟩
def sets6 (w : World) (g : Nat) (y0 y1 y2 y3 y4 y5 : Value) : World := ((((((w.setCell ⟨g, 0, none⟩ y0).setCell ⟨g, 1, none⟩ y1).setCell ⟨g, 2, none⟩ y2).setCell ⟨g, 3, none⟩ y3).setCell ⟨g, 4, none⟩ y4).setCell ⟨g, 5, none⟩ y5)
theorem sets6_blk {w : World} {g t : Nat} {x0 x1 x2 x3 x4 x5 : Value} (hb : w.heap[g]? = some (.cells #[x0, x1, x2, x3, x4, x5] t (0, 0))) (y0 y1 y2 y3 y4 y5 : Value) : (sets6 w g y0 y1 y2 y3 y4 y5).heap[g]? = some (.cells #[y0, y1, y2, y3, y4, y5] t (0, 0)) := by
 have h1 : (w.setCell ⟨g, 0, none⟩ y0).heap[g]? = some (.cells #[y0, x1, x2, x3, x4, x5] t (0, 0)) := blk_set hb 0 y0
 have h2 : ((w.setCell ⟨g, 0, none⟩ y0).setCell ⟨g, 1, none⟩ y1).heap[g]? = some (.cells #[y0, y1, x2, x3, x4, x5] t (0, 0)) := blk_set h1 1 y1
 have h3 : (((w.setCell ⟨g, 0, none⟩ y0).setCell ⟨g, 1, none⟩ y1).setCell ⟨g, 2, none⟩ y2).heap[g]? = some (.cells #[y0, y1, y2, x3, x4, x5] t (0, 0)) := blk_set h2 2 y2
 have h4 : ((((w.setCell ⟨g, 0, none⟩ y0).setCell ⟨g, 1, none⟩ y1).setCell ⟨g, 2, none⟩ y2).setCell ⟨g, 3, none⟩ y3).heap[g]? = some (.cells #[y0, y1, y2, y3, x4, x5] t (0, 0)) := blk_set h3 3 y3
 have h5 : (((((w.setCell ⟨g, 0, none⟩ y0).setCell ⟨g, 1, none⟩ y1).setCell ⟨g, 2, none⟩ y2).setCell ⟨g, 3, none⟩ y3).setCell ⟨g, 4, none⟩ y4).heap[g]? = some (.cells #[y0, y1, y2, y3, y4, x5] t (0, 0)) := blk_set h4 4 y4
 have h6 : ((((((w.setCell ⟨g, 0, none⟩ y0).setCell ⟨g, 1, none⟩ y1).setCell ⟨g, 2, none⟩ y2).setCell ⟨g, 3, none⟩ y3).setCell ⟨g, 4, none⟩ y4).setCell ⟨g, 5, none⟩ y5).heap[g]? = some (.cells #[y0, y1, y2, y3, y4, y5] t (0, 0)) := blk_set h5 5 y5
 exact h6
theorem sets6_below {b : Nat} {w W : World} (h : Below b w W) {g : Nat} (hg : b ≤ g) (y0 y1 y2 y3 y4 y5 : Value) : Below b w (sets6 W g y0 y1 y2 y3 y4 y5) := (sput (sput (sput (sput (sput (sput h hg 0 y0) hg 1 y1) hg 2 y2) hg 3 y3) hg 4 y4) hg 5 y5)
theorem rows2_sets6 {w : World} {base g t : Nat} {x0 x1 x2 x3 x4 x5 v2 v3 : Value} {bu be : List Int} (h : Rows2 w base v2 v3 bu be) (hb : w.heap[g]? = some (.cells #[x0, x1, x2, x3, x4, x5] t (0, 0))) (ht : t ≠ 2) (y0 y1 y2 y3 y4 y5 : Value) : Rows2 (sets6 w g y0 y1 y2 y3 y4 y5) base v2 v3 bu be := by
 have h1 : (w.setCell ⟨g, 0, none⟩ y0).heap[g]? = some (.cells #[y0, x1, x2, x3, x4, x5] t (0, 0)) := blk_set hb 0 y0
 have h2 : ((w.setCell ⟨g, 0, none⟩ y0).setCell ⟨g, 1, none⟩ y1).heap[g]? = some (.cells #[y0, y1, x2, x3, x4, x5] t (0, 0)) := blk_set h1 1 y1
 have h3 : (((w.setCell ⟨g, 0, none⟩ y0).setCell ⟨g, 1, none⟩ y1).setCell ⟨g, 2, none⟩ y2).heap[g]? = some (.cells #[y0, y1, y2, x3, x4, x5] t (0, 0)) := blk_set h2 2 y2
 have h4 : ((((w.setCell ⟨g, 0, none⟩ y0).setCell ⟨g, 1, none⟩ y1).setCell ⟨g, 2, none⟩ y2).setCell ⟨g, 3, none⟩ y3).heap[g]? = some (.cells #[y0, y1, y2, y3, x4, x5] t (0, 0)) := blk_set h3 3 y3
 have h5 : (((((w.setCell ⟨g, 0, none⟩ y0).setCell ⟨g, 1, none⟩ y1).setCell ⟨g, 2, none⟩ y2).setCell ⟨g, 3, none⟩ y3).setCell ⟨g, 4, none⟩ y4).heap[g]? = some (.cells #[y0, y1, y2, y3, y4, x5] t (0, 0)) := blk_set h4 4 y4
 have h6 : ((((((w.setCell ⟨g, 0, none⟩ y0).setCell ⟨g, 1, none⟩ y1).setCell ⟨g, 2, none⟩ y2).setCell ⟨g, 3, none⟩ y3).setCell ⟨g, 4, none⟩ y4).setCell ⟨g, 5, none⟩ y5).heap[g]? = some (.cells #[y0, y1, y2, y3, y4, y5] t (0, 0)) := blk_set h5 5 y5
 exact (Rows2.set (Rows2.set (Rows2.set (Rows2.set (Rows2.set (Rows2.set h hb ht 0 y0) h1 ht 1 y1) h2 ht 2 y2) h3 ht 3 y3) h4 ht 4 y4) h5 ht 5 y5)
theorem cells11 {w : World} {p t : Nat} {x0 x1 x2 x3 x4 x5 x6 x7 x8 x9 x10 : Value} (h : w.heap[p]? = some (.cells #[x0, x1, x2, x3, x4, x5, x6, x7, x8, x9, x10] t (0, 0))) :
  w.cell? ⟨p, 0, none⟩ = some x0 ∧ w.cell? ⟨p, 1, none⟩ = some x1 ∧ w.cell? ⟨p, 2, none⟩ = some x2 ∧ w.cell? ⟨p, 3, none⟩ = some x3 ∧ w.cell? ⟨p, 4, none⟩ = some x4 ∧ w.cell? ⟨p, 5, none⟩ = some x5 ∧ w.cell? ⟨p, 6, none⟩ = some x6 ∧ w.cell? ⟨p, 7, none⟩ = some x7 ∧ w.cell? ⟨p, 8, none⟩ = some x8 ∧ w.cell? ⟨p, 9, none⟩ = some x9 ∧ w.cell? ⟨p, 10, none⟩ = some x10 ∧ ∀ i, w.frozen? ⟨p, i, none⟩ = false :=
 ⟨(blk_cell h 0).trans rfl, (blk_cell h 1).trans rfl, (blk_cell h 2).trans rfl, (blk_cell h 3).trans rfl, (blk_cell h 4).trans rfl, (blk_cell h 5).trans rfl, (blk_cell h 6).trans rfl, (blk_cell h 7).trans rfl, (blk_cell h 8).trans rfl, (blk_cell h 9).trans rfl, (blk_cell h 10).trans rfl, fun i => blk_frozen h i⟩
def sets11 (w : World) (g : Nat) (y0 y1 y2 y3 y4 y5 y6 y7 y8 y9 y10 : Value) : World := (((((((((((w.setCell ⟨g, 0, none⟩ y0).setCell ⟨g, 1, none⟩ y1).setCell ⟨g, 2, none⟩ y2).setCell ⟨g, 3, none⟩ y3).setCell ⟨g, 4, none⟩ y4).setCell ⟨g, 5, none⟩ y5).setCell ⟨g, 6, none⟩ y6).setCell ⟨g, 7, none⟩ y7).setCell ⟨g, 8, none⟩ y8).setCell ⟨g, 9, none⟩ y9).setCell ⟨g, 10, none⟩ y10)
theorem sets11_blk {w : World} {g t : Nat} {x0 x1 x2 x3 x4 x5 x6 x7 x8 x9 x10 : Value} (hb : w.heap[g]? = some (.cells #[x0, x1, x2, x3, x4, x5, x6, x7, x8, x9, x10] t (0, 0))) (y0 y1 y2 y3 y4 y5 y6 y7 y8 y9 y10 : Value) : (sets11 w g y0 y1 y2 y3 y4 y5 y6 y7 y8 y9 y10).heap[g]? = some (.cells #[y0, y1, y2, y3, y4, y5, y6, y7, y8, y9, y10] t (0, 0)) := by
 have h1 : (w.setCell ⟨g, 0, none⟩ y0).heap[g]? = some (.cells #[y0, x1, x2, x3, x4, x5, x6, x7, x8, x9, x10] t (0, 0)) := blk_set hb 0 y0
 have h2 : ((w.setCell ⟨g, 0, none⟩ y0).setCell ⟨g, 1, none⟩ y1).heap[g]? = some (.cells #[y0, y1, x2, x3, x4, x5, x6, x7, x8, x9, x10] t (0, 0)) := blk_set h1 1 y1
 have h3 : (((w.setCell ⟨g, 0, none⟩ y0).setCell ⟨g, 1, none⟩ y1).setCell ⟨g, 2, none⟩ y2).heap[g]? = some (.cells #[y0, y1, y2, x3, x4, x5, x6, x7, x8, x9, x10] t (0, 0)) := blk_set h2 2 y2
 have h4 : ((((w.setCell ⟨g, 0, none⟩ y0).setCell ⟨g, 1, none⟩ y1).setCell ⟨g, 2, none⟩ y2).setCell ⟨g, 3, none⟩ y3).heap[g]? = some (.cells #[y0, y1, y2, y3, x4, x5, x6, x7, x8, x9, x10] t (0, 0)) := blk_set h3 3 y3
 have h5 : (((((w.setCell ⟨g, 0, none⟩ y0).setCell ⟨g, 1, none⟩ y1).setCell ⟨g, 2, none⟩ y2).setCell ⟨g, 3, none⟩ y3).setCell ⟨g, 4, none⟩ y4).heap[g]? = some (.cells #[y0, y1, y2, y3, y4, x5, x6, x7, x8, x9, x10] t (0, 0)) := blk_set h4 4 y4
 have h6 : ((((((w.setCell ⟨g, 0, none⟩ y0).setCell ⟨g, 1, none⟩ y1).setCell ⟨g, 2, none⟩ y2).setCell ⟨g, 3, none⟩ y3).setCell ⟨g, 4, none⟩ y4).setCell ⟨g, 5, none⟩ y5).heap[g]? = some (.cells #[y0, y1, y2, y3, y4, y5, x6, x7, x8, x9, x10] t (0, 0)) := blk_set h5 5 y5
 have h7 : (((((((w.setCell ⟨g, 0, none⟩ y0).setCell ⟨g, 1, none⟩ y1).setCell ⟨g, 2, none⟩ y2).setCell ⟨g, 3, none⟩ y3).setCell ⟨g, 4, none⟩ y4).setCell ⟨g, 5, none⟩ y5).setCell ⟨g, 6, none⟩ y6).heap[g]? = some (.cells #[y0, y1, y2, y3, y4, y5, y6, x7, x8, x9, x10] t (0, 0)) := blk_set h6 6 y6
 have h8 : ((((((((w.setCell ⟨g, 0, none⟩ y0).setCell ⟨g, 1, none⟩ y1).setCell ⟨g, 2, none⟩ y2).setCell ⟨g, 3, none⟩ y3).setCell ⟨g, 4, none⟩ y4).setCell ⟨g, 5, none⟩ y5).setCell ⟨g, 6, none⟩ y6).setCell ⟨g, 7, none⟩ y7).heap[g]? = some (.cells #[y0, y1, y2, y3, y4, y5, y6, y7, x8, x9, x10] t (0, 0)) := blk_set h7 7 y7
 have h9 : (((((((((w.setCell ⟨g, 0, none⟩ y0).setCell ⟨g, 1, none⟩ y1).setCell ⟨g, 2, none⟩ y2).setCell ⟨g, 3, none⟩ y3).setCell ⟨g, 4, none⟩ y4).setCell ⟨g, 5, none⟩ y5).setCell ⟨g, 6, none⟩ y6).setCell ⟨g, 7, none⟩ y7).setCell ⟨g, 8, none⟩ y8).heap[g]? = some (.cells #[y0, y1, y2, y3, y4, y5, y6, y7, y8, x9, x10] t (0, 0)) := blk_set h8 8 y8
 have h10 : ((((((((((w.setCell ⟨g, 0, none⟩ y0).setCell ⟨g, 1, none⟩ y1).setCell ⟨g, 2, none⟩ y2).setCell ⟨g, 3, none⟩ y3).setCell ⟨g, 4, none⟩ y4).setCell ⟨g, 5, none⟩ y5).setCell ⟨g, 6, none⟩ y6).setCell ⟨g, 7, none⟩ y7).setCell ⟨g, 8, none⟩ y8).setCell ⟨g, 9, none⟩ y9).heap[g]? = some (.cells #[y0, y1, y2, y3, y4, y5, y6, y7, y8, y9, x10] t (0, 0)) := blk_set h9 9 y9
 have h11 : (((((((((((w.setCell ⟨g, 0, none⟩ y0).setCell ⟨g, 1, none⟩ y1).setCell ⟨g, 2, none⟩ y2).setCell ⟨g, 3, none⟩ y3).setCell ⟨g, 4, none⟩ y4).setCell ⟨g, 5, none⟩ y5).setCell ⟨g, 6, none⟩ y6).setCell ⟨g, 7, none⟩ y7).setCell ⟨g, 8, none⟩ y8).setCell ⟨g, 9, none⟩ y9).setCell ⟨g, 10, none⟩ y10).heap[g]? = some (.cells #[y0, y1, y2, y3, y4, y5, y6, y7, y8, y9, y10] t (0, 0)) := blk_set h10 10 y10
 exact h11
theorem sets11_below {b : Nat} {w W : World} (h : Below b w W) {g : Nat} (hg : b ≤ g) (y0 y1 y2 y3 y4 y5 y6 y7 y8 y9 y10 : Value) : Below b w (sets11 W g y0 y1 y2 y3 y4 y5 y6 y7 y8 y9 y10) := (sput (sput (sput (sput (sput (sput (sput (sput (sput (sput (sput h hg 0 y0) hg 1 y1) hg 2 y2) hg 3 y3) hg 4 y4) hg 5 y5) hg 6 y6) hg 7 y7) hg 8 y8) hg 9 y9) hg 10 y10)
theorem rows2_sets11 {w : World} {base g t : Nat} {x0 x1 x2 x3 x4 x5 x6 x7 x8 x9 x10 v2 v3 : Value} {bu be : List Int} (h : Rows2 w base v2 v3 bu be) (hb : w.heap[g]? = some (.cells #[x0, x1, x2, x3, x4, x5, x6, x7, x8, x9, x10] t (0, 0))) (ht : t ≠ 2) (y0 y1 y2 y3 y4 y5 y6 y7 y8 y9 y10 : Value) : Rows2 (sets11 w g y0 y1 y2 y3 y4 y5 y6 y7 y8 y9 y10) base v2 v3 bu be := by
 have h1 : (w.setCell ⟨g, 0, none⟩ y0).heap[g]? = some (.cells #[y0, x1, x2, x3, x4, x5, x6, x7, x8, x9, x10] t (0, 0)) := blk_set hb 0 y0
 have h2 : ((w.setCell ⟨g, 0, none⟩ y0).setCell ⟨g, 1, none⟩ y1).heap[g]? = some (.cells #[y0, y1, x2, x3, x4, x5, x6, x7, x8, x9, x10] t (0, 0)) := blk_set h1 1 y1
 have h3 : (((w.setCell ⟨g, 0, none⟩ y0).setCell ⟨g, 1, none⟩ y1).setCell ⟨g, 2, none⟩ y2).heap[g]? = some (.cells #[y0, y1, y2, x3, x4, x5, x6, x7, x8, x9, x10] t (0, 0)) := blk_set h2 2 y2
 have h4 : ((((w.setCell ⟨g, 0, none⟩ y0).setCell ⟨g, 1, none⟩ y1).setCell ⟨g, 2, none⟩ y2).setCell ⟨g, 3, none⟩ y3).heap[g]? = some (.cells #[y0, y1, y2, y3, x4, x5, x6, x7, x8, x9, x10] t (0, 0)) := blk_set h3 3 y3
 have h5 : (((((w.setCell ⟨g, 0, none⟩ y0).setCell ⟨g, 1, none⟩ y1).setCell ⟨g, 2, none⟩ y2).setCell ⟨g, 3, none⟩ y3).setCell ⟨g, 4, none⟩ y4).heap[g]? = some (.cells #[y0, y1, y2, y3, y4, x5, x6, x7, x8, x9, x10] t (0, 0)) := blk_set h4 4 y4
 have h6 : ((((((w.setCell ⟨g, 0, none⟩ y0).setCell ⟨g, 1, none⟩ y1).setCell ⟨g, 2, none⟩ y2).setCell ⟨g, 3, none⟩ y3).setCell ⟨g, 4, none⟩ y4).setCell ⟨g, 5, none⟩ y5).heap[g]? = some (.cells #[y0, y1, y2, y3, y4, y5, x6, x7, x8, x9, x10] t (0, 0)) := blk_set h5 5 y5
 have h7 : (((((((w.setCell ⟨g, 0, none⟩ y0).setCell ⟨g, 1, none⟩ y1).setCell ⟨g, 2, none⟩ y2).setCell ⟨g, 3, none⟩ y3).setCell ⟨g, 4, none⟩ y4).setCell ⟨g, 5, none⟩ y5).setCell ⟨g, 6, none⟩ y6).heap[g]? = some (.cells #[y0, y1, y2, y3, y4, y5, y6, x7, x8, x9, x10] t (0, 0)) := blk_set h6 6 y6
 have h8 : ((((((((w.setCell ⟨g, 0, none⟩ y0).setCell ⟨g, 1, none⟩ y1).setCell ⟨g, 2, none⟩ y2).setCell ⟨g, 3, none⟩ y3).setCell ⟨g, 4, none⟩ y4).setCell ⟨g, 5, none⟩ y5).setCell ⟨g, 6, none⟩ y6).setCell ⟨g, 7, none⟩ y7).heap[g]? = some (.cells #[y0, y1, y2, y3, y4, y5, y6, y7, x8, x9, x10] t (0, 0)) := blk_set h7 7 y7
 have h9 : (((((((((w.setCell ⟨g, 0, none⟩ y0).setCell ⟨g, 1, none⟩ y1).setCell ⟨g, 2, none⟩ y2).setCell ⟨g, 3, none⟩ y3).setCell ⟨g, 4, none⟩ y4).setCell ⟨g, 5, none⟩ y5).setCell ⟨g, 6, none⟩ y6).setCell ⟨g, 7, none⟩ y7).setCell ⟨g, 8, none⟩ y8).heap[g]? = some (.cells #[y0, y1, y2, y3, y4, y5, y6, y7, y8, x9, x10] t (0, 0)) := blk_set h8 8 y8
 have h10 : ((((((((((w.setCell ⟨g, 0, none⟩ y0).setCell ⟨g, 1, none⟩ y1).setCell ⟨g, 2, none⟩ y2).setCell ⟨g, 3, none⟩ y3).setCell ⟨g, 4, none⟩ y4).setCell ⟨g, 5, none⟩ y5).setCell ⟨g, 6, none⟩ y6).setCell ⟨g, 7, none⟩ y7).setCell ⟨g, 8, none⟩ y8).setCell ⟨g, 9, none⟩ y9).heap[g]? = some (.cells #[y0, y1, y2, y3, y4, y5, y6, y7, y8, y9, x10] t (0, 0)) := blk_set h9 9 y9
 have h11 : (((((((((((w.setCell ⟨g, 0, none⟩ y0).setCell ⟨g, 1, none⟩ y1).setCell ⟨g, 2, none⟩ y2).setCell ⟨g, 3, none⟩ y3).setCell ⟨g, 4, none⟩ y4).setCell ⟨g, 5, none⟩ y5).setCell ⟨g, 6, none⟩ y6).setCell ⟨g, 7, none⟩ y7).setCell ⟨g, 8, none⟩ y8).setCell ⟨g, 9, none⟩ y9).setCell ⟨g, 10, none⟩ y10).heap[g]? = some (.cells #[y0, y1, y2, y3, y4, y5, y6, y7, y8, y9, y10] t (0, 0)) := blk_set h10 10 y10
 exact (Rows2.set (Rows2.set (Rows2.set (Rows2.set (Rows2.set (Rows2.set (Rows2.set (Rows2.set (Rows2.set (Rows2.set (Rows2.set h hb ht 0 y0) h1 ht 1 y1) h2 ht 2 y2) h3 ht 3 y3) h4 ht 4 y4) h5 ht 5 y5) h6 ht 6 y6) h7 ht 7 y7) h8 ht 8 y8) h9 ht 9 y9) h10 ht 10 y10)
structure SVN where
 budget : Int
 some : List Int
 best : List Int
 least : Int
 found : Bool
def StN (w : World) (base p : Nat) (Anodes : Option Addr) (nnodes cnodes : Nat) (Apipes : Option Addr) (npipes cpipes : Nat) (Acosts : Option Addr) (ncosts ccosts : Nat) (Kloss : Int) (Kwarm : Int) (Kground : Int) (s : SVN) : Prop := ∃ A2 c2 A3 c3,
 w.heap[p]? = some (.cells #[.slice Anodes nnodes cnodes, .slice Apipes npipes cpipes, .slice Acosts ncosts ccosts, .int .i64 Kloss, .int .i64 Kwarm, .int .i64 Kground, .int .i64 s.budget, .slice A2 s.some.length c2, .slice A3 s.best.length c3, .int .i64 s.least, .bool s.found] 119 (0, 0)) ∧ Rows2 w base (.slice A2 s.some.length c2) (.slice A3 s.best.length c3) s.some s.best
theorem StN.below {w' : World} {w : World} {base p : Nat} {Anodes : Option Addr} {nnodes cnodes : Nat} {Apipes : Option Addr} {npipes cpipes : Nat} {Acosts : Option Addr} {ncosts ccosts : Nat} {Kloss : Int} {Kwarm : Int} {Kground : Int} {s : SVN} (h : StN w base p Anodes nnodes cnodes Apipes npipes cpipes Acosts ncosts ccosts Kloss Kwarm Kground s) (hb : Below w.heap.size w w') : StN w' base p Anodes nnodes cnodes Apipes npipes cpipes Acosts ncosts ccosts Kloss Kwarm Kground s := by
 obtain ⟨A2, c2, A3, c3, hP, hR⟩ := h
 exact ⟨A2, c2, A3, c3, blk_below hP hb, hR.below hb⟩
theorem StN.size {w : World} {base p : Nat} {Anodes : Option Addr} {nnodes cnodes : Nat} {Apipes : Option Addr} {npipes cpipes : Nat} {Acosts : Option Addr} {ncosts ccosts : Nat} {Kloss : Int} {Kwarm : Int} {Kground : Int} {s : SVN} (h : StN w base p Anodes nnodes cnodes Apipes npipes cpipes Acosts ncosts ccosts Kloss Kwarm Kground s) : p < w.heap.size := by
 obtain ⟨A2, c2, A3, c3, hP, _⟩ := h
 exact blk_lt hP
theorem StN.set_budget {w : World} {base p : Nat} {Anodes : Option Addr} {nnodes cnodes : Nat} {Apipes : Option Addr} {npipes cpipes : Nat} {Acosts : Option Addr} {ncosts ccosts : Nat} {Kloss : Int} {Kwarm : Int} {Kground : Int} {s : SVN} (h : StN w base p Anodes nnodes cnodes Apipes npipes cpipes Acosts ncosts ccosts Kloss Kwarm Kground s) (x : Int) : StN (w.setCell ⟨p, 6, none⟩ (.int .i64 x)) base p Anodes nnodes cnodes Apipes npipes cpipes Acosts ncosts ccosts Kloss Kwarm Kground ⟨x, s.some, s.best, s.least, s.found⟩ := by
 obtain ⟨A2, c2, A3, c3, hP, hR⟩ := h
 exact ⟨A2, c2, A3, c3, blk_set hP 6 _, hR.set hP (by decide) 6 _⟩
theorem StN.put_some {w : World} {base p : Nat} {Anodes : Option Addr} {nnodes cnodes : Nat} {Apipes : Option Addr} {npipes cpipes : Nat} {Acosts : Option Addr} {ncosts ccosts : Nat} {Kloss : Int} {Kwarm : Int} {Kground : Int} {s : SVN} {A9 A3 : Option Addr} {n9 c9 c3 : Nat} {u : Value} {xs : List Int} (hP : w.heap[p]? = some (.cells #[.slice Anodes nnodes cnodes, .slice Apipes npipes cpipes, .slice Acosts ncosts ccosts, .int .i64 Kloss, .int .i64 Kwarm, .int .i64 Kground, .int .i64 s.budget, u, .slice A3 s.best.length c3, .int .i64 s.least, .bool s.found] 119 (0, 0))) (hR : Rows2 w base (.slice A9 n9 c9) (.slice A3 s.best.length c3) xs s.best) (hn : n9 = xs.length) : StN (w.setCell ⟨p, 7, none⟩ (.slice A9 n9 c9)) base p Anodes nnodes cnodes Apipes npipes cpipes Acosts ncosts ccosts Kloss Kwarm Kground ⟨s.budget, xs, s.best, s.least, s.found⟩ := by
 subst hn
 exact ⟨A9, c9, A3, c3, blk_set hP 7 _, hR.set hP (by decide) 7 _⟩
theorem StN.put_best {w : World} {base p : Nat} {Anodes : Option Addr} {nnodes cnodes : Nat} {Apipes : Option Addr} {npipes cpipes : Nat} {Acosts : Option Addr} {ncosts ccosts : Nat} {Kloss : Int} {Kwarm : Int} {Kground : Int} {s : SVN} {A9 A2 : Option Addr} {n9 c9 c2 : Nat} {u : Value} {xs : List Int} (hP : w.heap[p]? = some (.cells #[.slice Anodes nnodes cnodes, .slice Apipes npipes cpipes, .slice Acosts ncosts ccosts, .int .i64 Kloss, .int .i64 Kwarm, .int .i64 Kground, .int .i64 s.budget, .slice A2 s.some.length c2, u, .int .i64 s.least, .bool s.found] 119 (0, 0))) (hR : Rows2 w base (.slice A2 s.some.length c2) (.slice A9 n9 c9) s.some xs) (hn : n9 = xs.length) : StN (w.setCell ⟨p, 8, none⟩ (.slice A9 n9 c9)) base p Anodes nnodes cnodes Apipes npipes cpipes Acosts ncosts ccosts Kloss Kwarm Kground ⟨s.budget, s.some, xs, s.least, s.found⟩ := by
 subst hn
 exact ⟨A2, c2, A9, c9, blk_set hP 8 _, hR.set hP (by decide) 8 _⟩
theorem StN.set_least {w : World} {base p : Nat} {Anodes : Option Addr} {nnodes cnodes : Nat} {Apipes : Option Addr} {npipes cpipes : Nat} {Acosts : Option Addr} {ncosts ccosts : Nat} {Kloss : Int} {Kwarm : Int} {Kground : Int} {s : SVN} (h : StN w base p Anodes nnodes cnodes Apipes npipes cpipes Acosts ncosts ccosts Kloss Kwarm Kground s) (x : Int) : StN (w.setCell ⟨p, 9, none⟩ (.int .i64 x)) base p Anodes nnodes cnodes Apipes npipes cpipes Acosts ncosts ccosts Kloss Kwarm Kground ⟨s.budget, s.some, s.best, x, s.found⟩ := by
 obtain ⟨A2, c2, A3, c3, hP, hR⟩ := h
 exact ⟨A2, c2, A3, c3, blk_set hP 9 _, hR.set hP (by decide) 9 _⟩
theorem StN.set_found {w : World} {base p : Nat} {Anodes : Option Addr} {nnodes cnodes : Nat} {Apipes : Option Addr} {npipes cpipes : Nat} {Acosts : Option Addr} {ncosts ccosts : Nat} {Kloss : Int} {Kwarm : Int} {Kground : Int} {s : SVN} (h : StN w base p Anodes nnodes cnodes Apipes npipes cpipes Acosts ncosts ccosts Kloss Kwarm Kground s) (x : Bool) : StN (w.setCell ⟨p, 10, none⟩ (.bool x)) base p Anodes nnodes cnodes Apipes npipes cpipes Acosts ncosts ccosts Kloss Kwarm Kground ⟨s.budget, s.some, s.best, s.least, x⟩ := by
 obtain ⟨A2, c2, A3, c3, hP, hR⟩ := h
 exact ⟨A2, c2, A3, c3, blk_set hP 10 _, hR.set hP (by decide) 10 _⟩
theorem StN.open {w : World} {base p : Nat} {Anodes : Option Addr} {nnodes cnodes : Nat} {Apipes : Option Addr} {npipes cpipes : Nat} {Acosts : Option Addr} {ncosts ccosts : Nat} {Kloss : Int} {Kwarm : Int} {Kground : Int} {s : SVN} (h : StN w base p Anodes nnodes cnodes Apipes npipes cpipes Acosts ncosts ccosts Kloss Kwarm Kground s) : ∃ A2 c2 A3 c3,
  (w.cell? ⟨p, 0, none⟩ = some (.slice Anodes nnodes cnodes) ∧ w.cell? ⟨p, 1, none⟩ = some (.slice Apipes npipes cpipes) ∧ w.cell? ⟨p, 2, none⟩ = some (.slice Acosts ncosts ccosts) ∧ w.cell? ⟨p, 3, none⟩ = some (.int .i64 Kloss) ∧ w.cell? ⟨p, 4, none⟩ = some (.int .i64 Kwarm) ∧ w.cell? ⟨p, 5, none⟩ = some (.int .i64 Kground) ∧ w.cell? ⟨p, 6, none⟩ = some (.int .i64 s.budget) ∧ w.cell? ⟨p, 7, none⟩ = some (.slice A2 s.some.length c2) ∧ w.cell? ⟨p, 8, none⟩ = some (.slice A3 s.best.length c3) ∧ w.cell? ⟨p, 9, none⟩ = some (.int .i64 s.least) ∧ w.cell? ⟨p, 10, none⟩ = some (.bool s.found) ∧ ∀ i, w.frozen? ⟨p, i, none⟩ = false) ∧
  (s.some.length ≤ c2 ∧ Kd.C (Kd.int .i64) w A2 s.some.length s.some) ∧ (s.best.length ≤ c3 ∧ Kd.C (Kd.int .i64) w A3 s.best.length s.best) ∧
  w.heap[p]? = some (.cells #[.slice Anodes nnodes cnodes, .slice Apipes npipes cpipes, .slice Acosts ncosts ccosts, .int .i64 Kloss, .int .i64 Kwarm, .int .i64 Kground, .int .i64 s.budget, .slice A2 s.some.length c2, .slice A3 s.best.length c3, .int .i64 s.least, .bool s.found] 119 (0, 0)) ∧ Rows2 w base (.slice A2 s.some.length c2) (.slice A3 s.best.length c3) s.some s.best := by
 obtain ⟨A2, c2, A3, c3, hP, hR⟩ := h
 exact ⟨A2, c2, A3, c3, cells11 hP, (Kd.R_reads' hR.1).2, (Kd.R_reads' hR.2).2, hP, hR⟩
/-- What a pipe of the network loses, with a loss. -/
def plossN (xs : List S75) (i : Int) (f5 wa gr : Int) : Option Int := impl_Pipe_loss.f (rd_T75 xs i).f0 (rd_T75 xs i).f1 (rd_T75 xs i).f2 (rd_T75 xs i).f3 (rd_T75 xs i).f4 f5 wa gr
/-- What the search does without the pipe. -/
def tailN (rec : Int → SVN → Option SVN) (pl : Option Int) (l : Int) (s : SVN) : Option SVN :=
 if wrap64 (s.budget - 1) < 0 then some ⟨wrap64 (s.budget - 1), s.some, s.best, s.least, s.found⟩ else pl.bind fun r => rec (wrap64 (l + r)) ⟨wrap64 (s.budget - 1), s.some, s.best, s.least, s.found⟩
/-- The search for the pipes to be renewed, from a place on. -/
def visitN (k : Nat) (xs : List S75) (cs : List Int) (lo wa gr : Int) : Nat → Int → Int → SVN → Option SVN
  | 0, _, l, s => if s.found = true then
      (if l < s.least then some ⟨s.budget, s.some, s.some, l, true⟩
       else if l = s.least then (slices_Compare_int64_int64.f k s.some s.best).bind fun c => if c < 0 then some ⟨s.budget, s.some, s.some, l, true⟩ else some s
       else some s)
      else some ⟨s.budget, s.some, s.some, l, true⟩
  | d + 1, m, l, s =>
    if rd cs ((xs.length - (d + 1) : Nat) : Int) ≤ m then
      (if wrap64 (s.budget - 1) < 0 then some ⟨wrap64 (s.budget - 1), s.some, s.best, s.least, s.found⟩ else
      (plossN xs ((xs.length - (d + 1) : Nat) : Int) (if lo < (rd_T75 xs ((xs.length - (d + 1) : Nat) : Int)).f5 then lo else (rd_T75 xs ((xs.length - (d + 1) : Nat) : Int)).f5) wa gr).bind fun r =>
      (visitN k xs cs lo wa gr d (wrap64 (m - rd cs ((xs.length - (d + 1) : Nat) : Int))) (wrap64 (l + r)) ⟨wrap64 (s.budget - 1), s.some ++ [((xs.length - (d + 1) : Nat) : Int)], s.best, s.least, s.found⟩).bind fun s2 =>
        tailN (fun l s => visitN k xs cs lo wa gr d m l s) (plossN xs ((xs.length - (d + 1) : Nat) : Int) (rd_T75 xs ((xs.length - (d + 1) : Nat) : Int)).f5 wa gr) l ⟨s2.budget, s2.some.take (s2.some.length - 1), s2.best, s2.least, s2.found⟩)
    else tailN (fun l s => visitN k xs cs lo wa gr d m l s) (plossN xs ((xs.length - (d + 1) : Nat) : Int) (rd_T75 xs ((xs.length - (d + 1) : Nat) : Int)).f5 wa gr) l s
theorem StN.blk {w : World} {b0 p : Nat} {An : Option Addr} {nn cn : Nat} {Ap : Option Addr} {np cp : Nat} {Ac : Option Addr} {nc cc : Nat} {lo wa gr : Int} {s : SVN} (h : StN w b0 p An nn cn Ap np cp Ac nc cc lo wa gr s) : ∃ cs, w.heap[p]? = some (.cells cs 119 (0, 0)) := by
 obtain ⟨_, _, _, _, hP, _⟩ := h
 exact ⟨_, hP⟩
theorem StN.far {w : World} {b0 p g t : Nat} {cs : Array Value} {An : Option Addr} {nn cn : Nat} {Ap : Option Addr} {np cp : Nat} {Ac : Option Addr} {nc cc : Nat} {lo wa gr : Int} {s : SVN} (h : StN w b0 p An nn cn Ap np cp Ac nc cc lo wa gr s) (hg : w.heap[g]? = some (.cells cs t (0, 0))) (hne : ¬ g = p) (ht : t ≠ 2) (i : Nat) (u : Value) : StN (w.setCell ⟨g, i, none⟩ u) b0 p An nn cn Ap np cp Ac nc cc lo wa gr s := by
 obtain ⟨_, _, _, _, hP, hR⟩ := h
 exact ⟨_, _, _, _, blk_far hP (p := ⟨g, i, none⟩) (fun e => hne e.symm) u, hR.set hg ht i u⟩
theorem tailN_mono (r1 r2 : Int → SVN → Option SVN) (pl : Option Int) (h : ∀ l s, LeO (r1 l s) (r2 l s)) (l : Int) (s : SVN) : LeO (tailN r1 pl l s) (tailN r2 pl l s) := by
 unfold tailN
 exact LeO.ite (LeO.refl _) (LeO.bind (LeO.refl _) (fun _ => h _ _))
theorem visitN_mono (k : Nat) (xs : List S75) (cs : List Int) (lo wa gr : Int) : ∀ d m l s, LeO (visitN k xs cs lo wa gr d m l s) (visitN (k + 1) xs cs lo wa gr d m l s)
 | 0, m, l, s => by
  unfold visitN
  exact LeO.ite (LeO.ite (LeO.refl _) (LeO.ite (LeO.bind (slices_Compare_int64_int64.mono _ _ k) (fun _ => LeO.refl _)) (LeO.refl _))) (LeO.refl _)
 | d + 1, m, l, s => by
  unfold visitN
  exact LeO.ite (LeO.ite (LeO.refl _) (LeO.bind (LeO.refl _) (fun _ => LeO.bind (visitN_mono k xs cs lo wa gr d _ _ _) (fun _ => tailN_mono _ _ _ (fun _ _ => visitN_mono k xs cs lo wa gr d _ _ _) _ _)))) (tailN_mono _ _ _ (fun _ _ => visitN_mono k xs cs lo wa gr d _ _ _) _ _)
theorem tailN_some (r1 : Int → SVN → Option SVN) (pl : Option Int) (h : ∀ l s s', r1 l s = Option.some s' → s'.some = s.some) (l : Int) (s s' : SVN) (e : tailN r1 pl l s = Option.some s') : s'.some = s.some := by
 unfold tailN at e
 split at e
 ·
  obtain rfl := Option.some.inj e; rfl
 ·
  obtain ⟨r, _, e⟩ := Option.bind_eq_some_iff.1 e
  have t := h _ _ _ e
  exact t
theorem visitN_some (k : Nat) (xs : List S75) (cs : List Int) (lo wa gr : Int) : ∀ d m l s s', visitN k xs cs lo wa gr d m l s = Option.some s' → s'.some = s.some := by
 intro d
 induction d with
 | zero =>
  intro m l s s' h
  unfold visitN at h
  split at h
  ·
   split at h
   ·
    obtain rfl := Option.some.inj h; rfl
   ·
    split at h
    ·
     obtain ⟨c, _, h⟩ := Option.bind_eq_some_iff.1 h
     split at h
     ·
      obtain rfl := Option.some.inj h; rfl
     ·
      obtain rfl := Option.some.inj h; rfl
    ·
     obtain rfl := Option.some.inj h; rfl
  ·
   obtain rfl := Option.some.inj h; rfl
 | succ d ih =>
  intro m l s s' h
  unfold visitN at h
  split at h
  ·
   split at h
   ·
    obtain rfl := Option.some.inj h; rfl
   ·
    obtain ⟨r, _, h⟩ := Option.bind_eq_some_iff.1 h
    obtain ⟨s2, h2, h⟩ := Option.bind_eq_some_iff.1 h
    have e := ih _ _ _ _ h2
    have t : s2.some.take (s2.some.length - 1) = s.some := by rw [e]; simp
    exact (tailN_some _ _ (fun _ _ _ h => ih _ _ _ _ h) _ _ _ h).trans t
  ·
   exact tailN_some _ _ (fun _ _ _ h => ih _ _ _ _ h) _ _ _ h
-- @cut
set_option maxHeartbeats 4000000 in
set_option maxRecDepth 100000 in
/-- The search at its end, no pipes being left. -/
theorem visitN_0.calls (k : Nat) (b0 : Nat) (w0 : World) (An : Option Addr) (nn cn : Nat) (Ap : Option Addr) (cp : Nat) (Ac : Option Addr) (cc : Nat) (lo wa gr : Int) (xs : List S75) (cs : List Int) (m l : Int) (s s' : SVN) (w : World) (p : Nat) (h : visitN k xs cs lo wa gr 0 m l s = some s') (hb : Below b0 w0 w) (hbw : b0 ≤ w.heap.size) (hp : b0 ≤ p) (hs : StN w b0 p An nn cn Ap xs.length cp Ac cs.length cc lo wa gr s) (hl : s.some.length ≤ 1000) :
  Calls Try.prog 83 #[.pointer (some ⟨p, 0, none⟩), .int .i64 (xs.length : Int), .int .i64 m, .int .i64 l] w fun e w' => e = .returned (.tuple #[]) ∧ Below b0 w0 w' ∧ b0 ≤ w'.heap.size ∧ StN w' b0 p An nn cn Ap xs.length cp Ac cs.length cc lo wa gr s' ∧ KeepsT 75 w w' := by
 unfold visitN at h
 obtain ⟨A2, c2, A3, c3, ⟨x0, x1, x2, x3, x4, x5, x6, x7, x8, x9, x10, xf⟩, ⟨hc2, hC2⟩, ⟨hc3, hC3⟩, hP, hR⟩ := hs.open
 have HB := Aside0.mk hb
 have HS := Aside0.mk hs
 have HPP := Aside0.mk hp
 have HR := Aside0.mk hR
 have HP := Aside0.mk hP
 have HC2 := Aside0.mk hc2
 have HC3 := Aside0.mk hc3
 have HH := Aside0.mk (⟨hC2, hC3⟩ : Kd.C (Kd.int .i64) w A2 s.some.length s.some ∧ Kd.C (Kd.int .i64) w A3 s.best.length s.best)
 have HBW := Aside0.mk hbw
 have HCL := Aside0.mk (show slices_Clone_int64_int64.f s.some = some s.some by unfold slices_Clone_int64_int64.f; rw [if_pos (by omega)])
 clear hb hs hp hR hP hc2 hc3 hC2 hC3 hl hbw
 cases q1 : s.found with
 | true =>
  rw [if_pos q1] at h
  rw [q1] at x10
  by_cases q3 : l < s.least
  ·
   rw [if_pos q3] at h
   have z3 : decide (l < s.least) = true := decide_eq_true q3
   obtain rfl := Option.some.inj h
   clear h q3
   go_enter Try.func83, Try.ntmps83
   go_wp2
   go_quiet (fail)
   go_wp2_with (go_at_call 90; refine (slices_Clone_int64_int64.calls A2 c2 s.some s.some _ (Kd.R_reads' (HR.out.drewN _).1).2.2 HC2.out HCL.out).mono ?_; rintro e w2 ⟨v, rfl, hRn, hb2⟩; obtain ⟨A9, c9, e9⟩ := Kd.R_slice hRn; subst e9; have hP2 := blk_below (show (w.drewN nq).heap[p]? = _ from HP.out) hb2; obtain ⟨u0, u1, u2, u3, u4, u5, u6, u7, u8, u9, u10, uf⟩ := cells11 hP2; have HRn := Aside0.mk hRn; have HB2 := Aside0.mk hb2; have HP2 := Aside0.mk hP2; clear hRn hb2 hP2)
   ((try simp only [Exit.inBlock, Exit.then]); first | (refine bodyPost_ret (results_none rfl _ _ _) rfl ?_) | (refine bodyPost_end (results_none rfl _ _ _) rfl ?_))
   have hS2 := StN.put_best (s := s) HP2.out ((HR.out.drewN nq).clone HRn.out HB2.out HBW.out) rfl
   exact ⟨rfl, sput (sput (sput (below_then (pw_below_drewN HB.out nq) HBW.out HB2.out) HPP.out 8 _) HPP.out 9 _) HPP.out 10 _, by simp; exact Nat.le_trans HBW.out HB2.out.size, StN.set_found (StN.set_least hS2 l) true, (((((KeepsT.refl _ w).drewN nq).below HB2.out).set HP2.out (by decide) 8 _).set (blk_set HP2.out 8 _) (by decide) 9 _).set (blk_set (blk_set HP2.out 8 _) 9 _) (by decide) 10 _⟩
  ·
   rw [if_neg q3] at h
   have z3 : decide (l < s.least) = false := decide_eq_false q3
   by_cases q4 : l = s.least
   ·
    rw [if_pos q4] at h
    have z4 : (l == s.least) = true := by simpa using q4
    obtain ⟨c, hcm, h5⟩ := Option.bind_eq_some_iff.1 h
    have HCM := Aside0.mk (fun W (hW : Below w.heap.size w W) => slices_Compare_int64_int64.calls k A2 c2 s.some A3 c3 s.best c W (Kd.C_below HH.out.1 hW) HC2.out (Kd.C_below HH.out.2 hW) HC3.out hcm)
    clear h hcm q3 q4
    by_cases q5 : c < 0
    ·
     rw [if_pos q5] at h5
     have z5 : decide (c < 0) = true := decide_eq_true q5
     obtain rfl := Option.some.inj h5
     clear h5 q5
     go_enter Try.func83, Try.ntmps83
     go_wp2
     go_quiet (first | (go_at_call 107; refine (HCM.out _ (pw_below_drewN (Below.refl _ _) _)).mono ?_; rintro e w' ⟨rfl, ⟨⟨nd, rfl⟩⟩⟩; (first | (with_reducible exact ⟨rfl, _, World.drewN_drewN _ _ _⟩) | exact ⟨rfl, _, rfl⟩)))
     go_wp2_with (go_at_call 90; refine (slices_Clone_int64_int64.calls A2 c2 s.some s.some _ (Kd.R_reads' (HR.out.drewN _).1).2.2 HC2.out HCL.out).mono ?_; rintro e w2 ⟨v, rfl, hRn, hb2⟩; obtain ⟨A9, c9, e9⟩ := Kd.R_slice hRn; subst e9; have hP2 := blk_below (show (w.drewN nq).heap[p]? = _ from HP.out) hb2; obtain ⟨u0, u1, u2, u3, u4, u5, u6, u7, u8, u9, u10, uf⟩ := cells11 hP2; have HRn := Aside0.mk hRn; have HB2 := Aside0.mk hb2; have HP2 := Aside0.mk hP2; clear hRn hb2 hP2)
     ((try simp only [Exit.inBlock, Exit.then]); first | (refine bodyPost_ret (results_none rfl _ _ _) rfl ?_) | (refine bodyPost_end (results_none rfl _ _ _) rfl ?_))
     have hS2 := StN.put_best (s := s) HP2.out ((HR.out.drewN nq).clone HRn.out HB2.out HBW.out) rfl
     exact ⟨rfl, sput (sput (sput (below_then (pw_below_drewN HB.out nq) HBW.out HB2.out) HPP.out 8 _) HPP.out 9 _) HPP.out 10 _, by simp; exact Nat.le_trans HBW.out HB2.out.size, StN.set_found (StN.set_least hS2 l) true, (((((KeepsT.refl _ w).drewN nq).below HB2.out).set HP2.out (by decide) 8 _).set (blk_set HP2.out 8 _) (by decide) 9 _).set (blk_set (blk_set HP2.out 8 _) 9 _) (by decide) 10 _⟩
    ·
     rw [if_neg q5] at h5
     have z5 : decide (c < 0) = false := decide_eq_false q5
     obtain rfl := Option.some.inj h5
     clear h5 q5
     go_enter Try.func83, Try.ntmps83
     go_wp2
     go_quiet (first | (go_at_call 107; refine (HCM.out _ (pw_below_drewN (Below.refl _ _) _)).mono ?_; rintro e w' ⟨rfl, ⟨⟨nd, rfl⟩⟩⟩; (first | (with_reducible exact ⟨rfl, _, World.drewN_drewN _ _ _⟩) | exact ⟨rfl, _, rfl⟩)))
     go_wp2
     ((try simp only [Exit.inBlock, Exit.then]); first | (refine bodyPost_ret (results_none rfl _ _ _) rfl ?_) | (refine bodyPost_end (results_none rfl _ _ _) rfl ?_))
     exact ⟨rfl, pw_below_drewN HB.out _, HBW.out, HS.out.below (pw_below_drewN (Below.refl _ _) _), KeepsT.refl _ w⟩
   ·
    rw [if_neg q4] at h
    have z4 : (l == s.least) = false := by simpa using q4
    obtain rfl := Option.some.inj h
    clear h q3 q4
    go_enter Try.func83, Try.ntmps83
    go_wp2
    go_quiet (fail)
    go_wp2
    ((try simp only [Exit.inBlock, Exit.then]); first | (refine bodyPost_ret (results_none rfl _ _ _) rfl ?_) | (refine bodyPost_end (results_none rfl _ _ _) rfl ?_))
    exact ⟨rfl, pw_below_drewN HB.out _, HBW.out, HS.out.below (pw_below_drewN (Below.refl _ _) _), KeepsT.refl _ w⟩
 | false =>
  rw [if_neg (by rw [q1]; decide)] at h
  rw [q1] at x10
  obtain rfl := Option.some.inj h
  clear h
  go_enter Try.func83, Try.ntmps83
  go_wp2
  go_quiet (fail)
  go_wp2_with (go_at_call 90; refine (slices_Clone_int64_int64.calls A2 c2 s.some s.some _ (Kd.R_reads' (HR.out.drewN _).1).2.2 HC2.out HCL.out).mono ?_; rintro e w2 ⟨v, rfl, hRn, hb2⟩; obtain ⟨A9, c9, e9⟩ := Kd.R_slice hRn; subst e9; have hP2 := blk_below (show (w.drewN nq).heap[p]? = _ from HP.out) hb2; obtain ⟨u0, u1, u2, u3, u4, u5, u6, u7, u8, u9, u10, uf⟩ := cells11 hP2; have HRn := Aside0.mk hRn; have HB2 := Aside0.mk hb2; have HP2 := Aside0.mk hP2; clear hRn hb2 hP2)
  ((try simp only [Exit.inBlock, Exit.then]); first | (refine bodyPost_ret (results_none rfl _ _ _) rfl ?_) | (refine bodyPost_end (results_none rfl _ _ _) rfl ?_))
  have hS2 := StN.put_best (s := s) HP2.out ((HR.out.drewN nq).clone HRn.out HB2.out HBW.out) rfl
  exact ⟨rfl, sput (sput (sput (below_then (pw_below_drewN HB.out nq) HBW.out HB2.out) HPP.out 8 _) HPP.out 9 _) HPP.out 10 _, by simp; exact Nat.le_trans HBW.out HB2.out.size, StN.set_found (StN.set_least hS2 l) true, (((((KeepsT.refl _ w).drewN nq).below HB2.out).set HP2.out (by decide) 8 _).set (blk_set HP2.out 8 _) (by decide) 9 _).set (blk_set (blk_set HP2.out 8 _) 9 _) (by decide) 10 _⟩
-- @cut
set_option maxHeartbeats 8000000 in
set_option maxRecDepth 100000 in
/-- The search with pipes left, given what it does with one pipe less. -/
theorem visitN_s.calls (k : Nat) (b0 : Nat) (w0 : World) (An : Option Addr) (nn cn : Nat) (Ap : Option Addr) (cp : Nat) (Ac : Option Addr) (cc : Nat) (lo wa gr : Int) (xs : List S75) (cs : List Int) (hxl : xs.length ≤ 1000) (hcl : cs.length = xs.length) (hrp : ∀ W, Below b0 w0 W → Kd.C k75 W Ap xs.length xs) (hrc : ∀ W, Below b0 w0 W → Kd.C (Kd.int .i64) W Ac cs.length cs) (p : Nat) (hp : b0 ≤ p) (d i : Nat) (hi : i + (d + 1) = xs.length)
  (ih : ∀ (m l : Int) (s s' : SVN) (w : World), visitN k xs cs lo wa gr d m l s = some s' → Below b0 w0 w → b0 ≤ w.heap.size → StN w b0 p An nn cn Ap xs.length cp Ac cs.length cc lo wa gr s → s.some.length + d ≤ xs.length → Calls Try.prog 83 #[.pointer (some ⟨p, 0, none⟩), .int .i64 ((i : Int) + 1), .int .i64 m, .int .i64 l] w fun e w' => e = .returned (.tuple #[]) ∧ Below b0 w0 w' ∧ b0 ≤ w'.heap.size ∧ StN w' b0 p An nn cn Ap xs.length cp Ac cs.length cc lo wa gr s' ∧ KeepsT 75 w w')
  (m l : Int) (s s' : SVN) (w : World) (h : visitN k xs cs lo wa gr (d + 1) m l s = some s') (hb : Below b0 w0 w) (hbw : b0 ≤ w.heap.size) (hs : StN w b0 p An nn cn Ap xs.length cp Ac cs.length cc lo wa gr s) (hl : s.some.length + (d + 1) ≤ xs.length) :
  Calls Try.prog 83 #[.pointer (some ⟨p, 0, none⟩), .int .i64 (i : Int), .int .i64 m, .int .i64 l] w fun e w' => e = .returned (.tuple #[]) ∧ Below b0 w0 w' ∧ b0 ≤ w'.heap.size ∧ StN w' b0 p An nn cn Ap xs.length cp Ac cs.length cc lo wa gr s' ∧ KeepsT 75 w w' := by
 have hsome := visitN_some k xs cs lo wa gr
 unfold visitN at h
 rw [show xs.length - (d + 1) = i by omega] at h
 have HI0 := Aside0.mk (show (0 : Int) ≤ (i : Int) by omega)
 have HI1 := Aside0.mk (show (i : Int) < (xs.length : Int) by omega)
 have HI2 := Aside0.mk (show (i : Int) < (cs.length : Int) by omega)
 obtain ⟨A2, c2, A3, c3, ⟨x0, x1, x2, x3, x4, x5, x6, x7, x8, x9, x10, xf⟩, _, _, hP, hR⟩ := hs.open
 obtain ⟨ad, eA, k0, k1, k2, k3, k4, k5⟩ := at_T75 (hrp w hb) (i : Int) HI0.out HI1.out
 obtain ⟨adc, eC, kc⟩ := Kd.at_int (hrc w hb) (i : Int) HI0.out HI2.out
 subst eA
 subst eC
 rw [Int.toNat_natCast] at k0 k1 k2 k3 k4 k5 kc
 have z0 : ((i : Int) == (xs.length : Int)) = false := by simp; omega
 have z2 := eq_true HI0.out
 have z3 := eq_true HI1.out
 have z4 := eq_true HI2.out
 have HB := Aside0.mk hb
 have HS := Aside0.mk hs
 have HPP := Aside0.mk hp
 have HP := Aside0.mk hP
 have HR := Aside0.mk hR
 have HI := Aside0.mk hi
 have HXL := Aside0.mk hxl
 have HL := Aside0.mk hl
 have IH := Aside0.mk ih
 have HBW := Aside0.mk hbw
 have HSOME := Aside0.mk hsome
 have HRP := Aside0.mk hrp
 have HRC := Aside0.mk hrc
 have hw1 : IntKind.i64.wrap ((i : Int) + 1) = (i : Int) + 1 := IntWalk.i64_in _ (by omega)
 have hw2 : wrap64 ((i : Int) + 1) = (i : Int) + 1 := by unfold wrap64; omega
 clear hb hs hp hP hR hi hxl hcl hl ih hbw hsome hrp hrc
 have HKC := Aside0.mk (fun W (hW : Below b0 w0 W) => (by obtain ⟨a', e', k'⟩ := Kd.at_int (HRC.out W hW) (i : Int) HI0.out HI2.out; injection e' with e'; subst e'; rw [Int.toNat_natCast] at k'; exact k' : W.cell? (adc.add i) = some (.int .i64 (rd cs (i : Int)))))
 have hxp : ¬ w.heap.size = p := fun e => by have := StN.size HS.out; omega
 go_enter Try.func83, Try.ntmps83
 go_upto_region 4 with fail
 have hB1 := HB.out.alloc HBW.out (.cells #[.string (rd_T75 xs (i : Int)).f0, .int .i64 (rd_T75 xs (i : Int)).f1, .int .i64 (rd_T75 xs (i : Int)).f2, .int .i64 (rd_T75 xs (i : Int)).f3, .int .i64 (rd_T75 xs (i : Int)).f4, .int .i64 (rd_T75 xs (i : Int)).f5] 75)
 have hW1 : b0 ≤ (w.alloc (.cells #[.string (rd_T75 xs (i : Int)).f0, .int .i64 (rd_T75 xs (i : Int)).f1, .int .i64 (rd_T75 xs (i : Int)).f2, .int .i64 (rd_T75 xs (i : Int)).f3, .int .i64 (rd_T75 xs (i : Int)).f4, .int .i64 (rd_T75 xs (i : Int)).f5] 75)).heap.size := by simp; exact Nat.le_succ_of_le HBW.out
 have hS1 := HS.out.below (below_alloc (Below.refl w.heap.size w) (.cells #[.string (rd_T75 xs (i : Int)).f0, .int .i64 (rd_T75 xs (i : Int)).f1, .int .i64 (rd_T75 xs (i : Int)).f2, .int .i64 (rd_T75 xs (i : Int)).f3, .int .i64 (rd_T75 xs (i : Int)).f4, .int .i64 (rd_T75 xs (i : Int)).f5] 75))
 have hK1 : KeepsT 75 w (w.alloc (.cells #[.string (rd_T75 xs (i : Int)).f0, .int .i64 (rd_T75 xs (i : Int)).f1, .int .i64 (rd_T75 xs (i : Int)).f2, .int .i64 (rd_T75 xs (i : Int)).f3, .int .i64 (rd_T75 xs (i : Int)).f4, .int .i64 (rd_T75 xs (i : Int)).f5] 75)) := (KeepsT.refl _ _).alloc _
 have hX1 := blk_new w (.cells #[.string (rd_T75 xs (i : Int)).f0, .int .i64 (rd_T75 xs (i : Int)).f1, .int .i64 (rd_T75 xs (i : Int)).f2, .int .i64 (rd_T75 xs (i : Int)).f3, .int .i64 (rd_T75 xs (i : Int)).f4, .int .i64 (rd_T75 xs (i : Int)).f5] 75)
 have hz1 : w.heap.size < (w.alloc (.cells #[.string (rd_T75 xs (i : Int)).f0, .int .i64 (rd_T75 xs (i : Int)).f1, .int .i64 (rd_T75 xs (i : Int)).f2, .int .i64 (rd_T75 xs (i : Int)).f3, .int .i64 (rd_T75 xs (i : Int)).f4, .int .i64 (rd_T75 xs (i : Int)).f5] 75)).heap.size := by simp
 clear x0 x1 x2 x3 x4 x5 x6 x7 x8 x9 x10 xf k0 k1 k2 k3 k4 k5 kc
 generalize w.alloc (.cells #[.string (rd_T75 xs (i : Int)).f0, .int .i64 (rd_T75 xs (i : Int)).f1, .int .i64 (rd_T75 xs (i : Int)).f2, .int .i64 (rd_T75 xs (i : Int)).f3, .int .i64 (rd_T75 xs (i : Int)).f4, .int .i64 (rd_T75 xs (i : Int)).f5] 75) = W1 at hB1 hW1 hS1 hK1 hX1 hz1 ⊢
 have HB1 := Aside0.mk hB1
 have HW1 := Aside0.mk hW1
 have HS1 := Aside0.mk hS1
 have HK1 := Aside0.mk hK1
 have HX1 := Aside0.mk hX1
 have HZ1 := Aside0.mk hz1
 have kc := HKC.out W1 hB1
 obtain ⟨b0_, b1_, b2_, b3_, b4_, b5_, bf_⟩ := cells6 hX1
 clear hB1 hW1 hS1 hK1 hX1 hz1
 obtain ⟨A2, c2, A3, c3, ⟨x0, x1, x2, x3, x4, x5, x6, x7, x8, x9, x10, xf⟩, _, _, hP1, hR1⟩ := HS1.out.open
 have HP1 := Aside0.mk hP1
 have HR1 := Aside0.mk hR1
 clear hP1 hR1
 by_cases qm : rd cs (i : Int) ≤ m
 ·
  rw [if_pos qm] at h
  have zm : decide (rd cs (i : Int) ≤ m) = true := decide_eq_true qm
  clear qm
  by_cases qb : wrap64 (s.budget - 1) < 0
  ·
   rw [if_pos qb] at h
   have zb : decide (wrap64 (s.budget - 1) < 0) = true := decide_eq_true qb
   obtain rfl := Option.some.inj h
   clear qb h
   go_wp2
   ((try simp only [Exit.inBlock, Exit.then]); first | (refine bodyPost_ret (results_none rfl _ _ _) rfl ?_) | (refine bodyPost_end (results_none rfl _ _ _) rfl ?_))
   exact ⟨rfl, sput HB1.out HPP.out 6 _, by simp; exact HW1.out, StN.set_budget HS1.out _, HK1.out.set HP1.out (by decide) 6 _⟩
  ·
   rw [if_neg qb] at h
   have zb : decide (wrap64 (s.budget - 1) < 0) = false := decide_eq_false qb
   obtain ⟨r1, hr1, h1⟩ := Option.bind_eq_some_iff.1 h
   obtain ⟨s2, hrec, h2⟩ := Option.bind_eq_some_iff.1 h1
   have hbu := HSOME.out _ _ _ _ _ hrec
   simp only at hbu
   have HLEN := Aside0.mk (show s2.some.length = s.some.length + 1 by rw [hbu, List.length_append]; rfl)
   have HREC := Aside0.mk hrec
   have HQ1 := Aside0.mk hr1
   have H2 := Aside0.mk h2
   clear qb h h1 h2 hrec hr1 hbu
   go_wp2
   have hsz : (W1.setCell ⟨p, 6, none⟩ (.int .i64 (wrap64 (s.budget - 1)))).heap.size = W1.heap.size := by simp
   have hW1' : b0 ≤ (W1.setCell ⟨p, 6, none⟩ (.int .i64 (wrap64 (s.budget - 1)))).heap.size := by rw [hsz]; exact HW1.out
   have hB2 := (sput HB1.out HPP.out 6 (.int .i64 (wrap64 (s.budget - 1)))).alloc hW1' (.cells #[.string (rd_T75 xs (i : Int)).f0, .int .i64 (rd_T75 xs (i : Int)).f1, .int .i64 (rd_T75 xs (i : Int)).f2, .int .i64 (rd_T75 xs (i : Int)).f3, .int .i64 (rd_T75 xs (i : Int)).f4, .int .i64 (rd_T75 xs (i : Int)).f5] 75)
   have hW2 : b0 ≤ ((W1.setCell ⟨p, 6, none⟩ (.int .i64 (wrap64 (s.budget - 1)))).alloc (.cells #[.string (rd_T75 xs (i : Int)).f0, .int .i64 (rd_T75 xs (i : Int)).f1, .int .i64 (rd_T75 xs (i : Int)).f2, .int .i64 (rd_T75 xs (i : Int)).f3, .int .i64 (rd_T75 xs (i : Int)).f4, .int .i64 (rd_T75 xs (i : Int)).f5] 75)).heap.size := by simp; exact Nat.le_succ_of_le HW1.out
   have hS2 := (StN.set_budget HS1.out (wrap64 (s.budget - 1))).below (below_alloc (Below.refl _ _) (.cells #[.string (rd_T75 xs (i : Int)).f0, .int .i64 (rd_T75 xs (i : Int)).f1, .int .i64 (rd_T75 xs (i : Int)).f2, .int .i64 (rd_T75 xs (i : Int)).f3, .int .i64 (rd_T75 xs (i : Int)).f4, .int .i64 (rd_T75 xs (i : Int)).f5] 75))
   have hK2 := (HK1.out.set HP1.out (by decide) 6 (.int .i64 (wrap64 (s.budget - 1)))).alloc (.cells #[.string (rd_T75 xs (i : Int)).f0, .int .i64 (rd_T75 xs (i : Int)).f1, .int .i64 (rd_T75 xs (i : Int)).f2, .int .i64 (rd_T75 xs (i : Int)).f3, .int .i64 (rd_T75 xs (i : Int)).f4, .int .i64 (rd_T75 xs (i : Int)).f5] 75)
   have hX2 := blk_alloc (blk_far HX1.out (p := ⟨p, 6, none⟩) hxp (.int .i64 (wrap64 (s.budget - 1)))) (.cells #[.string (rd_T75 xs (i : Int)).f0, .int .i64 (rd_T75 xs (i : Int)).f1, .int .i64 (rd_T75 xs (i : Int)).f2, .int .i64 (rd_T75 xs (i : Int)).f3, .int .i64 (rd_T75 xs (i : Int)).f4, .int .i64 (rd_T75 xs (i : Int)).f5] 75)
   have hY2 := blk_new (W1.setCell ⟨p, 6, none⟩ (.int .i64 (wrap64 (s.budget - 1)))) (.cells #[.string (rd_T75 xs (i : Int)).f0, .int .i64 (rd_T75 xs (i : Int)).f1, .int .i64 (rd_T75 xs (i : Int)).f2, .int .i64 (rd_T75 xs (i : Int)).f3, .int .i64 (rd_T75 xs (i : Int)).f4, .int .i64 (rd_T75 xs (i : Int)).f5] 75)
   rw [hsz] at hY2
   have hxq : ¬ W1.heap.size = p := fun e => by have := StN.size HS1.out; omega
   have hxr : ¬ w.heap.size = W1.heap.size := fun e => by have := HZ1.out; omega
   clear x0 x1 x2 x3 x4 x5 x6 x7 x8 x9 x10 xf b0_ b1_ b2_ b3_ b4_ b5_ bf_ kc hsz hW1'
   generalize ((W1.setCell ⟨p, 6, none⟩ (.int .i64 (wrap64 (s.budget - 1)))).alloc (.cells #[.string (rd_T75 xs (i : Int)).f0, .int .i64 (rd_T75 xs (i : Int)).f1, .int .i64 (rd_T75 xs (i : Int)).f2, .int .i64 (rd_T75 xs (i : Int)).f3, .int .i64 (rd_T75 xs (i : Int)).f4, .int .i64 (rd_T75 xs (i : Int)).f5] 75)) = W2 at hB2 hW2 hS2 hK2 hX2 hY2 ⊢
   obtain ⟨_, _, _, _, ⟨x0, x1, x2, x3, x4, x5, x6, x7, x8, x9, x10, xf⟩, _, _, _, _⟩ := hS2.open
   obtain ⟨b0_, b1_, b2_, b3_, b4_, b5_, bf_⟩ := cells6 hX2
   obtain ⟨c0_, c1_, c2_, c3_, c4_, c5_, cf_⟩ := cells6 hY2
   have HB2 := Aside0.mk hB2
   have HW2 := Aside0.mk hW2
   have HS2 := Aside0.mk hS2
   have HK2 := Aside0.mk hK2
   have HX2 := Aside0.mk hX2
   have HY2 := Aside0.mk hY2
   clear hB2 hW2 hS2 hK2 hX2 hY2
   go_region
   have hB3 := below_drew (sput HB2.out HW1.out 5 (.int .i64 (if lo < (rd_T75 xs (i : Int)).f5 then lo else (rd_T75 xs (i : Int)).f5)))
   have hW3 : b0 ≤ (W2.setCell ⟨W1.heap.size, 5, none⟩ (.int .i64 (if lo < (rd_T75 xs (i : Int)).f5 then lo else (rd_T75 xs (i : Int)).f5))).drew.heap.size := by simp; exact HW2.out
   have hS3 := (StN.far HS2.out HY2.out hxq (by decide) 5 (.int .i64 (if lo < (rd_T75 xs (i : Int)).f5 then lo else (rd_T75 xs (i : Int)).f5))).below (below_drew (Below.refl _ _))
   have hK3 := (HK2.out.setNew (Nat.le_of_lt HZ1.out) 5 (.int .i64 (if lo < (rd_T75 xs (i : Int)).f5 then lo else (rd_T75 xs (i : Int)).f5))).drew
   have hX3 := blk_drew (blk_far HX2.out (p := ⟨W1.heap.size, 5, none⟩) hxr (.int .i64 (if lo < (rd_T75 xs (i : Int)).f5 then lo else (rd_T75 xs (i : Int)).f5)))
   have hY3 := blk_drew (blk_set HY2.out 5 (.int .i64 (if lo < (rd_T75 xs (i : Int)).f5 then lo else (rd_T75 xs (i : Int)).f5)))
   clear x0 x1 x2 x3 x4 x5 x6 x7 x8 x9 x10 xf b0_ b1_ b2_ b3_ b4_ b5_ bf_ c0_ c1_ c2_ c3_ c4_ c5_ cf_
   generalize (W2.setCell ⟨W1.heap.size, 5, none⟩ (.int .i64 (if lo < (rd_T75 xs (i : Int)).f5 then lo else (rd_T75 xs (i : Int)).f5))).drew = W3 at hB3 hW3 hS3 hK3 hX3 hY3 ⊢
   have hQ1 := HQ1.out
   clear HQ1
   generalize (if lo < (rd_T75 xs (i : Int)).f5 then lo else (rd_T75 xs (i : Int)).f5) = mn at hY3 hQ1
   have HQ1 := Aside0.mk hQ1
   clear hQ1
   obtain ⟨A4, c4, A5, c5, ⟨x0, x1, x2, x3, x4, x5, x6, x7, x8, x9, x10, xf⟩, _, _, hP3, hR3⟩ := hS3.open
   have HB3 := Aside0.mk hB3
   have HW3 := Aside0.mk hW3
   have HS3 := Aside0.mk hS3
   have HK3 := Aside0.mk hK3
   have HX3 := Aside0.mk hX3
   have HY3 := Aside0.mk hY3
   have HP3 := Aside0.mk hP3
   have HR3 := Aside0.mk hR3
   clear hB3 hW3 hS3 hK3 hX3 hY3 hP3 hR3
   go_wp2_with (first | (at_builtin; refine Kd.R_append (Kd.int .i64) (w0 := w0) b0 rfl _ _ 24 2 (.int .i64 0) 8 rfl Try.underlying24 info2 rfl (by decide) (by omega) (.slice A4 s.some.length c4) s.some (i : Int) [.int .i64 (i : Int)] (fun k => some k ≠ (Value.slice A5 s.best.length c5).ownBlock) (fun _ => False) rfl rfl rfl (fun _ hk => hk.elim) (fun k hk e => (by have := Kd.R_lt HR3.out.2 k e.symm; omega)) HR3.out.1 HB3.out HW3.out (by have := HL.out; have := HXL.out; omega) ?_; intro v1 w4 ho hb4 hg hat; obtain ⟨A9, c9, e9⟩ := Kd.R_slice ho; rw [List.length_append, List.length_singleton] at e9; subst e9; have hP4 := blk_grown HP3.out hg (Kd.R_ne HR3.out.1 HP3.out (by decide)); have hX4 := blk_grown HX3.out hg (Kd.R_ne HR3.out.1 HX3.out (by decide)); have hY4 := blk_grown HY3.out hg (Kd.R_ne HR3.out.1 HY3.out (by decide)); have hK4 := HK3.out.grown hg HR3.out.1 (by decide); have hR4 := HR3.out.append ho hg hat; have hz4 := Nat.le_trans HW3.out hg.size; obtain ⟨u0, u1, u2, u3, u4, u5, u6, u7, u8, u9, u10, uf⟩ := cells11 hP4; have HP4 := Aside0.mk hP4; have HX4 := Aside0.mk hX4; have HY4 := Aside0.mk hY4; have HK4 := Aside0.mk hK4; have HR4 := Aside0.mk hR4; have HB4 := Aside0.mk hb4; have HZ4 := Aside0.mk hz4; clear ho hb4 hg hat hP4 hX4 hY4 hK4 hR4 hz4))
   have hS5 := StN.put_some (s := ⟨wrap64 (s.budget - 1), s.some, s.best, s.least, s.found⟩) HP4.out HR4.out (show s.some.length + 1 = (s.some ++ [(i : Int)]).length by simp)
   have hB5 := sput HB4.out HPP.out 7 (.slice A9 (s.some.length + 1) c9)
   have hW5 : b0 ≤ (w4.setCell ⟨p, 7, none⟩ (.slice A9 (s.some.length + 1) c9)).heap.size := by simp; exact HZ4.out
   have hX5 := blk_far HX4.out (p := ⟨p, 7, none⟩) hxp (.slice A9 (s.some.length + 1) c9)
   have hY5 := blk_far HY4.out (p := ⟨p, 7, none⟩) hxq (.slice A9 (s.some.length + 1) c9)
   have hK5 := HK4.out.set HP4.out (by decide) 7 (.slice A9 (s.some.length + 1) c9)
   clear x0 x1 x2 x3 x4 x5 x6 x7 x8 x9 x10 xf u0 u1 u2 u3 u4 u5 u6 u7 u8 u9 u10 uf
   generalize (w4.setCell ⟨p, 7, none⟩ (.slice A9 (s.some.length + 1) c9)) = W5 at hS5 hB5 hW5 hX5 hY5 hK5 ⊢
   obtain ⟨_, _, _, _, ⟨x0, x1, x2, x3, x4, x5, x6, x7, x8, x9, x10, xf⟩, _, _, _, _⟩ := hS5.open
   obtain ⟨c0_, c1_, c2_, c3_, c4_, c5_, cf_⟩ := cells6 hY5
   have kc := HKC.out W5 hB5
   have HB5 := Aside0.mk hB5
   have HW5 := Aside0.mk hW5
   have HS5 := Aside0.mk hS5
   have HK5 := Aside0.mk hK5
   have HX5 := Aside0.mk hX5
   have HY5 := Aside0.mk hY5
   clear hB5 hW5 hS5 hK5 hX5 hY5
   go_region_held3 (fun W_ => W_.cell? ⟨W1.heap.size, 0, none⟩ = some (.string (rd_T75 xs (i : Int)).f0) ∧ W_.cell? ⟨W1.heap.size, 1, none⟩ = some (.int .i64 (rd_T75 xs (i : Int)).f1) ∧ W_.cell? ⟨W1.heap.size, 2, none⟩ = some (.int .i64 (rd_T75 xs (i : Int)).f2) ∧ W_.cell? ⟨W1.heap.size, 3, none⟩ = some (.int .i64 (rd_T75 xs (i : Int)).f3) ∧ W_.cell? ⟨W1.heap.size, 4, none⟩ = some (.int .i64 (rd_T75 xs (i : Int)).f4) ∧ W_.cell? ⟨W1.heap.size, 5, none⟩ = some (.int .i64 mn) ∧ W_.cell? ⟨p, 2, none⟩ = some (.slice (some adc) cs.length cc) ∧ W_.cell? ⟨p, 4, none⟩ = some (.int .i64 wa) ∧ W_.cell? ⟨p, 5, none⟩ = some (.int .i64 gr) ∧ W_.cell? (adc.add i) = some (.int .i64 (rd cs (i : Int)))) (first | (exact ⟨c0_, c1_, c2_, c3_, c4_, c5_, x2, x4, x5, kc⟩) | (exact ⟨y0, y1, y2, y3, y4, y5, q2, q4, q5, yc⟩) | (exact ⟨z0, z1, z2, z3, z4, z5, t2, t4, t5, zc⟩) | go_keep) (first | (go_at_call 125; refine (impl_Pipe_loss.calls _ _ _ _ _ _ _ _ _ _ (by exact HQ1.out)).mono ?_; rintro e w8 ⟨rfl, hb8⟩; have hB9 := below_then (below_drew HB5.out) HW5.out hb8; have hW9 := Nat.le_trans HW5.out hb8.size; have hS9 := (HS5.out.below (below_drew (Below.refl _ _))).below hb8; have hK9 := HK5.out.drew.below hb8; have hX9 := blk_below (blk_drew HX5.out) hb8; have hY9 := blk_below (blk_drew HY5.out) hb8; obtain ⟨y0, y1, y2, y3, y4, y5, yf⟩ := cells6 hY9; obtain ⟨_, _, _, _, ⟨q0, q1, q2, q3, q4, q5, q6, q7, q8, q9, q10, qf⟩, _⟩ := hS9.open; have yc := HKC.out w8 hB9; have HB9 := Aside0.mk hB9; have HW9 := Aside0.mk hW9; have HS9 := Aside0.mk hS9; have HK9 := Aside0.mk hK9; have HX9 := Aside0.mk hX9; have HY9 := Aside0.mk hY9; clear hY9; clear hb8 hB9 hW9 hS9 hK9 hX9) | (go_at_call 83; (try simp only [Go.IntWalk.i64_left, hw1, hw2]); refine (IH.out (wrap64 (m - rd cs (i : Int))) (wrap64 (l + r1)) _ s2 _ HREC.out HB9.out HW9.out HS9.out (by have := HL.out; simp only [List.length_append, List.length_cons, List.length_nil]; omega)).mono ?_; rintro e w10 ⟨rfl, hb10, hw10, hs10, hk10⟩; have hX10 := hk10 _ _ HX9.out; obtain ⟨z0, z1, z2, z3, z4, z5, zf⟩ := cells6 (hk10 _ _ HY9.out); obtain ⟨A6, c6, A7, c7, ⟨t0, t1, t2, t3, t4, t5, t6, t7, t8, t9, t10, tf⟩, ⟨hc6, _⟩, _, hP10, hR10⟩ := hs10.open; have zc := HKC.out w10 hb10; have HB10 := Aside0.mk hb10; have HW10 := Aside0.mk hw10; have HS10 := Aside0.mk hs10; have HK10 := Aside0.mk (HK9.out.trans hk10); have HX10 := Aside0.mk hX10; have HP10 := Aside0.mk hP10; have HR10 := Aside0.mk hR10; have HC6 := Aside0.mk hc6; clear hb10 hw10 hs10 hk10 hX10 hP10 hR10 hc6))
   have hk0 : (0 : Int) ≤ (s2.some.length : Int) - 1 := by have := HLEN.out; omega
   have hk1 : (s2.some.length : Int) - 1 ≤ (s2.some.length : Int) := by omega
   have hk2 : (s2.some.length : Int) - 1 ≤ (c6 : Int) := by have := HC6.out; omega
   obtain ⟨g6, rfl⟩ := HR10.out.some (by have := HLEN.out; omega)
   have hw3 : IntKind.i64.wrap ((s2.some.length : Int) - 1) = (s2.some.length : Int) - 1 := IntWalk.i64_in _ (by have := HLEN.out; have := HL.out; have := HXL.out; omega)
   clear x0 x1 x2 x3 x4 x5 x6 x7 x8 x9 x10 xf c0_ c1_ c2_ c3_ c4_ c5_ cf_ kc y0 y1 y2 y3 y4 y5 yf yc q0 q1 q2 q3 q4 q5 q6 q7 q8 q9 q10 qf z0 z1 z2 z3 z4 z5 zf zc
   go_wp2
   go_region
   have hS6 := (StN.put_some (s := s2) HP10.out (HR10.out.cut (m := s2.some.length - 1) (by omega)) (show s2.some.length - 1 = (s2.some.take (s2.some.length - 1)).length by rw [List.length_take]; omega)).below (below_drew (Below.refl _ _))
   have hB6 := below_drew (sput HB10.out HPP.out 7 (.slice (some ⟨g6, 0, none⟩) (s2.some.length - 1) c6))
   have hW6 : b0 ≤ (w10.setCell ⟨p, 7, none⟩ (.slice (some ⟨g6, 0, none⟩) (s2.some.length - 1) c6)).drew.heap.size := by simp; exact HW10.out
   have hK6 := (HK10.out.set HP10.out (by decide) 7 (.slice (some ⟨g6, 0, none⟩) (s2.some.length - 1) c6)).drew
   have hX6 := blk_drew (blk_far HX10.out (p := ⟨p, 7, none⟩) hxp (.slice (some ⟨g6, 0, none⟩) (s2.some.length - 1) c6))
   clear t0 t1 t2 t3 t4 t5 t6 t7 t8 t9 t10 tf
   generalize (w10.setCell ⟨p, 7, none⟩ (.slice (some ⟨g6, 0, none⟩) (s2.some.length - 1) c6)).drew = W6 at hS6 hB6 hW6 hK6 hX6 ⊢
   have h1 := H2.out
   have hl3 : (⟨s2.budget, s2.some.take (s2.some.length - 1), s2.best, s2.least, s2.found⟩ : SVN).some.length = s.some.length := by have := HLEN.out; simp only [List.length_take]; omega
   generalize (⟨s2.budget, s2.some.take (s2.some.length - 1), s2.best, s2.least, s2.found⟩ : SVN) = s3 at h1 hS6 hl3
   have HTL := Aside0.mk h1
   have HB6 := Aside0.mk hB6
   have HS6 := Aside0.mk hS6
   have HW6 := Aside0.mk hW6
   have HK6 := Aside0.mk hK6
   have HX6 := Aside0.mk hX6
   have HL3 := Aside0.mk (show s3.some.length + (d + 1) ≤ xs.length by have := HL.out; omega)
   obtain ⟨_, _, _, _, ⟨x0, x1, x2, x3, x4, x5, x6, x7, x8, x9, x10, xf⟩, _, _, _, _⟩ := hS6.open
   obtain ⟨b0_, b1_, b2_, b3_, b4_, b5_, bf_⟩ := cells6 hX6
   clear hS6 hB6 hW6 hK6 hX6 h1 hl3 H2 hk0 hk1 hk2 hw3
   have htl := HTL.out
   unfold tailN at htl
   by_cases qt : wrap64 (s3.budget - 1) < 0
   ·
    rw [if_pos qt] at htl
    obtain rfl := Option.some.inj htl
    have zt : decide (wrap64 (s3.budget - 1) < 0) = true := decide_eq_true qt
    clear qt htl
    go_wp2
    ((try simp only [Exit.inBlock, Exit.then]); first | (refine bodyPost_ret (results_none rfl _ _ _) rfl ?_) | (refine bodyPost_end (results_none rfl _ _ _) rfl ?_))
    exact ⟨rfl, sput HB6.out HPP.out 6 _, by simp; exact HW6.out, StN.set_budget HS6.out _, (by obtain ⟨cP_, hP_⟩ := StN.blk HS6.out; exact HK6.out.set hP_ (by decide) 6 _)⟩
   ·
    rw [if_neg qt] at htl
    have zt : decide (wrap64 (s3.budget - 1) < 0) = false := decide_eq_false qt
    obtain ⟨r2, hr2, hv⟩ := Option.bind_eq_some_iff.1 htl
    have HQ := Aside0.mk hr2
    have HV := Aside0.mk hv
    clear htl qt hr2 hv HTL
    go_wp2
    have hS4 := StN.set_budget HS6.out (wrap64 (s3.budget - 1))
    have hB4 := sput HB6.out HPP.out 6 (.int .i64 (wrap64 (s3.budget - 1)))
    have hW4 : b0 ≤ (W6.setCell ⟨p, 6, none⟩ (.int .i64 (wrap64 (s3.budget - 1)))).heap.size := by simp; exact HW6.out
    obtain ⟨cP_, hP_⟩ := StN.blk HS6.out
    have hK4 := HK6.out.set hP_ (by decide) 6 (.int .i64 (wrap64 (s3.budget - 1)))
    have hX4 := blk_far HX6.out (p := ⟨p, 6, none⟩) hxp (.int .i64 (wrap64 (s3.budget - 1)))
    have hz4 : (W6.setCell ⟨p, 6, none⟩ (.int .i64 (wrap64 (s3.budget - 1)))).heap.size = W6.heap.size := by simp
    clear x0 x1 x2 x3 x4 x5 x6 x7 x8 x9 x10 xf hP_ b0_ b1_ b2_ b3_ b4_ b5_ bf_
    generalize W6.setCell ⟨p, 6, none⟩ (.int .i64 (wrap64 (s3.budget - 1))) = W7 at hS4 hB4 hW4 hK4 hX4 hz4 ⊢
    have HS7 := Aside0.mk hS4
    have HB7 := Aside0.mk hB4
    have HW7 := Aside0.mk hW4
    have HK7 := Aside0.mk hK4
    have HX7 := Aside0.mk hX4
    obtain ⟨_, _, _, _, ⟨x0, x1, x2, x3, x4, x5, x6, x7, x8, x9, x10, xf⟩, _⟩ := hS4.open
    obtain ⟨b0_, b1_, b2_, b3_, b4_, b5_, bf_⟩ := cells6 hX4
    clear hS4 hB4 hW4 hK4 hX4 hz4 zt
    (try clear zb)
    go_region_held3 (fun W_ => W_.cell? ⟨w.heap.size, 0, none⟩ = some (.string (rd_T75 xs (i : Int)).f0) ∧ W_.cell? ⟨w.heap.size, 1, none⟩ = some (.int .i64 (rd_T75 xs (i : Int)).f1) ∧ W_.cell? ⟨w.heap.size, 2, none⟩ = some (.int .i64 (rd_T75 xs (i : Int)).f2) ∧ W_.cell? ⟨w.heap.size, 3, none⟩ = some (.int .i64 (rd_T75 xs (i : Int)).f3) ∧ W_.cell? ⟨w.heap.size, 4, none⟩ = some (.int .i64 (rd_T75 xs (i : Int)).f4) ∧ W_.cell? ⟨w.heap.size, 5, none⟩ = some (.int .i64 (rd_T75 xs (i : Int)).f5) ∧ W_.cell? ⟨p, 4, none⟩ = some (.int .i64 wa) ∧ W_.cell? ⟨p, 5, none⟩ = some (.int .i64 gr)) (first | (exact ⟨b0_, b1_, b2_, b3_, b4_, b5_, x4, x5⟩) | (exact ⟨y0, y1, y2, y3, y4, y5, q4, q5⟩) | (exact ⟨z0, z1, z2, z3, z4, z5, t4, t5⟩) | go_keep) (first | (go_at_call 125; refine (impl_Pipe_loss.calls _ _ _ _ _ _ _ _ _ _ (by exact HQ.out)).mono ?_; rintro e w8 ⟨rfl, hb8⟩; have hB9 := below_then (below_drew HB7.out) HW7.out hb8; have hW9 := Nat.le_trans HW7.out hb8.size; have hS9 := (HS7.out.below (below_drew (Below.refl _ _))).below hb8; have hK9 := HK7.out.drew.below hb8; have hX9 := blk_below (blk_drew HX7.out) hb8; obtain ⟨y0, y1, y2, y3, y4, y5, yf⟩ := cells6 hX9; obtain ⟨_, _, _, _, ⟨q0, q1, q2, q3, q4, q5, q6, q7, q8, q9, q10, qf⟩, _⟩ := hS9.open; have HB9 := Aside0.mk hB9; have HW9 := Aside0.mk hW9; have HS9 := Aside0.mk hS9; have HK9 := Aside0.mk hK9; have HX9 := Aside0.mk hX9; clear hb8 hB9 hW9 hS9 hK9 hX9) | (go_at_call 83; (try simp only [Go.IntWalk.i64_left, hw1, hw2]); refine (IH.out m (wrap64 (l + r2)) _ s' _ HV.out HB9.out HW9.out HS9.out (by have := HL3.out; show s3.some.length + d ≤ xs.length; omega)).mono ?_; rintro e w10 ⟨rfl, hb10, hw10, hs10, hk10⟩; have hX10 := hk10 _ _ HX9.out; obtain ⟨z0, z1, z2, z3, z4, z5, zf⟩ := cells6 hX10; obtain ⟨A6, c6, A7, c7, ⟨t0, t1, t2, t3, t4, t5, t6, t7, t8, t9, t10, tf⟩, ⟨hc6, _⟩, _, hP10, hR10⟩ := hs10.open; have HB10 := Aside0.mk hb10; have HW10 := Aside0.mk hw10; have HS10 := Aside0.mk hs10; have HK10 := Aside0.mk (HK9.out.trans hk10); have HX10 := Aside0.mk hX10; have HP10 := Aside0.mk hP10; have HR10 := Aside0.mk hR10; have HC6 := Aside0.mk hc6; clear hb10 hw10 hs10 hk10 hX10 hP10 hR10 hc6))
    ((try simp only [Exit.inBlock, Exit.then]); first | (refine bodyPost_ret (results_none rfl _ _ _) rfl ?_) | (refine bodyPost_end (results_none rfl _ _ _) rfl ?_))
    exact ⟨rfl, HB10.out, HW10.out, HS10.out, HK10.out⟩
 ·
  rw [if_neg qm] at h
  have zm : decide (rd cs (i : Int) ≤ m) = false := decide_eq_false qm
  clear qm
  have HTL := Aside0.mk h
  clear h
  have htl := HTL.out
  unfold tailN at htl
  by_cases qt : wrap64 (s.budget - 1) < 0
  ·
   rw [if_pos qt] at htl
   obtain rfl := Option.some.inj htl
   have zt : decide (wrap64 (s.budget - 1) < 0) = true := decide_eq_true qt
   clear qt htl
   go_wp2
   ((try simp only [Exit.inBlock, Exit.then]); first | (refine bodyPost_ret (results_none rfl _ _ _) rfl ?_) | (refine bodyPost_end (results_none rfl _ _ _) rfl ?_))
   exact ⟨rfl, sput HB1.out HPP.out 6 _, by simp; exact HW1.out, StN.set_budget HS1.out _, (by obtain ⟨cP_, hP_⟩ := StN.blk HS1.out; exact HK1.out.set hP_ (by decide) 6 _)⟩
  ·
   rw [if_neg qt] at htl
   have zt : decide (wrap64 (s.budget - 1) < 0) = false := decide_eq_false qt
   obtain ⟨r2, hr2, hv⟩ := Option.bind_eq_some_iff.1 htl
   have HQ := Aside0.mk hr2
   have HV := Aside0.mk hv
   clear htl qt hr2 hv HTL
   go_wp2
   have hS4 := StN.set_budget HS1.out (wrap64 (s.budget - 1))
   have hB4 := sput HB1.out HPP.out 6 (.int .i64 (wrap64 (s.budget - 1)))
   have hW4 : b0 ≤ (W1.setCell ⟨p, 6, none⟩ (.int .i64 (wrap64 (s.budget - 1)))).heap.size := by simp; exact HW1.out
   obtain ⟨cP_, hP_⟩ := StN.blk HS1.out
   have hK4 := HK1.out.set hP_ (by decide) 6 (.int .i64 (wrap64 (s.budget - 1)))
   have hX4 := blk_far HX1.out (p := ⟨p, 6, none⟩) hxp (.int .i64 (wrap64 (s.budget - 1)))
   have hz4 : (W1.setCell ⟨p, 6, none⟩ (.int .i64 (wrap64 (s.budget - 1)))).heap.size = W1.heap.size := by simp
   clear x0 x1 x2 x3 x4 x5 x6 x7 x8 x9 x10 xf hP_ b0_ b1_ b2_ b3_ b4_ b5_ bf_
   generalize W1.setCell ⟨p, 6, none⟩ (.int .i64 (wrap64 (s.budget - 1))) = W7 at hS4 hB4 hW4 hK4 hX4 hz4 ⊢
   have HS7 := Aside0.mk hS4
   have HB7 := Aside0.mk hB4
   have HW7 := Aside0.mk hW4
   have HK7 := Aside0.mk hK4
   have HX7 := Aside0.mk hX4
   obtain ⟨_, _, _, _, ⟨x0, x1, x2, x3, x4, x5, x6, x7, x8, x9, x10, xf⟩, _⟩ := hS4.open
   obtain ⟨b0_, b1_, b2_, b3_, b4_, b5_, bf_⟩ := cells6 hX4
   clear hS4 hB4 hW4 hK4 hX4 hz4 zt
   (try clear zb)
   go_region_held3 (fun W_ => W_.cell? ⟨w.heap.size, 0, none⟩ = some (.string (rd_T75 xs (i : Int)).f0) ∧ W_.cell? ⟨w.heap.size, 1, none⟩ = some (.int .i64 (rd_T75 xs (i : Int)).f1) ∧ W_.cell? ⟨w.heap.size, 2, none⟩ = some (.int .i64 (rd_T75 xs (i : Int)).f2) ∧ W_.cell? ⟨w.heap.size, 3, none⟩ = some (.int .i64 (rd_T75 xs (i : Int)).f3) ∧ W_.cell? ⟨w.heap.size, 4, none⟩ = some (.int .i64 (rd_T75 xs (i : Int)).f4) ∧ W_.cell? ⟨w.heap.size, 5, none⟩ = some (.int .i64 (rd_T75 xs (i : Int)).f5) ∧ W_.cell? ⟨p, 4, none⟩ = some (.int .i64 wa) ∧ W_.cell? ⟨p, 5, none⟩ = some (.int .i64 gr)) (first | (exact ⟨b0_, b1_, b2_, b3_, b4_, b5_, x4, x5⟩) | (exact ⟨y0, y1, y2, y3, y4, y5, q4, q5⟩) | (exact ⟨z0, z1, z2, z3, z4, z5, t4, t5⟩) | go_keep) (first | (go_at_call 125; refine (impl_Pipe_loss.calls _ _ _ _ _ _ _ _ _ _ (by exact HQ.out)).mono ?_; rintro e w8 ⟨rfl, hb8⟩; have hB9 := below_then (below_drew HB7.out) HW7.out hb8; have hW9 := Nat.le_trans HW7.out hb8.size; have hS9 := (HS7.out.below (below_drew (Below.refl _ _))).below hb8; have hK9 := HK7.out.drew.below hb8; have hX9 := blk_below (blk_drew HX7.out) hb8; obtain ⟨y0, y1, y2, y3, y4, y5, yf⟩ := cells6 hX9; obtain ⟨_, _, _, _, ⟨q0, q1, q2, q3, q4, q5, q6, q7, q8, q9, q10, qf⟩, _⟩ := hS9.open; have HB9 := Aside0.mk hB9; have HW9 := Aside0.mk hW9; have HS9 := Aside0.mk hS9; have HK9 := Aside0.mk hK9; have HX9 := Aside0.mk hX9; clear hb8 hB9 hW9 hS9 hK9 hX9) | (go_at_call 83; (try simp only [Go.IntWalk.i64_left, hw1, hw2]); refine (IH.out m (wrap64 (l + r2)) _ s' _ HV.out HB9.out HW9.out HS9.out (by have := HL.out; show s.some.length + d ≤ xs.length; omega)).mono ?_; rintro e w10 ⟨rfl, hb10, hw10, hs10, hk10⟩; have hX10 := hk10 _ _ HX9.out; obtain ⟨z0, z1, z2, z3, z4, z5, zf⟩ := cells6 hX10; obtain ⟨A6, c6, A7, c7, ⟨t0, t1, t2, t3, t4, t5, t6, t7, t8, t9, t10, tf⟩, ⟨hc6, _⟩, _, hP10, hR10⟩ := hs10.open; have HB10 := Aside0.mk hb10; have HW10 := Aside0.mk hw10; have HS10 := Aside0.mk hs10; have HK10 := Aside0.mk (HK9.out.trans hk10); have HX10 := Aside0.mk hX10; have HP10 := Aside0.mk hP10; have HR10 := Aside0.mk hR10; have HC6 := Aside0.mk hc6; clear hb10 hw10 hs10 hk10 hX10 hP10 hR10 hc6))
   ((try simp only [Exit.inBlock, Exit.then]); first | (refine bodyPost_ret (results_none rfl _ _ _) rfl ?_) | (refine bodyPost_end (results_none rfl _ _ _) rfl ?_))
   exact ⟨rfl, HB10.out, HW10.out, HS10.out, HK10.out⟩
theorem visitN.calls (k : Nat) (b0 : Nat) (w0 : World) (An : Option Addr) (nn cn : Nat) (Ap : Option Addr) (cp : Nat) (Ac : Option Addr) (cc : Nat) (lo wa gr : Int) (xs : List S75) (cs : List Int) (hxl : xs.length ≤ 1000) (hcl : cs.length = xs.length) (hrp : ∀ W, Below b0 w0 W → Kd.C k75 W Ap xs.length xs) (hrc : ∀ W, Below b0 w0 W → Kd.C (Kd.int .i64) W Ac cs.length cs) (p : Nat) (hp : b0 ≤ p) : ∀ (d i : Nat), i + d = xs.length → ∀ (m l : Int) (s s' : SVN) (w : World), visitN k xs cs lo wa gr d m l s = some s' → Below b0 w0 w → b0 ≤ w.heap.size → StN w b0 p An nn cn Ap xs.length cp Ac cs.length cc lo wa gr s → s.some.length + d ≤ xs.length → Calls Try.prog 83 #[.pointer (some ⟨p, 0, none⟩), .int .i64 (i : Int), .int .i64 m, .int .i64 l] w fun e w' => e = .returned (.tuple #[]) ∧ Below b0 w0 w' ∧ b0 ≤ w'.heap.size ∧ StN w' b0 p An nn cn Ap xs.length cp Ac cs.length cc lo wa gr s' ∧ KeepsT 75 w w'
 | 0, i, hi, m, l, s, s', w, h, hb, hw, hs, hl => by
  have e : i = xs.length := by omega
  subst e
  exact visitN_0.calls k b0 w0 An nn cn Ap cp Ac cc lo wa gr xs cs m l s s' w p h hb hw hp hs (by omega)
 | d + 1, i, hi, m, l, s, s', w, h, hb, hw, hs, hl =>
  visitN_s.calls k b0 w0 An nn cn Ap cp Ac cc lo wa gr xs cs hxl hcl hrp hrc p hp d i hi (fun m l s s' w h hb hw hs hl => by
   have := visitN.calls k b0 w0 An nn cn Ap cp Ac cc lo wa gr xs cs hxl hcl hrp hrc p hp d (i + 1) (by omega) m l s s' w h hb hw hs hl
   rwa [show ((i + 1 : Nat) : Int) = (i : Int) + 1 by omega] at this) m l s s' w h hb hw hs hl
-- @cut
def impl_BestRenewal.f (k : Nat) (l0_0 : List Int) (l0_1 : List S75) (l1 : List Int) (a2 a3 a4 a5 a6 : Int) : Option (List Int × Int × Int) :=
 (impl_ValidNetwork.f k l0_0 l0_1).bind fun v => if v = true then
  (if l1.length = l0_1.length then
   ((impl_allWithin.f l1 0 1000000000).bind fun q0 => if q0 = true then
    ((impl_within.f a2 0 5000).bind fun q1 => if q1 = true then
     ((impl_within.f a3 0 1000000000).bind fun q2 => if q2 = true then
      ((impl_degreesOk.f a4).bind fun q3 => if q3 = true then
       ((impl_degreesOk.f a5).bind fun q4 => if q4 = true then
        ((impl_budgetValid.f a6).bind fun q5 => if q5 = true then
         (if l0_1.length ≤ 1000 then ((visitN k l0_1 l1 a2 a4 a5 l0_1.length a3 0 ⟨a6, [], [], 0, false⟩).bind fun s => if s.budget < 0 then some ([], 0, 5) else some (s.best, s.least, 0)) else none)
        else some ([], 0, 2))
       else some ([], 0, 2))
      else some ([], 0, 2))
     else some ([], 0, 2))
    else some ([], 0, 2))
   else some ([], 0, 2))
  else some ([], 0, 2))
 else some ([], 0, 1)
theorem impl_BestRenewal.mono : ∀ a0 a1 a2 a3 a4 a5 a6 a7 k, LeO (impl_BestRenewal.f k a0 a1 a2 a3 a4 a5 a6 a7) (impl_BestRenewal.f (k + 1) a0 a1 a2 a3 a4 a5 a6 a7) := fun a0 a1 a2 a3 a4 a5 a6 a7 k =>
 LeO.bind (impl_ValidNetwork.mono _ _ k) (fun _ => LeO.ite (LeO.ite (LeO.bind (LeO.refl _) (fun _ => LeO.ite (LeO.bind (LeO.refl _) (fun _ => LeO.ite (LeO.bind (LeO.refl _) (fun _ => LeO.ite (LeO.bind (LeO.refl _) (fun _ => LeO.ite (LeO.bind (LeO.refl _) (fun _ => LeO.ite (LeO.bind (LeO.refl _) (fun _ => LeO.ite (LeO.ite (LeO.bind (visitN_mono k _ _ _ _ _ _ _ _ _) (fun _ => LeO.refl _)) (LeO.refl _)) (LeO.refl _))) (LeO.refl _))) (LeO.refl _))) (LeO.refl _))) (LeO.refl _))) (LeO.refl _))) (LeO.refl _)) (LeO.refl _))
-- @cut
set_option maxHeartbeats 8000000 in
set_option maxRecDepth 100000 in
theorem impl_BestRenewal.calls (k : Nat) (A0_0 : Option Addr) (c0_0 : Nat) (l0_0 : List Int) (A0_1 : Option Addr) (c0_1 : Nat) (l0_1 : List (S75)) (A1 : Option Addr) (c1 : Nat) (l1 : List Int) (a2 : Int) (a3 : Int) (a4 : Int) (a5 : Int) (a6 : Int) (r1 : List Int) (r2 : Int) (r3 : Int) (w : World) (hr0_0 : Kd.C (Kd.int .i64) w A0_0 l0_0.length l0_0) (hc0_0 : l0_0.length ≤ c0_0) (hr0_1 : Kd.C k75 w A0_1 l0_1.length l0_1) (hc0_1 : l0_1.length ≤ c0_1) (hr1 : Kd.C (Kd.int .i64) w A1 l1.length l1) (hc1 : l1.length ≤ c1) (h : impl_BestRenewal.f k l0_0 l0_1 l1 a2 a3 a4 a5 a6 = some (r1, r2, r3)) :
  Calls Try.prog 30 #[.agg #[.slice A0_0 l0_0.length c0_0, .slice A0_1 l0_1.length c0_1], .slice A1 l1.length c1, .int .i64 a2, .int .i64 a3, .int .i64 a4, .int .i64 a5, .int .i64 a6] w fun e w' => ∃ v0_ : Value, e = .returned (.tuple #[v0_, .int .i64 r2, .int .i64 r3]) ∧ Kd.R (Kd.int .i64) 2 w' w.heap.size (fun _ => True) v0_ r1 ∧ Below w.heap.size w w' := by
 unfold impl_BestRenewal.f at h
 obtain ⟨v, hv, h1⟩ := Option.bind_eq_some_iff.1 h
 clear h
 have HV := Aside0.mk ((impl_ValidNetwork.calls k A0_0 c0_0 l0_0 A0_1 c0_1 l0_1 v (w.alloc (.cells #[.slice A0_0 l0_0.length c0_0, .slice A0_1 l0_1.length c0_1] 59)) (Kd.C_below hr0_0 (below_alloc (Below.refl _ _) _)) hc0_0 (Kd.C_below hr0_1 (below_alloc (Below.refl _ _) _)) hc0_1 hv).mono fun e w' he => (⟨he.1, below_then (below_alloc (Below.refl _ _) _) (below_alloc (Below.refl _ _) (.cells #[.slice A0_0 l0_0.length c0_0, .slice A0_1 l0_1.length c0_1] 59)).size he.2, blk_below (blk_new w (.cells #[.slice A0_0 l0_0.length c0_0, .slice A0_1 l0_1.length c0_1] 59)) he.2⟩ : e = .returned (.bool v) ∧ Below w.heap.size w w' ∧ w'.heap[w.heap.size]? = some (.cells #[.slice A0_0 l0_0.length c0_0, .slice A0_1 l0_1.length c0_1] 59 (0, 0))))
 have HR0 := Aside0.mk hr0_0
 have HC0 := Aside0.mk hc0_0
 have HR01 := Aside0.mk hr0_1
 have HC01 := Aside0.mk hc0_1
 have HR1 := Aside0.mk hr1
 have HC1 := Aside0.mk hc1
 clear hv hr0_0 hc0_0 hr0_1 hc0_1 hr1 hc1
 cases v with
 | false =>
  rw [if_neg (by decide)] at h1
  obtain ⟨rfl, h2⟩ := Prod.mk.inj (Option.some.inj h1)
  obtain ⟨rfl, rfl⟩ := Prod.mk.inj h2
  clear h1 h2
  go_enter Try.func30, Try.ntmps30
  go_wp2_with (first | (go_at_call 80; refine HV.out.mono ?_; rintro e w1 ⟨rfl, hB, hN⟩; have HB := Aside0.mk hB; clear hB; have HN := Aside0.mk hN; have n0 := (blk_cell hN 0).trans rfl; have n1 := (blk_cell hN 1).trans rfl; clear hN))
  refine bodyPost_ret (results_tmp3 rfl _ _ _) rfl ?_
  exact ⟨_, rfl, Kd.R_nil _ _ _ _ _, HB.out⟩
 | true =>
  rw [if_pos rfl] at h1
  by_cases hln : l1.length = l0_1.length
  ·
   rw [if_pos hln] at h1
   have zln : (decide ((l1.length : Int) = (l0_1.length : Int))) = true := decide_eq_true (by omega)
   have zln2 : ((l1.length : Int) == (l0_1.length : Int)) = true := by simp; omega
   have zln3 : ((l1.length : Int) != (l0_1.length : Int)) = false := by simp; omega
   have HLN := Aside0.mk hln
   clear hln
   obtain ⟨q0, hm, h1⟩ := Option.bind_eq_some_iff.1 h1
   have HQ0 := Aside0.mk hm
   clear hm
   have HA := Aside0.mk (fun W (hW : Below w.heap.size w W) => impl_allWithin.calls A1 c1 l1 0 1000000000 q0 W (Kd.C_below HR1.out hW) HC1.out HQ0.out)
   cases q0 with
   | false =>
    rw [if_neg (by decide)] at h1
    obtain ⟨rfl, h2⟩ := Prod.mk.inj (Option.some.inj h1)
    obtain ⟨rfl, rfl⟩ := Prod.mk.inj h2
    clear h1 h2
    go_enter Try.func30, Try.ntmps30
    go_wp2_with (first | (go_at_call 80; refine HV.out.mono ?_; rintro e w1 ⟨rfl, hB, hN⟩; have HB := Aside0.mk hB; clear hB; have HN := Aside0.mk hN; have n0 := (blk_cell hN 0).trans rfl; have n1 := (blk_cell hN 1).trans rfl; clear hN) | (go_at_call 81; refine (HA.out _ (by exact HB.out)).mono ?_; rintro e w2 ⟨rfl, hb2⟩; have HB := Aside0.mk (below_then HB.out HB.out.size hb2); have hN := blk_below HN.out hb2; clear hb2; have HN := Aside0.mk hN; have n0 := (blk_cell hN 0).trans rfl; have n1 := (blk_cell hN 1).trans rfl; clear hN))
    refine bodyPost_ret (results_tmp3 rfl _ _ _) rfl ?_
    exact ⟨_, rfl, Kd.R_nil _ _ _ _ _, HB.out⟩
   | true =>
    rw [if_pos rfl] at h1
    obtain ⟨q1, hm, h1⟩ := Option.bind_eq_some_iff.1 h1
    have HQ1 := Aside0.mk hm
    clear hm
    cases q1 with
    | false =>
     rw [if_neg (by decide)] at h1
     obtain ⟨rfl, h2⟩ := Prod.mk.inj (Option.some.inj h1)
     obtain ⟨rfl, rfl⟩ := Prod.mk.inj h2
     clear h1 h2
     go_enter Try.func30, Try.ntmps30
     go_wp2_with (first | (go_at_call 80; refine HV.out.mono ?_; rintro e w1 ⟨rfl, hB, hN⟩; have HB := Aside0.mk hB; clear hB; have HN := Aside0.mk hN; have n0 := (blk_cell hN 0).trans rfl; have n1 := (blk_cell hN 1).trans rfl; clear hN) | (go_at_call 81; refine (HA.out _ (by exact HB.out)).mono ?_; rintro e w2 ⟨rfl, hb2⟩; have HB := Aside0.mk (below_then HB.out HB.out.size hb2); have hN := blk_below HN.out hb2; clear hb2; have HN := Aside0.mk hN; have n0 := (blk_cell hN 0).trans rfl; have n1 := (blk_cell hN 1).trans rfl; clear hN) | (go_at_call 67; refine (impl_within.calls _ _ _ _ _ (by first | with_reducible exact HQ1.out)).mono ?_; rintro e w2 ⟨rfl, hD⟩; have HB := Aside0.mk (below_then HB.out HB.out.size hD.below); have hN := blk_below HN.out hD.below; clear hD; have HN := Aside0.mk hN; have n0 := (blk_cell hN 0).trans rfl; have n1 := (blk_cell hN 1).trans rfl; clear hN))
     refine bodyPost_ret (results_tmp3 rfl _ _ _) rfl ?_
     exact ⟨_, rfl, Kd.R_nil _ _ _ _ _, HB.out⟩
    | true =>
     rw [if_pos rfl] at h1
     obtain ⟨q2, hm, h1⟩ := Option.bind_eq_some_iff.1 h1
     have HQ2 := Aside0.mk hm
     clear hm
     cases q2 with
     | false =>
      rw [if_neg (by decide)] at h1
      obtain ⟨rfl, h2⟩ := Prod.mk.inj (Option.some.inj h1)
      obtain ⟨rfl, rfl⟩ := Prod.mk.inj h2
      clear h1 h2
      go_enter Try.func30, Try.ntmps30
      go_wp2_with (first | (go_at_call 80; refine HV.out.mono ?_; rintro e w1 ⟨rfl, hB, hN⟩; have HB := Aside0.mk hB; clear hB; have HN := Aside0.mk hN; have n0 := (blk_cell hN 0).trans rfl; have n1 := (blk_cell hN 1).trans rfl; clear hN) | (go_at_call 81; refine (HA.out _ (by exact HB.out)).mono ?_; rintro e w2 ⟨rfl, hb2⟩; have HB := Aside0.mk (below_then HB.out HB.out.size hb2); have hN := blk_below HN.out hb2; clear hb2; have HN := Aside0.mk hN; have n0 := (blk_cell hN 0).trans rfl; have n1 := (blk_cell hN 1).trans rfl; clear hN) | (go_at_call 67; refine (impl_within.calls _ _ _ _ _ (by first | with_reducible exact HQ1.out | with_reducible exact HQ2.out)).mono ?_; rintro e w2 ⟨rfl, hD⟩; have HB := Aside0.mk (below_then HB.out HB.out.size hD.below); have hN := blk_below HN.out hD.below; clear hD; have HN := Aside0.mk hN; have n0 := (blk_cell hN 0).trans rfl; have n1 := (blk_cell hN 1).trans rfl; clear hN))
      refine bodyPost_ret (results_tmp3 rfl _ _ _) rfl ?_
      exact ⟨_, rfl, Kd.R_nil _ _ _ _ _, HB.out⟩
     | true =>
      rw [if_pos rfl] at h1
      obtain ⟨q3, hm, h1⟩ := Option.bind_eq_some_iff.1 h1
      have HQ3 := Aside0.mk hm
      clear hm
      cases q3 with
      | false =>
       rw [if_neg (by decide)] at h1
       obtain ⟨rfl, h2⟩ := Prod.mk.inj (Option.some.inj h1)
       obtain ⟨rfl, rfl⟩ := Prod.mk.inj h2
       clear h1 h2
       go_enter Try.func30, Try.ntmps30
       go_wp2_with (first | (go_at_call 80; refine HV.out.mono ?_; rintro e w1 ⟨rfl, hB, hN⟩; have HB := Aside0.mk hB; clear hB; have HN := Aside0.mk hN; have n0 := (blk_cell hN 0).trans rfl; have n1 := (blk_cell hN 1).trans rfl; clear hN) | (go_at_call 81; refine (HA.out _ (by exact HB.out)).mono ?_; rintro e w2 ⟨rfl, hb2⟩; have HB := Aside0.mk (below_then HB.out HB.out.size hb2); have hN := blk_below HN.out hb2; clear hb2; have HN := Aside0.mk hN; have n0 := (blk_cell hN 0).trans rfl; have n1 := (blk_cell hN 1).trans rfl; clear hN) | (go_at_call 67; refine (impl_within.calls _ _ _ _ _ (by first | with_reducible exact HQ1.out | with_reducible exact HQ2.out)).mono ?_; rintro e w2 ⟨rfl, hD⟩; have HB := Aside0.mk (below_then HB.out HB.out.size hD.below); have hN := blk_below HN.out hD.below; clear hD; have HN := Aside0.mk hN; have n0 := (blk_cell hN 0).trans rfl; have n1 := (blk_cell hN 1).trans rfl; clear hN) | (go_at_call 82; refine (impl_degreesOk.calls _ _ _ (by first | with_reducible exact HQ3.out)).mono ?_; rintro e w2 ⟨rfl, hD⟩; have HB := Aside0.mk (below_then HB.out HB.out.size hD.below); have hN := blk_below HN.out hD.below; clear hD; have HN := Aside0.mk hN; have n0 := (blk_cell hN 0).trans rfl; have n1 := (blk_cell hN 1).trans rfl; clear hN))
       refine bodyPost_ret (results_tmp3 rfl _ _ _) rfl ?_
       exact ⟨_, rfl, Kd.R_nil _ _ _ _ _, HB.out⟩
      | true =>
       rw [if_pos rfl] at h1
       obtain ⟨q4, hm, h1⟩ := Option.bind_eq_some_iff.1 h1
       have HQ4 := Aside0.mk hm
       clear hm
       cases q4 with
       | false =>
        rw [if_neg (by decide)] at h1
        obtain ⟨rfl, h2⟩ := Prod.mk.inj (Option.some.inj h1)
        obtain ⟨rfl, rfl⟩ := Prod.mk.inj h2
        clear h1 h2
        go_enter Try.func30, Try.ntmps30
        go_wp2_with (first | (go_at_call 80; refine HV.out.mono ?_; rintro e w1 ⟨rfl, hB, hN⟩; have HB := Aside0.mk hB; clear hB; have HN := Aside0.mk hN; have n0 := (blk_cell hN 0).trans rfl; have n1 := (blk_cell hN 1).trans rfl; clear hN) | (go_at_call 81; refine (HA.out _ (by exact HB.out)).mono ?_; rintro e w2 ⟨rfl, hb2⟩; have HB := Aside0.mk (below_then HB.out HB.out.size hb2); have hN := blk_below HN.out hb2; clear hb2; have HN := Aside0.mk hN; have n0 := (blk_cell hN 0).trans rfl; have n1 := (blk_cell hN 1).trans rfl; clear hN) | (go_at_call 67; refine (impl_within.calls _ _ _ _ _ (by first | with_reducible exact HQ1.out | with_reducible exact HQ2.out)).mono ?_; rintro e w2 ⟨rfl, hD⟩; have HB := Aside0.mk (below_then HB.out HB.out.size hD.below); have hN := blk_below HN.out hD.below; clear hD; have HN := Aside0.mk hN; have n0 := (blk_cell hN 0).trans rfl; have n1 := (blk_cell hN 1).trans rfl; clear hN) | (go_at_call 82; refine (impl_degreesOk.calls _ _ _ (by first | with_reducible exact HQ3.out | with_reducible exact HQ4.out)).mono ?_; rintro e w2 ⟨rfl, hD⟩; have HB := Aside0.mk (below_then HB.out HB.out.size hD.below); have hN := blk_below HN.out hD.below; clear hD; have HN := Aside0.mk hN; have n0 := (blk_cell hN 0).trans rfl; have n1 := (blk_cell hN 1).trans rfl; clear hN))
        refine bodyPost_ret (results_tmp3 rfl _ _ _) rfl ?_
        exact ⟨_, rfl, Kd.R_nil _ _ _ _ _, HB.out⟩
       | true =>
        rw [if_pos rfl] at h1
        obtain ⟨q5, hm, h1⟩ := Option.bind_eq_some_iff.1 h1
        have HQ5 := Aside0.mk hm
        clear hm
        cases q5 with
        | false =>
         rw [if_neg (by decide)] at h1
         obtain ⟨rfl, h2⟩ := Prod.mk.inj (Option.some.inj h1)
         obtain ⟨rfl, rfl⟩ := Prod.mk.inj h2
         clear h1 h2
         go_enter Try.func30, Try.ntmps30
         go_wp2_with (first | (go_at_call 80; refine HV.out.mono ?_; rintro e w1 ⟨rfl, hB, hN⟩; have HB := Aside0.mk hB; clear hB; have HN := Aside0.mk hN; have n0 := (blk_cell hN 0).trans rfl; have n1 := (blk_cell hN 1).trans rfl; clear hN) | (go_at_call 81; refine (HA.out _ (by exact HB.out)).mono ?_; rintro e w2 ⟨rfl, hb2⟩; have HB := Aside0.mk (below_then HB.out HB.out.size hb2); have hN := blk_below HN.out hb2; clear hb2; have HN := Aside0.mk hN; have n0 := (blk_cell hN 0).trans rfl; have n1 := (blk_cell hN 1).trans rfl; clear hN) | (go_at_call 67; refine (impl_within.calls _ _ _ _ _ (by first | with_reducible exact HQ1.out | with_reducible exact HQ2.out)).mono ?_; rintro e w2 ⟨rfl, hD⟩; have HB := Aside0.mk (below_then HB.out HB.out.size hD.below); have hN := blk_below HN.out hD.below; clear hD; have HN := Aside0.mk hN; have n0 := (blk_cell hN 0).trans rfl; have n1 := (blk_cell hN 1).trans rfl; clear hN) | (go_at_call 82; refine (impl_degreesOk.calls _ _ _ (by first | with_reducible exact HQ3.out | with_reducible exact HQ4.out)).mono ?_; rintro e w2 ⟨rfl, hD⟩; have HB := Aside0.mk (below_then HB.out HB.out.size hD.below); have hN := blk_below HN.out hD.below; clear hD; have HN := Aside0.mk hN; have n0 := (blk_cell hN 0).trans rfl; have n1 := (blk_cell hN 1).trans rfl; clear hN) | (go_at_call 50; refine (impl_budgetValid.calls _ _ _ (by first | with_reducible exact HQ5.out)).mono ?_; rintro e w2 ⟨rfl, hD⟩; have HB := Aside0.mk (below_then HB.out HB.out.size hD.below); have hN := blk_below HN.out hD.below; clear hD; have HN := Aside0.mk hN; have n0 := (blk_cell hN 0).trans rfl; have n1 := (blk_cell hN 1).trans rfl; clear hN))
         refine bodyPost_ret (results_tmp3 rfl _ _ _) rfl ?_
         exact ⟨_, rfl, Kd.R_nil _ _ _ _ _, HB.out⟩
        | true =>
         rw [if_pos rfl] at h1
         by_cases h8 : l0_1.length ≤ 1000
         ·
          rw [if_pos h8] at h1
          obtain ⟨s1, hvis, h6⟩ := Option.bind_eq_some_iff.1 h1
          clear h1
          have HVIS := Aside0.mk hvis
          have H8 := Aside0.mk h8
          clear hvis h8
          by_cases qb : s1.budget < 0
          ·
           rw [if_pos qb] at h6
           obtain ⟨rfl, h7⟩ := Prod.mk.inj (Option.some.inj h6)
           obtain ⟨rfl, rfl⟩ := Prod.mk.inj h7
           have zb : decide (s1.budget < 0) = true := decide_eq_true qb
           clear h6 h7 qb
           go_enter Try.func30, Try.ntmps30
           go_wp2_with (first | (go_at_call 80; refine HV.out.mono ?_; rintro e w1 ⟨rfl, hB, hN⟩; have HB := Aside0.mk hB; clear hB; have HN := Aside0.mk hN; have n0 := (blk_cell hN 0).trans rfl; have n1 := (blk_cell hN 1).trans rfl; clear hN) | (go_at_call 81; refine (HA.out _ (by exact HB.out)).mono ?_; rintro e w2 ⟨rfl, hb2⟩; have HB := Aside0.mk (below_then HB.out HB.out.size hb2); have hN := blk_below HN.out hb2; clear hb2; have HN := Aside0.mk hN; have n0 := (blk_cell hN 0).trans rfl; have n1 := (blk_cell hN 1).trans rfl; clear hN) | (go_at_call 67; refine (impl_within.calls _ _ _ _ _ (by first | with_reducible exact HQ1.out | with_reducible exact HQ2.out)).mono ?_; rintro e w2 ⟨rfl, hD⟩; have HB := Aside0.mk (below_then HB.out HB.out.size hD.below); have hN := blk_below HN.out hD.below; clear hD; have HN := Aside0.mk hN; have n0 := (blk_cell hN 0).trans rfl; have n1 := (blk_cell hN 1).trans rfl; clear hN) | (go_at_call 82; refine (impl_degreesOk.calls _ _ _ (by first | with_reducible exact HQ3.out | with_reducible exact HQ4.out)).mono ?_; rintro e w2 ⟨rfl, hD⟩; have HB := Aside0.mk (below_then HB.out HB.out.size hD.below); have hN := blk_below HN.out hD.below; clear hD; have HN := Aside0.mk hN; have n0 := (blk_cell hN 0).trans rfl; have n1 := (blk_cell hN 1).trans rfl; clear hN) | (go_at_call 50; refine (impl_budgetValid.calls _ _ _ (by first | with_reducible exact HQ5.out)).mono ?_; rintro e w2 ⟨rfl, hD⟩; have HB := Aside0.mk (below_then HB.out HB.out.size hD.below); have hN := blk_below HN.out hD.below; clear hD; have HN := Aside0.mk hN; have n0 := (blk_cell hN 0).trans rfl; have n1 := (blk_cell hN 1).trans rfl; clear hN) | (go_at_call 83; refine (visitN.calls k w.heap.size w A0_0 l0_0.length c0_0 A0_1 c0_1 A1 c1 a2 a4 a5 l0_1 l1 H8.out HLN.out (fun W hW => Kd.C_below HR01.out hW) (fun W hW => Kd.C_below HR1.out hW) w2.heap.size HB.out.size l0_1.length 0 (Nat.zero_add _) a3 0 _ s1 _ HVIS.out (HB.out.alloc HB.out.size (.cells #[.slice A0_0 l0_0.length c0_0, .slice A0_1 l0_1.length c0_1, .slice A1 l1.length c1, .int .i64 a2, .int .i64 a4, .int .i64 a5, .int .i64 a6, .slice none 0 0, .slice none 0 0, .int .i64 0, .bool false] 119)) (by simp; exact Nat.le_succ_of_le HB.out.size) (⟨none, 0, none, 0, blk_new w2 (.cells #[.slice A0_0 l0_0.length c0_0, .slice A0_1 l0_1.length c0_1, .slice A1 l1.length c1, .int .i64 a2, .int .i64 a4, .int .i64 a5, .int .i64 a6, .slice none 0 0, .slice none 0 0, .int .i64 0, .bool false] 119), Kd.R_nil _ _ _ _ _, Kd.R_nil _ _ _ _ _⟩ : StN (w2.alloc (.cells #[.slice A0_0 l0_0.length c0_0, .slice A0_1 l0_1.length c0_1, .slice A1 l1.length c1, .int .i64 a2, .int .i64 a4, .int .i64 a5, .int .i64 a6, .slice none 0 0, .slice none 0 0, .int .i64 0, .bool false] 119)) w.heap.size w2.heap.size A0_0 l0_0.length c0_0 A0_1 l0_1.length c0_1 A1 l1.length c1 a2 a4 a5 ⟨a6, [], [], 0, false⟩) (by simp)).mono ?_; rintro e w5 ⟨rfl, hb5, hw5, hs5, _⟩; obtain ⟨A2, c2, A3, c3, ⟨t0, t1, t2, t3, t4, t5, t6, t7, t8, t9, t10, tf⟩, _, _, _, hR5⟩ := hs5.open; have HB5 := Aside0.mk hb5; have HR5 := Aside0.mk hR5; clear hb5 hw5 hs5 hR5))
           refine bodyPost_ret (results_tmp3 rfl _ _ _) rfl ?_
           exact ⟨_, rfl, Kd.R_nil _ _ _ _ _, HB5.out⟩
          ·
           rw [if_neg qb] at h6
           obtain ⟨rfl, h7⟩ := Prod.mk.inj (Option.some.inj h6)
           obtain ⟨rfl, rfl⟩ := Prod.mk.inj h7
           have zb : decide (s1.budget < 0) = false := decide_eq_false qb
           clear h6 h7 qb
           go_enter Try.func30, Try.ntmps30
           go_wp2_with (first | (go_at_call 80; refine HV.out.mono ?_; rintro e w1 ⟨rfl, hB, hN⟩; have HB := Aside0.mk hB; clear hB; have HN := Aside0.mk hN; have n0 := (blk_cell hN 0).trans rfl; have n1 := (blk_cell hN 1).trans rfl; clear hN) | (go_at_call 81; refine (HA.out _ (by exact HB.out)).mono ?_; rintro e w2 ⟨rfl, hb2⟩; have HB := Aside0.mk (below_then HB.out HB.out.size hb2); have hN := blk_below HN.out hb2; clear hb2; have HN := Aside0.mk hN; have n0 := (blk_cell hN 0).trans rfl; have n1 := (blk_cell hN 1).trans rfl; clear hN) | (go_at_call 67; refine (impl_within.calls _ _ _ _ _ (by first | with_reducible exact HQ1.out | with_reducible exact HQ2.out)).mono ?_; rintro e w2 ⟨rfl, hD⟩; have HB := Aside0.mk (below_then HB.out HB.out.size hD.below); have hN := blk_below HN.out hD.below; clear hD; have HN := Aside0.mk hN; have n0 := (blk_cell hN 0).trans rfl; have n1 := (blk_cell hN 1).trans rfl; clear hN) | (go_at_call 82; refine (impl_degreesOk.calls _ _ _ (by first | with_reducible exact HQ3.out | with_reducible exact HQ4.out)).mono ?_; rintro e w2 ⟨rfl, hD⟩; have HB := Aside0.mk (below_then HB.out HB.out.size hD.below); have hN := blk_below HN.out hD.below; clear hD; have HN := Aside0.mk hN; have n0 := (blk_cell hN 0).trans rfl; have n1 := (blk_cell hN 1).trans rfl; clear hN) | (go_at_call 50; refine (impl_budgetValid.calls _ _ _ (by first | with_reducible exact HQ5.out)).mono ?_; rintro e w2 ⟨rfl, hD⟩; have HB := Aside0.mk (below_then HB.out HB.out.size hD.below); have hN := blk_below HN.out hD.below; clear hD; have HN := Aside0.mk hN; have n0 := (blk_cell hN 0).trans rfl; have n1 := (blk_cell hN 1).trans rfl; clear hN) | (go_at_call 83; refine (visitN.calls k w.heap.size w A0_0 l0_0.length c0_0 A0_1 c0_1 A1 c1 a2 a4 a5 l0_1 l1 H8.out HLN.out (fun W hW => Kd.C_below HR01.out hW) (fun W hW => Kd.C_below HR1.out hW) w2.heap.size HB.out.size l0_1.length 0 (Nat.zero_add _) a3 0 _ s1 _ HVIS.out (HB.out.alloc HB.out.size (.cells #[.slice A0_0 l0_0.length c0_0, .slice A0_1 l0_1.length c0_1, .slice A1 l1.length c1, .int .i64 a2, .int .i64 a4, .int .i64 a5, .int .i64 a6, .slice none 0 0, .slice none 0 0, .int .i64 0, .bool false] 119)) (by simp; exact Nat.le_succ_of_le HB.out.size) (⟨none, 0, none, 0, blk_new w2 (.cells #[.slice A0_0 l0_0.length c0_0, .slice A0_1 l0_1.length c0_1, .slice A1 l1.length c1, .int .i64 a2, .int .i64 a4, .int .i64 a5, .int .i64 a6, .slice none 0 0, .slice none 0 0, .int .i64 0, .bool false] 119), Kd.R_nil _ _ _ _ _, Kd.R_nil _ _ _ _ _⟩ : StN (w2.alloc (.cells #[.slice A0_0 l0_0.length c0_0, .slice A0_1 l0_1.length c0_1, .slice A1 l1.length c1, .int .i64 a2, .int .i64 a4, .int .i64 a5, .int .i64 a6, .slice none 0 0, .slice none 0 0, .int .i64 0, .bool false] 119)) w.heap.size w2.heap.size A0_0 l0_0.length c0_0 A0_1 l0_1.length c0_1 A1 l1.length c1 a2 a4 a5 ⟨a6, [], [], 0, false⟩) (by simp)).mono ?_; rintro e w5 ⟨rfl, hb5, hw5, hs5, _⟩; obtain ⟨A2, c2, A3, c3, ⟨t0, t1, t2, t3, t4, t5, t6, t7, t8, t9, t10, tf⟩, _, _, _, hR5⟩ := hs5.open; have HB5 := Aside0.mk hb5; have HR5 := Aside0.mk hR5; clear hb5 hw5 hs5 hR5))
           go_quiet (fail)
           go_wp2
           refine bodyPost_ret (results_tmp3 rfl _ _ _) rfl ?_
           exact ⟨_, rfl, Kd.R_mono (Kd.R_below HR5.out.2 (pw_below_drewN (Below.refl _ _) _)) (fun _ _ => trivial), pw_below_drewN HB5.out _⟩
         ·
          rw [if_neg h8] at h1; cases h1
  ·
   rw [if_neg hln] at h1
   have zln : (decide ((l1.length : Int) = (l0_1.length : Int))) = false := decide_eq_false (by omega)
   have zln2 : ((l1.length : Int) == (l0_1.length : Int)) = false := by simp; omega
   have zln3 : ((l1.length : Int) != (l0_1.length : Int)) = true := by simp; omega
   clear hln
   obtain ⟨rfl, h2⟩ := Prod.mk.inj (Option.some.inj h1)
   obtain ⟨rfl, rfl⟩ := Prod.mk.inj h2
   clear h1 h2
   go_enter Try.func30, Try.ntmps30
   go_wp2_with (first | (go_at_call 80; refine HV.out.mono ?_; rintro e w1 ⟨rfl, hB, hN⟩; have HB := Aside0.mk hB; clear hB; have HN := Aside0.mk hN; have n0 := (blk_cell hN 0).trans rfl; have n1 := (blk_cell hN 1).trans rfl; clear hN))
   refine bodyPost_ret (results_tmp3 rfl _ _ _) rfl ?_
   exact ⟨_, rfl, Kd.R_nil _ _ _ _ _, HB.out⟩

/-! ### laws_eqPipe: function 126 -/
def laws_eqPipe.f (a0_0 : ByteArray) (a0_1 : Int) (a0_2 : Int) (a0_3 : Int) (a0_4 : Int) (a0_5 : Int) (a1_0 : ByteArray) (a1_1 : Int) (a1_2 : Int) (a1_3 : Int) (a1_4 : Int) (a1_5 : Int) : Option (Bool) := if a0_0.toList = a1_0.toList then (if a0_1 = a1_1 then (if a0_2 = a1_2 then (if a0_3 = a1_3 then (if a0_4 = a1_4 then (if a0_5 = a1_5 then (some true) else (some false)) else (some false)) else (some false)) else (some false)) else (some false)) else (some false)
set_option maxHeartbeats 8000000 in
set_option maxRecDepth 100000 in
theorem laws_eqPipe.calls (a0_0 : ByteArray) (a0_1 : Int) (a0_2 : Int) (a0_3 : Int) (a0_4 : Int) (a0_5 : Int) (a1_0 : ByteArray) (a1_1 : Int) (a1_2 : Int) (a1_3 : Int) (a1_4 : Int) (a1_5 : Int) (r : Bool) (w : World) (h : laws_eqPipe.f a0_0 a0_1 a0_2 a0_3 a0_4 a0_5 a1_0 a1_1 a1_2 a1_3 a1_4 a1_5 = some r) :
  Calls Try.prog 126 #[.agg #[.string a0_0, .int .i64 a0_1, .int .i64 a0_2, .int .i64 a0_3, .int .i64 a0_4, .int .i64 a0_5], .agg #[.string a1_0, .int .i64 a1_1, .int .i64 a1_2, .int .i64 a1_3, .int .i64 a1_4, .int .i64 a1_5]] w fun e w' => e = .returned (.bool r) ∧ Below w.heap.size w w' := by
 have hu75 := Try.underlying75
 have HB := Aside0.mk (Below.refl w.heap.size w)
 have H : (if a0_0.toList = a1_0.toList then (if a0_1 = a1_1 then (if a0_2 = a1_2 then (if a0_3 = a1_3 then (if a0_4 = a1_4 then (if a0_5 = a1_5 then (some true) else (some false)) else (some false)) else (some false)) else (some false)) else (some false)) else (some false)) = some r := h
 clear h
 by_cases c3 : a0_0.toList = a1_0.toList
 ·
  rw [if_pos c3] at H
  have c3b0 : (a0_0.toList == a1_0.toList) = true := beq_iff_eq.mpr c3
  have c3b1 : (a0_0.toList != a1_0.toList) = false := bne_eq_false_iff_eq.mpr c3
  clear c3
  by_cases c4 : a0_1 = a1_1
  ·
   rw [if_pos c4] at H
   have c4b0 : (a0_1 == a1_1) = true := beq_iff_eq.mpr c4
   have c4b1 : (a0_1 != a1_1) = false := bne_eq_false_iff_eq.mpr c4
   clear c4
   by_cases c5 : a0_2 = a1_2
   ·
    rw [if_pos c5] at H
    have c5b0 : (a0_2 == a1_2) = true := beq_iff_eq.mpr c5
    have c5b1 : (a0_2 != a1_2) = false := bne_eq_false_iff_eq.mpr c5
    clear c5
    by_cases c6 : a0_3 = a1_3
    ·
     rw [if_pos c6] at H
     have c6b0 : (a0_3 == a1_3) = true := beq_iff_eq.mpr c6
     have c6b1 : (a0_3 != a1_3) = false := bne_eq_false_iff_eq.mpr c6
     clear c6
     by_cases c7 : a0_4 = a1_4
     ·
      rw [if_pos c7] at H
      have c7b0 : (a0_4 == a1_4) = true := beq_iff_eq.mpr c7
      have c7b1 : (a0_4 != a1_4) = false := bne_eq_false_iff_eq.mpr c7
      clear c7
      by_cases c8 : a0_5 = a1_5
      ·
       rw [if_pos c8] at H
       have c8b0 : (a0_5 == a1_5) = true := beq_iff_eq.mpr c8
       have c8b1 : (a0_5 != a1_5) = false := bne_eq_false_iff_eq.mpr c8
       clear c8
       obtain rfl := Option.some.inj H
       go_enter Try.func126, Try.ntmps126
       go_wp2_with (first | ((with_reducible refine gate_dst (N := 2) rfl ?_); refine box_event ?hg (N := 2) ?hd (cs := #[.string a0_0, .int .i64 a0_1, .int .i64 a0_2, .int .i64 a0_3, .int .i64 a0_4, .int .i64 a0_5]) (t := 75) ?hr ?_; (case hd => rfl); (case hg => rfl); (case hr => first | (go_simp; done) | (go_simp; rfl)); intro gb255 hg w9 hbox hb; have n0_ := Aside0.mk (below_step (mvB HB.out) hb); have n1_ := Aside0.mk (hbox); have n2_ := Aside0.mk ((by rw [hg]; exact (below_size (mvB HB.out)) : w.heap.size ≤ gb255)); have n3_ := Aside0.mk ((by rw [hg]; exact (below_size (mvB HB.out)) : w.heap.size ≤ gb255)); clear HB; revert n0_ n1_ n2_ n3_; intro HB BK255 GW255 GE255; clear hb hbox hg) | ((with_reducible refine gate_dst (N := 3) rfl ?_); refine box_event ?hg (N := 3) ?hd (cs := #[.string a1_0, .int .i64 a1_1, .int .i64 a1_2, .int .i64 a1_3, .int .i64 a1_4, .int .i64 a1_5]) (t := 75) ?hr ?_; (case hd => rfl); (case hg => rfl); (case hr => first | (go_simp; done) | (go_simp; rfl)); intro gb256 hg w10 hbox hb; have n0_ := Aside0.mk (blk_below (g := gb255) (o := .cells #[.string a0_0, .int .i64 a0_1, .int .i64 a0_2, .int .i64 a0_3, .int .i64 a0_4, .int .i64 a0_5] 75 (0, 0)) (mv BK255.out) hb); have n1_ := Aside0.mk (below_step (by repeat (first | (with_reducible first | exact HB.out | apply below_alloc | apply pw_below_drewN | apply below_drew1 | refine below_set ?_ GE255.out) | exact HB.out)) hb); have n2_ := Aside0.mk (hbox); have n3_ := Aside0.mk ((by rw [hg]; exact (below_size (by repeat (first | (with_reducible first | exact HB.out | apply below_alloc | apply pw_below_drewN | apply below_drew1 | refine below_set ?_ GE255.out) | exact HB.out))) : w.heap.size ≤ gb256)); have n4_ := Aside0.mk ((by rw [hg]; exact (below_size (by repeat (first | (with_reducible first | exact HB.out | apply below_alloc | apply pw_below_drewN | apply below_drew1 | refine below_set ?_ GE255.out) | exact HB.out))) : w.heap.size ≤ gb256)); have n5_ := Aside0.mk ((by rw [hg]; exact Nat.ne_of_lt (blk_lt (g := gb255) (o := .cells #[.string a0_0, .int .i64 a0_1, .int .i64 a0_2, .int .i64 a0_3, .int .i64 a0_4, .int .i64 a0_5] 75 (0, 0)) (mv BK255.out)) : gb255 ≠ gb256)); have n6_ := Aside0.mk ((by rw [hg]; exact Nat.ne_of_gt (blk_lt (g := gb255) (o := .cells #[.string a0_0, .int .i64 a0_1, .int .i64 a0_2, .int .i64 a0_3, .int .i64 a0_4, .int .i64 a0_5] 75 (0, 0)) (mv BK255.out)) : gb256 ≠ gb255)); clear BK255 HB; revert n0_ n1_ n2_ n3_ n4_ n5_ n6_; intro BK255 HB BK256 GW256 GE256 NB255_256 NB256_255; clear hb hbox hg; have hnb11 := NB255_256.out; have hnc11 := NB256_255.out; have hcz12_0 : w10.cell? ⟨gb255, 0, none⟩ = some (.string a0_0) := (blk_cell BK255.out 0).trans rfl; have hcz12_1 : w10.cell? ⟨gb255, 1, none⟩ = some (.int .i64 a0_1) := (blk_cell BK255.out 1).trans rfl; have hcz12_2 : w10.cell? ⟨gb255, 2, none⟩ = some (.int .i64 a0_2) := (blk_cell BK255.out 2).trans rfl; have hcz12_3 : w10.cell? ⟨gb255, 3, none⟩ = some (.int .i64 a0_3) := (blk_cell BK255.out 3).trans rfl; have hcz12_4 : w10.cell? ⟨gb255, 4, none⟩ = some (.int .i64 a0_4) := (blk_cell BK255.out 4).trans rfl; have hcz12_5 : w10.cell? ⟨gb255, 5, none⟩ = some (.int .i64 a0_5) := (blk_cell BK255.out 5).trans rfl; have hfz12_0 := blk_frozen BK255.out 0; have hfz12_1 := blk_frozen BK255.out 1; have hfz12_2 := blk_frozen BK255.out 2; have hfz12_3 := blk_frozen BK255.out 3; have hfz12_4 := blk_frozen BK255.out 4; have hfz12_5 := blk_frozen BK255.out 5; have hcz13_0 : w10.cell? ⟨gb256, 0, none⟩ = some (.string a1_0) := (blk_cell BK256.out 0).trans rfl; have hcz13_1 : w10.cell? ⟨gb256, 1, none⟩ = some (.int .i64 a1_1) := (blk_cell BK256.out 1).trans rfl; have hcz13_2 : w10.cell? ⟨gb256, 2, none⟩ = some (.int .i64 a1_2) := (blk_cell BK256.out 2).trans rfl; have hcz13_3 : w10.cell? ⟨gb256, 3, none⟩ = some (.int .i64 a1_3) := (blk_cell BK256.out 3).trans rfl; have hcz13_4 : w10.cell? ⟨gb256, 4, none⟩ = some (.int .i64 a1_4) := (blk_cell BK256.out 4).trans rfl; have hcz13_5 : w10.cell? ⟨gb256, 5, none⟩ = some (.int .i64 a1_5) := (blk_cell BK256.out 5).trans rfl; have hfz13_0 := blk_frozen BK256.out 0; have hfz13_1 := blk_frozen BK256.out 1; have hfz13_2 := blk_frozen BK256.out 2; have hfz13_3 := blk_frozen BK256.out 3; have hfz13_4 := blk_frozen BK256.out 4; have hfz13_5 := blk_frozen BK256.out 5))
       go_ret
       exact ⟨by first | rfl | (simp [errW_none, errW_some] <;> rfl) | (simp [*, errW_none, errW_some] <;> rfl), by repeat (first | (with_reducible first | exact HB.out | apply below_alloc | apply pw_below_drewN | apply below_drew1 | refine below_set ?_ GE255.out | refine below_set ?_ GE256.out) | exact HB.out)⟩
      ·
       rw [if_neg c8] at H
       have c8b0 : (a0_5 == a1_5) = false := beq_eq_false_iff_ne.mpr c8
       have c8b1 : (a0_5 != a1_5) = true := bne_iff_ne.mpr c8
       obtain rfl := Option.some.inj H
       go_enter Try.func126, Try.ntmps126
       go_wp2_with (first | ((with_reducible refine gate_dst (N := 2) rfl ?_); refine box_event ?hg (N := 2) ?hd (cs := #[.string a0_0, .int .i64 a0_1, .int .i64 a0_2, .int .i64 a0_3, .int .i64 a0_4, .int .i64 a0_5]) (t := 75) ?hr ?_; (case hd => rfl); (case hg => rfl); (case hr => first | (go_simp; done) | (go_simp; rfl)); intro gb255 hg w14 hbox hb; have n0_ := Aside0.mk (below_step (mvB HB.out) hb); have n1_ := Aside0.mk (hbox); have n2_ := Aside0.mk ((by rw [hg]; exact (below_size (mvB HB.out)) : w.heap.size ≤ gb255)); have n3_ := Aside0.mk ((by rw [hg]; exact (below_size (mvB HB.out)) : w.heap.size ≤ gb255)); clear HB; revert n0_ n1_ n2_ n3_; intro HB BK255 GW255 GE255; clear hb hbox hg) | ((with_reducible refine gate_dst (N := 3) rfl ?_); refine box_event ?hg (N := 3) ?hd (cs := #[.string a1_0, .int .i64 a1_1, .int .i64 a1_2, .int .i64 a1_3, .int .i64 a1_4, .int .i64 a1_5]) (t := 75) ?hr ?_; (case hd => rfl); (case hg => rfl); (case hr => first | (go_simp; done) | (go_simp; rfl)); intro gb256 hg w15 hbox hb; have n0_ := Aside0.mk (blk_below (g := gb255) (o := .cells #[.string a0_0, .int .i64 a0_1, .int .i64 a0_2, .int .i64 a0_3, .int .i64 a0_4, .int .i64 a0_5] 75 (0, 0)) (mv BK255.out) hb); have n1_ := Aside0.mk (below_step (by repeat (first | (with_reducible first | exact HB.out | apply below_alloc | apply pw_below_drewN | apply below_drew1 | refine below_set ?_ GE255.out) | exact HB.out)) hb); have n2_ := Aside0.mk (hbox); have n3_ := Aside0.mk ((by rw [hg]; exact (below_size (by repeat (first | (with_reducible first | exact HB.out | apply below_alloc | apply pw_below_drewN | apply below_drew1 | refine below_set ?_ GE255.out) | exact HB.out))) : w.heap.size ≤ gb256)); have n4_ := Aside0.mk ((by rw [hg]; exact (below_size (by repeat (first | (with_reducible first | exact HB.out | apply below_alloc | apply pw_below_drewN | apply below_drew1 | refine below_set ?_ GE255.out) | exact HB.out))) : w.heap.size ≤ gb256)); have n5_ := Aside0.mk ((by rw [hg]; exact Nat.ne_of_lt (blk_lt (g := gb255) (o := .cells #[.string a0_0, .int .i64 a0_1, .int .i64 a0_2, .int .i64 a0_3, .int .i64 a0_4, .int .i64 a0_5] 75 (0, 0)) (mv BK255.out)) : gb255 ≠ gb256)); have n6_ := Aside0.mk ((by rw [hg]; exact Nat.ne_of_gt (blk_lt (g := gb255) (o := .cells #[.string a0_0, .int .i64 a0_1, .int .i64 a0_2, .int .i64 a0_3, .int .i64 a0_4, .int .i64 a0_5] 75 (0, 0)) (mv BK255.out)) : gb256 ≠ gb255)); clear BK255 HB; revert n0_ n1_ n2_ n3_ n4_ n5_ n6_; intro BK255 HB BK256 GW256 GE256 NB255_256 NB256_255; clear hb hbox hg; have hnb16 := NB255_256.out; have hnc16 := NB256_255.out; have hcz17_0 : w15.cell? ⟨gb255, 0, none⟩ = some (.string a0_0) := (blk_cell BK255.out 0).trans rfl; have hcz17_1 : w15.cell? ⟨gb255, 1, none⟩ = some (.int .i64 a0_1) := (blk_cell BK255.out 1).trans rfl; have hcz17_2 : w15.cell? ⟨gb255, 2, none⟩ = some (.int .i64 a0_2) := (blk_cell BK255.out 2).trans rfl; have hcz17_3 : w15.cell? ⟨gb255, 3, none⟩ = some (.int .i64 a0_3) := (blk_cell BK255.out 3).trans rfl; have hcz17_4 : w15.cell? ⟨gb255, 4, none⟩ = some (.int .i64 a0_4) := (blk_cell BK255.out 4).trans rfl; have hcz17_5 : w15.cell? ⟨gb255, 5, none⟩ = some (.int .i64 a0_5) := (blk_cell BK255.out 5).trans rfl; have hfz17_0 := blk_frozen BK255.out 0; have hfz17_1 := blk_frozen BK255.out 1; have hfz17_2 := blk_frozen BK255.out 2; have hfz17_3 := blk_frozen BK255.out 3; have hfz17_4 := blk_frozen BK255.out 4; have hfz17_5 := blk_frozen BK255.out 5; have hcz18_0 : w15.cell? ⟨gb256, 0, none⟩ = some (.string a1_0) := (blk_cell BK256.out 0).trans rfl; have hcz18_1 : w15.cell? ⟨gb256, 1, none⟩ = some (.int .i64 a1_1) := (blk_cell BK256.out 1).trans rfl; have hcz18_2 : w15.cell? ⟨gb256, 2, none⟩ = some (.int .i64 a1_2) := (blk_cell BK256.out 2).trans rfl; have hcz18_3 : w15.cell? ⟨gb256, 3, none⟩ = some (.int .i64 a1_3) := (blk_cell BK256.out 3).trans rfl; have hcz18_4 : w15.cell? ⟨gb256, 4, none⟩ = some (.int .i64 a1_4) := (blk_cell BK256.out 4).trans rfl; have hcz18_5 : w15.cell? ⟨gb256, 5, none⟩ = some (.int .i64 a1_5) := (blk_cell BK256.out 5).trans rfl; have hfz18_0 := blk_frozen BK256.out 0; have hfz18_1 := blk_frozen BK256.out 1; have hfz18_2 := blk_frozen BK256.out 2; have hfz18_3 := blk_frozen BK256.out 3; have hfz18_4 := blk_frozen BK256.out 4; have hfz18_5 := blk_frozen BK256.out 5))
       go_ret
       exact ⟨by first | rfl | (simp [errW_none, errW_some] <;> rfl) | (simp [*, errW_none, errW_some] <;> rfl), by repeat (first | (with_reducible first | exact HB.out | apply below_alloc | apply pw_below_drewN | apply below_drew1 | refine below_set ?_ GE255.out | refine below_set ?_ GE256.out) | exact HB.out)⟩
     ·
      rw [if_neg c7] at H
      have c7b0 : (a0_4 == a1_4) = false := beq_eq_false_iff_ne.mpr c7
      have c7b1 : (a0_4 != a1_4) = true := bne_iff_ne.mpr c7
      obtain rfl := Option.some.inj H
      go_enter Try.func126, Try.ntmps126
      go_wp2_with (first | ((with_reducible refine gate_dst (N := 2) rfl ?_); refine box_event ?hg (N := 2) ?hd (cs := #[.string a0_0, .int .i64 a0_1, .int .i64 a0_2, .int .i64 a0_3, .int .i64 a0_4, .int .i64 a0_5]) (t := 75) ?hr ?_; (case hd => rfl); (case hg => rfl); (case hr => first | (go_simp; done) | (go_simp; rfl)); intro gb255 hg w19 hbox hb; have n0_ := Aside0.mk (below_step (mvB HB.out) hb); have n1_ := Aside0.mk (hbox); have n2_ := Aside0.mk ((by rw [hg]; exact (below_size (mvB HB.out)) : w.heap.size ≤ gb255)); have n3_ := Aside0.mk ((by rw [hg]; exact (below_size (mvB HB.out)) : w.heap.size ≤ gb255)); clear HB; revert n0_ n1_ n2_ n3_; intro HB BK255 GW255 GE255; clear hb hbox hg) | ((with_reducible refine gate_dst (N := 3) rfl ?_); refine box_event ?hg (N := 3) ?hd (cs := #[.string a1_0, .int .i64 a1_1, .int .i64 a1_2, .int .i64 a1_3, .int .i64 a1_4, .int .i64 a1_5]) (t := 75) ?hr ?_; (case hd => rfl); (case hg => rfl); (case hr => first | (go_simp; done) | (go_simp; rfl)); intro gb256 hg w20 hbox hb; have n0_ := Aside0.mk (blk_below (g := gb255) (o := .cells #[.string a0_0, .int .i64 a0_1, .int .i64 a0_2, .int .i64 a0_3, .int .i64 a0_4, .int .i64 a0_5] 75 (0, 0)) (mv BK255.out) hb); have n1_ := Aside0.mk (below_step (by repeat (first | (with_reducible first | exact HB.out | apply below_alloc | apply pw_below_drewN | apply below_drew1 | refine below_set ?_ GE255.out) | exact HB.out)) hb); have n2_ := Aside0.mk (hbox); have n3_ := Aside0.mk ((by rw [hg]; exact (below_size (by repeat (first | (with_reducible first | exact HB.out | apply below_alloc | apply pw_below_drewN | apply below_drew1 | refine below_set ?_ GE255.out) | exact HB.out))) : w.heap.size ≤ gb256)); have n4_ := Aside0.mk ((by rw [hg]; exact (below_size (by repeat (first | (with_reducible first | exact HB.out | apply below_alloc | apply pw_below_drewN | apply below_drew1 | refine below_set ?_ GE255.out) | exact HB.out))) : w.heap.size ≤ gb256)); have n5_ := Aside0.mk ((by rw [hg]; exact Nat.ne_of_lt (blk_lt (g := gb255) (o := .cells #[.string a0_0, .int .i64 a0_1, .int .i64 a0_2, .int .i64 a0_3, .int .i64 a0_4, .int .i64 a0_5] 75 (0, 0)) (mv BK255.out)) : gb255 ≠ gb256)); have n6_ := Aside0.mk ((by rw [hg]; exact Nat.ne_of_gt (blk_lt (g := gb255) (o := .cells #[.string a0_0, .int .i64 a0_1, .int .i64 a0_2, .int .i64 a0_3, .int .i64 a0_4, .int .i64 a0_5] 75 (0, 0)) (mv BK255.out)) : gb256 ≠ gb255)); clear BK255 HB; revert n0_ n1_ n2_ n3_ n4_ n5_ n6_; intro BK255 HB BK256 GW256 GE256 NB255_256 NB256_255; clear hb hbox hg; have hnb21 := NB255_256.out; have hnc21 := NB256_255.out; have hcz22_0 : w20.cell? ⟨gb255, 0, none⟩ = some (.string a0_0) := (blk_cell BK255.out 0).trans rfl; have hcz22_1 : w20.cell? ⟨gb255, 1, none⟩ = some (.int .i64 a0_1) := (blk_cell BK255.out 1).trans rfl; have hcz22_2 : w20.cell? ⟨gb255, 2, none⟩ = some (.int .i64 a0_2) := (blk_cell BK255.out 2).trans rfl; have hcz22_3 : w20.cell? ⟨gb255, 3, none⟩ = some (.int .i64 a0_3) := (blk_cell BK255.out 3).trans rfl; have hcz22_4 : w20.cell? ⟨gb255, 4, none⟩ = some (.int .i64 a0_4) := (blk_cell BK255.out 4).trans rfl; have hcz22_5 : w20.cell? ⟨gb255, 5, none⟩ = some (.int .i64 a0_5) := (blk_cell BK255.out 5).trans rfl; have hfz22_0 := blk_frozen BK255.out 0; have hfz22_1 := blk_frozen BK255.out 1; have hfz22_2 := blk_frozen BK255.out 2; have hfz22_3 := blk_frozen BK255.out 3; have hfz22_4 := blk_frozen BK255.out 4; have hfz22_5 := blk_frozen BK255.out 5; have hcz23_0 : w20.cell? ⟨gb256, 0, none⟩ = some (.string a1_0) := (blk_cell BK256.out 0).trans rfl; have hcz23_1 : w20.cell? ⟨gb256, 1, none⟩ = some (.int .i64 a1_1) := (blk_cell BK256.out 1).trans rfl; have hcz23_2 : w20.cell? ⟨gb256, 2, none⟩ = some (.int .i64 a1_2) := (blk_cell BK256.out 2).trans rfl; have hcz23_3 : w20.cell? ⟨gb256, 3, none⟩ = some (.int .i64 a1_3) := (blk_cell BK256.out 3).trans rfl; have hcz23_4 : w20.cell? ⟨gb256, 4, none⟩ = some (.int .i64 a1_4) := (blk_cell BK256.out 4).trans rfl; have hcz23_5 : w20.cell? ⟨gb256, 5, none⟩ = some (.int .i64 a1_5) := (blk_cell BK256.out 5).trans rfl; have hfz23_0 := blk_frozen BK256.out 0; have hfz23_1 := blk_frozen BK256.out 1; have hfz23_2 := blk_frozen BK256.out 2; have hfz23_3 := blk_frozen BK256.out 3; have hfz23_4 := blk_frozen BK256.out 4; have hfz23_5 := blk_frozen BK256.out 5))
      go_ret
      exact ⟨by first | rfl | (simp [errW_none, errW_some] <;> rfl) | (simp [*, errW_none, errW_some] <;> rfl), by repeat (first | (with_reducible first | exact HB.out | apply below_alloc | apply pw_below_drewN | apply below_drew1 | refine below_set ?_ GE255.out | refine below_set ?_ GE256.out) | exact HB.out)⟩
    ·
     rw [if_neg c6] at H
     have c6b0 : (a0_3 == a1_3) = false := beq_eq_false_iff_ne.mpr c6
     have c6b1 : (a0_3 != a1_3) = true := bne_iff_ne.mpr c6
     obtain rfl := Option.some.inj H
     go_enter Try.func126, Try.ntmps126
     go_wp2_with (first | ((with_reducible refine gate_dst (N := 2) rfl ?_); refine box_event ?hg (N := 2) ?hd (cs := #[.string a0_0, .int .i64 a0_1, .int .i64 a0_2, .int .i64 a0_3, .int .i64 a0_4, .int .i64 a0_5]) (t := 75) ?hr ?_; (case hd => rfl); (case hg => rfl); (case hr => first | (go_simp; done) | (go_simp; rfl)); intro gb255 hg w24 hbox hb; have n0_ := Aside0.mk (below_step (mvB HB.out) hb); have n1_ := Aside0.mk (hbox); have n2_ := Aside0.mk ((by rw [hg]; exact (below_size (mvB HB.out)) : w.heap.size ≤ gb255)); have n3_ := Aside0.mk ((by rw [hg]; exact (below_size (mvB HB.out)) : w.heap.size ≤ gb255)); clear HB; revert n0_ n1_ n2_ n3_; intro HB BK255 GW255 GE255; clear hb hbox hg) | ((with_reducible refine gate_dst (N := 3) rfl ?_); refine box_event ?hg (N := 3) ?hd (cs := #[.string a1_0, .int .i64 a1_1, .int .i64 a1_2, .int .i64 a1_3, .int .i64 a1_4, .int .i64 a1_5]) (t := 75) ?hr ?_; (case hd => rfl); (case hg => rfl); (case hr => first | (go_simp; done) | (go_simp; rfl)); intro gb256 hg w25 hbox hb; have n0_ := Aside0.mk (blk_below (g := gb255) (o := .cells #[.string a0_0, .int .i64 a0_1, .int .i64 a0_2, .int .i64 a0_3, .int .i64 a0_4, .int .i64 a0_5] 75 (0, 0)) (mv BK255.out) hb); have n1_ := Aside0.mk (below_step (by repeat (first | (with_reducible first | exact HB.out | apply below_alloc | apply pw_below_drewN | apply below_drew1 | refine below_set ?_ GE255.out) | exact HB.out)) hb); have n2_ := Aside0.mk (hbox); have n3_ := Aside0.mk ((by rw [hg]; exact (below_size (by repeat (first | (with_reducible first | exact HB.out | apply below_alloc | apply pw_below_drewN | apply below_drew1 | refine below_set ?_ GE255.out) | exact HB.out))) : w.heap.size ≤ gb256)); have n4_ := Aside0.mk ((by rw [hg]; exact (below_size (by repeat (first | (with_reducible first | exact HB.out | apply below_alloc | apply pw_below_drewN | apply below_drew1 | refine below_set ?_ GE255.out) | exact HB.out))) : w.heap.size ≤ gb256)); have n5_ := Aside0.mk ((by rw [hg]; exact Nat.ne_of_lt (blk_lt (g := gb255) (o := .cells #[.string a0_0, .int .i64 a0_1, .int .i64 a0_2, .int .i64 a0_3, .int .i64 a0_4, .int .i64 a0_5] 75 (0, 0)) (mv BK255.out)) : gb255 ≠ gb256)); have n6_ := Aside0.mk ((by rw [hg]; exact Nat.ne_of_gt (blk_lt (g := gb255) (o := .cells #[.string a0_0, .int .i64 a0_1, .int .i64 a0_2, .int .i64 a0_3, .int .i64 a0_4, .int .i64 a0_5] 75 (0, 0)) (mv BK255.out)) : gb256 ≠ gb255)); clear BK255 HB; revert n0_ n1_ n2_ n3_ n4_ n5_ n6_; intro BK255 HB BK256 GW256 GE256 NB255_256 NB256_255; clear hb hbox hg; have hnb26 := NB255_256.out; have hnc26 := NB256_255.out; have hcz27_0 : w25.cell? ⟨gb255, 0, none⟩ = some (.string a0_0) := (blk_cell BK255.out 0).trans rfl; have hcz27_1 : w25.cell? ⟨gb255, 1, none⟩ = some (.int .i64 a0_1) := (blk_cell BK255.out 1).trans rfl; have hcz27_2 : w25.cell? ⟨gb255, 2, none⟩ = some (.int .i64 a0_2) := (blk_cell BK255.out 2).trans rfl; have hcz27_3 : w25.cell? ⟨gb255, 3, none⟩ = some (.int .i64 a0_3) := (blk_cell BK255.out 3).trans rfl; have hcz27_4 : w25.cell? ⟨gb255, 4, none⟩ = some (.int .i64 a0_4) := (blk_cell BK255.out 4).trans rfl; have hcz27_5 : w25.cell? ⟨gb255, 5, none⟩ = some (.int .i64 a0_5) := (blk_cell BK255.out 5).trans rfl; have hfz27_0 := blk_frozen BK255.out 0; have hfz27_1 := blk_frozen BK255.out 1; have hfz27_2 := blk_frozen BK255.out 2; have hfz27_3 := blk_frozen BK255.out 3; have hfz27_4 := blk_frozen BK255.out 4; have hfz27_5 := blk_frozen BK255.out 5; have hcz28_0 : w25.cell? ⟨gb256, 0, none⟩ = some (.string a1_0) := (blk_cell BK256.out 0).trans rfl; have hcz28_1 : w25.cell? ⟨gb256, 1, none⟩ = some (.int .i64 a1_1) := (blk_cell BK256.out 1).trans rfl; have hcz28_2 : w25.cell? ⟨gb256, 2, none⟩ = some (.int .i64 a1_2) := (blk_cell BK256.out 2).trans rfl; have hcz28_3 : w25.cell? ⟨gb256, 3, none⟩ = some (.int .i64 a1_3) := (blk_cell BK256.out 3).trans rfl; have hcz28_4 : w25.cell? ⟨gb256, 4, none⟩ = some (.int .i64 a1_4) := (blk_cell BK256.out 4).trans rfl; have hcz28_5 : w25.cell? ⟨gb256, 5, none⟩ = some (.int .i64 a1_5) := (blk_cell BK256.out 5).trans rfl; have hfz28_0 := blk_frozen BK256.out 0; have hfz28_1 := blk_frozen BK256.out 1; have hfz28_2 := blk_frozen BK256.out 2; have hfz28_3 := blk_frozen BK256.out 3; have hfz28_4 := blk_frozen BK256.out 4; have hfz28_5 := blk_frozen BK256.out 5))
     go_ret
     exact ⟨by first | rfl | (simp [errW_none, errW_some] <;> rfl) | (simp [*, errW_none, errW_some] <;> rfl), by repeat (first | (with_reducible first | exact HB.out | apply below_alloc | apply pw_below_drewN | apply below_drew1 | refine below_set ?_ GE255.out | refine below_set ?_ GE256.out) | exact HB.out)⟩
   ·
    rw [if_neg c5] at H
    have c5b0 : (a0_2 == a1_2) = false := beq_eq_false_iff_ne.mpr c5
    have c5b1 : (a0_2 != a1_2) = true := bne_iff_ne.mpr c5
    obtain rfl := Option.some.inj H
    go_enter Try.func126, Try.ntmps126
    go_wp2_with (first | ((with_reducible refine gate_dst (N := 2) rfl ?_); refine box_event ?hg (N := 2) ?hd (cs := #[.string a0_0, .int .i64 a0_1, .int .i64 a0_2, .int .i64 a0_3, .int .i64 a0_4, .int .i64 a0_5]) (t := 75) ?hr ?_; (case hd => rfl); (case hg => rfl); (case hr => first | (go_simp; done) | (go_simp; rfl)); intro gb255 hg w29 hbox hb; have n0_ := Aside0.mk (below_step (mvB HB.out) hb); have n1_ := Aside0.mk (hbox); have n2_ := Aside0.mk ((by rw [hg]; exact (below_size (mvB HB.out)) : w.heap.size ≤ gb255)); have n3_ := Aside0.mk ((by rw [hg]; exact (below_size (mvB HB.out)) : w.heap.size ≤ gb255)); clear HB; revert n0_ n1_ n2_ n3_; intro HB BK255 GW255 GE255; clear hb hbox hg) | ((with_reducible refine gate_dst (N := 3) rfl ?_); refine box_event ?hg (N := 3) ?hd (cs := #[.string a1_0, .int .i64 a1_1, .int .i64 a1_2, .int .i64 a1_3, .int .i64 a1_4, .int .i64 a1_5]) (t := 75) ?hr ?_; (case hd => rfl); (case hg => rfl); (case hr => first | (go_simp; done) | (go_simp; rfl)); intro gb256 hg w30 hbox hb; have n0_ := Aside0.mk (blk_below (g := gb255) (o := .cells #[.string a0_0, .int .i64 a0_1, .int .i64 a0_2, .int .i64 a0_3, .int .i64 a0_4, .int .i64 a0_5] 75 (0, 0)) (mv BK255.out) hb); have n1_ := Aside0.mk (below_step (by repeat (first | (with_reducible first | exact HB.out | apply below_alloc | apply pw_below_drewN | apply below_drew1 | refine below_set ?_ GE255.out) | exact HB.out)) hb); have n2_ := Aside0.mk (hbox); have n3_ := Aside0.mk ((by rw [hg]; exact (below_size (by repeat (first | (with_reducible first | exact HB.out | apply below_alloc | apply pw_below_drewN | apply below_drew1 | refine below_set ?_ GE255.out) | exact HB.out))) : w.heap.size ≤ gb256)); have n4_ := Aside0.mk ((by rw [hg]; exact (below_size (by repeat (first | (with_reducible first | exact HB.out | apply below_alloc | apply pw_below_drewN | apply below_drew1 | refine below_set ?_ GE255.out) | exact HB.out))) : w.heap.size ≤ gb256)); have n5_ := Aside0.mk ((by rw [hg]; exact Nat.ne_of_lt (blk_lt (g := gb255) (o := .cells #[.string a0_0, .int .i64 a0_1, .int .i64 a0_2, .int .i64 a0_3, .int .i64 a0_4, .int .i64 a0_5] 75 (0, 0)) (mv BK255.out)) : gb255 ≠ gb256)); have n6_ := Aside0.mk ((by rw [hg]; exact Nat.ne_of_gt (blk_lt (g := gb255) (o := .cells #[.string a0_0, .int .i64 a0_1, .int .i64 a0_2, .int .i64 a0_3, .int .i64 a0_4, .int .i64 a0_5] 75 (0, 0)) (mv BK255.out)) : gb256 ≠ gb255)); clear BK255 HB; revert n0_ n1_ n2_ n3_ n4_ n5_ n6_; intro BK255 HB BK256 GW256 GE256 NB255_256 NB256_255; clear hb hbox hg; have hnb31 := NB255_256.out; have hnc31 := NB256_255.out; have hcz32_0 : w30.cell? ⟨gb255, 0, none⟩ = some (.string a0_0) := (blk_cell BK255.out 0).trans rfl; have hcz32_1 : w30.cell? ⟨gb255, 1, none⟩ = some (.int .i64 a0_1) := (blk_cell BK255.out 1).trans rfl; have hcz32_2 : w30.cell? ⟨gb255, 2, none⟩ = some (.int .i64 a0_2) := (blk_cell BK255.out 2).trans rfl; have hcz32_3 : w30.cell? ⟨gb255, 3, none⟩ = some (.int .i64 a0_3) := (blk_cell BK255.out 3).trans rfl; have hcz32_4 : w30.cell? ⟨gb255, 4, none⟩ = some (.int .i64 a0_4) := (blk_cell BK255.out 4).trans rfl; have hcz32_5 : w30.cell? ⟨gb255, 5, none⟩ = some (.int .i64 a0_5) := (blk_cell BK255.out 5).trans rfl; have hfz32_0 := blk_frozen BK255.out 0; have hfz32_1 := blk_frozen BK255.out 1; have hfz32_2 := blk_frozen BK255.out 2; have hfz32_3 := blk_frozen BK255.out 3; have hfz32_4 := blk_frozen BK255.out 4; have hfz32_5 := blk_frozen BK255.out 5; have hcz33_0 : w30.cell? ⟨gb256, 0, none⟩ = some (.string a1_0) := (blk_cell BK256.out 0).trans rfl; have hcz33_1 : w30.cell? ⟨gb256, 1, none⟩ = some (.int .i64 a1_1) := (blk_cell BK256.out 1).trans rfl; have hcz33_2 : w30.cell? ⟨gb256, 2, none⟩ = some (.int .i64 a1_2) := (blk_cell BK256.out 2).trans rfl; have hcz33_3 : w30.cell? ⟨gb256, 3, none⟩ = some (.int .i64 a1_3) := (blk_cell BK256.out 3).trans rfl; have hcz33_4 : w30.cell? ⟨gb256, 4, none⟩ = some (.int .i64 a1_4) := (blk_cell BK256.out 4).trans rfl; have hcz33_5 : w30.cell? ⟨gb256, 5, none⟩ = some (.int .i64 a1_5) := (blk_cell BK256.out 5).trans rfl; have hfz33_0 := blk_frozen BK256.out 0; have hfz33_1 := blk_frozen BK256.out 1; have hfz33_2 := blk_frozen BK256.out 2; have hfz33_3 := blk_frozen BK256.out 3; have hfz33_4 := blk_frozen BK256.out 4; have hfz33_5 := blk_frozen BK256.out 5))
    go_ret
    exact ⟨by first | rfl | (simp [errW_none, errW_some] <;> rfl) | (simp [*, errW_none, errW_some] <;> rfl), by repeat (first | (with_reducible first | exact HB.out | apply below_alloc | apply pw_below_drewN | apply below_drew1 | refine below_set ?_ GE255.out | refine below_set ?_ GE256.out) | exact HB.out)⟩
  ·
   rw [if_neg c4] at H
   have c4b0 : (a0_1 == a1_1) = false := beq_eq_false_iff_ne.mpr c4
   have c4b1 : (a0_1 != a1_1) = true := bne_iff_ne.mpr c4
   obtain rfl := Option.some.inj H
   go_enter Try.func126, Try.ntmps126
   go_wp2_with (first | ((with_reducible refine gate_dst (N := 2) rfl ?_); refine box_event ?hg (N := 2) ?hd (cs := #[.string a0_0, .int .i64 a0_1, .int .i64 a0_2, .int .i64 a0_3, .int .i64 a0_4, .int .i64 a0_5]) (t := 75) ?hr ?_; (case hd => rfl); (case hg => rfl); (case hr => first | (go_simp; done) | (go_simp; rfl)); intro gb255 hg w34 hbox hb; have n0_ := Aside0.mk (below_step (mvB HB.out) hb); have n1_ := Aside0.mk (hbox); have n2_ := Aside0.mk ((by rw [hg]; exact (below_size (mvB HB.out)) : w.heap.size ≤ gb255)); have n3_ := Aside0.mk ((by rw [hg]; exact (below_size (mvB HB.out)) : w.heap.size ≤ gb255)); clear HB; revert n0_ n1_ n2_ n3_; intro HB BK255 GW255 GE255; clear hb hbox hg) | ((with_reducible refine gate_dst (N := 3) rfl ?_); refine box_event ?hg (N := 3) ?hd (cs := #[.string a1_0, .int .i64 a1_1, .int .i64 a1_2, .int .i64 a1_3, .int .i64 a1_4, .int .i64 a1_5]) (t := 75) ?hr ?_; (case hd => rfl); (case hg => rfl); (case hr => first | (go_simp; done) | (go_simp; rfl)); intro gb256 hg w35 hbox hb; have n0_ := Aside0.mk (blk_below (g := gb255) (o := .cells #[.string a0_0, .int .i64 a0_1, .int .i64 a0_2, .int .i64 a0_3, .int .i64 a0_4, .int .i64 a0_5] 75 (0, 0)) (mv BK255.out) hb); have n1_ := Aside0.mk (below_step (by repeat (first | (with_reducible first | exact HB.out | apply below_alloc | apply pw_below_drewN | apply below_drew1 | refine below_set ?_ GE255.out) | exact HB.out)) hb); have n2_ := Aside0.mk (hbox); have n3_ := Aside0.mk ((by rw [hg]; exact (below_size (by repeat (first | (with_reducible first | exact HB.out | apply below_alloc | apply pw_below_drewN | apply below_drew1 | refine below_set ?_ GE255.out) | exact HB.out))) : w.heap.size ≤ gb256)); have n4_ := Aside0.mk ((by rw [hg]; exact (below_size (by repeat (first | (with_reducible first | exact HB.out | apply below_alloc | apply pw_below_drewN | apply below_drew1 | refine below_set ?_ GE255.out) | exact HB.out))) : w.heap.size ≤ gb256)); have n5_ := Aside0.mk ((by rw [hg]; exact Nat.ne_of_lt (blk_lt (g := gb255) (o := .cells #[.string a0_0, .int .i64 a0_1, .int .i64 a0_2, .int .i64 a0_3, .int .i64 a0_4, .int .i64 a0_5] 75 (0, 0)) (mv BK255.out)) : gb255 ≠ gb256)); have n6_ := Aside0.mk ((by rw [hg]; exact Nat.ne_of_gt (blk_lt (g := gb255) (o := .cells #[.string a0_0, .int .i64 a0_1, .int .i64 a0_2, .int .i64 a0_3, .int .i64 a0_4, .int .i64 a0_5] 75 (0, 0)) (mv BK255.out)) : gb256 ≠ gb255)); clear BK255 HB; revert n0_ n1_ n2_ n3_ n4_ n5_ n6_; intro BK255 HB BK256 GW256 GE256 NB255_256 NB256_255; clear hb hbox hg; have hnb36 := NB255_256.out; have hnc36 := NB256_255.out; have hcz37_0 : w35.cell? ⟨gb255, 0, none⟩ = some (.string a0_0) := (blk_cell BK255.out 0).trans rfl; have hcz37_1 : w35.cell? ⟨gb255, 1, none⟩ = some (.int .i64 a0_1) := (blk_cell BK255.out 1).trans rfl; have hcz37_2 : w35.cell? ⟨gb255, 2, none⟩ = some (.int .i64 a0_2) := (blk_cell BK255.out 2).trans rfl; have hcz37_3 : w35.cell? ⟨gb255, 3, none⟩ = some (.int .i64 a0_3) := (blk_cell BK255.out 3).trans rfl; have hcz37_4 : w35.cell? ⟨gb255, 4, none⟩ = some (.int .i64 a0_4) := (blk_cell BK255.out 4).trans rfl; have hcz37_5 : w35.cell? ⟨gb255, 5, none⟩ = some (.int .i64 a0_5) := (blk_cell BK255.out 5).trans rfl; have hfz37_0 := blk_frozen BK255.out 0; have hfz37_1 := blk_frozen BK255.out 1; have hfz37_2 := blk_frozen BK255.out 2; have hfz37_3 := blk_frozen BK255.out 3; have hfz37_4 := blk_frozen BK255.out 4; have hfz37_5 := blk_frozen BK255.out 5; have hcz38_0 : w35.cell? ⟨gb256, 0, none⟩ = some (.string a1_0) := (blk_cell BK256.out 0).trans rfl; have hcz38_1 : w35.cell? ⟨gb256, 1, none⟩ = some (.int .i64 a1_1) := (blk_cell BK256.out 1).trans rfl; have hcz38_2 : w35.cell? ⟨gb256, 2, none⟩ = some (.int .i64 a1_2) := (blk_cell BK256.out 2).trans rfl; have hcz38_3 : w35.cell? ⟨gb256, 3, none⟩ = some (.int .i64 a1_3) := (blk_cell BK256.out 3).trans rfl; have hcz38_4 : w35.cell? ⟨gb256, 4, none⟩ = some (.int .i64 a1_4) := (blk_cell BK256.out 4).trans rfl; have hcz38_5 : w35.cell? ⟨gb256, 5, none⟩ = some (.int .i64 a1_5) := (blk_cell BK256.out 5).trans rfl; have hfz38_0 := blk_frozen BK256.out 0; have hfz38_1 := blk_frozen BK256.out 1; have hfz38_2 := blk_frozen BK256.out 2; have hfz38_3 := blk_frozen BK256.out 3; have hfz38_4 := blk_frozen BK256.out 4; have hfz38_5 := blk_frozen BK256.out 5))
   go_ret
   exact ⟨by first | rfl | (simp [errW_none, errW_some] <;> rfl) | (simp [*, errW_none, errW_some] <;> rfl), by repeat (first | (with_reducible first | exact HB.out | apply below_alloc | apply pw_below_drewN | apply below_drew1 | refine below_set ?_ GE255.out | refine below_set ?_ GE256.out) | exact HB.out)⟩
 ·
  rw [if_neg c3] at H
  have c3b0 : (a0_0.toList == a1_0.toList) = false := beq_eq_false_iff_ne.mpr c3
  have c3b1 : (a0_0.toList != a1_0.toList) = true := bne_iff_ne.mpr c3
  obtain rfl := Option.some.inj H
  go_enter Try.func126, Try.ntmps126
  go_wp2_with (first | ((with_reducible refine gate_dst (N := 2) rfl ?_); refine box_event ?hg (N := 2) ?hd (cs := #[.string a0_0, .int .i64 a0_1, .int .i64 a0_2, .int .i64 a0_3, .int .i64 a0_4, .int .i64 a0_5]) (t := 75) ?hr ?_; (case hd => rfl); (case hg => rfl); (case hr => first | (go_simp; done) | (go_simp; rfl)); intro gb255 hg w39 hbox hb; have n0_ := Aside0.mk (below_step (mvB HB.out) hb); have n1_ := Aside0.mk (hbox); have n2_ := Aside0.mk ((by rw [hg]; exact (below_size (mvB HB.out)) : w.heap.size ≤ gb255)); have n3_ := Aside0.mk ((by rw [hg]; exact (below_size (mvB HB.out)) : w.heap.size ≤ gb255)); clear HB; revert n0_ n1_ n2_ n3_; intro HB BK255 GW255 GE255; clear hb hbox hg) | ((with_reducible refine gate_dst (N := 3) rfl ?_); refine box_event ?hg (N := 3) ?hd (cs := #[.string a1_0, .int .i64 a1_1, .int .i64 a1_2, .int .i64 a1_3, .int .i64 a1_4, .int .i64 a1_5]) (t := 75) ?hr ?_; (case hd => rfl); (case hg => rfl); (case hr => first | (go_simp; done) | (go_simp; rfl)); intro gb256 hg w40 hbox hb; have n0_ := Aside0.mk (blk_below (g := gb255) (o := .cells #[.string a0_0, .int .i64 a0_1, .int .i64 a0_2, .int .i64 a0_3, .int .i64 a0_4, .int .i64 a0_5] 75 (0, 0)) (mv BK255.out) hb); have n1_ := Aside0.mk (below_step (by repeat (first | (with_reducible first | exact HB.out | apply below_alloc | apply pw_below_drewN | apply below_drew1 | refine below_set ?_ GE255.out) | exact HB.out)) hb); have n2_ := Aside0.mk (hbox); have n3_ := Aside0.mk ((by rw [hg]; exact (below_size (by repeat (first | (with_reducible first | exact HB.out | apply below_alloc | apply pw_below_drewN | apply below_drew1 | refine below_set ?_ GE255.out) | exact HB.out))) : w.heap.size ≤ gb256)); have n4_ := Aside0.mk ((by rw [hg]; exact (below_size (by repeat (first | (with_reducible first | exact HB.out | apply below_alloc | apply pw_below_drewN | apply below_drew1 | refine below_set ?_ GE255.out) | exact HB.out))) : w.heap.size ≤ gb256)); have n5_ := Aside0.mk ((by rw [hg]; exact Nat.ne_of_lt (blk_lt (g := gb255) (o := .cells #[.string a0_0, .int .i64 a0_1, .int .i64 a0_2, .int .i64 a0_3, .int .i64 a0_4, .int .i64 a0_5] 75 (0, 0)) (mv BK255.out)) : gb255 ≠ gb256)); have n6_ := Aside0.mk ((by rw [hg]; exact Nat.ne_of_gt (blk_lt (g := gb255) (o := .cells #[.string a0_0, .int .i64 a0_1, .int .i64 a0_2, .int .i64 a0_3, .int .i64 a0_4, .int .i64 a0_5] 75 (0, 0)) (mv BK255.out)) : gb256 ≠ gb255)); clear BK255 HB; revert n0_ n1_ n2_ n3_ n4_ n5_ n6_; intro BK255 HB BK256 GW256 GE256 NB255_256 NB256_255; clear hb hbox hg; have hnb41 := NB255_256.out; have hnc41 := NB256_255.out; have hcz42_0 : w40.cell? ⟨gb255, 0, none⟩ = some (.string a0_0) := (blk_cell BK255.out 0).trans rfl; have hcz42_1 : w40.cell? ⟨gb255, 1, none⟩ = some (.int .i64 a0_1) := (blk_cell BK255.out 1).trans rfl; have hcz42_2 : w40.cell? ⟨gb255, 2, none⟩ = some (.int .i64 a0_2) := (blk_cell BK255.out 2).trans rfl; have hcz42_3 : w40.cell? ⟨gb255, 3, none⟩ = some (.int .i64 a0_3) := (blk_cell BK255.out 3).trans rfl; have hcz42_4 : w40.cell? ⟨gb255, 4, none⟩ = some (.int .i64 a0_4) := (blk_cell BK255.out 4).trans rfl; have hcz42_5 : w40.cell? ⟨gb255, 5, none⟩ = some (.int .i64 a0_5) := (blk_cell BK255.out 5).trans rfl; have hfz42_0 := blk_frozen BK255.out 0; have hfz42_1 := blk_frozen BK255.out 1; have hfz42_2 := blk_frozen BK255.out 2; have hfz42_3 := blk_frozen BK255.out 3; have hfz42_4 := blk_frozen BK255.out 4; have hfz42_5 := blk_frozen BK255.out 5; have hcz43_0 : w40.cell? ⟨gb256, 0, none⟩ = some (.string a1_0) := (blk_cell BK256.out 0).trans rfl; have hcz43_1 : w40.cell? ⟨gb256, 1, none⟩ = some (.int .i64 a1_1) := (blk_cell BK256.out 1).trans rfl; have hcz43_2 : w40.cell? ⟨gb256, 2, none⟩ = some (.int .i64 a1_2) := (blk_cell BK256.out 2).trans rfl; have hcz43_3 : w40.cell? ⟨gb256, 3, none⟩ = some (.int .i64 a1_3) := (blk_cell BK256.out 3).trans rfl; have hcz43_4 : w40.cell? ⟨gb256, 4, none⟩ = some (.int .i64 a1_4) := (blk_cell BK256.out 4).trans rfl; have hcz43_5 : w40.cell? ⟨gb256, 5, none⟩ = some (.int .i64 a1_5) := (blk_cell BK256.out 5).trans rfl; have hfz43_0 := blk_frozen BK256.out 0; have hfz43_1 := blk_frozen BK256.out 1; have hfz43_2 := blk_frozen BK256.out 2; have hfz43_3 := blk_frozen BK256.out 3; have hfz43_4 := blk_frozen BK256.out 4; have hfz43_5 := blk_frozen BK256.out 5))
  go_ret
  exact ⟨by first | rfl | (simp [errW_none, errW_some] <;> rfl) | (simp [*, errW_none, errW_some] <;> rfl), by repeat (first | (with_reducible first | exact HB.out | apply below_alloc | apply pw_below_drewN | apply below_drew1 | refine below_set ?_ GE255.out | refine below_set ?_ GE256.out) | exact HB.out)⟩

end Go.Proofs.Ytndbgkcjccejdaa.PFnExactBestRenewal
