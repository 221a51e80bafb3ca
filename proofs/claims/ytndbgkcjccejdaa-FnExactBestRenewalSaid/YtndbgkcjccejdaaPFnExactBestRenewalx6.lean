-- written by a program of this session (mkp.py) out of the translation; Lean checks it. -- squeezed
import Derived.Deep.RegionHeld3
import Derived.Test.YtndbgkcjccejdaaPFnExactBestRenewalx0
import Derived.Test.YtndbgkcjccejdaaPFnExactBestRenewalx1
import Derived.Test.YtndbgkcjccejdaaPFnExactBestRenewalx3
import Derived.Test.YtndbgkcjccejdaaPFnExactBestRenewalx4
import Derived.Test.YtndbgkcjccejdaaPFnExactBestRenewalx5
namespace Go.Proofs.Ytndbgkcjccejdaa.PFnExactBestRenewal
open Go.RowKit Go.Proofs.YtndbgkcjccejdaaW.PrintWords Go.Proofs.YtndbgkcjccejdaaW.PrintLast Go.Proofs.YtndbgkcjccejdaaW.PrintMore
attribute [local go_sem] bin_leq bin_gtr bin_geq max2_int min2_int max_two min_two max_three min_three max_four min_four   -- for this text's walks alone
set_option linter.unusedVariables false
set_option linter.unusedSimpArgs false

/-! ### spec_BestRenewal: function 27 -/
theorem sput {b : Nat} {w W : World} (h : Below b w W) {g : Nat} (hg : b ≤ g) (i : Nat) (u : Value) : Below b w (W.setCell ⟨g, i, none⟩ u) := h.setCell (p := ⟨g, i, none⟩) hg u
/-- Two rows of whole numbers of one's own, apart from each other. -/
def Rows2 (w : World) (base : Nat) (v2 v3 : Value) (bu be : List Int) : Prop :=
 Kd.R (Kd.int .i64) 2 w base (fun k => some k ≠ v3.ownBlock) v2 bu ∧ Kd.R (Kd.int .i64) 2 w base (fun k => some k ≠ v2.ownBlock) v3 be
theorem Rows2.below {w w' : World} {base : Nat} {v2 v3 : Value} {bu be : List Int} (h : Rows2 w base v2 v3 bu be) (hb : Below w.heap.size w w') : Rows2 w' base v2 v3 bu be := ⟨Kd.R_below h.1 hb, Kd.R_below h.2 hb⟩
theorem ne_int {t : Nat} (h : t ≠ 2) : ∀ q, q ∈ 2 :: (Kd.int .i64).E → q ≠ t := fun q hq => by
 rcases List.mem_cons.1 hq with h1 | h1
 ·
  subst h1; exact fun e => h e.symm
 ·
  cases h1
theorem Rows2.set {w : World} {base g t : Nat} {cells : Array Value} {v2 v3 : Value} {bu be : List Int} (h : Rows2 w base v2 v3 bu be) (hb : w.heap[g]? = some (.cells cells t (0, 0))) (ht : t ≠ 2) (j : Nat) (u : Value) : Rows2 (w.setCell ⟨g, j, none⟩ u) base v2 v3 bu be := ⟨Kd.R_set h.1 hb (ne_int ht) j u, Kd.R_set h.2 hb (ne_int ht) j u⟩
theorem Rows2.clone {W w2 : World} {base : Nat} {v2 v3 v : Value} {bu be xs : List Int} (h : Rows2 W base v2 v3 bu be) (hR : Kd.R (Kd.int .i64) 2 w2 W.heap.size (fun _ => True) v xs) (hb : Below W.heap.size W w2) (hs : base ≤ W.heap.size) : Rows2 w2 base v2 v bu xs :=
 ⟨Kd.R_mono (Kd.R_elder' h.1 (fun k hk => Kd.R_base hR k hk) hb) (fun _ hk => hk.2), Kd.R_mono (Kd.R_lower (Kd.R_new' hR (fun k hk => Kd.R_lt h.1 k hk)) hs) (fun _ hk => hk.2)⟩
theorem Rows2.append {W w1 : World} {base : Nat} {v2 v3 v1 : Value} {bu be xs : List Int} (h : Rows2 W base v2 v3 bu be) (hR : Kd.R (Kd.int .i64) 2 w1 base (fun k => some k ≠ v3.ownBlock) v1 xs) (hg : W.grownBy w1 v2.ownBlock) (hat : v1.ownBlock = v2.ownBlock ∨ ∃ b, v1.ownBlock = some b ∧ W.heap.size ≤ b) : Rows2 w1 base v1 v3 xs be :=
 ⟨hR, Kd.R_mono (Kd.R_grown (Kd.R_bound h.2) hg (fun k hk => hk.1)) (fun k hk => by
  rcases hat with e | ⟨b, e, hb⟩
  ·
   rw [e]; exact hk.1
  ·
   rw [e]
   intro e2
   injection e2 with e2
   have := hk.2.2.1
   omega)⟩
theorem Rows2.cut {w : World} {base n c : Nat} {A : Option Addr} {v3 : Value} {bu be : List Int} (h : Rows2 w base (.slice A n c) v3 bu be) {m : Nat} (hm : m ≤ bu.length) : Rows2 w base (.slice A m c) v3 (bu.take m) be := by
 have e : (Value.slice A m c).ownBlock = (Value.slice A n c).ownBlock := by cases A <;> rfl
 refine ⟨Kd.R_take h.1 hm, ?_⟩
 rw [e]
 exact h.2
theorem Rows2.drewN {w : World} {base : Nat} {v2 v3 : Value} {bu be : List Int} (h : Rows2 w base v2 v3 bu be) (n : Nat) : Rows2 (w.drewN n) base v2 v3 bu be := h.below (pw_below_drewN (Below.refl _ _) n)
/-- The search leaves the list as it was. -/
theorem cell_al {W : World} {a : Addr} {v : Value} (h : W.cell? a = some v) (o : Obj) : (W.alloc o).cell? a = some v := pw_cell_below (below_alloc (Below.refl _ _) o) h
theorem Rows2.some {w : World} {base n c : Nat} {A : Option Addr} {v3 : Value} {bu be : List Int} (h : Rows2 w base (.slice A n c) v3 bu be) (hn : 0 < n) : ∃ g, A = Option.some ⟨g, 0, none⟩ := by
 have ho := Kd.own_of_R (enc := Value.int .i64) (h1 := fun _ => rfl) h.1
 rcases ho.2 with ⟨hv, h0⟩ | ⟨g, cap, cur, hv, _⟩
 ·
  injection hv with h1 h2 _; omega
 ·
  injection hv with h1 _ _; exact ⟨g, h1⟩
theorem Rows2.lower {w : World} {base b2 : Nat} {v2 v3 : Value} {bu be : List Int} (h : Rows2 w base v2 v3 bu be) (hb : b2 ≤ base) : Rows2 w b2 v2 v3 bu be := ⟨Kd.R_lower h.1 hb, Kd.R_lower h.2 hb⟩
theorem cells2 {w : World} {p t : Nat} {x0 x1 : Value} (h : w.heap[p]? = some (.cells #[x0, x1] t (0, 0))) :
  w.cell? ⟨p, 0, none⟩ = some x0 ∧ w.cell? ⟨p, 1, none⟩ = some x1 ∧ ∀ i, w.frozen? ⟨p, i, none⟩ = false :=
 ⟨(blk_cell h 0).trans rfl, (blk_cell h 1).trans rfl, fun i => blk_frozen h i⟩
def sets2 (w : World) (g : Nat) (y0 y1 : Value) : World := ((w.setCell ⟨g, 0, none⟩ y0).setCell ⟨g, 1, none⟩ y1)
theorem sets2_blk {w : World} {g t : Nat} {x0 x1 : Value} (hb : w.heap[g]? = some (.cells #[x0, x1] t (0, 0))) (y0 y1 : Value) : (sets2 w g y0 y1).heap[g]? = some (.cells #[y0, y1] t (0, 0)) := by
 have h1 : (w.setCell ⟨g, 0, none⟩ y0).heap[g]? = some (.cells #[y0, x1] t (0, 0)) := blk_set hb 0 y0
 have h2 : ((w.setCell ⟨g, 0, none⟩ y0).setCell ⟨g, 1, none⟩ y1).heap[g]? = some (.cells #[y0, y1] t (0, 0)) := blk_set h1 1 y1
 exact h2
theorem sets2_below {b : Nat} {w W : World} (h : Below b w W) {g : Nat} (hg : b ≤ g) (y0 y1 : Value) : Below b w (sets2 W g y0 y1) := (sput (sput h hg 0 y0) hg 1 y1)
theorem rows2_sets2 {w : World} {base g t : Nat} {x0 x1 v2 v3 : Value} {bu be : List Int} (h : Rows2 w base v2 v3 bu be) (hb : w.heap[g]? = some (.cells #[x0, x1] t (0, 0))) (ht : t ≠ 2) (y0 y1 : Value) : Rows2 (sets2 w g y0 y1) base v2 v3 bu be := by
 have h1 : (w.setCell ⟨g, 0, none⟩ y0).heap[g]? = some (.cells #[y0, x1] t (0, 0)) := blk_set hb 0 y0
 have h2 : ((w.setCell ⟨g, 0, none⟩ y0).setCell ⟨g, 1, none⟩ y1).heap[g]? = some (.cells #[y0, y1] t (0, 0)) := blk_set h1 1 y1
 exact (Rows2.set (Rows2.set h hb ht 0 y0) h1 ht 1 y1)
theorem cells12 {w : World} {p t : Nat} {x0 x1 x2 x3 x4 x5 x6 x7 x8 x9 x10 x11 : Value} (h : w.heap[p]? = some (.cells #[x0, x1, x2, x3, x4, x5, x6, x7, x8, x9, x10, x11] t (0, 0))) :
  w.cell? ⟨p, 0, none⟩ = some x0 ∧ w.cell? ⟨p, 1, none⟩ = some x1 ∧ w.cell? ⟨p, 2, none⟩ = some x2 ∧ w.cell? ⟨p, 3, none⟩ = some x3 ∧ w.cell? ⟨p, 4, none⟩ = some x4 ∧ w.cell? ⟨p, 5, none⟩ = some x5 ∧ w.cell? ⟨p, 6, none⟩ = some x6 ∧ w.cell? ⟨p, 7, none⟩ = some x7 ∧ w.cell? ⟨p, 8, none⟩ = some x8 ∧ w.cell? ⟨p, 9, none⟩ = some x9 ∧ w.cell? ⟨p, 10, none⟩ = some x10 ∧ w.cell? ⟨p, 11, none⟩ = some x11 ∧ ∀ i, w.frozen? ⟨p, i, none⟩ = false :=
 ⟨(blk_cell h 0).trans rfl, (blk_cell h 1).trans rfl, (blk_cell h 2).trans rfl, (blk_cell h 3).trans rfl, (blk_cell h 4).trans rfl, (blk_cell h 5).trans rfl, (blk_cell h 6).trans rfl, (blk_cell h 7).trans rfl, (blk_cell h 8).trans rfl, (blk_cell h 9).trans rfl, (blk_cell h 10).trans rfl, (blk_cell h 11).trans rfl, fun i => blk_frozen h i⟩
def sets12 (w : World) (g : Nat) (y0 y1 y2 y3 y4 y5 y6 y7 y8 y9 y10 y11 : Value) : World := ((((((((((((w.setCell ⟨g, 0, none⟩ y0).setCell ⟨g, 1, none⟩ y1).setCell ⟨g, 2, none⟩ y2).setCell ⟨g, 3, none⟩ y3).setCell ⟨g, 4, none⟩ y4).setCell ⟨g, 5, none⟩ y5).setCell ⟨g, 6, none⟩ y6).setCell ⟨g, 7, none⟩ y7).setCell ⟨g, 8, none⟩ y8).setCell ⟨g, 9, none⟩ y9).setCell ⟨g, 10, none⟩ y10).setCell ⟨g, 11, none⟩ y11)
theorem sets12_blk {w : World} {g t : Nat} {x0 x1 x2 x3 x4 x5 x6 x7 x8 x9 x10 x11 : Value} (hb : w.heap[g]? = some (.cells #[x0, x1, x2, x3, x4, x5, x6, x7, x8, x9, x10, x11] t (0, 0))) (y0 y1 y2 y3 y4 y5 y6 y7 y8 y9 y10 y11 : Value) : (sets12 w g y0 y1 y2 y3 y4 y5 y6 y7 y8 y9 y10 y11).heap[g]? = some (.cells #[y0, y1, y2, y3, y4, y5, y6, y7, y8, y9, y10, y11] t (0, 0)) := by
 have h1 : (w.setCell ⟨g, 0, none⟩ y0).heap[g]? = some (.cells #[y0, x1, x2, x3, x4, x5, x6, x7, x8, x9, x10, x11] t (0, 0)) := blk_set hb 0 y0
 have h2 : ((w.setCell ⟨g, 0, none⟩ y0).setCell ⟨g, 1, none⟩ y1).heap[g]? = some (.cells #[y0, y1, x2, x3, x4, x5, x6, x7, x8, x9, x10, x11] t (0, 0)) := blk_set h1 1 y1
 have h3 : (((w.setCell ⟨g, 0, none⟩ y0).setCell ⟨g, 1, none⟩ y1).setCell ⟨g, 2, none⟩ y2).heap[g]? = some (.cells #[y0, y1, y2, x3, x4, x5, x6, x7, x8, x9, x10, x11] t (0, 0)) := blk_set h2 2 y2
 have h4 : ((((w.setCell ⟨g, 0, none⟩ y0).setCell ⟨g, 1, none⟩ y1).setCell ⟨g, 2, none⟩ y2).setCell ⟨g, 3, none⟩ y3).heap[g]? = some (.cells #[y0, y1, y2, y3, x4, x5, x6, x7, x8, x9, x10, x11] t (0, 0)) := blk_set h3 3 y3
 have h5 : (((((w.setCell ⟨g, 0, none⟩ y0).setCell ⟨g, 1, none⟩ y1).setCell ⟨g, 2, none⟩ y2).setCell ⟨g, 3, none⟩ y3).setCell ⟨g, 4, none⟩ y4).heap[g]? = some (.cells #[y0, y1, y2, y3, y4, x5, x6, x7, x8, x9, x10, x11] t (0, 0)) := blk_set h4 4 y4
 have h6 : ((((((w.setCell ⟨g, 0, none⟩ y0).setCell ⟨g, 1, none⟩ y1).setCell ⟨g, 2, none⟩ y2).setCell ⟨g, 3, none⟩ y3).setCell ⟨g, 4, none⟩ y4).setCell ⟨g, 5, none⟩ y5).heap[g]? = some (.cells #[y0, y1, y2, y3, y4, y5, x6, x7, x8, x9, x10, x11] t (0, 0)) := blk_set h5 5 y5
 have h7 : (((((((w.setCell ⟨g, 0, none⟩ y0).setCell ⟨g, 1, none⟩ y1).setCell ⟨g, 2, none⟩ y2).setCell ⟨g, 3, none⟩ y3).setCell ⟨g, 4, none⟩ y4).setCell ⟨g, 5, none⟩ y5).setCell ⟨g, 6, none⟩ y6).heap[g]? = some (.cells #[y0, y1, y2, y3, y4, y5, y6, x7, x8, x9, x10, x11] t (0, 0)) := blk_set h6 6 y6
 have h8 : ((((((((w.setCell ⟨g, 0, none⟩ y0).setCell ⟨g, 1, none⟩ y1).setCell ⟨g, 2, none⟩ y2).setCell ⟨g, 3, none⟩ y3).setCell ⟨g, 4, none⟩ y4).setCell ⟨g, 5, none⟩ y5).setCell ⟨g, 6, none⟩ y6).setCell ⟨g, 7, none⟩ y7).heap[g]? = some (.cells #[y0, y1, y2, y3, y4, y5, y6, y7, x8, x9, x10, x11] t (0, 0)) := blk_set h7 7 y7
 have h9 : (((((((((w.setCell ⟨g, 0, none⟩ y0).setCell ⟨g, 1, none⟩ y1).setCell ⟨g, 2, none⟩ y2).setCell ⟨g, 3, none⟩ y3).setCell ⟨g, 4, none⟩ y4).setCell ⟨g, 5, none⟩ y5).setCell ⟨g, 6, none⟩ y6).setCell ⟨g, 7, none⟩ y7).setCell ⟨g, 8, none⟩ y8).heap[g]? = some (.cells #[y0, y1, y2, y3, y4, y5, y6, y7, y8, x9, x10, x11] t (0, 0)) := blk_set h8 8 y8
 have h10 : ((((((((((w.setCell ⟨g, 0, none⟩ y0).setCell ⟨g, 1, none⟩ y1).setCell ⟨g, 2, none⟩ y2).setCell ⟨g, 3, none⟩ y3).setCell ⟨g, 4, none⟩ y4).setCell ⟨g, 5, none⟩ y5).setCell ⟨g, 6, none⟩ y6).setCell ⟨g, 7, none⟩ y7).setCell ⟨g, 8, none⟩ y8).setCell ⟨g, 9, none⟩ y9).heap[g]? = some (.cells #[y0, y1, y2, y3, y4, y5, y6, y7, y8, y9, x10, x11] t (0, 0)) := blk_set h9 9 y9
 have h11 : (((((((((((w.setCell ⟨g, 0, none⟩ y0).setCell ⟨g, 1, none⟩ y1).setCell ⟨g, 2, none⟩ y2).setCell ⟨g, 3, none⟩ y3).setCell ⟨g, 4, none⟩ y4).setCell ⟨g, 5, none⟩ y5).setCell ⟨g, 6, none⟩ y6).setCell ⟨g, 7, none⟩ y7).setCell ⟨g, 8, none⟩ y8).setCell ⟨g, 9, none⟩ y9).setCell ⟨g, 10, none⟩ y10).heap[g]? = some (.cells #[y0, y1, y2, y3, y4, y5, y6, y7, y8, y9, y10, x11] t (0, 0)) := blk_set h10 10 y10
 have h12 : ((((((((((((w.setCell ⟨g, 0, none⟩ y0).setCell ⟨g, 1, none⟩ y1).setCell ⟨g, 2, none⟩ y2).setCell ⟨g, 3, none⟩ y3).setCell ⟨g, 4, none⟩ y4).setCell ⟨g, 5, none⟩ y5).setCell ⟨g, 6, none⟩ y6).setCell ⟨g, 7, none⟩ y7).setCell ⟨g, 8, none⟩ y8).setCell ⟨g, 9, none⟩ y9).setCell ⟨g, 10, none⟩ y10).setCell ⟨g, 11, none⟩ y11).heap[g]? = some (.cells #[y0, y1, y2, y3, y4, y5, y6, y7, y8, y9, y10, y11] t (0, 0)) := blk_set h11 11 y11
 exact h12
theorem sets12_below {b : Nat} {w W : World} (h : Below b w W) {g : Nat} (hg : b ≤ g) (y0 y1 y2 y3 y4 y5 y6 y7 y8 y9 y10 y11 : Value) : Below b w (sets12 W g y0 y1 y2 y3 y4 y5 y6 y7 y8 y9 y10 y11) := (sput (sput (sput (sput (sput (sput (sput (sput (sput (sput (sput (sput h hg 0 y0) hg 1 y1) hg 2 y2) hg 3 y3) hg 4 y4) hg 5 y5) hg 6 y6) hg 7 y7) hg 8 y8) hg 9 y9) hg 10 y10) hg 11 y11)
theorem rows2_sets12 {w : World} {base g t : Nat} {x0 x1 x2 x3 x4 x5 x6 x7 x8 x9 x10 x11 v2 v3 : Value} {bu be : List Int} (h : Rows2 w base v2 v3 bu be) (hb : w.heap[g]? = some (.cells #[x0, x1, x2, x3, x4, x5, x6, x7, x8, x9, x10, x11] t (0, 0))) (ht : t ≠ 2) (y0 y1 y2 y3 y4 y5 y6 y7 y8 y9 y10 y11 : Value) : Rows2 (sets12 w g y0 y1 y2 y3 y4 y5 y6 y7 y8 y9 y10 y11) base v2 v3 bu be := by
 have h1 : (w.setCell ⟨g, 0, none⟩ y0).heap[g]? = some (.cells #[y0, x1, x2, x3, x4, x5, x6, x7, x8, x9, x10, x11] t (0, 0)) := blk_set hb 0 y0
 have h2 : ((w.setCell ⟨g, 0, none⟩ y0).setCell ⟨g, 1, none⟩ y1).heap[g]? = some (.cells #[y0, y1, x2, x3, x4, x5, x6, x7, x8, x9, x10, x11] t (0, 0)) := blk_set h1 1 y1
 have h3 : (((w.setCell ⟨g, 0, none⟩ y0).setCell ⟨g, 1, none⟩ y1).setCell ⟨g, 2, none⟩ y2).heap[g]? = some (.cells #[y0, y1, y2, x3, x4, x5, x6, x7, x8, x9, x10, x11] t (0, 0)) := blk_set h2 2 y2
 have h4 : ((((w.setCell ⟨g, 0, none⟩ y0).setCell ⟨g, 1, none⟩ y1).setCell ⟨g, 2, none⟩ y2).setCell ⟨g, 3, none⟩ y3).heap[g]? = some (.cells #[y0, y1, y2, y3, x4, x5, x6, x7, x8, x9, x10, x11] t (0, 0)) := blk_set h3 3 y3
 have h5 : (((((w.setCell ⟨g, 0, none⟩ y0).setCell ⟨g, 1, none⟩ y1).setCell ⟨g, 2, none⟩ y2).setCell ⟨g, 3, none⟩ y3).setCell ⟨g, 4, none⟩ y4).heap[g]? = some (.cells #[y0, y1, y2, y3, y4, x5, x6, x7, x8, x9, x10, x11] t (0, 0)) := blk_set h4 4 y4
 have h6 : ((((((w.setCell ⟨g, 0, none⟩ y0).setCell ⟨g, 1, none⟩ y1).setCell ⟨g, 2, none⟩ y2).setCell ⟨g, 3, none⟩ y3).setCell ⟨g, 4, none⟩ y4).setCell ⟨g, 5, none⟩ y5).heap[g]? = some (.cells #[y0, y1, y2, y3, y4, y5, x6, x7, x8, x9, x10, x11] t (0, 0)) := blk_set h5 5 y5
 have h7 : (((((((w.setCell ⟨g, 0, none⟩ y0).setCell ⟨g, 1, none⟩ y1).setCell ⟨g, 2, none⟩ y2).setCell ⟨g, 3, none⟩ y3).setCell ⟨g, 4, none⟩ y4).setCell ⟨g, 5, none⟩ y5).setCell ⟨g, 6, none⟩ y6).heap[g]? = some (.cells #[y0, y1, y2, y3, y4, y5, y6, x7, x8, x9, x10, x11] t (0, 0)) := blk_set h6 6 y6
 have h8 : ((((((((w.setCell ⟨g, 0, none⟩ y0).setCell ⟨g, 1, none⟩ y1).setCell ⟨g, 2, none⟩ y2).setCell ⟨g, 3, none⟩ y3).setCell ⟨g, 4, none⟩ y4).setCell ⟨g, 5, none⟩ y5).setCell ⟨g, 6, none⟩ y6).setCell ⟨g, 7, none⟩ y7).heap[g]? = some (.cells #[y0, y1, y2, y3, y4, y5, y6, y7, x8, x9, x10, x11] t (0, 0)) := blk_set h7 7 y7
 have h9 : (((((((((w.setCell ⟨g, 0, none⟩ y0).setCell ⟨g, 1, none⟩ y1).setCell ⟨g, 2, none⟩ y2).setCell ⟨g, 3, none⟩ y3).setCell ⟨g, 4, none⟩ y4).setCell ⟨g, 5, none⟩ y5).setCell ⟨g, 6, none⟩ y6).setCell ⟨g, 7, none⟩ y7).setCell ⟨g, 8, none⟩ y8).heap[g]? = some (.cells #[y0, y1, y2, y3, y4, y5, y6, y7, y8, x9, x10, x11] t (0, 0)) := blk_set h8 8 y8
 have h10 : ((((((((((w.setCell ⟨g, 0, none⟩ y0).setCell ⟨g, 1, none⟩ y1).setCell ⟨g, 2, none⟩ y2).setCell ⟨g, 3, none⟩ y3).setCell ⟨g, 4, none⟩ y4).setCell ⟨g, 5, none⟩ y5).setCell ⟨g, 6, none⟩ y6).setCell ⟨g, 7, none⟩ y7).setCell ⟨g, 8, none⟩ y8).setCell ⟨g, 9, none⟩ y9).heap[g]? = some (.cells #[y0, y1, y2, y3, y4, y5, y6, y7, y8, y9, x10, x11] t (0, 0)) := blk_set h9 9 y9
 have h11 : (((((((((((w.setCell ⟨g, 0, none⟩ y0).setCell ⟨g, 1, none⟩ y1).setCell ⟨g, 2, none⟩ y2).setCell ⟨g, 3, none⟩ y3).setCell ⟨g, 4, none⟩ y4).setCell ⟨g, 5, none⟩ y5).setCell ⟨g, 6, none⟩ y6).setCell ⟨g, 7, none⟩ y7).setCell ⟨g, 8, none⟩ y8).setCell ⟨g, 9, none⟩ y9).setCell ⟨g, 10, none⟩ y10).heap[g]? = some (.cells #[y0, y1, y2, y3, y4, y5, y6, y7, y8, y9, y10, x11] t (0, 0)) := blk_set h10 10 y10
 have h12 : ((((((((((((w.setCell ⟨g, 0, none⟩ y0).setCell ⟨g, 1, none⟩ y1).setCell ⟨g, 2, none⟩ y2).setCell ⟨g, 3, none⟩ y3).setCell ⟨g, 4, none⟩ y4).setCell ⟨g, 5, none⟩ y5).setCell ⟨g, 6, none⟩ y6).setCell ⟨g, 7, none⟩ y7).setCell ⟨g, 8, none⟩ y8).setCell ⟨g, 9, none⟩ y9).setCell ⟨g, 10, none⟩ y10).setCell ⟨g, 11, none⟩ y11).heap[g]? = some (.cells #[y0, y1, y2, y3, y4, y5, y6, y7, y8, y9, y10, y11] t (0, 0)) := blk_set h11 11 y11
 exact (Rows2.set (Rows2.set (Rows2.set (Rows2.set (Rows2.set (Rows2.set (Rows2.set (Rows2.set (Rows2.set (Rows2.set (Rows2.set (Rows2.set h hb ht 0 y0) h1 ht 1 y1) h2 ht 2 y2) h3 ht 3 y3) h4 ht 4 y4) h5 ht 5 y5) h6 ht 6 y6) h7 ht 7 y7) h8 ht 8 y8) h9 ht 9 y9) h10 ht 10 y10) h11 ht 11 y11)
structure SVQ where
 set : List Int
 best : List Int
 least : Int
 found : Bool
 nodes : Int
 budget : Int
 full : Bool
def StQ (w : World) (base p : Nat) (Pn : Option Addr) (Acosts : Option Addr) (ncosts ccosts : Nat) (Kloss : Int) (Kwarm : Int) (Kground : Int) (s : SVQ) : Prop := ∃ A2 c2 A3 c3,
 w.heap[p]? = some (.cells #[.pointer Pn, .slice Acosts ncosts ccosts, .int .i64 Kloss, .int .i64 Kwarm, .int .i64 Kground, .slice A2 s.set.length c2, .slice A3 s.best.length c3, .int .i64 s.least, .bool s.found, .int .i64 s.nodes, .int .i64 s.budget, .bool s.full] 114 (0, 0)) ∧ Rows2 w base (.slice A2 s.set.length c2) (.slice A3 s.best.length c3) s.set s.best
theorem StQ.below {w' : World} {w : World} {base p : Nat} {Pn : Option Addr} {Acosts : Option Addr} {ncosts ccosts : Nat} {Kloss : Int} {Kwarm : Int} {Kground : Int} {s : SVQ} (h : StQ w base p Pn Acosts ncosts ccosts Kloss Kwarm Kground s) (hb : Below w.heap.size w w') : StQ w' base p Pn Acosts ncosts ccosts Kloss Kwarm Kground s := by
 obtain ⟨A2, c2, A3, c3, hP, hR⟩ := h
 exact ⟨A2, c2, A3, c3, blk_below hP hb, hR.below hb⟩
theorem StQ.size {w : World} {base p : Nat} {Pn : Option Addr} {Acosts : Option Addr} {ncosts ccosts : Nat} {Kloss : Int} {Kwarm : Int} {Kground : Int} {s : SVQ} (h : StQ w base p Pn Acosts ncosts ccosts Kloss Kwarm Kground s) : p < w.heap.size := by
 obtain ⟨A2, c2, A3, c3, hP, _⟩ := h
 exact blk_lt hP
theorem StQ.put_set {w : World} {base p : Nat} {Pn : Option Addr} {Acosts : Option Addr} {ncosts ccosts : Nat} {Kloss : Int} {Kwarm : Int} {Kground : Int} {s : SVQ} {A9 A3 : Option Addr} {n9 c9 c3 : Nat} {u : Value} {xs : List Int} (hP : w.heap[p]? = some (.cells #[.pointer Pn, .slice Acosts ncosts ccosts, .int .i64 Kloss, .int .i64 Kwarm, .int .i64 Kground, u, .slice A3 s.best.length c3, .int .i64 s.least, .bool s.found, .int .i64 s.nodes, .int .i64 s.budget, .bool s.full] 114 (0, 0))) (hR : Rows2 w base (.slice A9 n9 c9) (.slice A3 s.best.length c3) xs s.best) (hn : n9 = xs.length) : StQ (w.setCell ⟨p, 5, none⟩ (.slice A9 n9 c9)) base p Pn Acosts ncosts ccosts Kloss Kwarm Kground ⟨xs, s.best, s.least, s.found, s.nodes, s.budget, s.full⟩ := by
 subst hn
 exact ⟨A9, c9, A3, c3, blk_set hP 5 _, hR.set hP (by decide) 5 _⟩
theorem StQ.put_best {w : World} {base p : Nat} {Pn : Option Addr} {Acosts : Option Addr} {ncosts ccosts : Nat} {Kloss : Int} {Kwarm : Int} {Kground : Int} {s : SVQ} {A9 A2 : Option Addr} {n9 c9 c2 : Nat} {u : Value} {xs : List Int} (hP : w.heap[p]? = some (.cells #[.pointer Pn, .slice Acosts ncosts ccosts, .int .i64 Kloss, .int .i64 Kwarm, .int .i64 Kground, .slice A2 s.set.length c2, u, .int .i64 s.least, .bool s.found, .int .i64 s.nodes, .int .i64 s.budget, .bool s.full] 114 (0, 0))) (hR : Rows2 w base (.slice A2 s.set.length c2) (.slice A9 n9 c9) s.set xs) (hn : n9 = xs.length) : StQ (w.setCell ⟨p, 6, none⟩ (.slice A9 n9 c9)) base p Pn Acosts ncosts ccosts Kloss Kwarm Kground ⟨s.set, xs, s.least, s.found, s.nodes, s.budget, s.full⟩ := by
 subst hn
 exact ⟨A2, c2, A9, c9, blk_set hP 6 _, hR.set hP (by decide) 6 _⟩
theorem StQ.set_least {w : World} {base p : Nat} {Pn : Option Addr} {Acosts : Option Addr} {ncosts ccosts : Nat} {Kloss : Int} {Kwarm : Int} {Kground : Int} {s : SVQ} (h : StQ w base p Pn Acosts ncosts ccosts Kloss Kwarm Kground s) (x : Int) : StQ (w.setCell ⟨p, 7, none⟩ (.int .i64 x)) base p Pn Acosts ncosts ccosts Kloss Kwarm Kground ⟨s.set, s.best, x, s.found, s.nodes, s.budget, s.full⟩ := by
 obtain ⟨A2, c2, A3, c3, hP, hR⟩ := h
 exact ⟨A2, c2, A3, c3, blk_set hP 7 _, hR.set hP (by decide) 7 _⟩
theorem StQ.set_found {w : World} {base p : Nat} {Pn : Option Addr} {Acosts : Option Addr} {ncosts ccosts : Nat} {Kloss : Int} {Kwarm : Int} {Kground : Int} {s : SVQ} (h : StQ w base p Pn Acosts ncosts ccosts Kloss Kwarm Kground s) (x : Bool) : StQ (w.setCell ⟨p, 8, none⟩ (.bool x)) base p Pn Acosts ncosts ccosts Kloss Kwarm Kground ⟨s.set, s.best, s.least, x, s.nodes, s.budget, s.full⟩ := by
 obtain ⟨A2, c2, A3, c3, hP, hR⟩ := h
 exact ⟨A2, c2, A3, c3, blk_set hP 8 _, hR.set hP (by decide) 8 _⟩
theorem StQ.set_nodes {w : World} {base p : Nat} {Pn : Option Addr} {Acosts : Option Addr} {ncosts ccosts : Nat} {Kloss : Int} {Kwarm : Int} {Kground : Int} {s : SVQ} (h : StQ w base p Pn Acosts ncosts ccosts Kloss Kwarm Kground s) (x : Int) : StQ (w.setCell ⟨p, 9, none⟩ (.int .i64 x)) base p Pn Acosts ncosts ccosts Kloss Kwarm Kground ⟨s.set, s.best, s.least, s.found, x, s.budget, s.full⟩ := by
 obtain ⟨A2, c2, A3, c3, hP, hR⟩ := h
 exact ⟨A2, c2, A3, c3, blk_set hP 9 _, hR.set hP (by decide) 9 _⟩
theorem StQ.set_budget {w : World} {base p : Nat} {Pn : Option Addr} {Acosts : Option Addr} {ncosts ccosts : Nat} {Kloss : Int} {Kwarm : Int} {Kground : Int} {s : SVQ} (h : StQ w base p Pn Acosts ncosts ccosts Kloss Kwarm Kground s) (x : Int) : StQ (w.setCell ⟨p, 10, none⟩ (.int .i64 x)) base p Pn Acosts ncosts ccosts Kloss Kwarm Kground ⟨s.set, s.best, s.least, s.found, s.nodes, x, s.full⟩ := by
 obtain ⟨A2, c2, A3, c3, hP, hR⟩ := h
 exact ⟨A2, c2, A3, c3, blk_set hP 10 _, hR.set hP (by decide) 10 _⟩
theorem StQ.set_full {w : World} {base p : Nat} {Pn : Option Addr} {Acosts : Option Addr} {ncosts ccosts : Nat} {Kloss : Int} {Kwarm : Int} {Kground : Int} {s : SVQ} (h : StQ w base p Pn Acosts ncosts ccosts Kloss Kwarm Kground s) (x : Bool) : StQ (w.setCell ⟨p, 11, none⟩ (.bool x)) base p Pn Acosts ncosts ccosts Kloss Kwarm Kground ⟨s.set, s.best, s.least, s.found, s.nodes, s.budget, x⟩ := by
 obtain ⟨A2, c2, A3, c3, hP, hR⟩ := h
 exact ⟨A2, c2, A3, c3, blk_set hP 11 _, hR.set hP (by decide) 11 _⟩
theorem StQ.open {w : World} {base p : Nat} {Pn : Option Addr} {Acosts : Option Addr} {ncosts ccosts : Nat} {Kloss : Int} {Kwarm : Int} {Kground : Int} {s : SVQ} (h : StQ w base p Pn Acosts ncosts ccosts Kloss Kwarm Kground s) : ∃ A2 c2 A3 c3,
  (w.cell? ⟨p, 0, none⟩ = some (.pointer Pn) ∧ w.cell? ⟨p, 1, none⟩ = some (.slice Acosts ncosts ccosts) ∧ w.cell? ⟨p, 2, none⟩ = some (.int .i64 Kloss) ∧ w.cell? ⟨p, 3, none⟩ = some (.int .i64 Kwarm) ∧ w.cell? ⟨p, 4, none⟩ = some (.int .i64 Kground) ∧ w.cell? ⟨p, 5, none⟩ = some (.slice A2 s.set.length c2) ∧ w.cell? ⟨p, 6, none⟩ = some (.slice A3 s.best.length c3) ∧ w.cell? ⟨p, 7, none⟩ = some (.int .i64 s.least) ∧ w.cell? ⟨p, 8, none⟩ = some (.bool s.found) ∧ w.cell? ⟨p, 9, none⟩ = some (.int .i64 s.nodes) ∧ w.cell? ⟨p, 10, none⟩ = some (.int .i64 s.budget) ∧ w.cell? ⟨p, 11, none⟩ = some (.bool s.full) ∧ ∀ i, w.frozen? ⟨p, i, none⟩ = false) ∧
  (s.set.length ≤ c2 ∧ Kd.C (Kd.int .i64) w A2 s.set.length s.set) ∧ (s.best.length ≤ c3 ∧ Kd.C (Kd.int .i64) w A3 s.best.length s.best) ∧
  w.heap[p]? = some (.cells #[.pointer Pn, .slice Acosts ncosts ccosts, .int .i64 Kloss, .int .i64 Kwarm, .int .i64 Kground, .slice A2 s.set.length c2, .slice A3 s.best.length c3, .int .i64 s.least, .bool s.found, .int .i64 s.nodes, .int .i64 s.budget, .bool s.full] 114 (0, 0)) ∧ Rows2 w base (.slice A2 s.set.length c2) (.slice A3 s.best.length c3) s.set s.best := by
 obtain ⟨A2, c2, A3, c3, hP, hR⟩ := h
 exact ⟨A2, c2, A3, c3, cells12 hP, (Kd.R_reads' hR.1).2, (Kd.R_reads' hR.2).2, hP, hR⟩
theorem ne_pipe : ∀ q, q ∈ 75 :: k75.E → q ≠ 59 := fun q hq => by
 rcases List.mem_cons.1 hq with h1 | h1
 ·
  subst h1; decide
 ·
  cases h1
def nodeQB (s : SVQ) : Bool := if s.nodes = s.budget then false else !s.full
def nodeQS (s : SVQ) : SVQ := if s.nodes = s.budget then ⟨s.set, s.best, s.least, s.found, s.nodes, s.budget, true⟩ else if s.full = true then s else ⟨s.set, s.best, s.least, s.found, wrap64 (s.nodes + 1), s.budget, s.full⟩
set_option maxHeartbeats 4000000 in
set_option maxRecDepth 100000 in
theorem nodeQ.calls {An Ac : Option Addr} {nc cc : Nat} {lo wa gr : Int} {b base p : Nat} {w0 w : World} {s : SVQ} (hb : Below b w0 w) (hw : b ≤ w.heap.size) (hp : b ≤ p) (hs : StQ w base p An Ac nc cc lo wa gr s) :
  Calls Try.prog 119 #[.pointer (some ⟨p, 0, none⟩)] w fun e w' => e = .returned (.bool (nodeQB s)) ∧ Below b w0 w' ∧ b ≤ w'.heap.size ∧ StQ w' base p An Ac nc cc lo wa gr (nodeQS s) := by
 obtain ⟨A2, c2, A3, c3, ⟨x0, x1, x2, x3, x4, x5, x6, x7, x8, x9, x10, x11, xf⟩, _, _, _, _⟩ := hs.open
 have HS := Aside0.mk hs
 have HB := Aside0.mk hb
 have HW := Aside0.mk hw
 clear hs hb hw
 by_cases q : s.nodes = s.budget
 ·
  have z : (s.nodes == s.budget) = true := by simpa using q
  have e1 : nodeQB s = false := by unfold nodeQB; rw [if_pos q]
  have e2 : nodeQS s = ⟨s.set, s.best, s.least, s.found, s.nodes, s.budget, true⟩ := by unfold nodeQS; rw [if_pos q]
  rw [e1, e2]
  clear e1 e2 q
  go_enter Try.func119, Try.ntmps119
  go_wp2
  go_quiet (fail)
  go_wp2
  go_ret
  exact ⟨rfl, sput (pw_below_drewN HB.out _) hp 11 _, by simp; exact HW.out, StQ.set_full (HS.out.below (pw_below_drewN (Below.refl _ _) _)) true⟩
 ·
  have z : (s.nodes == s.budget) = false := by simpa using q
  cases hf : s.full with
  | true =>
   have e1 : nodeQB s = false := by unfold nodeQB; rw [if_neg q, hf]; rfl
   have e2 : nodeQS s = s := by unfold nodeQS; rw [if_neg q, if_pos hf]
   rw [e1, e2]
   rw [hf] at x11
   clear e1 e2 q
   go_enter Try.func119, Try.ntmps119
   go_wp2
   go_quiet (fail)
   go_wp2
   go_ret
   exact ⟨rfl, pw_below_drewN HB.out _, HW.out, HS.out.below (pw_below_drewN (Below.refl _ _) _)⟩
  | false =>
   have e1 : nodeQB s = true := by unfold nodeQB; rw [if_neg q, hf]; rfl
   have e2 : nodeQS s = ⟨s.set, s.best, s.least, s.found, wrap64 (s.nodes + 1), s.budget, s.full⟩ := by unfold nodeQS; rw [if_neg q, if_neg (by rw [hf]; decide)]
   rw [e1, e2]
   rw [hf] at x11
   clear e1 e2 q
   go_enter Try.func119, Try.ntmps119
   go_wp2
   go_quiet (fail)
   go_wp2
   go_ret
   exact ⟨rfl, sput (pw_below_drewN HB.out _) hp 9 _, by simp; exact HW.out, StQ.set_nodes (HS.out.below (pw_below_drewN (Below.refl _ _) _)) _⟩
/-- The search, from a place on. -/
def runQ (k : Nat) (n : S59) (cs : List Int) (lo wa gr : Int) : Nat → Int → SVQ → Option SVQ
  | 0, _, s => (spec_l10Renew.f k [n] s.set lo).bind fun bt => (spec_l10Sum.f k [⟨bt.1, bt.2⟩] wa gr).bind fun sum => if s.found = true then
      (if sum < s.least then some ⟨s.set, s.set, sum, true, s.nodes, s.budget, s.full⟩
       else if sum = s.least then (spec_l08Before.f k s.set s.best).bind fun q => if q = true then some ⟨s.set, s.set, sum, true, s.nodes, s.budget, s.full⟩ else some s
       else some s)
      else some ⟨s.set, s.set, sum, true, s.nodes, s.budget, s.full⟩
  | d + 1, m, s =>
    (if rd cs ((cs.length - (d + 1) : Nat) : Int) ≤ m then (if nodeQB s = true then (runQ k n cs lo wa gr d (wrap64 (m - rd cs ((cs.length - (d + 1) : Nat) : Int))) ⟨(nodeQS s).set ++ [((cs.length - (d + 1) : Nat) : Int)], (nodeQS s).best, (nodeQS s).least, (nodeQS s).found, (nodeQS s).nodes, (nodeQS s).budget, (nodeQS s).full⟩).bind fun s2 => some ⟨s2.set.take (s2.set.length - 1), s2.best, s2.least, s2.found, s2.nodes, s2.budget, s2.full⟩
     else some (nodeQS s)) else some s).bind fun s1 => if nodeQB s1 = true then runQ k n cs lo wa gr d m (nodeQS s1) else some (nodeQS s1)
theorem runQ_mono (k : Nat) (n : S59) (cs : List Int) (lo wa gr : Int) : ∀ d m s, LeO (runQ k n cs lo wa gr d m s) (runQ (k + 1) n cs lo wa gr d m s)
 | 0, m, s => by
  unfold runQ
  exact LeO.bind (spec_l10Renew.mono _ _ _ k) (fun _ => LeO.bind (spec_l10Sum.mono _ _ _ k) (fun _ => LeO.ite (LeO.ite (LeO.refl _) (LeO.ite (LeO.bind (spec_l08Before.mono _ _ k) (fun _ => LeO.refl _)) (LeO.refl _))) (LeO.refl _)))
 | d + 1, m, s => by
  unfold runQ
  exact LeO.bind (LeO.ite (LeO.ite (LeO.bind (runQ_mono k n cs lo wa gr d _ _) (fun _ => LeO.refl _)) (LeO.refl _)) (LeO.refl _)) (fun q => LeO.ite (runQ_mono k n cs lo wa gr d _ _) (LeO.refl _))
theorem nodeQS_set (s : SVQ) : (nodeQS s).set = s.set := by unfold nodeQS; split; rfl; split <;> rfl
theorem runQ_set (k : Nat) (n : S59) (cs : List Int) (lo wa gr : Int) : ∀ d m s s', runQ k n cs lo wa gr d m s = some s' → s'.set = s.set := by
 intro d
 induction d with
 | zero =>
  intro m s s' h
  unfold runQ at h
  obtain ⟨bt, _, h⟩ := Option.bind_eq_some_iff.1 h
  obtain ⟨sum, _, h⟩ := Option.bind_eq_some_iff.1 h
  split at h
  ·
   split at h
   ·
    obtain rfl := Option.some.inj h; rfl
   ·
    split at h
    ·
     obtain ⟨c, _, h⟩ := Option.bind_eq_some_iff.1 h
     split at h
     ·
      obtain rfl := Option.some.inj h; rfl
     ·
      obtain rfl := Option.some.inj h; rfl
    ·
     obtain rfl := Option.some.inj h; rfl
  ·
   obtain rfl := Option.some.inj h; rfl
 | succ d ih =>
  intro m s s' h
  unfold runQ at h
  obtain ⟨q, hq, h⟩ := Option.bind_eq_some_iff.1 h
  have hqb : q.set = s.set := by
   split at hq
   ·
    split at hq
    ·
     obtain ⟨s2, h2, hq⟩ := Option.bind_eq_some_iff.1 hq
     obtain rfl := Option.some.inj hq
     have := ih _ _ _ h2
     simp only [this, nodeQS_set, List.length_append, List.length_cons, List.length_nil, Nat.add_sub_cancel]
     simp
    ·
     obtain rfl := Option.some.inj hq; exact nodeQS_set s
   ·
    obtain rfl := Option.some.inj hq; rfl
  split at h
  ·
   exact (ih _ _ _ h).trans ((nodeQS_set q).trans hqb)
  ·
   obtain rfl := Option.some.inj h; exact (nodeQS_set q).trans hqb
-- @cut
set_option maxHeartbeats 4000000 in
set_option maxRecDepth 100000 in
/-- The search at its end, no pipes being left. -/
theorem runQ_0.calls (k : Nat) (b0 : Nat) (w0 : World) (An : Option Addr) (Ac : Option Addr) (cc : Nat) (lo wa gr : Int) (n : S59) (cs : List Int) (hrn : ∀ W, Below b0 w0 W → Kd.C k59 W An 1 [n]) (m : Int) (s s' : SVQ) (w : World) (p : Nat) (h : runQ k n cs lo wa gr 0 m s = some s') (hb : Below b0 w0 w) (hbw : b0 ≤ w.heap.size) (hp : b0 ≤ p) (hs : StQ w b0 p An Ac cs.length cc lo wa gr s) (hl : s.set.length ≤ 1000) :
  Calls Try.prog 78 #[.pointer (some ⟨p, 0, none⟩), .int .i64 (cs.length : Int), .int .i64 m] w fun e w' => e = .returned (.tuple #[]) ∧ Below b0 w0 w' ∧ b0 ≤ w'.heap.size ∧ StQ w' b0 p An Ac cs.length cc lo wa gr s' := by
 unfold runQ at h
 obtain ⟨bt, hbt, h⟩ := Option.bind_eq_some_iff.1 h
 obtain ⟨sum, hsu, h⟩ := Option.bind_eq_some_iff.1 h
 obtain ⟨A2, c2, A3, c3, ⟨x0, x1, x2, x3, x4, x5, x6, x7, x8, x9, x10, x11, xf⟩, ⟨hc2, hC2⟩, _, _, _⟩ := hs.open
 have HRN := Aside0.mk (fun W (hW : Below w.heap.size w W) => spec_l10Renew.calls k An [n] A2 c2 s.set lo bt.1 bt.2 W (hrn W (below_then hb hbw hW)) (Kd.C_below hC2 hW) hc2 hbt |>.mono fun e w' he => (by obtain ⟨v0, v1, e1, e2, e3, e4⟩ := he; exact ⟨v0, v1, e1, Kd.R_lower e2 hW.size, Kd.R_lower e3 hW.size, below_then hW hW.size e4, e4⟩ : ∃ v0 v1 : Value, e = .returned (.agg #[v0, v1]) ∧ Kd.R (Kd.int .i64) 2 w' w.heap.size (fun _ => True) v0 bt.1 ∧ Kd.R k75 75 w' w.heap.size (fun _ => True) v1 bt.2 ∧ Below w.heap.size w w' ∧ Below W.heap.size W w'))
 have HB := Aside0.mk hb
 have HS := Aside0.mk hs
 have HPP := Aside0.mk hp
 have HBW := Aside0.mk hbw
 have HH := Aside0.mk h
 have HSUM := Aside0.mk hsu
 have HOWN := Aside0.mk (show spec_l00Own.f s.set = some s.set by unfold spec_l00Own.f; simp only [Option.bind_some, List.length_nil, List.nil_append]; rw [if_pos (by omega)])
 clear hb hs hp hc2 hC2 hl hbw h hsu hbt
 have hxp : ¬ w.heap.size = p := fun e => by have := StQ.size HS.out; omega
 have X0 := fun o => cell_al x0 o
 have X2 := fun o => cell_al x2 o
 have X5 := fun o => cell_al x5 o
 go_enter Try.func78, Try.ntmps78
 go_upto_region 1 with fail
 go_cut [6] (fun s6 wx => ∃ g A8 c8 A9 c9, s6 = .pointer (some ⟨g, 0, none⟩) ∧ Aside0 (Below w.heap.size w wx) ∧ Aside0 (wx.heap[g]? = some (.cells #[.slice A8 bt.1.length c8, .slice A9 bt.2.length c9] 59 (0, 0))) ∧ Aside0 (bt.1.length ≤ c8 ∧ Kd.C (Kd.int .i64) wx A8 bt.1.length bt.1) ∧ Aside0 (bt.2.length ≤ c9 ∧ Kd.C k75 wx A9 bt.2.length bt.2))
 case first =>
  go_region_held3 (fun W_ => W_.cell? ⟨p, 0, none⟩ = some (.pointer An) ∧ W_.cell? ⟨p, 2, none⟩ = some (.int .i64 lo) ∧ W_.cell? ⟨p, 5, none⟩ = some (.slice A2 s.set.length c2)) (first | (exact ⟨x0, x2, x5⟩) | (exact ⟨X0 _, X2 _, X5 _⟩) | (exact ⟨y0, y2, y5⟩) | (exact ⟨Y0 _, Y2 _, Y5 _⟩) | go_keep) (first | (go_at_call 117; refine (HRN.out _ (by repeat (first | exact Below.refl _ _ | apply pw_below_drewN | apply below_drew | apply below_alloc))).mono ?_; rintro e w1 ⟨v0, v1, rfl, hRa, hRb, hb1, hb2⟩; (try (have hJ : w1.heap[w.heap.size]? = some (.cells #[.slice none 0 0, .slice none 0 0] 59 (0, 0)) := blk_below (blk_drew (blk_new w (.cells #[.slice none 0 0, .slice none 0 0] 59))) hb2; obtain ⟨j0, j1, jf⟩ := cells2 hJ; have HJ := Aside0.mk hJ; clear hJ)); clear hb2; obtain ⟨A8, c8, e8⟩ := Kd.R_slice hRa; subst e8; obtain ⟨A9, c9, e9⟩ := Kd.R_slice hRb; subst e9; have y0 := pw_cell_below hb1 x0; have y2 := pw_cell_below hb1 x2; have y5 := pw_cell_below hb1 x5; have Y0 := fun o => cell_al y0 o; have Y2 := fun o => cell_al y2 o; have Y5 := fun o => cell_al y5 o; have HB1 := Aside0.mk hb1; have HRa := Aside0.mk hRa; have HRb := Aside0.mk hRb; clear hb1 hRa hRb))
  all_goals (go_wp2_with fail; go_meet)
  case rel => exact ⟨_, A8, c8, A9, c9, rfl, ⟨below_alloc HB1.out _⟩, ⟨blk_new w1 _⟩, ⟨(Kd.R_reads' HRa.out).2.1, Kd.C_alloc (Kd.R_reads' HRa.out).2.2 _⟩, ⟨(Kd.R_reads' HRb.out).2.1, Kd.C_alloc (Kd.R_reads' HRb.out).2.2 _⟩⟩
  case rel =>
   have hJ2 := blk_set HJ.out 0 (.slice A8 bt.1.length c8)
   have hRa2 := Kd.R_set (Kd.R_set HRa.out HJ.out (ne_int (by decide)) 0 (.slice A8 bt.1.length c8)) hJ2 (ne_int (by decide)) 1 (.slice A9 bt.2.length c9)
   have hRb2 := Kd.R_set (Kd.R_set HRb.out HJ.out ne_pipe 0 (.slice A8 bt.1.length c8)) hJ2 ne_pipe 1 (.slice A9 bt.2.length c9)
   exact ⟨_, A8, c8, A9, c9, rfl, ⟨sput (sput HB1.out (Nat.le_refl _) 0 _) (Nat.le_refl _) 1 _⟩, ⟨blk_set hJ2 1 _⟩, ⟨(Kd.R_reads' hRa2).2.1, (Kd.R_reads' hRa2).2.2⟩, ⟨(Kd.R_reads' hRb2).2.1, (Kd.R_reads' hRb2).2.2⟩⟩
 case rest =>
  obtain ⟨g, A8, c8, A9, c9, rfl, hBc, hGc, hAc, hPc⟩ := hcut
  have hS1 := HS.out.below hBc.out
  have HSU := Aside0.mk (fun W (hW : Below wc.heap.size wc W) => spec_l10Sum.calls k (some ⟨g, 0, none⟩) [⟨bt.1, bt.2⟩] wa gr sum W (Kd.C_blk (blk_below hGc.out hW) (k59_mk _ ⟨bt.1, bt.2⟩ hAc.out.1 (Kd.C_below hAc.out.2 hW) hPc.out.1 (Kd.C_below hPc.out.2 hW)) rfl) HSUM.out)
  have hB1 := pw_below_drewN (below_then HB.out HBW.out hBc.out)
  have hW1 := Nat.le_trans HBW.out hBc.out.size
  clear x0 x1 x2 x3 x4 x5 x6 x7 x8 x9 x10 x11 xf X0 X2 X5 hxp HB HBW HS
  obtain ⟨A2, c2, A3, c3, ⟨x0, x1, x2, x3, x4, x5, x6, x7, x8, x9, x10, x11, xf⟩, _⟩ := hS1.open
  go_wp2
  go_quiet (first | (go_at_call 118; refine (HSU.out _ (by repeat (first | exact Below.refl _ _ | apply pw_below_drewN | apply below_drew))).mono ?_; rintro e w' ⟨rfl, ⟨⟨nd, rfl⟩⟩⟩; (first | (with_reducible exact ⟨rfl, _, World.drewN_drewN _ _ _⟩) | exact ⟨rfl, _, rfl⟩)))
  replace hB1 := hB1 nq
  replace hS1 := hS1.below (pw_below_drewN (Below.refl _ _) nq)
  replace hW1 : b0 ≤ (wc.drewN nq).heap.size := hW1
  clear x0 x1 x2 x3 x4 x5 x6 x7 x8 x9 x10 x11 xf HSU hAc hPc hGc hBc
  generalize wc.drewN nq = w9 at hB1 hS1 hW1 ⊢
  have HB := Aside0.mk hB1
  have HBW := Aside0.mk hW1
  have HS := Aside0.mk hS1
  clear hB1 hW1
  obtain ⟨A2, c2, A3, c3, ⟨x0, x1, x2, x3, x4, x5, x6, x7, x8, x9, x10, x11, xf⟩, ⟨hc2, hC2⟩, ⟨hc3, hC3⟩, hP, hR⟩ := hS1.open
  have HR := Aside0.mk hR
  have HP := Aside0.mk hP
  have HC2 := Aside0.mk hc2
  have HC3 := Aside0.mk hc3
  have HHC := Aside0.mk (⟨hC2, hC3⟩ : Kd.C (Kd.int .i64) w9 A2 s.set.length s.set ∧ Kd.C (Kd.int .i64) w9 A3 s.best.length s.best)
  have h := HH.out
  clear HH hR hP hc2 hc3 hC2 hC3 hS1
  cases q1 : s.found with
  | true =>
   rw [if_pos q1] at h
   rw [q1] at x8
   by_cases q3 : sum < s.least
   ·
    rw [if_pos q3] at h
    have z3 : decide (sum < s.least) = true := decide_eq_true q3
    obtain rfl := Option.some.inj h
    clear h q3
    go_wp2
    go_quiet (fail)
    have hPa := blk_set (show (w9.drewN nq).heap[p]? = _ from HP.out) 8 (.bool true)
    have hPb := blk_set hPa 7 (.int .i64 sum)
    have HRW := Aside0.mk (((HR.out.drewN nq).set HP.out (by decide) 8 (.bool true)).set hPa (by decide) 7 (.int .i64 sum))
    have HWW := Aside0.mk (show b0 ≤ (((w9.drewN nq).setCell ⟨p, 8, none⟩ (.bool true)).setCell ⟨p, 7, none⟩ (.int .i64 sum)).heap.size by simp; exact HBW.out)
    have HPb := Aside0.mk hPb
    clear hPa hPb
    go_wp2_with (go_at_call 101; refine (spec_l00Own.calls A2 c2 s.set s.set _ (Kd.R_reads' HRW.out.1).2.2 HC2.out HOWN.out).mono ?_; rintro e w2 ⟨v, rfl, hRn, hb2⟩; obtain ⟨A9, c9, e9⟩ := Kd.R_slice hRn; subst e9; have hP2 := blk_below HPb.out hb2; obtain ⟨u0, u1, u2, u3, u4, u5, u6, u7, u8, u9, u10, u11, uf⟩ := cells12 hP2; have HRn := Aside0.mk hRn; have HB2 := Aside0.mk hb2; have HP2 := Aside0.mk hP2; clear hRn hb2 hP2)
    ((try simp only [Exit.inBlock, Exit.then]); first | (refine bodyPost_ret (results_none rfl _ _ _) rfl ?_) | (refine bodyPost_end (results_none rfl _ _ _) rfl ?_))
    exact ⟨rfl, sput (below_then (sput (sput (pw_below_drewN HB.out nq) HPP.out 8 (.bool true)) HPP.out 7 (.int .i64 sum)) HWW.out HB2.out) HPP.out 6 _, by simp; exact Nat.le_trans HWW.out HB2.out.size, StQ.put_best (s := ⟨s.set, s.best, sum, true, s.nodes, s.budget, s.full⟩) HP2.out (HRW.out.clone HRn.out HB2.out HWW.out) rfl⟩
   ·
    rw [if_neg q3] at h
    have z3 : decide (sum < s.least) = false := decide_eq_false q3
    by_cases q4 : sum = s.least
    ·
     rw [if_pos q4] at h
     have z4 : (sum == s.least) = true := by simpa using q4
     obtain ⟨c, hcm, h5⟩ := Option.bind_eq_some_iff.1 h
     have HCM := Aside0.mk (fun W (hW : Below w9.heap.size w9 W) => spec_l08Before.calls k A2 c2 s.set A3 c3 s.best c W (Kd.C_below HHC.out.1 hW) HC2.out (Kd.C_below HHC.out.2 hW) HC3.out hcm)
     clear h hcm q3 q4
     cases c with
     | true =>
      rw [if_pos rfl] at h5
      obtain rfl := Option.some.inj h5
      clear h5
      go_wp2
      go_quiet (first | (go_at_call 100; refine (HCM.out _ (pw_below_drewN (Below.refl _ _) _)).mono ?_; rintro e w' ⟨rfl, ⟨⟨nd, rfl⟩⟩⟩; (first | (with_reducible exact ⟨rfl, _, World.drewN_drewN _ _ _⟩) | exact ⟨rfl, _, rfl⟩)))
      have hPa := blk_set (show (w9.drewN nq).heap[p]? = _ from HP.out) 8 (.bool true)
      have hPb := blk_set hPa 7 (.int .i64 sum)
      have HRW := Aside0.mk (((HR.out.drewN nq).set HP.out (by decide) 8 (.bool true)).set hPa (by decide) 7 (.int .i64 sum))
      have HWW := Aside0.mk (show b0 ≤ (((w9.drewN nq).setCell ⟨p, 8, none⟩ (.bool true)).setCell ⟨p, 7, none⟩ (.int .i64 sum)).heap.size by simp; exact HBW.out)
      have HPb := Aside0.mk hPb
      clear hPa hPb
      go_wp2_with (go_at_call 101; refine (spec_l00Own.calls A2 c2 s.set s.set _ (Kd.R_reads' HRW.out.1).2.2 HC2.out HOWN.out).mono ?_; rintro e w2 ⟨v, rfl, hRn, hb2⟩; obtain ⟨A9, c9, e9⟩ := Kd.R_slice hRn; subst e9; have hP2 := blk_below HPb.out hb2; obtain ⟨u0, u1, u2, u3, u4, u5, u6, u7, u8, u9, u10, u11, uf⟩ := cells12 hP2; have HRn := Aside0.mk hRn; have HB2 := Aside0.mk hb2; have HP2 := Aside0.mk hP2; clear hRn hb2 hP2)
      ((try simp only [Exit.inBlock, Exit.then]); first | (refine bodyPost_ret (results_none rfl _ _ _) rfl ?_) | (refine bodyPost_end (results_none rfl _ _ _) rfl ?_))
      exact ⟨rfl, sput (below_then (sput (sput (pw_below_drewN HB.out nq) HPP.out 8 (.bool true)) HPP.out 7 (.int .i64 sum)) HWW.out HB2.out) HPP.out 6 _, by simp; exact Nat.le_trans HWW.out HB2.out.size, StQ.put_best (s := ⟨s.set, s.best, sum, true, s.nodes, s.budget, s.full⟩) HP2.out (HRW.out.clone HRn.out HB2.out HWW.out) rfl⟩
     | false =>
      rw [if_neg (by decide)] at h5
      obtain rfl := Option.some.inj h5
      clear h5
      go_wp2
      go_quiet (first | (go_at_call 100; refine (HCM.out _ (pw_below_drewN (Below.refl _ _) _)).mono ?_; rintro e w' ⟨rfl, ⟨⟨nd, rfl⟩⟩⟩; (first | (with_reducible exact ⟨rfl, _, World.drewN_drewN _ _ _⟩) | exact ⟨rfl, _, rfl⟩)))
      go_wp2
      ((try simp only [Exit.inBlock, Exit.then]); first | (refine bodyPost_ret (results_none rfl _ _ _) rfl ?_) | (refine bodyPost_end (results_none rfl _ _ _) rfl ?_))
      exact ⟨rfl, pw_below_drewN HB.out _, HBW.out, HS.out.below (pw_below_drewN (Below.refl _ _) _)⟩
    ·
     rw [if_neg q4] at h
     have z4 : (sum == s.least) = false := by simpa using q4
     obtain rfl := Option.some.inj h
     clear h q3 q4
     go_wp2
     go_quiet (fail)
     go_wp2
     ((try simp only [Exit.inBlock, Exit.then]); first | (refine bodyPost_ret (results_none rfl _ _ _) rfl ?_) | (refine bodyPost_end (results_none rfl _ _ _) rfl ?_))
     exact ⟨rfl, pw_below_drewN HB.out _, HBW.out, HS.out.below (pw_below_drewN (Below.refl _ _) _)⟩
  | false =>
   rw [if_neg (by rw [q1]; decide)] at h
   rw [q1] at x8
   obtain rfl := Option.some.inj h
   clear h
   go_wp2
   go_quiet (fail)
   have hPa := blk_set (show (w9.drewN nq).heap[p]? = _ from HP.out) 8 (.bool true)
   have hPb := blk_set hPa 7 (.int .i64 sum)
   have HRW := Aside0.mk (((HR.out.drewN nq).set HP.out (by decide) 8 (.bool true)).set hPa (by decide) 7 (.int .i64 sum))
   have HWW := Aside0.mk (show b0 ≤ (((w9.drewN nq).setCell ⟨p, 8, none⟩ (.bool true)).setCell ⟨p, 7, none⟩ (.int .i64 sum)).heap.size by simp; exact HBW.out)
   have HPb := Aside0.mk hPb
   clear hPa hPb
   go_wp2_with (go_at_call 101; refine (spec_l00Own.calls A2 c2 s.set s.set _ (Kd.R_reads' HRW.out.1).2.2 HC2.out HOWN.out).mono ?_; rintro e w2 ⟨v, rfl, hRn, hb2⟩; obtain ⟨A9, c9, e9⟩ := Kd.R_slice hRn; subst e9; have hP2 := blk_below HPb.out hb2; obtain ⟨u0, u1, u2, u3, u4, u5, u6, u7, u8, u9, u10, u11, uf⟩ := cells12 hP2; have HRn := Aside0.mk hRn; have HB2 := Aside0.mk hb2; have HP2 := Aside0.mk hP2; clear hRn hb2 hP2)
   ((try simp only [Exit.inBlock, Exit.then]); first | (refine bodyPost_ret (results_none rfl _ _ _) rfl ?_) | (refine bodyPost_end (results_none rfl _ _ _) rfl ?_))
   exact ⟨rfl, sput (below_then (sput (sput (pw_below_drewN HB.out nq) HPP.out 8 (.bool true)) HPP.out 7 (.int .i64 sum)) HWW.out HB2.out) HPP.out 6 _, by simp; exact Nat.le_trans HWW.out HB2.out.size, StQ.put_best (s := ⟨s.set, s.best, sum, true, s.nodes, s.budget, s.full⟩) HP2.out (HRW.out.clone HRn.out HB2.out HWW.out) rfl⟩
-- @cut
set_option maxHeartbeats 8000000 in
set_option maxRecDepth 100000 in
theorem runQ_s.calls (k : Nat) (b0 : Nat) (w0 : World) (An : Option Addr) (Ac : Option Addr) (cc : Nat) (lo wa gr : Int) (n : S59) (cs : List Int) (hxl : cs.length ≤ 1000) (hrn : ∀ W, Below b0 w0 W → Kd.C k59 W An 1 [n]) (hrc : ∀ W, Below b0 w0 W → Kd.C (Kd.int .i64) W Ac cs.length cs) (p : Nat) (hp : b0 ≤ p) (d i : Nat) (hi : i + (d + 1) = cs.length)
  (ih : ∀ (m : Int) (s s' : SVQ) (w : World), runQ k n cs lo wa gr d m s = some s' → Below b0 w0 w → b0 ≤ w.heap.size → StQ w b0 p An Ac cs.length cc lo wa gr s → s.set.length + d ≤ cs.length → Calls Try.prog 78 #[.pointer (some ⟨p, 0, none⟩), .int .i64 ((i : Int) + 1), .int .i64 m] w fun e w' => e = .returned (.tuple #[]) ∧ Below b0 w0 w' ∧ b0 ≤ w'.heap.size ∧ StQ w' b0 p An Ac cs.length cc lo wa gr s')
  (m : Int) (s s' : SVQ) (w : World) (h : runQ k n cs lo wa gr (d + 1) m s = some s') (hb : Below b0 w0 w) (hbw : b0 ≤ w.heap.size) (hs : StQ w b0 p An Ac cs.length cc lo wa gr s) (hl : s.set.length + (d + 1) ≤ cs.length) :
  Calls Try.prog 78 #[.pointer (some ⟨p, 0, none⟩), .int .i64 (i : Int), .int .i64 m] w fun e w' => e = .returned (.tuple #[]) ∧ Below b0 w0 w' ∧ b0 ≤ w'.heap.size ∧ StQ w' b0 p An Ac cs.length cc lo wa gr s' := by
 have hset := runQ_set k n cs lo wa gr
 unfold runQ at h
 rw [show cs.length - (d + 1) = i by omega] at h
 have HI0 := Aside0.mk (show (0 : Int) ≤ (i : Int) by omega)
 have HI1 := Aside0.mk (show (i : Int) < (cs.length : Int) by omega)
 obtain ⟨adc, eC, kc⟩ := Kd.at_int (hrc w hb) (i : Int) HI0.out HI1.out
 subst eC
 rw [Int.toNat_natCast] at kc
 obtain ⟨A2, c2, A3, c3, ⟨x0, x1, x2, x3, x4, x5, x6, x7, x8, x9, x10, x11, xf⟩, _, _, hP, hR⟩ := hs.open
 have HRC := Aside0.mk hrc
 have HKC := Aside0.mk (fun W (hW : Below b0 w0 W) => (by obtain ⟨a', e', k'⟩ := Kd.at_int (HRC.out W hW) (i : Int) HI0.out HI1.out; injection e' with e'; subst e'; rw [Int.toNat_natCast] at k'; exact k' : W.cell? (adc.add i) = some (.int .i64 (rd cs (i : Int)))))
 have z0 : ((i : Int) == (cs.length : Int)) = false := by simp; omega
 have z2 := eq_true HI0.out
 have z3 := eq_true HI1.out
 have HB := Aside0.mk hb
 have HS := Aside0.mk hs
 have HPP := Aside0.mk hp
 have HI := Aside0.mk hi
 have HXL := Aside0.mk hxl
 have HL := Aside0.mk hl
 have IH := Aside0.mk ih
 have HBW := Aside0.mk hbw
 have HSET := Aside0.mk hset
 have hw1 : IntKind.i64.wrap ((i : Int) + 1) = (i : Int) + 1 := IntWalk.i64_in _ (by omega)
 have hw2 : wrap64 ((i : Int) + 1) = (i : Int) + 1 := by unfold wrap64; omega
 obtain ⟨q, hq, h1⟩ := Option.bind_eq_some_iff.1 h
 clear h hb hs hp hP hR hi hxl hl ih hbw hset hrn hrc
 by_cases qm : rd cs (i : Int) ≤ m
 ·
  rw [if_pos qm] at hq
  have zm : decide (rd cs (i : Int) ≤ m) = true := decide_eq_true qm
  clear qm
  cases hN : nodeQB s with
  | true =>
   rw [if_pos hN] at hq
   obtain ⟨s2, hrec, hq2⟩ := Option.bind_eq_some_iff.1 hq
   obtain rfl := Option.some.inj hq2
   have hbu := HSET.out _ _ _ _ hrec
   simp only at hbu
   rw [nodeQS_set] at hbu
   have HLEN2 := Aside0.mk (show s2.set.length = s.set.length + 1 by rw [hbu, List.length_append]; rfl)
   have HREC := Aside0.mk hrec
   have H1 := Aside0.mk h1
   clear hq hq2 hbu hrec h1
   go_enter Try.func78, Try.ntmps78
   go_wp2_with (first | (go_at_call 119; refine (nodeQ.calls HB.out HBW.out HPP.out HS.out).mono ?_; rintro e w1 ⟨rfl, hb1, hw1_, hs1⟩; have HB1 := Aside0.mk hb1; have HW1 := Aside0.mk hw1_; have HS1 := Aside0.mk hs1; clear x0 x1 x2 x3 x4 x5 x6 x7 x8 x9 x10 x11 xf; obtain ⟨A4, c4, A5, c5, ⟨y0, y1, y2, y3, y4, y5, y6, y7, y8, y9, y10, y11, yf⟩, ⟨hc4, _⟩, _, hP1, hR1⟩ := hs1.open; have HP1 := Aside0.mk hP1; have HRa := Aside0.mk hR1; clear hb1 hw1_ hs1 hP1 hR1 hc4) | (at_builtin; refine Kd.R_append (Kd.int .i64) (w0 := w0) b0 rfl _ _ 24 2 (.int .i64 0) 8 rfl Try.underlying24 info2 rfl (by decide) (by omega) (.slice A4 (nodeQS s).set.length c4) (nodeQS s).set (i : Int) [.int .i64 (i : Int)] (fun k => some k ≠ (Value.slice A5 (nodeQS s).best.length c5).ownBlock) (fun _ => False) rfl rfl rfl (fun _ hk => hk.elim) (fun k hk e => (by have := Kd.R_lt HRa.out.2 k e.symm; omega)) HRa.out.1 HB1.out HW1.out (by have := HL.out; have := HXL.out; rw [nodeQS_set]; omega) ?_; intro v1 w2 ho hb2 hg hat; obtain ⟨A9, c9, e9⟩ := Kd.R_slice ho; rw [List.length_append, List.length_singleton] at e9; subst e9; have hP2 := blk_grown HP1.out hg (Kd.R_ne HRa.out.1 HP1.out (by decide)); have hR2 := HRa.out.append ho hg hat; obtain ⟨u0, u1, u2, u3, u4, u5, u6, u7, u8, u9, u10, u11, uf⟩ := cells12 hP2; have hS3 := StQ.put_set (s := nodeQS s) hP2 hR2 (show (nodeQS s).set.length + 1 = ((nodeQS s).set ++ [(i : Int)]).length by simp); have hB3 := sput hb2 HPP.out 5 (.slice A9 ((nodeQS s).set.length + 1) c9); have hW3 : b0 ≤ (w2.setCell ⟨p, 5, none⟩ (.slice A9 ((nodeQS s).set.length + 1) c9)).heap.size := (by simp; exact Nat.le_trans HW1.out hg.size); have hh2 := HKC.out _ hB3; have HB3 := Aside0.mk hB3; have HS3 := Aside0.mk hS3; have HW3 := Aside0.mk hW3; obtain ⟨_, _, _, _, ⟨v0, v1_, v2, v3, v4, v5, v6, v7, v8, v9, v10, v11, vf⟩, _, _, _, _⟩ := hS3.open; clear ho hb2 hg hat hP2 hR2 hB3 hS3 hW3) | (go_at_call 78; (try simp only [Go.IntWalk.i64_left, hw1, hw2]); refine (IH.out (wrap64 (m - rd cs (i : Int))) _ s2 _ HREC.out HB3.out HW3.out HS3.out (by have := HL.out; simp only [List.length_append, List.length_cons, List.length_nil, nodeQS_set]; omega)).mono ?_; rintro e w5 ⟨rfl, hb5, hw5, hs5⟩; obtain ⟨A6, c6, A7, c7, ⟨t0, t1, t2, t3, t4, t5, t6, t7, t8, t9, t10, t11, tf⟩, ⟨hc6, _⟩, _, hP5, hR5⟩ := hs5.open; have HB5 := Aside0.mk hb5; have HW5 := Aside0.mk hw5; have HS5 := Aside0.mk hs5; have HP5 := Aside0.mk hP5; have HR5 := Aside0.mk hR5; have HC6 := Aside0.mk hc6; clear hb5 hw5 hs5 hP5 hR5 hc6))
   have hk0 : (0 : Int) ≤ (s2.set.length : Int) - 1 := by have := HLEN2.out; omega
   have hk1 : (s2.set.length : Int) - 1 ≤ (s2.set.length : Int) := by omega
   have hk2 : (s2.set.length : Int) - 1 ≤ (c6 : Int) := by have := HC6.out; omega
   obtain ⟨g6, rfl⟩ := HR5.out.some (by have := HLEN2.out; omega)
   have hw3 : IntKind.i64.wrap ((s2.set.length : Int) - 1) = (s2.set.length : Int) - 1 := IntWalk.i64_in _ (by have := HLEN2.out; have := HL.out; have := HXL.out; omega)
   clear u0 u1 u2 u3 u4 u5 u6 u7 u8 u9 u10 u11 uf v0 v1_ v2 v3 v4 v5 v6 v7 v8 v9 v10 v11 vf hh2 y0 y1 y2 y3 y4 y5 y6 y7 y8 y9 y10 y11 yf
   go_region
   have hS6 := (StQ.put_set (s := s2) HP5.out (HR5.out.cut (m := s2.set.length - 1) (by omega)) (show s2.set.length - 1 = (s2.set.take (s2.set.length - 1)).length by rw [List.length_take]; omega)).below (below_drew (Below.refl _ _))
   have hB6 := below_drew (sput HB5.out HPP.out 5 (.slice (some ⟨g6, 0, none⟩) (s2.set.length - 1) c6))
   have hW6 : b0 ≤ (w5.setCell ⟨p, 5, none⟩ (.slice (some ⟨g6, 0, none⟩) (s2.set.length - 1) c6)).drew.heap.size := by simp; exact HW5.out
   clear t0 t1 t2 t3 t4 t5 t6 t7 t8 t9 t10 t11 tf
   generalize (w5.setCell ⟨p, 5, none⟩ (.slice (some ⟨g6, 0, none⟩) (s2.set.length - 1) c6)).drew = w8 at hS6 hB6 hW6 ⊢
   have h1 := H1.out
   have hl3 : (⟨s2.set.take (s2.set.length - 1), s2.best, s2.least, s2.found, s2.nodes, s2.budget, s2.full⟩ : SVQ).set.length = s.set.length := by have := HLEN2.out; simp only [List.length_take]; omega
   generalize (⟨s2.set.take (s2.set.length - 1), s2.best, s2.least, s2.found, s2.nodes, s2.budget, s2.full⟩ : SVQ) = s3 at h1 hS6 hl3
   have HB6 := Aside0.mk hB6
   have HS6 := Aside0.mk hS6
   have HW6 := Aside0.mk hW6
   have HLEN := Aside0.mk (show s3.set.length + (d + 1) ≤ cs.length by have := HL.out; omega)
   clear hB6 hS6 hW6 H1 hl3
   cases hN2 : nodeQB s3 with
   | true =>
    rw [if_pos hN2] at h1
    have H := Aside0.mk h1
    clear h1
    go_wp2_with (first | (go_at_call 119; refine (nodeQ.calls HB6.out HW6.out HPP.out HS6.out).mono ?_; rintro e w6 ⟨rfl, hb1, hw1_, hs1⟩; have HB2 := Aside0.mk hb1; have HW2 := Aside0.mk hw1_; have HS2 := Aside0.mk hs1; clear hb1 hw1_ hs1) | (go_at_call 78; (try simp only [Go.IntWalk.i64_left, hw1, hw2]); refine (IH.out m _ s' _ H.out HB2.out HW2.out HS2.out (by have := HL.out; have := HLEN.out; rw [nodeQS_set]; omega)).mono ?_; rintro e w7 ⟨rfl, hb7, hw7, hs7⟩))
    ((try simp only [Exit.inBlock, Exit.then]); first | (refine bodyPost_ret (results_none rfl _ _ _) rfl ?_) | (refine bodyPost_end (results_none rfl _ _ _) rfl ?_))
    exact ⟨rfl, hb7, hw7, hs7⟩
   | false =>
    rw [if_neg (by rw [hN2]; decide)] at h1
    obtain rfl := Option.some.inj h1
    clear h1
    go_wp2_with (first | (go_at_call 119; refine (nodeQ.calls HB6.out HW6.out HPP.out HS6.out).mono ?_; rintro e w6 ⟨rfl, hb1, hw1_, hs1⟩; have HB2 := Aside0.mk hb1; have HW2 := Aside0.mk hw1_; have HS2 := Aside0.mk hs1; clear hb1 hw1_ hs1))
    ((try simp only [Exit.inBlock, Exit.then]); first | (refine bodyPost_ret (results_none rfl _ _ _) rfl ?_) | (refine bodyPost_end (results_none rfl _ _ _) rfl ?_))
    exact ⟨rfl, HB2.out, HW2.out, HS2.out⟩
  | false =>
   rw [if_neg (by rw [hN]; decide)] at hq
   obtain rfl := Option.some.inj hq
   clear hq
   have HLEN := Aside0.mk (show (nodeQS s).set.length + (d + 1) ≤ cs.length by rw [nodeQS_set]; exact HL.out)
   cases hN2 : nodeQB (nodeQS s) with
   | true =>
    rw [if_pos hN2] at h1
    have H := Aside0.mk h1
    clear h1
    go_enter Try.func78, Try.ntmps78
    go_wp2_with (first | (go_at_call 119; refine (nodeQ.calls HB.out HBW.out HPP.out HS.out).mono ?_; rintro e w1 ⟨rfl, hb1, hw1_, hs1⟩; have HB1 := Aside0.mk hb1; have HW1 := Aside0.mk hw1_; have HS1 := Aside0.mk hs1; clear x0 x1 x2 x3 x4 x5 x6 x7 x8 x9 x10 x11 xf; obtain ⟨A4, c4, A5, c5, ⟨y0, y1, y2, y3, y4, y5, y6, y7, y8, y9, y10, y11, yf⟩, _, _, _, _⟩ := hs1.open; clear hb1 hw1_ hs1) | (go_at_call 119; refine (nodeQ.calls HB1.out HW1.out HPP.out HS1.out).mono ?_; rintro e w6 ⟨rfl, hb1, hw1_, hs1⟩; have HB2 := Aside0.mk hb1; have HW2 := Aside0.mk hw1_; have HS2 := Aside0.mk hs1; clear hb1 hw1_ hs1) | (go_at_call 78; (try simp only [Go.IntWalk.i64_left, hw1, hw2]); refine (IH.out m _ s' _ H.out HB2.out HW2.out HS2.out (by have := HL.out; have := HLEN.out; rw [nodeQS_set]; omega)).mono ?_; rintro e w7 ⟨rfl, hb7, hw7, hs7⟩))
    ((try simp only [Exit.inBlock, Exit.then]); first | (refine bodyPost_ret (results_none rfl _ _ _) rfl ?_) | (refine bodyPost_end (results_none rfl _ _ _) rfl ?_))
    exact ⟨rfl, hb7, hw7, hs7⟩
   | false =>
    rw [if_neg (by rw [hN2]; decide)] at h1
    obtain rfl := Option.some.inj h1
    clear h1
    go_enter Try.func78, Try.ntmps78
    go_wp2_with (first | (go_at_call 119; refine (nodeQ.calls HB.out HBW.out HPP.out HS.out).mono ?_; rintro e w1 ⟨rfl, hb1, hw1_, hs1⟩; have HB1 := Aside0.mk hb1; have HW1 := Aside0.mk hw1_; have HS1 := Aside0.mk hs1; clear x0 x1 x2 x3 x4 x5 x6 x7 x8 x9 x10 x11 xf; obtain ⟨A4, c4, A5, c5, ⟨y0, y1, y2, y3, y4, y5, y6, y7, y8, y9, y10, y11, yf⟩, _, _, _, _⟩ := hs1.open; clear hb1 hw1_ hs1) | (go_at_call 119; refine (nodeQ.calls HB1.out HW1.out HPP.out HS1.out).mono ?_; rintro e w6 ⟨rfl, hb1, hw1_, hs1⟩; have HB2 := Aside0.mk hb1; have HW2 := Aside0.mk hw1_; have HS2 := Aside0.mk hs1; clear hb1 hw1_ hs1))
    ((try simp only [Exit.inBlock, Exit.then]); first | (refine bodyPost_ret (results_none rfl _ _ _) rfl ?_) | (refine bodyPost_end (results_none rfl _ _ _) rfl ?_))
    exact ⟨rfl, HB2.out, HW2.out, HS2.out⟩
 ·
  rw [if_neg qm] at hq
  have zm : decide (rd cs (i : Int) ≤ m) = false := decide_eq_false qm
  obtain rfl := Option.some.inj hq
  clear hq qm
  have HLEN := Aside0.mk (show s.set.length + (d + 1) ≤ cs.length by exact HL.out)
  cases hN2 : nodeQB s with
  | true =>
   rw [if_pos hN2] at h1
   have H := Aside0.mk h1
   clear h1
   go_enter Try.func78, Try.ntmps78
   go_wp2_with (first | (go_at_call 119; refine (nodeQ.calls HB.out HBW.out HPP.out HS.out).mono ?_; rintro e w6 ⟨rfl, hb1, hw1_, hs1⟩; have HB2 := Aside0.mk hb1; have HW2 := Aside0.mk hw1_; have HS2 := Aside0.mk hs1; clear hb1 hw1_ hs1) | (go_at_call 78; (try simp only [Go.IntWalk.i64_left, hw1, hw2]); refine (IH.out m _ s' _ H.out HB2.out HW2.out HS2.out (by have := HL.out; have := HLEN.out; rw [nodeQS_set]; omega)).mono ?_; rintro e w7 ⟨rfl, hb7, hw7, hs7⟩))
   ((try simp only [Exit.inBlock, Exit.then]); first | (refine bodyPost_ret (results_none rfl _ _ _) rfl ?_) | (refine bodyPost_end (results_none rfl _ _ _) rfl ?_))
   exact ⟨rfl, hb7, hw7, hs7⟩
  | false =>
   rw [if_neg (by rw [hN2]; decide)] at h1
   obtain rfl := Option.some.inj h1
   clear h1
   go_enter Try.func78, Try.ntmps78
   go_wp2_with (first | (go_at_call 119; refine (nodeQ.calls HB.out HBW.out HPP.out HS.out).mono ?_; rintro e w6 ⟨rfl, hb1, hw1_, hs1⟩; have HB2 := Aside0.mk hb1; have HW2 := Aside0.mk hw1_; have HS2 := Aside0.mk hs1; clear hb1 hw1_ hs1))
   ((try simp only [Exit.inBlock, Exit.then]); first | (refine bodyPost_ret (results_none rfl _ _ _) rfl ?_) | (refine bodyPost_end (results_none rfl _ _ _) rfl ?_))
   exact ⟨rfl, HB2.out, HW2.out, HS2.out⟩
theorem runQ.calls (k : Nat) (b0 : Nat) (w0 : World) (An : Option Addr) (Ac : Option Addr) (cc : Nat) (lo wa gr : Int) (n : S59) (cs : List Int) (hxl : cs.length ≤ 1000) (hrn : ∀ W, Below b0 w0 W → Kd.C k59 W An 1 [n]) (hrc : ∀ W, Below b0 w0 W → Kd.C (Kd.int .i64) W Ac cs.length cs) (p : Nat) (hp : b0 ≤ p) : ∀ (d i : Nat), i + d = cs.length → ∀ (m : Int) (s s' : SVQ) (w : World), runQ k n cs lo wa gr d m s = some s' → Below b0 w0 w → b0 ≤ w.heap.size → StQ w b0 p An Ac cs.length cc lo wa gr s → s.set.length + d ≤ cs.length → Calls Try.prog 78 #[.pointer (some ⟨p, 0, none⟩), .int .i64 (i : Int), .int .i64 m] w fun e w' => e = .returned (.tuple #[]) ∧ Below b0 w0 w' ∧ b0 ≤ w'.heap.size ∧ StQ w' b0 p An Ac cs.length cc lo wa gr s'
 | 0, i, hi, m, s, s', w, h, hb, hw, hs, hl => by
  have e : i = cs.length := by omega
  subst e
  exact runQ_0.calls k b0 w0 An Ac cc lo wa gr n cs hrn m s s' w p h hb hw hp hs (by omega)
 | d + 1, i, hi, m, s, s', w, h, hb, hw, hs, hl =>
  runQ_s.calls k b0 w0 An Ac cc lo wa gr n cs hxl hrn hrc p hp d i hi (fun m s s' w h hb hw hs hl => by
   have := runQ.calls k b0 w0 An Ac cc lo wa gr n cs hxl hrn hrc p hp d (i + 1) (by omega) m s s' w h hb hw hs hl
   rwa [show ((i + 1 : Nat) : Int) = (i : Int) + 1 by omega] at this) m s s' w h hb hw hs hl
-- @cut
/-- Whether the numbers are in their bounds. -/
def okS (l0_1 : List S75) (l1 : List Int) (a2 a3 a4 a5 a6 : Int) : Option Bool :=
 if l1.length = l0_1.length then
  ((spec_l00In.f a2 0 5000).bind fun q1 => if q1 = true then
   ((spec_l00In.f a3 0 1000000000).bind fun q2 => if q2 = true then
    ((spec_l03Degrees.f a4).bind fun q3 => if q3 = true then
     ((spec_l03Degrees.f a5).bind fun q4 => if q4 = true then spec_l00In.f a6 1 20000 else some false)
    else some false)
   else some false)
  else some false)
 else some false
def okL (cs : List Int) : Nat → Bool → Option Bool
 | 0, ok => some ok
 | d + 1, ok => if ok = true then (spec_l00In.f (rd cs ((cs.length - (d + 1) : Nat) : Int)) 0 1000000000).bind fun q => okL cs d q else some false
def spec_BestRenewal.f (k : Nat) (l0_0 : List Int) (l0_1 : List S75) (l1 : List Int) (a2 a3 a4 a5 a6 : Int) : Option (List Int × Int × Int) :=
 (spec_l04Ok.f k [⟨l0_0, l0_1⟩]).bind fun v => if v = true then
  (if l1.length ≤ 1048576 then ((okS l0_1 l1 a2 a3 a4 a5 a6).bind fun ok => (okL l1 l1.length ok).bind fun ok2 => if ok2 = true then
   (if l1.length ≤ 1000 then ((runQ k ⟨l0_0, l0_1⟩ l1 a2 a4 a5 l1.length a3 ⟨[], [], 0, false, 0, a6, false⟩).bind fun s => if s.full = true then some ([], 0, 5) else some (s.best, s.least, 0)) else none)
  else some ([], 0, 2)) else none)
 else some ([], 0, 1)
theorem spec_BestRenewal.mono : ∀ a0 a1 a2 a3 a4 a5 a6 a7 k, LeO (spec_BestRenewal.f k a0 a1 a2 a3 a4 a5 a6 a7) (spec_BestRenewal.f (k + 1) a0 a1 a2 a3 a4 a5 a6 a7) := fun a0 a1 a2 a3 a4 a5 a6 a7 k =>
 LeO.bind (spec_l04Ok.mono _ k) (fun _ => LeO.ite (LeO.ite (LeO.bind (LeO.refl _) (fun _ => LeO.bind (LeO.refl _) (fun _ => LeO.ite (LeO.ite (LeO.bind (runQ_mono k _ _ _ _ _ _ _ _) (fun _ => LeO.refl _)) (LeO.refl _)) (LeO.refl _)))) (LeO.refl _)) (LeO.refl _))
-- @cut
set_option maxHeartbeats 8000000 in
set_option maxRecDepth 100000 in
theorem spec_BestRenewal.calls (k : Nat) (A0_0 : Option Addr) (c0_0 : Nat) (l0_0 : List Int) (A0_1 : Option Addr) (c0_1 : Nat) (l0_1 : List (S75)) (A1 : Option Addr) (c1 : Nat) (l1 : List Int) (a2 : Int) (a3 : Int) (a4 : Int) (a5 : Int) (a6 : Int) (r1 : List Int) (r2 : Int) (r3 : Int) (w : World) (hr0_0 : Kd.C (Kd.int .i64) w A0_0 l0_0.length l0_0) (hc0_0 : l0_0.length ≤ c0_0) (hr0_1 : Kd.C k75 w A0_1 l0_1.length l0_1) (hc0_1 : l0_1.length ≤ c0_1) (hr1 : Kd.C (Kd.int .i64) w A1 l1.length l1) (hc1 : l1.length ≤ c1) (h : spec_BestRenewal.f k l0_0 l0_1 l1 a2 a3 a4 a5 a6 = some (r1, r2, r3)) :
  Calls Try.prog 27 #[.agg #[.slice A0_0 l0_0.length c0_0, .slice A0_1 l0_1.length c0_1], .slice A1 l1.length c1, .int .i64 a2, .int .i64 a3, .int .i64 a4, .int .i64 a5, .int .i64 a6] w fun e w' => ∃ v0_ : Value, e = .returned (.tuple #[v0_, .int .i64 r2, .int .i64 r3]) ∧ Kd.R (Kd.int .i64) 2 w' w.heap.size (fun _ => True) v0_ r1 ∧ Below w.heap.size w w' := by
 unfold spec_BestRenewal.f at h
 obtain ⟨v, hv, h1⟩ := Option.bind_eq_some_iff.1 h
 clear h
 have HV := Aside0.mk ((spec_l04Ok.calls k (some ⟨w.heap.size, 0, none⟩) [⟨l0_0, l0_1⟩] v (w.alloc (.cells #[.slice A0_0 l0_0.length c0_0, .slice A0_1 l0_1.length c0_1] 59)) (Kd.C_blk (blk_new w (.cells #[.slice A0_0 l0_0.length c0_0, .slice A0_1 l0_1.length c0_1] 59)) (k59_mk _ ⟨l0_0, l0_1⟩ hc0_0 (Kd.C_below hr0_0 (below_alloc (Below.refl _ _) _)) hc0_1 (Kd.C_below hr0_1 (below_alloc (Below.refl _ _) _))) rfl) hv).mono fun e w' he => (⟨he.1, below_then (below_alloc (Below.refl _ _) _) (below_alloc (Below.refl _ _) (.cells #[.slice A0_0 l0_0.length c0_0, .slice A0_1 l0_1.length c0_1] 59)).size he.2.below, blk_below (blk_new w (.cells #[.slice A0_0 l0_0.length c0_0, .slice A0_1 l0_1.length c0_1] 59)) he.2.below⟩ : e = .returned (.bool v) ∧ Below w.heap.size w w' ∧ w'.heap[w.heap.size]? = some (.cells #[.slice A0_0 l0_0.length c0_0, .slice A0_1 l0_1.length c0_1] 59 (0, 0))))
 have HR0 := Aside0.mk hr0_0
 have HC0 := Aside0.mk hc0_0
 have HR01 := Aside0.mk hr0_1
 have HC01 := Aside0.mk hc0_1
 have HR1 := Aside0.mk hr1
 have HC1 := Aside0.mk hc1
 clear hv hr0_0 hc0_0 hr0_1 hc0_1 hr1 hc1
 cases v with
 | false =>
  rw [if_neg (by decide)] at h1
  obtain ⟨rfl, h2⟩ := Prod.mk.inj (Option.some.inj h1)
  obtain ⟨rfl, rfl⟩ := Prod.mk.inj h2
  clear h1 h2
  go_enter Try.func27, Try.ntmps27
  go_wp2_with (first | (go_at_call 76; refine HV.out.mono ?_; rintro e w1 ⟨rfl, hB, hN⟩; have HB := Aside0.mk hB; clear hB; have HN := Aside0.mk hN; have n0 := (blk_cell hN 0).trans rfl; have n1 := (blk_cell hN 1).trans rfl; clear hN))
  refine bodyPost_ret (results_tmp3 rfl _ _ _) rfl ?_
  exact ⟨_, rfl, Kd.R_nil _ _ _ _ _, HB.out⟩
 | true =>
  rw [if_pos rfl] at h1
  by_cases h8 : l1.length ≤ 1048576
  ·
   rw [if_pos h8] at h1
   obtain ⟨ok, hok, h1⟩ := Option.bind_eq_some_iff.1 h1
   obtain ⟨ok2, hokl, h1⟩ := Option.bind_eq_some_iff.1 h1
   have H8 := Aside0.mk h8
   clear h8
   go_enter Try.func27, Try.ntmps27
   go_upto_region 3 with (first | (go_at_call 76; refine HV.out.mono ?_; rintro e w1 ⟨rfl, hB, hN⟩; have HB := Aside0.mk hB; clear hB; have HN := Aside0.mk hN; have n0 := (blk_cell hN 0).trans rfl; have n1 := (blk_cell hN 1).trans rfl; clear hN))
   go_cut [17] (fun s17 wx => s17 = .bool ok ∧ Aside0 (Below w.heap.size w wx) ∧ Aside0 (wx.heap[w.heap.size]? = some (.cells #[.slice A0_0 l0_0.length c0_0, .slice A0_1 l0_1.length c0_1] 59 (0, 0))))
   case first =>
    unfold okS at hok
    by_cases hln : l1.length = l0_1.length
    ·
     rw [if_pos hln] at hok
     have zln : decide ((l1.length : Int) = (l0_1.length : Int)) = true := decide_eq_true (by omega)
     have zln2 : ((l1.length : Int) == (l0_1.length : Int)) = true := by simp; omega
     clear hln
     obtain ⟨q1, hm, hok⟩ := Option.bind_eq_some_iff.1 hok
     have HQ1 := Aside0.mk hm
     clear hm
     cases q1 with
     | false =>
      rw [if_neg (by decide)] at hok
      obtain rfl := Option.some.inj hok
      clear hok
      go_wp2_with (first | (go_at_call 43; refine (spec_l00In.calls _ _ _ _ _ (by first | with_reducible exact HQ1.out)).mono ?_; rintro e w2 ⟨rfl, hD⟩; have HB := Aside0.mk (below_then HB.out HB.out.size hD.below); have hN := blk_below HN.out hD.below; clear hD; have HN := Aside0.mk hN; have n0 := (blk_cell hN 0).trans rfl; have n1 := (blk_cell hN 1).trans rfl; clear hN))
      go_meet
      case rel => exact ⟨rfl, HB, HN⟩
     | true =>
      rw [if_pos rfl] at hok
      obtain ⟨q2, hm, hok⟩ := Option.bind_eq_some_iff.1 hok
      have HQ2 := Aside0.mk hm
      clear hm
      cases q2 with
      | false =>
       rw [if_neg (by decide)] at hok
       obtain rfl := Option.some.inj hok
       clear hok
       go_wp2_with (first | (go_at_call 43; refine (spec_l00In.calls _ _ _ _ _ (by first | with_reducible exact HQ1.out | with_reducible exact HQ2.out)).mono ?_; rintro e w2 ⟨rfl, hD⟩; have HB := Aside0.mk (below_then HB.out HB.out.size hD.below); have hN := blk_below HN.out hD.below; clear hD; have HN := Aside0.mk hN; have n0 := (blk_cell hN 0).trans rfl; have n1 := (blk_cell hN 1).trans rfl; clear hN))
       go_meet
       case rel => exact ⟨rfl, HB, HN⟩
      | true =>
       rw [if_pos rfl] at hok
       obtain ⟨q3, hm, hok⟩ := Option.bind_eq_some_iff.1 hok
       have HQ3 := Aside0.mk hm
       clear hm
       cases q3 with
       | false =>
        rw [if_neg (by decide)] at hok
        obtain rfl := Option.some.inj hok
        clear hok
        go_wp2_with (first | (go_at_call 43; refine (spec_l00In.calls _ _ _ _ _ (by first | with_reducible exact HQ1.out | with_reducible exact HQ2.out)).mono ?_; rintro e w2 ⟨rfl, hD⟩; have HB := Aside0.mk (below_then HB.out HB.out.size hD.below); have hN := blk_below HN.out hD.below; clear hD; have HN := Aside0.mk hN; have n0 := (blk_cell hN 0).trans rfl; have n1 := (blk_cell hN 1).trans rfl; clear hN) | (go_at_call 77; refine (spec_l03Degrees.calls _ _ _ (by first | with_reducible exact HQ3.out)).mono ?_; rintro e w2 ⟨rfl, hD⟩; have HB := Aside0.mk (below_then HB.out HB.out.size hD.below); have hN := blk_below HN.out hD.below; clear hD; have HN := Aside0.mk hN; have n0 := (blk_cell hN 0).trans rfl; have n1 := (blk_cell hN 1).trans rfl; clear hN))
        go_meet
        case rel => exact ⟨rfl, HB, HN⟩
       | true =>
        rw [if_pos rfl] at hok
        obtain ⟨q4, hm, hok⟩ := Option.bind_eq_some_iff.1 hok
        have HQ4 := Aside0.mk hm
        clear hm
        cases q4 with
        | false =>
         rw [if_neg (by decide)] at hok
         obtain rfl := Option.some.inj hok
         clear hok
         go_wp2_with (first | (go_at_call 43; refine (spec_l00In.calls _ _ _ _ _ (by first | with_reducible exact HQ1.out | with_reducible exact HQ2.out)).mono ?_; rintro e w2 ⟨rfl, hD⟩; have HB := Aside0.mk (below_then HB.out HB.out.size hD.below); have hN := blk_below HN.out hD.below; clear hD; have HN := Aside0.mk hN; have n0 := (blk_cell hN 0).trans rfl; have n1 := (blk_cell hN 1).trans rfl; clear hN) | (go_at_call 77; refine (spec_l03Degrees.calls _ _ _ (by first | with_reducible exact HQ3.out | with_reducible exact HQ4.out)).mono ?_; rintro e w2 ⟨rfl, hD⟩; have HB := Aside0.mk (below_then HB.out HB.out.size hD.below); have hN := blk_below HN.out hD.below; clear hD; have HN := Aside0.mk hN; have n0 := (blk_cell hN 0).trans rfl; have n1 := (blk_cell hN 1).trans rfl; clear hN))
         go_meet
         case rel => exact ⟨rfl, HB, HN⟩
        | true =>
         rw [if_pos rfl] at hok
         have HQ5 := Aside0.mk hok
         clear hok
         go_wp2_with (first | (go_at_call 43; refine (spec_l00In.calls _ _ _ _ _ (by first | with_reducible exact HQ1.out | with_reducible exact HQ2.out | with_reducible exact HQ5.out)).mono ?_; rintro e w2 ⟨rfl, hD⟩; have HB := Aside0.mk (below_then HB.out HB.out.size hD.below); have hN := blk_below HN.out hD.below; clear hD; have HN := Aside0.mk hN; have n0 := (blk_cell hN 0).trans rfl; have n1 := (blk_cell hN 1).trans rfl; clear hN) | (go_at_call 77; refine (spec_l03Degrees.calls _ _ _ (by first | with_reducible exact HQ3.out | with_reducible exact HQ4.out)).mono ?_; rintro e w2 ⟨rfl, hD⟩; have HB := Aside0.mk (below_then HB.out HB.out.size hD.below); have hN := blk_below HN.out hD.below; clear hD; have HN := Aside0.mk hN; have n0 := (blk_cell hN 0).trans rfl; have n1 := (blk_cell hN 1).trans rfl; clear hN))
         go_meet
         case rel => exact ⟨rfl, HB, HN⟩
    ·
     rw [if_neg hln] at hok
     have zln : decide ((l1.length : Int) = (l0_1.length : Int)) = false := decide_eq_false (by omega)
     have zln2 : ((l1.length : Int) == (l0_1.length : Int)) = false := by simp; omega
     obtain rfl := Option.some.inj hok
     clear hln hok
     go_wp2_with fail
     go_meet
     case rel => exact ⟨rfl, HB, HN⟩
   case rest =>
    obtain ⟨rfl, HB, HN⟩ := hcut
    go_wp2
    have HOKL := Aside0.mk hokl
    clear hokl
    have H1 := Aside0.mk h1
    clear h1
    go_loopg [17, 18] l1.length (fun gg s17 s18 wr => ∃ (kk : Nat) (ok1 : Bool), s17 = .bool ok1 ∧ s18 = .int .i64 kk ∧ Aside0 (kk ≤ l1.length) ∧ Aside0 (l1.length - kk ≤ gg) ∧ Aside0 (okL l1 (l1.length - kk) ok1 = some ok2) ∧ Aside0 (Below w.heap.size w wr) ∧ Aside0 (wr.heap[w.heap.size]? = some (.cells #[.slice A0_0 l0_0.length c0_0, .slice A0_1 l0_1.length c0_1] 59 (0, 0))))
    case atStart => exact ⟨0, ok, rfl, rfl, ⟨Nat.zero_le _⟩, ⟨by omega⟩, HOKL, HB, HN⟩
    case round =>
     obtain ⟨kk, ok1, rfl, rfl, hkk, hg, hq, hB, hN⟩ := hrel
     clear HOKL HB HN
     have HN := hN
     have h2 := hq.out
     have h1 := H1.out
     clear hq H1
     have hout : kk < l1.length ∧ ok1 = true ∨ (ok2 = ok1 ∧ (kk = l1.length ∨ ok1 = false)) := by
      by_cases hlt : kk < l1.length
      ·
       cases ok1 with
       | true => exact .inl ⟨hlt, rfl⟩
       | false =>
        rw [show l1.length - kk = (l1.length - (kk + 1)) + 1 by omega] at h2
        unfold okL at h2
        rw [if_neg (by decide)] at h2
        exact .inr ⟨(Option.some.inj h2).symm, .inr rfl⟩
      ·
       rw [show l1.length - kk = 0 by omega] at h2
       exact .inr ⟨(Option.some.inj h2).symm, .inl (by have := hkk.out; omega)⟩
     rcases hout with ⟨hlt, rfl⟩ | ⟨rfl, hend⟩
     ·
      have hltz : decide ((kk : Int) < (l1.length : Int)) = true := decide_eq_true (by omega)
      have z2 := eq_true (show (0 : Int) ≤ (kk : Int) by omega)
      have z3 := eq_true (show (kk : Int) < (l1.length : Int) by omega)
      rw [show l1.length - kk = (l1.length - (kk + 1)) + 1 by omega] at h2
      unfold okL at h2
      rw [if_pos rfl, show l1.length - (l1.length - (kk + 1) + 1) = kk by omega] at h2
      obtain ⟨y, hy, h3⟩ := Option.bind_eq_some_iff.1 h2
      obtain ⟨adc, eC, kc⟩ := Kd.at_int (Kd.C_below HR1.out hB.out) (kk : Int) (Int.natCast_nonneg kk) (Int.ofNat_lt.2 hlt)
      have HY := Aside0.mk hy
      have H3 := Aside0.mk h3
      have HLT := Aside0.mk hlt
      have H1 := Aside0.mk h1
      subst eC
      rw [Int.toNat_natCast] at kc
      clear h2 h3 hy hlt h1
      go_wp2_with (first | (go_at_call 43; refine (spec_l00In.calls _ _ _ _ _ HY.out).mono ?_; rintro e w2 ⟨rfl, hD⟩; have HB2 := Aside0.mk (below_then hB.out hB.out.size hD.below); have HN2 := Aside0.mk (blk_below HN.out hD.below); clear hD))
      go_roundg (l1.length - (kk + 1))
      all_goals first
       | (have := HLT.out; have := hg.out; omega)
       | (exact ⟨kk + 1, y, rfl, by rw [show wrap64 ((kk : Int) + 1) = ((kk + 1 : Nat) : Int) by (have := HLT.out; have := H8.out; unfold wrap64; omega)], ⟨by have := HLT.out; omega⟩, ⟨by omega⟩, ⟨H3.out⟩, HB2, HN2⟩)
     ·
      cases ok2 with
      | false =>
       rw [if_neg (by decide)] at h1
       obtain ⟨rfl, h2⟩ := Prod.mk.inj (Option.some.inj h1)
       obtain ⟨rfl, rfl⟩ := Prod.mk.inj h2
       clear h1 h2
       have HB := hB
       by_cases hlt : kk < l1.length
       ·
        have hltz : decide ((kk : Int) < (l1.length : Int)) = true := decide_eq_true (by omega)
        clear hend h2 hlt
        go_wp2
        all_goals (refine bodyPost_ret (results_tmp3 rfl _ _ _) rfl ?_; exact ⟨_, rfl, Kd.R_nil _ _ _ _ _, HB.out⟩)
       ·
        have hltz : decide ((kk : Int) < (l1.length : Int)) = false := decide_eq_false (by omega)
        clear hend h2 hlt
        go_wp2
        all_goals (refine bodyPost_ret (results_tmp3 rfl _ _ _) rfl ?_; exact ⟨_, rfl, Kd.R_nil _ _ _ _ _, HB.out⟩)
      | true =>
       rw [if_pos rfl] at h1
       have hk : kk = l1.length := by rcases hend with e | e; exact e; cases e
       subst hk
       have hltz : decide ((l1.length : Int) < (l1.length : Int)) = false := decide_eq_false (by omega)
       by_cases h9 : l1.length ≤ 1000
       ·
        rw [if_pos h9] at h1
        have H8 := Aside0.mk h9
        clear h9
        obtain ⟨s1, hvis, h6⟩ := Option.bind_eq_some_iff.1 h1
        have HVIS := Aside0.mk hvis
        have HRN := Aside0.mk (fun W (hW : Below wr.heap.size wr W) => (Kd.C_blk (blk_below HN.out hW) (k59_mk _ ⟨l0_0, l0_1⟩ HC0.out (Kd.C_below HR0.out (below_then hB.out hB.out.size hW)) HC01.out (Kd.C_below HR01.out (below_then hB.out hB.out.size hW))) rfl : Kd.C k59 W (some ⟨w.heap.size, 0, none⟩) 1 [⟨l0_0, l0_1⟩]))
        clear hend h2 h1 hvis
        cases qf : s1.full with
        | true =>
         rw [if_pos qf] at h6
         obtain ⟨rfl, h7⟩ := Prod.mk.inj (Option.some.inj h6)
         obtain ⟨rfl, rfl⟩ := Prod.mk.inj h7
         clear h6 h7
         go_wp2_with (first | (go_at_call 78; refine (runQ.calls k wr.heap.size wr (some ⟨w.heap.size, 0, none⟩) A1 c1 a2 a4 a5 ⟨l0_0, l0_1⟩ l1 H8.out HRN.out (fun W hW => Kd.C_below HR1.out (below_then hB.out hB.out.size hW)) wr.heap.size (Nat.le_refl _) l1.length 0 (Nat.zero_add _) a3 _ s1 _ HVIS.out (below_alloc (Below.refl _ _) (.cells #[.pointer (some ⟨w.heap.size, 0, none⟩), .slice A1 l1.length c1, .int .i64 a2, .int .i64 a4, .int .i64 a5, .slice none 0 0, .slice none 0 0, .int .i64 0, .bool false, .int .i64 0, .int .i64 a6, .bool false] 114)) (by simp) (⟨none, 0, none, 0, blk_new wr (.cells #[.pointer (some ⟨w.heap.size, 0, none⟩), .slice A1 l1.length c1, .int .i64 a2, .int .i64 a4, .int .i64 a5, .slice none 0 0, .slice none 0 0, .int .i64 0, .bool false, .int .i64 0, .int .i64 a6, .bool false] 114), Kd.R_nil _ _ _ _ _, Kd.R_nil _ _ _ _ _⟩ : StQ (wr.alloc (.cells #[.pointer (some ⟨w.heap.size, 0, none⟩), .slice A1 l1.length c1, .int .i64 a2, .int .i64 a4, .int .i64 a5, .slice none 0 0, .slice none 0 0, .int .i64 0, .bool false, .int .i64 0, .int .i64 a6, .bool false] 114)) wr.heap.size wr.heap.size (some ⟨w.heap.size, 0, none⟩) A1 l1.length c1 a2 a4 a5 ⟨[], [], 0, false, 0, a6, false⟩) (by simp)).mono ?_; rintro e w5 ⟨rfl, hb5, hw5, hs5⟩; obtain ⟨A2, c2, A3, c3, ⟨t0, t1, t2, t3, t4, t5, t6, t7, t8, t9, t10, t11, tf⟩, _, _, _, hR5⟩ := hs5.open; (try rw [qf] at t11); have HB5 := Aside0.mk (below_then hB.out hB.out.size hb5); have HR5 := Aside0.mk hR5; clear hb5 hw5 hs5 hR5))
         refine bodyPost_ret (results_tmp3 rfl _ _ _) rfl ?_
         exact ⟨_, rfl, Kd.R_nil _ _ _ _ _, HB5.out⟩
        | false =>
         rw [if_neg (by rw [qf]; decide)] at h6
         obtain ⟨rfl, h7⟩ := Prod.mk.inj (Option.some.inj h6)
         obtain ⟨rfl, rfl⟩ := Prod.mk.inj h7
         clear h6 h7
         go_wp2_with (first | (go_at_call 78; refine (runQ.calls k wr.heap.size wr (some ⟨w.heap.size, 0, none⟩) A1 c1 a2 a4 a5 ⟨l0_0, l0_1⟩ l1 H8.out HRN.out (fun W hW => Kd.C_below HR1.out (below_then hB.out hB.out.size hW)) wr.heap.size (Nat.le_refl _) l1.length 0 (Nat.zero_add _) a3 _ s1 _ HVIS.out (below_alloc (Below.refl _ _) (.cells #[.pointer (some ⟨w.heap.size, 0, none⟩), .slice A1 l1.length c1, .int .i64 a2, .int .i64 a4, .int .i64 a5, .slice none 0 0, .slice none 0 0, .int .i64 0, .bool false, .int .i64 0, .int .i64 a6, .bool false] 114)) (by simp) (⟨none, 0, none, 0, blk_new wr (.cells #[.pointer (some ⟨w.heap.size, 0, none⟩), .slice A1 l1.length c1, .int .i64 a2, .int .i64 a4, .int .i64 a5, .slice none 0 0, .slice none 0 0, .int .i64 0, .bool false, .int .i64 0, .int .i64 a6, .bool false] 114), Kd.R_nil _ _ _ _ _, Kd.R_nil _ _ _ _ _⟩ : StQ (wr.alloc (.cells #[.pointer (some ⟨w.heap.size, 0, none⟩), .slice A1 l1.length c1, .int .i64 a2, .int .i64 a4, .int .i64 a5, .slice none 0 0, .slice none 0 0, .int .i64 0, .bool false, .int .i64 0, .int .i64 a6, .bool false] 114)) wr.heap.size wr.heap.size (some ⟨w.heap.size, 0, none⟩) A1 l1.length c1 a2 a4 a5 ⟨[], [], 0, false, 0, a6, false⟩) (by simp)).mono ?_; rintro e w5 ⟨rfl, hb5, hw5, hs5⟩; obtain ⟨A2, c2, A3, c3, ⟨t0, t1, t2, t3, t4, t5, t6, t7, t8, t9, t10, t11, tf⟩, _, _, _, hR5⟩ := hs5.open; (try rw [qf] at t11); have HB5 := Aside0.mk (below_then hB.out hB.out.size hb5); have HR5 := Aside0.mk hR5; clear hb5 hw5 hs5 hR5))
         go_quiet (fail)
         go_wp2
         refine bodyPost_ret (results_tmp3 rfl _ _ _) rfl ?_
         exact ⟨_, rfl, Kd.R_lower (Kd.R_mono (Kd.R_below HR5.out.2 (pw_below_drewN (Below.refl _ _) _)) (fun _ _ => trivial)) hB.out.size, pw_below_drewN HB5.out _⟩
       ·
        rw [if_neg h9] at h1; cases h1
  ·
   rw [if_neg h8] at h1; cases h1

/-! ### laws_toInt64S: function 29 -/
def laws_toInt64S.l0 : Nat → List Int → List Int → Int → Option (List Int)
 | 0, _, _, _ => none
 | k + 1, x0, x3, x4 => if x4 < (x0.length : Int) then (if 0 ≤ x4 then (if x4 < (x3.length : Int) then (laws_toInt64S.l0 k x0 (x3.set (x4 : Int).toNat (rd x0 x4)) (wrap64 (x4 + 1))) else (none)) else (none)) else (some x3)
def laws_toInt64S.f (k : Nat) (l0 : List Int) : Option (List Int) := if 0 ≤ (l0.length : Int) then (if ((l0.length : Int) : Int).toNat ≤ 35184372088832 then (laws_toInt64S.l0 k l0 (List.replicate ((l0.length : Int) : Int).toNat 0) 0) else (none)) else (none)
theorem laws_toInt64S.mono_l : ∀ k, (∀ y0 y1 y2, LeO (laws_toInt64S.l0 k y0 y1 y2) (laws_toInt64S.l0 (k + 1) y0 y1 y2))
 | 0 => fun _ _ _ r h => by simp [laws_toInt64S.l0] at h
 | k + 1 => by
  have ih0 := laws_toInt64S.mono_l k
  ·
   intro y0 y1 y2
   unfold laws_toInt64S.l0
   repeat' first
   | (with_reducible exact ih0 _ _ _)
   | (with_reducible exact LeO.refl _)
   | (with_reducible exact LeO.none _)
   | (with_reducible refine LeO.ite ?_ ?_)
   | (with_reducible refine LeO.bind ?_ (fun _ => ?_))
   | exact ih0 _ _ _
   | exact LeO.none _
   | refine LeO.ite ?_ ?_
   | refine LeO.bind ?_ (fun _ => ?_)
theorem laws_toInt64S.mono : ∀ a0 k, LeO (laws_toInt64S.f k a0) (laws_toInt64S.f (k + 1) a0) := by
 intro a0 k
 have ih0 := laws_toInt64S.mono_l k
 unfold laws_toInt64S.f
 repeat' first
  | (with_reducible exact ih0 _ _ _)
  | (with_reducible exact LeO.refl _)
  | (with_reducible exact LeO.none _)
  | (with_reducible refine LeO.ite ?_ ?_)
  | (with_reducible refine LeO.bind ?_ (fun _ => ?_))
  | exact ih0 _ _ _
  | exact LeO.none _
  | refine LeO.ite ?_ ?_
  | refine LeO.bind ?_ (fun _ => ?_)
set_option maxHeartbeats 8000000 in
set_option maxRecDepth 100000 in
theorem laws_toInt64S.calls (k : Nat) (A0 : Option Addr) (c0 : Nat) (l0 : List Int) (r : List Int) (w : World) (hr0 : Kd.C (Kd.int .i64) w A0 l0.length l0) (hc0 : l0.length ≤ c0) (h : laws_toInt64S.f k l0 = some r) :
  Calls Try.prog 29 #[.slice A0 l0.length c0] w fun e w' => ∃ v0_ : Value, e = .returned (v0_) ∧ Kd.R (Kd.int .i64) 2 w' w.heap.size (fun _ => True) v0_ r ∧ Below w.heap.size w w' := by
 have HR0 := Aside0.mk hr0
 have HC0 := Aside0.mk hc0
 clear hr0 hc0
 have HB := Aside0.mk (Below.refl w.heap.size w)
 have H : (if 0 ≤ (l0.length : Int) then (if ((l0.length : Int) : Int).toNat ≤ 35184372088832 then (laws_toInt64S.l0 k l0 (List.replicate ((l0.length : Int) : Int).toNat 0) 0) else (none)) else (none)) = some r := h
 clear h
 by_cases c2 : 0 ≤ (l0.length : Int)
 ·
  rw [if_pos c2] at H
  have c2b0 := eq_true c2
  have c2b1 : decide (0 ≤ (l0.length : Int)) = true := decide_eq_true c2
  clear c2
  by_cases c3 : ((l0.length : Int) : Int).toNat ≤ 35184372088832
  ·
   rw [if_pos c3] at H
   have c3b0 := eq_true c3
   have c3b1 : decide (((l0.length : Int) : Int).toNat ≤ 35184372088832) = true := decide_eq_true c3
   clear c3
   obtain ⟨y191, hy191⟩ : ∃ y_ : List Int, y_ = (List.replicate ((l0.length : Int) : Int).toNat 0) := ⟨_, rfl⟩
   replace H : (laws_toInt64S.l0 k l0 y191 0) = some r := by first | (rw [hy191]; with_reducible exact H) | (have H2_ := (Option.bind_some _ _).symm.trans H; rw [hy191]; with_reducible exact H2_) | (have H2_ := (Option.bind_some _ _).symm.trans H; with_reducible exact H2_) | with_reducible exact H | (rw [hy191]; exact H) | exact H
   have Ny191 := Aside0.mk hy191
   clear hy191
   have H' := Aside0.mk H
   clear H
   go_enter Try.func29, Try.ntmps29
   go_wp2_with (first | ((with_reducible refine gate_dst (N := 7) rfl ?_); refine Kd.R_make (Kd.int .i64) _ 2 rfl (N := 7) rfl 24 _ _ rfl (l0.length : Int) rfl rfl Try.underlying24 (.int .i64 0) 8 info2 rfl (by decide) (by omega) 0 (ok := fun _ => True) (okp := fun _ => True) rfl (fun _ hk => hk) trivial (od) (Nat.le_trans (Nat.mul_le_mul_right _ (od : (l0.length : Int).toNat ≤ 35184372088832)) (by omega)) (Below.refl _ _) (Nat.le_refl _) ?_; intro v192 w4 ho5 hb hg_ hnew_; clear hg_ hnew_; (first | rw [← Ny191.out] at ho5 | (simp only [Int.reduceToNat] at ho5; rw [← Ny191.out] at ho5)); have n0_ := Aside0.mk (Kd.R_lower ho5 (below_size (mvB HB.out))); have n1_ := Aside0.mk (below_step (mvB HB.out) hb); clear HB; revert n0_ n1_; intro HO193 HB; clear hb ho5))
   go_loopg [4] k (fun kq v4 w' => ∃ (x3_1 : List Int) (x4_1 : Int), v4 = .int .i64 x4_1 ∧ Aside0 (laws_toInt64S.l0 kq l0 x3_1 x4_1 = some r) ∧ Aside0 (kq ≤ k) ∧ Aside0 (Kd.R (Kd.int .i64) 2 w' w.heap.size (fun _ => True) v192 x3_1) ∧ Aside0 (Below w.heap.size w w'))
   case atStart => exact ⟨(y191), (0), rs, H', ⟨Nat.le_refl _⟩, ⟨mv HO193.out⟩, ⟨mvB HB.out⟩⟩
   case round =>
    clear H'
    try clear c2b0
    try clear c2b1
    try clear c3b0
    try clear c3b1
    obtain ⟨x3_1, x4_1, rfl, HA, HK1, HO_3, HB⟩ := hrel
    cases gk with
    | zero => exact absurd HA.out (by simp [laws_toInt64S.l0])
    | succ k1 =>
     have H := HA.out
     clear HA
     simp only [laws_toInt64S.l0] at H
     by_cases c6 : x4_1 < (l0.length : Int)
     ·
      rw [if_pos c6] at H
      have c6b0 : decide (x4_1 < (l0.length : Int)) = true := decide_eq_true c6
      clear c6
      by_cases c7 : 0 ≤ x4_1
      ·
       rw [if_pos c7] at H
       have c7b0 : decide (0 ≤ x4_1) = true := decide_eq_true c7
       clear c7
       by_cases c8 : x4_1 < (x3_1.length : Int)
       ·
        rw [if_pos c8] at H
        have c8b0 : decide (x4_1 < (x3_1.length : Int)) = true := decide_eq_true c8
        clear c8
        obtain ⟨y195, hy195⟩ : ∃ y_ : List Int, y_ = (x3_1.set (x4_1 : Int).toNat (rd l0 x4_1)) := ⟨_, rfl⟩
        replace H : (laws_toInt64S.l0 k1 l0 y195 (wrap64 (x4_1 + 1))) = some r := by first | (rw [hy195]; with_reducible exact H) | (have H2_ := (Option.bind_some _ _).symm.trans H; rw [hy195]; with_reducible exact H2_) | (have H2_ := (Option.bind_some _ _).symm.trans H; with_reducible exact H2_) | with_reducible exact H | (rw [hy195]; exact H) | exact H
        have Ny195 := Aside0.mk hy195
        clear hy195
        have H' := Aside0.mk H
        clear H
        have p194 : 0 ≤ (x4_1 : Int) := od
        have q194 : x4_1 < (l0.length : Int) := od
        obtain ⟨ad194, e194, hx194_0⟩ := Kd.at_int HR0.out x4_1 p194 q194
        cases e194
        replace hx194_0 := (HB.out.cell (World.block_lt_of_cell? w _ hx194_0)).trans hx194_0
        replace p194 := eq_true p194
        replace q194 := eq_true q194
        have p9 : 0 ≤ (x4_1 : Int) := od
        have q9 : (x4_1 : Int) < ((x3_1.length : Int) : Int) := od
        obtain ⟨go9, co9, eo9, gb9, gl9, cl9, HG9⟩ := Kd.R_form HO_3.out (by omega)
        (first | cases eo9 | (injection eo9 with ea_ en_ ec_; (first | subst ea_ | (injection ea_ with ea_; subst ea_)); subst ec_; clear en_))
        have GB9 := Aside0.mk gb9
        have GG9 := Aside0.mk HG9
        clear gb9 gl9 HG9
        obtain ⟨hx9_0, hf9_0⟩ := Kd.R_celln 0 HO_3.out (x4_1 : Int) p9 q9
        replace p9 := eq_true p9
        replace q9 := eq_true q9
        have HP10 := Kd.R_putg HO_3.out (x4_1 : Int) (rd l0 x4_1)
        go_wp2_with (first | ((with_reducible refine gate_store (t := 2) (p := 20) rfl ?_); refine store_event (t := 2) (p := 20) (v := ?vo_w11) (w1 := (wr.setCell ⟨go9, (x4_1 : Int).toNat, none⟩ (.int .i64 (rd l0 x4_1)))) ?hg ?ho ?hn ?hr ?_; (case ho => rfl); (case hg => rfl); (case hn => rfl); (case hr => first | (go_simp; done) | (go_simp; rfl)); intro w11 hw; have hg : wr.grownBy w11 (some go9) := (by rw [hw]; exact HP10.2); have hp_ : Kd.R (Kd.int .i64) 2 w11 w.heap.size (fun _ => True) (.slice (some ⟨go9, 0, none⟩) x3_1.length co9) y195 := (by rw [hw, Ny195.out]; exact HP10.1); clear HP10; have n0_ := Aside0.mk (hp_); have n1_ := Aside0.mk ((by rw [hw]; exact below_set (HB.out) GB9.out : Below w.heap.size w w11)); clear HO_3 HB; revert n0_ n1_; intro HO_3 HB; clear hg hw hp_))
        go_roundg k1
        case measure => have := HK1.out; omega
        case rel => exact ⟨(y195), (wrap64 (x4_1 + 1)), rs, H', ⟨by have := HK1.out; omega⟩, ⟨mv HO_3.out⟩, ⟨mvB HB.out⟩⟩
       ·
        rw [if_neg c8] at H
        exact absurd H (by simp)
      ·
       rw [if_neg c7] at H
       exact absurd H (by simp)
     ·
      rw [if_neg c6] at H
      have c6b0 : decide (x4_1 < (l0.length : Int)) = false := decide_eq_false c6
      clear c6
      obtain rfl := Option.some.inj H
      go_wp2
      go_ret
      exact ⟨_, by first | rfl | (simp [errW_none, errW_some] <;> rfl) | (simp [*, errW_none, errW_some] <;> rfl), mv HO_3.out, mvB HB.out⟩
  ·
   rw [if_neg c3] at H
   exact absurd H (by simp)
 ·
  rw [if_neg c2] at H
  exact absurd H (by simp)

/-! ### laws_toPipe: function 120 -/
def laws_toPipe.f (a0_0 : ByteArray) (a0_1 : Int) (a0_2 : Int) (a0_3 : Int) (a0_4 : Int) (a0_5 : Int) : Option (ByteArray × Int × Int × Int × Int × Int) := some (a0_0, a0_1, a0_2, a0_3, a0_4, a0_5)
set_option maxHeartbeats 8000000 in
set_option maxRecDepth 100000 in
theorem laws_toPipe.calls (a0_0 : ByteArray) (a0_1 : Int) (a0_2 : Int) (a0_3 : Int) (a0_4 : Int) (a0_5 : Int) (r1 : ByteArray) (r2 : Int) (r3 : Int) (r4 : Int) (r5 : Int) (r6 : Int) (w : World) (h : laws_toPipe.f a0_0 a0_1 a0_2 a0_3 a0_4 a0_5 = some (r1, r2, r3, r4, r5, r6)) :
  Calls Try.prog 120 #[.agg #[.string a0_0, .int .i64 a0_1, .int .i64 a0_2, .int .i64 a0_3, .int .i64 a0_4, .int .i64 a0_5]] w fun e w' => e = .returned (.agg #[.string r1, .int .i64 r2, .int .i64 r3, .int .i64 r4, .int .i64 r5, .int .i64 r6]) ∧ Below w.heap.size w w' := by
 have hu142 := Try.underlying142
 have hu75 := Try.underlying75
 have HB := Aside0.mk (Below.refl w.heap.size w)
 have H : (some (a0_0, a0_1, a0_2, a0_3, a0_4, a0_5)) = some (r1, r2, r3, r4, r5, r6) := h
 clear h
 simp only [Option.some.injEq, Prod.mk.injEq] at H
 obtain ⟨rfl, rfl, rfl, rfl, rfl, rfl⟩ := H
 go_enter Try.func120, Try.ntmps120
 go_wp2_with (first | ((with_reducible refine gate_dst (N := 1) rfl ?_); refine box_event ?hg (N := 1) ?hd (cs := #[.string a0_0, .int .i64 a0_1, .int .i64 a0_2, .int .i64 a0_3, .int .i64 a0_4, .int .i64 a0_5]) (t := 142) ?hr ?_; (case hd => rfl); (case hg => rfl); (case hr => first | (go_simp; done) | (go_simp; rfl)); intro gb196 hg w2 hbox hb; have n0_ := Aside0.mk (below_step (mvB HB.out) hb); have n1_ := Aside0.mk (hbox); have n2_ := Aside0.mk ((by rw [hg]; exact (below_size (mvB HB.out)) : w.heap.size ≤ gb196)); have n3_ := Aside0.mk ((by rw [hg]; exact (below_size (mvB HB.out)) : w.heap.size ≤ gb196)); clear HB; revert n0_ n1_ n2_ n3_; intro HB BK196 GW196 GE196; clear hb hbox hg) | ((with_reducible refine gate_dst (N := 2) rfl ?_); refine box_event ?hg (N := 2) ?hd (cs := #[.string (⟨#[]⟩ : ByteArray), .int .i64 0, .int .i64 0, .int .i64 0, .int .i64 0, .int .i64 0]) (t := 75) ?hr ?_; (case hd => rfl); (case hg => rfl); (case hr => first | (go_simp; done) | (go_simp; rfl)); intro gb197 hg w3 hbox hb; have n0_ := Aside0.mk (blk_below (g := gb196) (o := .cells #[.string a0_0, .int .i64 a0_1, .int .i64 a0_2, .int .i64 a0_3, .int .i64 a0_4, .int .i64 a0_5] 142 (0, 0)) (mv BK196.out) hb); have n1_ := Aside0.mk (below_step (by repeat (first | (with_reducible first | exact HB.out | apply below_alloc | apply pw_below_drewN | apply below_drew1 | refine below_set ?_ GE196.out) | exact HB.out)) hb); have n2_ := Aside0.mk (hbox); have n3_ := Aside0.mk ((by rw [hg]; exact (below_size (by repeat (first | (with_reducible first | exact HB.out | apply below_alloc | apply pw_below_drewN | apply below_drew1 | refine below_set ?_ GE196.out) | exact HB.out))) : w.heap.size ≤ gb197)); have n4_ := Aside0.mk ((by rw [hg]; exact (below_size (by repeat (first | (with_reducible first | exact HB.out | apply below_alloc | apply pw_below_drewN | apply below_drew1 | refine below_set ?_ GE196.out) | exact HB.out))) : w.heap.size ≤ gb197)); have n5_ := Aside0.mk ((by rw [hg]; exact Nat.ne_of_lt (blk_lt (g := gb196) (o := .cells #[.string a0_0, .int .i64 a0_1, .int .i64 a0_2, .int .i64 a0_3, .int .i64 a0_4, .int .i64 a0_5] 142 (0, 0)) (mv BK196.out)) : gb196 ≠ gb197)); have n6_ := Aside0.mk ((by rw [hg]; exact Nat.ne_of_gt (blk_lt (g := gb196) (o := .cells #[.string a0_0, .int .i64 a0_1, .int .i64 a0_2, .int .i64 a0_3, .int .i64 a0_4, .int .i64 a0_5] 142 (0, 0)) (mv BK196.out)) : gb197 ≠ gb196)); clear BK196 HB; revert n0_ n1_ n2_ n3_ n4_ n5_ n6_; intro BK196 HB BK197 GW197 GE197 NB196_197 NB197_196; clear hb hbox hg) | ((with_reducible refine gate_dst (N := 3) rfl ?_); refine box_event ?hg (N := 3) ?hd (cs := #[.string (⟨#[]⟩ : ByteArray), .int .i64 0, .int .i64 0, .int .i64 0, .int .i64 0, .int .i64 0]) (t := 75) ?hr ?_; (case hd => rfl); (case hg => rfl); (case hr => first | (go_simp; done) | (go_simp; rfl)); intro gb198 hg w4 hbox hb; have n0_ := Aside0.mk (blk_below (g := gb196) (o := .cells #[.string a0_0, .int .i64 a0_1, .int .i64 a0_2, .int .i64 a0_3, .int .i64 a0_4, .int .i64 a0_5] 142 (0, 0)) (mv BK196.out) hb); have n1_ := Aside0.mk (blk_below (g := gb197) (o := .cells #[.string (⟨#[]⟩ : ByteArray), .int .i64 0, .int .i64 0, .int .i64 0, .int .i64 0, .int .i64 0] 75 (0, 0)) (mv BK197.out) hb); have n2_ := Aside0.mk (below_step (by repeat (first | (with_reducible first | exact HB.out | apply below_alloc | apply pw_below_drewN | apply below_drew1 | refine below_set ?_ GE196.out | refine below_set ?_ GE197.out) | exact HB.out)) hb); have n3_ := Aside0.mk (hbox); have n4_ := Aside0.mk ((by rw [hg]; exact (below_size (by repeat (first | (with_reducible first | exact HB.out | apply below_alloc | apply pw_below_drewN | apply below_drew1 | refine below_set ?_ GE196.out | refine below_set ?_ GE197.out) | exact HB.out))) : w.heap.size ≤ gb198)); have n5_ := Aside0.mk ((by rw [hg]; exact (below_size (by repeat (first | (with_reducible first | exact HB.out | apply below_alloc | apply pw_below_drewN | apply below_drew1 | refine below_set ?_ GE196.out | refine below_set ?_ GE197.out) | exact HB.out))) : w.heap.size ≤ gb198)); have n6_ := Aside0.mk ((by rw [hg]; exact Nat.ne_of_lt (blk_lt (g := gb196) (o := .cells #[.string a0_0, .int .i64 a0_1, .int .i64 a0_2, .int .i64 a0_3, .int .i64 a0_4, .int .i64 a0_5] 142 (0, 0)) (mv BK196.out)) : gb196 ≠ gb198)); have n7_ := Aside0.mk ((by rw [hg]; exact Nat.ne_of_gt (blk_lt (g := gb196) (o := .cells #[.string a0_0, .int .i64 a0_1, .int .i64 a0_2, .int .i64 a0_3, .int .i64 a0_4, .int .i64 a0_5] 142 (0, 0)) (mv BK196.out)) : gb198 ≠ gb196)); have n8_ := Aside0.mk ((by rw [hg]; exact Nat.ne_of_lt (blk_lt (g := gb197) (o := .cells #[.string (⟨#[]⟩ : ByteArray), .int .i64 0, .int .i64 0, .int .i64 0, .int .i64 0, .int .i64 0] 75 (0, 0)) (mv BK197.out)) : gb197 ≠ gb198)); have n9_ := Aside0.mk ((by rw [hg]; exact Nat.ne_of_gt (blk_lt (g := gb197) (o := .cells #[.string (⟨#[]⟩ : ByteArray), .int .i64 0, .int .i64 0, .int .i64 0, .int .i64 0, .int .i64 0] 75 (0, 0)) (mv BK197.out)) : gb198 ≠ gb197)); clear BK196 BK197 HB; revert n0_ n1_ n2_ n3_ n4_ n5_ n6_ n7_ n8_ n9_; intro BK196 BK197 HB BK198 GW198 GE198 NB196_198 NB198_196 NB197_198 NB198_197; clear hb hbox hg; have hnb5 := NB196_197.out; have hnc5 := NB197_196.out; have hnb6 := NB196_198.out; have hnc6 := NB198_196.out; have hcz7_0 : w4.cell? ⟨gb196, 0, none⟩ = some (.string a0_0) := (blk_cell BK196.out 0).trans rfl; have hcz7_1 : w4.cell? ⟨gb196, 1, none⟩ = some (.int .i64 a0_1) := (blk_cell BK196.out 1).trans rfl; have hcz7_2 : w4.cell? ⟨gb196, 2, none⟩ = some (.int .i64 a0_2) := (blk_cell BK196.out 2).trans rfl; have hcz7_3 : w4.cell? ⟨gb196, 3, none⟩ = some (.int .i64 a0_3) := (blk_cell BK196.out 3).trans rfl; have hcz7_4 : w4.cell? ⟨gb196, 4, none⟩ = some (.int .i64 a0_4) := (blk_cell BK196.out 4).trans rfl; have hcz7_5 : w4.cell? ⟨gb196, 5, none⟩ = some (.int .i64 a0_5) := (blk_cell BK196.out 5).trans rfl; have hfz7_0 := blk_frozen BK196.out 0; have hfz7_1 := blk_frozen BK196.out 1; have hfz7_2 := blk_frozen BK196.out 2; have hfz7_3 := blk_frozen BK196.out 3; have hfz7_4 := blk_frozen BK196.out 4; have hfz7_5 := blk_frozen BK196.out 5; have hnb8 := NB198_197.out; have hnc8 := NB197_198.out; have hcz9_0 : w4.cell? ⟨gb198, 0, none⟩ = some (.string (⟨#[]⟩ : ByteArray)) := (blk_cell BK198.out 0).trans rfl; have hcz9_1 : w4.cell? ⟨gb198, 1, none⟩ = some (.int .i64 0) := (blk_cell BK198.out 1).trans rfl; have hcz9_2 : w4.cell? ⟨gb198, 2, none⟩ = some (.int .i64 0) := (blk_cell BK198.out 2).trans rfl; have hcz9_3 : w4.cell? ⟨gb198, 3, none⟩ = some (.int .i64 0) := (blk_cell BK198.out 3).trans rfl; have hcz9_4 : w4.cell? ⟨gb198, 4, none⟩ = some (.int .i64 0) := (blk_cell BK198.out 4).trans rfl; have hcz9_5 : w4.cell? ⟨gb198, 5, none⟩ = some (.int .i64 0) := (blk_cell BK198.out 5).trans rfl; have hfz9_0 := blk_frozen BK198.out 0; have hfz9_1 := blk_frozen BK198.out 1; have hfz9_2 := blk_frozen BK198.out 2; have hfz9_3 := blk_frozen BK198.out 3; have hfz9_4 := blk_frozen BK198.out 4; have hfz9_5 := blk_frozen BK198.out 5; have hcz10_0 : w4.cell? ⟨gb197, 0, none⟩ = some (.string (⟨#[]⟩ : ByteArray)) := (blk_cell BK197.out 0).trans rfl; have hcz10_1 : w4.cell? ⟨gb197, 1, none⟩ = some (.int .i64 0) := (blk_cell BK197.out 1).trans rfl; have hcz10_2 : w4.cell? ⟨gb197, 2, none⟩ = some (.int .i64 0) := (blk_cell BK197.out 2).trans rfl; have hcz10_3 : w4.cell? ⟨gb197, 3, none⟩ = some (.int .i64 0) := (blk_cell BK197.out 3).trans rfl; have hcz10_4 : w4.cell? ⟨gb197, 4, none⟩ = some (.int .i64 0) := (blk_cell BK197.out 4).trans rfl; have hcz10_5 : w4.cell? ⟨gb197, 5, none⟩ = some (.int .i64 0) := (blk_cell BK197.out 5).trans rfl; have hfz10_0 := blk_frozen BK197.out 0; have hfz10_1 := blk_frozen BK197.out 1; have hfz10_2 := blk_frozen BK197.out 2; have hfz10_3 := blk_frozen BK197.out 3; have hfz10_4 := blk_frozen BK197.out 4; have hfz10_5 := blk_frozen BK197.out 5))
 refine bodyPost_ret (results_cell_row rfl _ _ gb197 75 #[.string a0_0, .int .i64 a0_1, .int .i64 a0_2, .int .i64 a0_3, .int .i64 a0_4, .int .i64 a0_5] (0, 0) _ rfl (by (with_reducible repeat (first | refine blk_drewN ?_ _ | refine blk_drew ?_ | refine blk_alloc ?_ _)); refine blk_put (cs := #[.string a0_0, .int .i64 a0_1, .int .i64 a0_2, .int .i64 a0_3, .int .i64 a0_4, .int .i64 0]) ?_ 5 _ rfl; (with_reducible repeat (first | refine blk_drewN ?_ _ | refine blk_drew ?_ | refine blk_alloc ?_ _)); refine blk_put (cs := #[.string a0_0, .int .i64 a0_1, .int .i64 a0_2, .int .i64 a0_3, .int .i64 0, .int .i64 0]) ?_ 4 _ rfl; (with_reducible repeat (first | refine blk_drewN ?_ _ | refine blk_drew ?_ | refine blk_alloc ?_ _)); refine blk_put (cs := #[.string a0_0, .int .i64 a0_1, .int .i64 a0_2, .int .i64 0, .int .i64 0, .int .i64 0]) ?_ 3 _ rfl; (with_reducible repeat (first | refine blk_drewN ?_ _ | refine blk_drew ?_ | refine blk_alloc ?_ _)); refine blk_put (cs := #[.string a0_0, .int .i64 a0_1, .int .i64 0, .int .i64 0, .int .i64 0, .int .i64 0]) ?_ 2 _ rfl; (with_reducible repeat (first | refine blk_drewN ?_ _ | refine blk_drew ?_ | refine blk_alloc ?_ _)); refine blk_put (cs := #[.string a0_0, .int .i64 0, .int .i64 0, .int .i64 0, .int .i64 0, .int .i64 0]) ?_ 1 _ rfl; (with_reducible repeat (first | refine blk_drewN ?_ _ | refine blk_drew ?_ | refine blk_alloc ?_ _)); refine blk_put (cs := #[.string (⟨#[]⟩ : ByteArray), .int .i64 0, .int .i64 0, .int .i64 0, .int .i64 0, .int .i64 0]) ?_ 0 _ rfl; (with_reducible repeat (first | refine blk_drewN ?_ _ | refine blk_drew ?_ | refine blk_alloc ?_ _)); refine blk_far ?_ NB197_198.out _; (with_reducible repeat (first | refine blk_drewN ?_ _ | refine blk_drew ?_ | refine blk_alloc ?_ _)); refine blk_far ?_ NB197_198.out _; (with_reducible repeat (first | refine blk_drewN ?_ _ | refine blk_drew ?_ | refine blk_alloc ?_ _)); refine blk_far ?_ NB197_198.out _; (with_reducible repeat (first | refine blk_drewN ?_ _ | refine blk_drew ?_ | refine blk_alloc ?_ _)); refine blk_far ?_ NB197_198.out _; (with_reducible repeat (first | refine blk_drewN ?_ _ | refine blk_drew ?_ | refine blk_alloc ?_ _)); refine blk_far ?_ NB197_198.out _; (with_reducible repeat (first | refine blk_drewN ?_ _ | refine blk_drew ?_ | refine blk_alloc ?_ _)); refine blk_far ?_ NB197_198.out _; (with_reducible repeat (first | refine blk_drewN ?_ _ | refine blk_drew ?_ | refine blk_alloc ?_ _)); exact BK197.out) Try.underlying75 rfl (by kernel_rfl)) rfl ?_
 exact ⟨by first | rfl | (simp [errW_none, errW_some] <;> rfl) | (simp [*, errW_none, errW_some] <;> rfl), by repeat (first | (with_reducible first | exact HB.out | apply below_alloc | apply pw_below_drewN | apply below_drew1 | refine below_set ?_ GE196.out | refine below_set ?_ GE197.out | refine below_set ?_ GE198.out) | exact HB.out)⟩

end Go.Proofs.Ytndbgkcjccejdaa.PFnExactBestRenewal
