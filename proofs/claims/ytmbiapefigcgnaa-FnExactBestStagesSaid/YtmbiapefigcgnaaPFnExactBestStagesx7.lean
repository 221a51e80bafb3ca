-- written by a program of this session (mkp.py) out of the translation; Lean checks it. -- slim
import Derived.Shelf.Abstract
import Derived.Deep.RegionHeld3
import Derived.Test.YtmbiapefigcgnaaPFnExactBestStagesx0
import Derived.Test.YtmbiapefigcgnaaPFnExactBestStagesx3
import Derived.Test.YtmbiapefigcgnaaPFnExactBestStagesx5
import Derived.Test.YtmbiapefigcgnaaPFnExactBestStagesx6
namespace Go.Proofs.Ytmbiapefigcgnaa.PFnExactBestStages
open Go.RowKit Go.Proofs.YtmbiapefigcgnaaW.PrintWords Go.Proofs.YtmbiapefigcgnaaW.PrintLast Go.Proofs.YtmbiapefigcgnaaW.PrintMore
attribute [local go_sem] bin_leq bin_gtr bin_geq max2_int min2_int max_two min_two max_three min_three max_four min_four   -- for this text's walks alone
set_option linter.unusedVariables false
set_option linter.unusedSimpArgs false

/-! ### spec_BestStages: function 28 -/
theorem sput {b : Nat} {w W : World} (h : Below b w W) {g : Nat} (hg : b ≤ g) (i : Nat) (u : Value) : Below b w (W.setCell ⟨g, i, none⟩ u) := h.setCell (p := ⟨g, i, none⟩) hg u
/-- Two rows of whole numbers of one's own, apart from each other. -/
def Rows2 (w : World) (base : Nat) (v2 v3 : Value) (bu be : List Int) : Prop :=
 Kd.R (Kd.int .i64) 2 w base (fun k => some k ≠ v3.ownBlock) v2 bu ∧ Kd.R (Kd.int .i64) 2 w base (fun k => some k ≠ v2.ownBlock) v3 be
theorem Rows2.below {w w' : World} {base : Nat} {v2 v3 : Value} {bu be : List Int} (h : Rows2 w base v2 v3 bu be) (hb : Below w.heap.size w w') : Rows2 w' base v2 v3 bu be := ⟨Kd.R_below h.1 hb, Kd.R_below h.2 hb⟩
theorem ne_int {t : Nat} (h : t ≠ 2) : ∀ q, q ∈ 2 :: (Kd.int .i64).E → q ≠ t := fun q hq => by
 rcases List.mem_cons.1 hq with h1 | h1
 ·
  subst h1; exact fun e => h e.symm
 ·
  cases h1
theorem Rows2.set {w : World} {base g t : Nat} {cells : Array Value} {v2 v3 : Value} {bu be : List Int} (h : Rows2 w base v2 v3 bu be) (hb : w.heap[g]? = some (.cells cells t (0, 0))) (ht : t ≠ 2) (j : Nat) (u : Value) : Rows2 (w.setCell ⟨g, j, none⟩ u) base v2 v3 bu be := ⟨Kd.R_set h.1 hb (ne_int ht) j u, Kd.R_set h.2 hb (ne_int ht) j u⟩
theorem Rows2.clone {W w2 : World} {base : Nat} {v2 v3 v : Value} {bu be xs : List Int} (h : Rows2 W base v2 v3 bu be) (hR : Kd.R (Kd.int .i64) 2 w2 W.heap.size (fun _ => True) v xs) (hb : Below W.heap.size W w2) (hs : base ≤ W.heap.size) : Rows2 w2 base v2 v bu xs :=
 ⟨Kd.R_mono (Kd.R_elder' h.1 (fun k hk => Kd.R_base hR k hk) hb) (fun _ hk => hk.2), Kd.R_mono (Kd.R_lower (Kd.R_new' hR (fun k hk => Kd.R_lt h.1 k hk)) hs) (fun _ hk => hk.2)⟩
theorem Rows2.append {W w1 : World} {base : Nat} {v2 v3 v1 : Value} {bu be xs : List Int} (h : Rows2 W base v2 v3 bu be) (hR : Kd.R (Kd.int .i64) 2 w1 base (fun k => some k ≠ v3.ownBlock) v1 xs) (hg : W.grownBy w1 v2.ownBlock) (hat : v1.ownBlock = v2.ownBlock ∨ ∃ b, v1.ownBlock = some b ∧ W.heap.size ≤ b) : Rows2 w1 base v1 v3 xs be :=
 ⟨hR, Kd.R_mono (Kd.R_grown (Kd.R_bound h.2) hg (fun k hk => hk.1)) (fun k hk => by
  rcases hat with e | ⟨b, e, hb⟩
  ·
    rw [e]; exact hk.1
  ·
    rw [e]
    intro e2
    injection e2 with e2
    have := hk.2.2.1
    omega)⟩
theorem Rows2.cut {w : World} {base n c : Nat} {A : Option Addr} {v3 : Value} {bu be : List Int} (h : Rows2 w base (.slice A n c) v3 bu be) {m : Nat} (hm : m ≤ bu.length) : Rows2 w base (.slice A m c) v3 (bu.take m) be := by
 have e : (Value.slice A m c).ownBlock = (Value.slice A n c).ownBlock := by cases A <;> rfl
 refine ⟨Kd.R_take h.1 hm, ?_⟩
 rw [e]
 exact h.2
theorem Rows2.drewN {w : World} {base : Nat} {v2 v3 : Value} {bu be : List Int} (h : Rows2 w base v2 v3 bu be) (n : Nat) : Rows2 (w.drewN n) base v2 v3 bu be := h.below (pw_below_drewN (Below.refl _ _) n)
/-- The search leaves the list as it was. -/
theorem cell_al {W : World} {a : Addr} {v : Value} (h : W.cell? a = some v) (o : Obj) : (W.alloc o).cell? a = some v := pw_cell_below (below_alloc (Below.refl _ _) o) h
theorem Rows2.some {w : World} {base n c : Nat} {A : Option Addr} {v3 : Value} {bu be : List Int} (h : Rows2 w base (.slice A n c) v3 bu be) (hn : 0 < n) : ∃ g, A = Option.some ⟨g, 0, none⟩ := by
 have ho := Kd.own_of_R (enc := Value.int .i64) (h1 := fun _ => rfl) h.1
 rcases ho.2 with ⟨hv, h0⟩ | ⟨g, cap, cur, hv, _⟩
 ·
  injection hv with h1 h2 _; omega
 ·
  injection hv with h1 _ _; exact ⟨g, h1⟩
theorem Rows2.lower {w : World} {base b2 : Nat} {v2 v3 : Value} {bu be : List Int} (h : Rows2 w base v2 v3 bu be) (hb : b2 ≤ base) : Rows2 w b2 v2 v3 bu be := ⟨Kd.R_lower h.1 hb, Kd.R_lower h.2 hb⟩
theorem cells8 {w : World} {p t : Nat} {x0 x1 x2 x3 x4 x5 x6 x7 : Value} (h : w.heap[p]? = some (.cells #[x0, x1, x2, x3, x4, x5, x6, x7] t (0, 0))) :
  w.cell? ⟨p, 0, none⟩ = some x0 ∧ w.cell? ⟨p, 1, none⟩ = some x1 ∧ w.cell? ⟨p, 2, none⟩ = some x2 ∧ w.cell? ⟨p, 3, none⟩ = some x3 ∧ w.cell? ⟨p, 4, none⟩ = some x4 ∧ w.cell? ⟨p, 5, none⟩ = some x5 ∧ w.cell? ⟨p, 6, none⟩ = some x6 ∧ w.cell? ⟨p, 7, none⟩ = some x7 ∧ ∀ i, w.frozen? ⟨p, i, none⟩ = false :=
 ⟨(blk_cell h 0).trans rfl, (blk_cell h 1).trans rfl, (blk_cell h 2).trans rfl, (blk_cell h 3).trans rfl, (blk_cell h 4).trans rfl, (blk_cell h 5).trans rfl, (blk_cell h 6).trans rfl, (blk_cell h 7).trans rfl, fun i => blk_frozen h i⟩
def sets8 (w : World) (g : Nat) (y0 y1 y2 y3 y4 y5 y6 y7 : Value) : World := ((((((((w.setCell ⟨g, 0, none⟩ y0).setCell ⟨g, 1, none⟩ y1).setCell ⟨g, 2, none⟩ y2).setCell ⟨g, 3, none⟩ y3).setCell ⟨g, 4, none⟩ y4).setCell ⟨g, 5, none⟩ y5).setCell ⟨g, 6, none⟩ y6).setCell ⟨g, 7, none⟩ y7)
theorem sets8_blk {w : World} {g t : Nat} {x0 x1 x2 x3 x4 x5 x6 x7 : Value} (hb : w.heap[g]? = some (.cells #[x0, x1, x2, x3, x4, x5, x6, x7] t (0, 0))) (y0 y1 y2 y3 y4 y5 y6 y7 : Value) : (sets8 w g y0 y1 y2 y3 y4 y5 y6 y7).heap[g]? = some (.cells #[y0, y1, y2, y3, y4, y5, y6, y7] t (0, 0)) := by
 have h1 : (w.setCell ⟨g, 0, none⟩ y0).heap[g]? = some (.cells #[y0, x1, x2, x3, x4, x5, x6, x7] t (0, 0)) := blk_set hb 0 y0
 have h2 : ((w.setCell ⟨g, 0, none⟩ y0).setCell ⟨g, 1, none⟩ y1).heap[g]? = some (.cells #[y0, y1, x2, x3, x4, x5, x6, x7] t (0, 0)) := blk_set h1 1 y1
 have h3 : (((w.setCell ⟨g, 0, none⟩ y0).setCell ⟨g, 1, none⟩ y1).setCell ⟨g, 2, none⟩ y2).heap[g]? = some (.cells #[y0, y1, y2, x3, x4, x5, x6, x7] t (0, 0)) := blk_set h2 2 y2
 have h4 : ((((w.setCell ⟨g, 0, none⟩ y0).setCell ⟨g, 1, none⟩ y1).setCell ⟨g, 2, none⟩ y2).setCell ⟨g, 3, none⟩ y3).heap[g]? = some (.cells #[y0, y1, y2, y3, x4, x5, x6, x7] t (0, 0)) := blk_set h3 3 y3
 have h5 : (((((w.setCell ⟨g, 0, none⟩ y0).setCell ⟨g, 1, none⟩ y1).setCell ⟨g, 2, none⟩ y2).setCell ⟨g, 3, none⟩ y3).setCell ⟨g, 4, none⟩ y4).heap[g]? = some (.cells #[y0, y1, y2, y3, y4, x5, x6, x7] t (0, 0)) := blk_set h4 4 y4
 have h6 : ((((((w.setCell ⟨g, 0, none⟩ y0).setCell ⟨g, 1, none⟩ y1).setCell ⟨g, 2, none⟩ y2).setCell ⟨g, 3, none⟩ y3).setCell ⟨g, 4, none⟩ y4).setCell ⟨g, 5, none⟩ y5).heap[g]? = some (.cells #[y0, y1, y2, y3, y4, y5, x6, x7] t (0, 0)) := blk_set h5 5 y5
 have h7 : (((((((w.setCell ⟨g, 0, none⟩ y0).setCell ⟨g, 1, none⟩ y1).setCell ⟨g, 2, none⟩ y2).setCell ⟨g, 3, none⟩ y3).setCell ⟨g, 4, none⟩ y4).setCell ⟨g, 5, none⟩ y5).setCell ⟨g, 6, none⟩ y6).heap[g]? = some (.cells #[y0, y1, y2, y3, y4, y5, y6, x7] t (0, 0)) := blk_set h6 6 y6
 have h8 : ((((((((w.setCell ⟨g, 0, none⟩ y0).setCell ⟨g, 1, none⟩ y1).setCell ⟨g, 2, none⟩ y2).setCell ⟨g, 3, none⟩ y3).setCell ⟨g, 4, none⟩ y4).setCell ⟨g, 5, none⟩ y5).setCell ⟨g, 6, none⟩ y6).setCell ⟨g, 7, none⟩ y7).heap[g]? = some (.cells #[y0, y1, y2, y3, y4, y5, y6, y7] t (0, 0)) := blk_set h7 7 y7
 exact h8
theorem sets8_below {b : Nat} {w W : World} (h : Below b w W) {g : Nat} (hg : b ≤ g) (y0 y1 y2 y3 y4 y5 y6 y7 : Value) : Below b w (sets8 W g y0 y1 y2 y3 y4 y5 y6 y7) := (sput (sput (sput (sput (sput (sput (sput (sput h hg 0 y0) hg 1 y1) hg 2 y2) hg 3 y3) hg 4 y4) hg 5 y5) hg 6 y6) hg 7 y7)
theorem rows2_sets8 {w : World} {base g t : Nat} {x0 x1 x2 x3 x4 x5 x6 x7 v2 v3 : Value} {bu be : List Int} (h : Rows2 w base v2 v3 bu be) (hb : w.heap[g]? = some (.cells #[x0, x1, x2, x3, x4, x5, x6, x7] t (0, 0))) (ht : t ≠ 2) (y0 y1 y2 y3 y4 y5 y6 y7 : Value) : Rows2 (sets8 w g y0 y1 y2 y3 y4 y5 y6 y7) base v2 v3 bu be := by
 have h1 : (w.setCell ⟨g, 0, none⟩ y0).heap[g]? = some (.cells #[y0, x1, x2, x3, x4, x5, x6, x7] t (0, 0)) := blk_set hb 0 y0
 have h2 : ((w.setCell ⟨g, 0, none⟩ y0).setCell ⟨g, 1, none⟩ y1).heap[g]? = some (.cells #[y0, y1, x2, x3, x4, x5, x6, x7] t (0, 0)) := blk_set h1 1 y1
 have h3 : (((w.setCell ⟨g, 0, none⟩ y0).setCell ⟨g, 1, none⟩ y1).setCell ⟨g, 2, none⟩ y2).heap[g]? = some (.cells #[y0, y1, y2, x3, x4, x5, x6, x7] t (0, 0)) := blk_set h2 2 y2
 have h4 : ((((w.setCell ⟨g, 0, none⟩ y0).setCell ⟨g, 1, none⟩ y1).setCell ⟨g, 2, none⟩ y2).setCell ⟨g, 3, none⟩ y3).heap[g]? = some (.cells #[y0, y1, y2, y3, x4, x5, x6, x7] t (0, 0)) := blk_set h3 3 y3
 have h5 : (((((w.setCell ⟨g, 0, none⟩ y0).setCell ⟨g, 1, none⟩ y1).setCell ⟨g, 2, none⟩ y2).setCell ⟨g, 3, none⟩ y3).setCell ⟨g, 4, none⟩ y4).heap[g]? = some (.cells #[y0, y1, y2, y3, y4, x5, x6, x7] t (0, 0)) := blk_set h4 4 y4
 have h6 : ((((((w.setCell ⟨g, 0, none⟩ y0).setCell ⟨g, 1, none⟩ y1).setCell ⟨g, 2, none⟩ y2).setCell ⟨g, 3, none⟩ y3).setCell ⟨g, 4, none⟩ y4).setCell ⟨g, 5, none⟩ y5).heap[g]? = some (.cells #[y0, y1, y2, y3, y4, y5, x6, x7] t (0, 0)) := blk_set h5 5 y5
 have h7 : (((((((w.setCell ⟨g, 0, none⟩ y0).setCell ⟨g, 1, none⟩ y1).setCell ⟨g, 2, none⟩ y2).setCell ⟨g, 3, none⟩ y3).setCell ⟨g, 4, none⟩ y4).setCell ⟨g, 5, none⟩ y5).setCell ⟨g, 6, none⟩ y6).heap[g]? = some (.cells #[y0, y1, y2, y3, y4, y5, y6, x7] t (0, 0)) := blk_set h6 6 y6
 have h8 : ((((((((w.setCell ⟨g, 0, none⟩ y0).setCell ⟨g, 1, none⟩ y1).setCell ⟨g, 2, none⟩ y2).setCell ⟨g, 3, none⟩ y3).setCell ⟨g, 4, none⟩ y4).setCell ⟨g, 5, none⟩ y5).setCell ⟨g, 6, none⟩ y6).setCell ⟨g, 7, none⟩ y7).heap[g]? = some (.cells #[y0, y1, y2, y3, y4, y5, y6, y7] t (0, 0)) := blk_set h7 7 y7
 exact (Rows2.set (Rows2.set (Rows2.set (Rows2.set (Rows2.set (Rows2.set (Rows2.set (Rows2.set h hb ht 0 y0) h1 ht 1 y1) h2 ht 2 y2) h3 ht 3 y3) h4 ht 4 y4) h5 ht 5 y5) h6 ht 6 y6) h7 ht 7 y7)
structure SVX where
 set : List Int
 best : List Int
 most : Int
 count : Int
 nodes : Int
 budget : Int
 full : Bool
def StX (w : World) (base p : Nat) (Alist : Option Addr) (nlist clist : Nat) (s : SVX) : Prop := ∃ A2 c2 A3 c3,
 w.heap[p]? = some (.cells #[.slice Alist nlist clist, .slice A2 s.set.length c2, .slice A3 s.best.length c3, .int .i64 s.most, .int .i64 s.count, .int .i64 s.nodes, .int .i64 s.budget, .bool s.full] 88 (0, 0)) ∧ Rows2 w base (.slice A2 s.set.length c2) (.slice A3 s.best.length c3) s.set s.best
theorem StX.below {w' : World} {w : World} {base p : Nat} {Alist : Option Addr} {nlist clist : Nat} {s : SVX} (h : StX w base p Alist nlist clist s) (hb : Below w.heap.size w w') : StX w' base p Alist nlist clist s := by
 obtain ⟨A2, c2, A3, c3, hP, hR⟩ := h
 exact ⟨A2, c2, A3, c3, blk_below hP hb, hR.below hb⟩
theorem StX.size {w : World} {base p : Nat} {Alist : Option Addr} {nlist clist : Nat} {s : SVX} (h : StX w base p Alist nlist clist s) : p < w.heap.size := by
 obtain ⟨A2, c2, A3, c3, hP, hR⟩ := h
 exact blk_lt hP
theorem StX.put_set {w : World} {base p : Nat} {Alist : Option Addr} {nlist clist : Nat} {s : SVX} {A9 A3 : Option Addr} {n9 c9 c3 : Nat} {u : Value} {xs : List Int} (hP : w.heap[p]? = some (.cells #[.slice Alist nlist clist, u, .slice A3 s.best.length c3, .int .i64 s.most, .int .i64 s.count, .int .i64 s.nodes, .int .i64 s.budget, .bool s.full] 88 (0, 0))) (hR : Rows2 w base (.slice A9 n9 c9) (.slice A3 s.best.length c3) xs s.best) (hn : n9 = xs.length) : StX (w.setCell ⟨p, 1, none⟩ (.slice A9 n9 c9)) base p Alist nlist clist ⟨xs, s.best, s.most, s.count, s.nodes, s.budget, s.full⟩ := by
 subst hn
 exact ⟨A9, c9, A3, c3, blk_set hP 1 _, hR.set hP (by decide) 1 _⟩
theorem StX.put_best {w : World} {base p : Nat} {Alist : Option Addr} {nlist clist : Nat} {s : SVX} {A9 A2 : Option Addr} {n9 c9 c2 : Nat} {u : Value} {xs : List Int} (hP : w.heap[p]? = some (.cells #[.slice Alist nlist clist, .slice A2 s.set.length c2, u, .int .i64 s.most, .int .i64 s.count, .int .i64 s.nodes, .int .i64 s.budget, .bool s.full] 88 (0, 0))) (hR : Rows2 w base (.slice A2 s.set.length c2) (.slice A9 n9 c9) s.set xs) (hn : n9 = xs.length) : StX (w.setCell ⟨p, 2, none⟩ (.slice A9 n9 c9)) base p Alist nlist clist ⟨s.set, xs, s.most, s.count, s.nodes, s.budget, s.full⟩ := by
 subst hn
 exact ⟨A2, c2, A9, c9, blk_set hP 2 _, hR.set hP (by decide) 2 _⟩
theorem StX.set_most {w : World} {base p : Nat} {Alist : Option Addr} {nlist clist : Nat} {s : SVX} (h : StX w base p Alist nlist clist s) (x : Int) : StX (w.setCell ⟨p, 3, none⟩ (.int .i64 x)) base p Alist nlist clist ⟨s.set, s.best, x, s.count, s.nodes, s.budget, s.full⟩ := by
 obtain ⟨A2, c2, A3, c3, hP, hR⟩ := h
 exact ⟨A2, c2, A3, c3, blk_set hP 3 _, hR.set hP (by decide) 3 _⟩
theorem StX.set_count {w : World} {base p : Nat} {Alist : Option Addr} {nlist clist : Nat} {s : SVX} (h : StX w base p Alist nlist clist s) (x : Int) : StX (w.setCell ⟨p, 4, none⟩ (.int .i64 x)) base p Alist nlist clist ⟨s.set, s.best, s.most, x, s.nodes, s.budget, s.full⟩ := by
 obtain ⟨A2, c2, A3, c3, hP, hR⟩ := h
 exact ⟨A2, c2, A3, c3, blk_set hP 4 _, hR.set hP (by decide) 4 _⟩
theorem StX.set_nodes {w : World} {base p : Nat} {Alist : Option Addr} {nlist clist : Nat} {s : SVX} (h : StX w base p Alist nlist clist s) (x : Int) : StX (w.setCell ⟨p, 5, none⟩ (.int .i64 x)) base p Alist nlist clist ⟨s.set, s.best, s.most, s.count, x, s.budget, s.full⟩ := by
 obtain ⟨A2, c2, A3, c3, hP, hR⟩ := h
 exact ⟨A2, c2, A3, c3, blk_set hP 5 _, hR.set hP (by decide) 5 _⟩
theorem StX.set_budget {w : World} {base p : Nat} {Alist : Option Addr} {nlist clist : Nat} {s : SVX} (h : StX w base p Alist nlist clist s) (x : Int) : StX (w.setCell ⟨p, 6, none⟩ (.int .i64 x)) base p Alist nlist clist ⟨s.set, s.best, s.most, s.count, s.nodes, x, s.full⟩ := by
 obtain ⟨A2, c2, A3, c3, hP, hR⟩ := h
 exact ⟨A2, c2, A3, c3, blk_set hP 6 _, hR.set hP (by decide) 6 _⟩
theorem StX.set_full {w : World} {base p : Nat} {Alist : Option Addr} {nlist clist : Nat} {s : SVX} (h : StX w base p Alist nlist clist s) (x : Bool) : StX (w.setCell ⟨p, 7, none⟩ (.bool x)) base p Alist nlist clist ⟨s.set, s.best, s.most, s.count, s.nodes, s.budget, x⟩ := by
 obtain ⟨A2, c2, A3, c3, hP, hR⟩ := h
 exact ⟨A2, c2, A3, c3, blk_set hP 7 _, hR.set hP (by decide) 7 _⟩
theorem StX.open {w : World} {base p : Nat} {Alist : Option Addr} {nlist clist : Nat} {s : SVX} (h : StX w base p Alist nlist clist s) : ∃ A2 c2 A3 c3,
  (w.cell? ⟨p, 0, none⟩ = some (.slice Alist nlist clist) ∧ w.cell? ⟨p, 1, none⟩ = some (.slice A2 s.set.length c2) ∧ w.cell? ⟨p, 2, none⟩ = some (.slice A3 s.best.length c3) ∧ w.cell? ⟨p, 3, none⟩ = some (.int .i64 s.most) ∧ w.cell? ⟨p, 4, none⟩ = some (.int .i64 s.count) ∧ w.cell? ⟨p, 5, none⟩ = some (.int .i64 s.nodes) ∧ w.cell? ⟨p, 6, none⟩ = some (.int .i64 s.budget) ∧ w.cell? ⟨p, 7, none⟩ = some (.bool s.full) ∧ ∀ i, w.frozen? ⟨p, i, none⟩ = false) ∧
  (s.set.length ≤ c2 ∧ Kd.C (Kd.int .i64) w A2 s.set.length s.set) ∧ (s.best.length ≤ c3 ∧ Kd.C (Kd.int .i64) w A3 s.best.length s.best) ∧
  w.heap[p]? = some (.cells #[.slice Alist nlist clist, .slice A2 s.set.length c2, .slice A3 s.best.length c3, .int .i64 s.most, .int .i64 s.count, .int .i64 s.nodes, .int .i64 s.budget, .bool s.full] 88 (0, 0)) ∧ Rows2 w base (.slice A2 s.set.length c2) (.slice A3 s.best.length c3) s.set s.best := by
 obtain ⟨A2, c2, A3, c3, hP, hR⟩ := h
 exact ⟨A2, c2, A3, c3, cells8 hP, (Kd.R_reads' hR.1).2, (Kd.R_reads' hR.2).2, hP, hR⟩
/-- Does a search go on, and what it holds then. -/
def nodeB (s : SVX) : Bool := if s.nodes = s.budget then false else !s.full
def nodeS (s : SVX) : SVX := if s.nodes = s.budget then ⟨s.set, s.best, s.most, s.count, s.nodes, s.budget, true⟩ else if s.full = true then s else ⟨s.set, s.best, s.most, s.count, wrap64 (s.nodes + 1), s.budget, s.full⟩
set_option maxHeartbeats 4000000 in
set_option maxRecDepth 100000 in
theorem nodeX.calls {A0 : Option Addr} {n0 c0 : Nat} {b base p : Nat} {w0 w : World} {s : SVX} (hb : Below b w0 w) (hp : b ≤ p) (hs : StX w base p A0 n0 c0 s) :
  Calls Try.prog 116 #[.pointer (some ⟨p, 0, none⟩)] w fun e w' => e = .returned (.bool (nodeB s)) ∧ Below b w0 w' ∧ StX w' base p A0 n0 c0 (nodeS s) := by
 obtain ⟨A2, c2, A3, c3, ⟨x0, x1, x2, x3, x4, x5, x6, x7, xf⟩, _, _, _, _⟩ := hs.open
 have HS := Aside0.mk hs
 have HB := Aside0.mk hb
 clear hs hb
 by_cases q : s.nodes = s.budget
 ·
  have z : (s.nodes == s.budget) = true := by simpa using q
  have e1 : nodeB s = false := by unfold nodeB; rw [if_pos q]
  have e2 : nodeS s = ⟨s.set, s.best, s.most, s.count, s.nodes, s.budget, true⟩ := by unfold nodeS; rw [if_pos q]
  rw [e1, e2]
  clear e1 e2 q
  go_enter Try.func116, Try.ntmps116
  go_wp2
  go_quiet (fail)
  go_wp2
  go_ret
  exact ⟨rfl, sput (pw_below_drewN HB.out _) hp 7 _, StX.set_full (HS.out.below (pw_below_drewN (Below.refl _ _) _)) true⟩
 ·
  have z : (s.nodes == s.budget) = false := by simpa using q
  cases hf : s.full with
  | true =>
    have e1 : nodeB s = false := by unfold nodeB; rw [if_neg q, hf]; rfl
    have e2 : nodeS s = s := by unfold nodeS; rw [if_neg q, if_pos hf]
    rw [e1, e2]
    rw [hf] at x7
    clear e1 e2 q
    go_enter Try.func116, Try.ntmps116
    go_wp2
    go_quiet (fail)
    go_wp2
    go_ret
    exact ⟨rfl, pw_below_drewN HB.out _, HS.out.below (pw_below_drewN (Below.refl _ _) _)⟩
  | false =>
    have e1 : nodeB s = true := by unfold nodeB; rw [if_neg q, hf]; rfl
    have e2 : nodeS s = ⟨s.set, s.best, s.most, s.count, wrap64 (s.nodes + 1), s.budget, s.full⟩ := by unfold nodeS; rw [if_neg q, if_neg (by rw [hf]; decide)]
    rw [e1, e2]
    rw [hf] at x7
    clear e1 e2 q
    go_enter Try.func116, Try.ntmps116
    go_wp2
    go_quiet (fail)
    go_wp2
    go_ret
    exact ⟨rfl, sput (pw_below_drewN HB.out _) hp 5 _, StX.set_nodes (HS.out.below (pw_below_drewN (Below.refl _ _) _)) _⟩
/-- The search, from a place on. -/
def runX (k : Nat) (l0 : List S34) : Nat → Int → Int → SVX → Option SVX
 | 0, _, g, s => (spec_l24Buildable.f k l0 s.set).bind fun b => if b = true then
    (if g > s.most then some ⟨s.set, s.set, g, wrap64 (s.count + 1), s.nodes, s.budget, s.full⟩
     else if g = s.most then (spec_l08Before.f k s.set s.best).bind fun q => if q = true then some ⟨s.set, s.set, g, wrap64 (s.count + 1), s.nodes, s.budget, s.full⟩ else some ⟨s.set, s.best, s.most, wrap64 (s.count + 1), s.nodes, s.budget, s.full⟩
     else some ⟨s.set, s.best, s.most, wrap64 (s.count + 1), s.nodes, s.budget, s.full⟩)
    else some s
 | d + 1, m, g, s =>
  let x := rd_T34 l0 ((l0.length - (d + 1) : Nat) : Int)
  (if x.f1 ≤ m then
    (if nodeB s = true then (runX k l0 d (wrap64 (m - x.f1)) (wrap64 (g + x.f2)) ⟨(nodeS s).set ++ [((l0.length - (d + 1) : Nat) : Int)], (nodeS s).best, (nodeS s).most, (nodeS s).count, (nodeS s).nodes, (nodeS s).budget, (nodeS s).full⟩).bind fun s2 => some ⟨s2.set.take (s2.set.length - 1), s2.best, s2.most, s2.count, s2.nodes, s2.budget, s2.full⟩
     else some (nodeS s))
   else some s).bind fun s1 => if nodeB s1 = true then runX k l0 d m g (nodeS s1) else some (nodeS s1)
theorem runX_mono (k : Nat) (l0 : List S34) : ∀ d m g s, LeO (runX k l0 d m g s) (runX (k + 1) l0 d m g s)
 | 0, m, g, s => by
  unfold runX
  refine LeO.bind (spec_l24Buildable.mono _ _ k) (fun _ => LeO.ite (LeO.ite (LeO.refl _) (LeO.ite (LeO.bind (spec_l08Before.mono _ _ k) (fun _ => LeO.refl _)) (LeO.refl _))) (LeO.refl _))
 | d + 1, m, g, s => by
  unfold runX
  refine LeO.bind (LeO.ite (LeO.ite (LeO.bind (runX_mono k l0 d _ _ _) (fun _ => LeO.refl _)) (LeO.refl _)) (LeO.refl _)) (fun q => LeO.ite (runX_mono k l0 d _ _ _) (LeO.refl _))
set_option maxHeartbeats 4000000 in
set_option maxRecDepth 100000 in
/-- The search at its end, no stages being left. -/
theorem runX_0.calls (k : Nat) (A0 : Option Addr) (c0 : Nat) (l0 : List S34) (w0 : World) (hr0 : Kd.C k34 w0 A0 l0.length l0) (hc0 : l0.length ≤ c0) (m g : Int) (s s' : SVX) (w : World) (p : Nat) (h : runX k l0 0 m g s = some s') (hb : Below w0.heap.size w0 w) (hp : w0.heap.size ≤ p) (hs : StX w w0.heap.size p A0 l0.length c0 s) (hl : s.set.length ≤ 8) :
  Calls Try.prog 94 #[.pointer (some ⟨p, 0, none⟩), .int .i64 (l0.length : Int), .int .i64 m, .int .i64 g] w fun e w' => e = .returned (.tuple #[]) ∧ Below w0.heap.size w0 w' ∧ StX w' w0.heap.size p A0 l0.length c0 s' := by
 unfold runX at h
 obtain ⟨A2, c2, A3, c3, ⟨x0, x1, x2, x3, x4, x5, x6, x7, xf⟩, ⟨hc2, hC2⟩, _, _, _⟩ := hs.open
 obtain ⟨B, hB, h1⟩ := Option.bind_eq_some_iff.1 h
 clear h
 have HBU := Aside0.mk (fun W (hW : Below w.heap.size w W) => spec_l24Buildable.calls k A0 c0 l0 A2 c2 s.set B W (Kd.C_below hr0 (below_then hb hb.size hW)) hc0 (Kd.C_below hC2 hW) hc2 hB)
 have HB := Aside0.mk hb
 have HS := Aside0.mk hs
 have HPP := Aside0.mk hp
 have HOWN := Aside0.mk (show spec_l00Own.f s.set = some s.set by unfold spec_l00Own.f; simp only [Option.bind_some, List.length_nil, List.nil_append]; rw [if_pos (by omega)])
 clear hr0 hc0 hB hb hs hc2 hC2 hl hp
 cases B with
 | false =>
  rw [if_neg (by decide)] at h1
  obtain rfl := Option.some.inj h1
  clear h1
  go_enter Try.func94, Try.ntmps94
  go_wp2
  go_quiet (first | (go_at_call 72; refine (HBU.out _ (pw_below_drewN (Below.refl _ _) _)).mono ?_; rintro e w' ⟨rfl, ⟨⟨nd, rfl⟩⟩⟩; (first | (with_reducible exact ⟨rfl, _, World.drewN_drewN _ _ _⟩) | exact ⟨rfl, _, rfl⟩)))
  go_wp2
  ((try simp only [Exit.inBlock, Exit.then]); first | (refine bodyPost_ret (results_none rfl _ _ _) rfl ?_) | (refine bodyPost_end (results_none rfl _ _ _) rfl ?_))
  exact ⟨rfl, pw_below_drewN HB.out _, HS.out.below (pw_below_drewN (Below.refl _ _) _)⟩
 | true =>
  rw [if_pos rfl] at h1
  by_cases q3 : g > s.most
  ·
    rw [if_pos q3] at h1
    obtain rfl := Option.some.inj h1
    have z3 : decide (s.most < g) = true := decide_eq_true q3
    clear h1 q3
    go_enter Try.func94, Try.ntmps94
    go_wp2
    go_quiet (first | (go_at_call 72; refine (HBU.out _ (pw_below_drewN (Below.refl _ _) _)).mono ?_; rintro e w' ⟨rfl, ⟨⟨nd, rfl⟩⟩⟩; (first | (with_reducible exact ⟨rfl, _, World.drewN_drewN _ _ _⟩) | exact ⟨rfl, _, rfl⟩)))
    go_wp2
    have hs1 := StX.set_count (HS.out.below (pw_below_drewN (Below.refl _ _) nq)) (wrap64 (s.count + 1))
    have hb1 := sput (pw_below_drewN HB.out nq) HPP.out 4 (.int .i64 (wrap64 (s.count + 1)))
    clear x0 x1 x2 x3 x4 x5 x6 x7 xf
    generalize (w.drewN nq).setCell ⟨p, 4, none⟩ (.int .i64 (wrap64 (s.count + 1))) = w1 at hs1 hb1 ⊢
    obtain ⟨A2, c2, A3, c3, ⟨x0, x1, x2, x3, x4, x5, x6, x7, xf⟩, ⟨hc2, hC2⟩, ⟨hc3, hC3⟩, hP, hR⟩ := hs1.open
    have HS1 := Aside0.mk hs1
    have HB1 := Aside0.mk hb1
    have HC2 := Aside0.mk hc2
    have HR := Aside0.mk hR
    have HP1 := Aside0.mk hP
    clear hs1 hb1 hc2 hC2 hc3 hC3 hP hR
    go_quiet (fail)
    have HRW := Aside0.mk ((HR.out.drewN nq).set HP1.out (by decide) 3 (.int .i64 g))
    go_wp2_with (go_at_call 100; refine (spec_l00Own.calls A2 c2 s.set s.set _ (Kd.R_reads' HRW.out.1).2.2 HC2.out HOWN.out).mono ?_; rintro e w2 ⟨v, rfl, hRn, hb2⟩; obtain ⟨A9, c9, e9⟩ := Kd.R_slice hRn; subst e9; have hP2 := blk_below (blk_set (show (w1.drewN nq).heap[p]? = _ from HP1.out) 3 (.int .i64 g)) hb2; obtain ⟨u0, u1, u2, u3, u4, u5, u6, u7, uf⟩ := cells8 hP2; have HRn := Aside0.mk hRn; have HB2 := Aside0.mk hb2; have HP2 := Aside0.mk hP2; clear hRn hb2 hP2)
    ((try simp only [Exit.inBlock, Exit.then]); first | (refine bodyPost_ret (results_none rfl _ _ _) rfl ?_) | (refine bodyPost_end (results_none rfl _ _ _) rfl ?_))
    exact ⟨rfl, sput (below_then (sput (pw_below_drewN HB1.out _) HPP.out 3 _) (sput (pw_below_drewN HB1.out nq) HPP.out 3 (.int .i64 g)).size HB2.out) HPP.out 2 _, StX.put_best (s := ⟨s.set, s.best, g, wrap64 (s.count + 1), s.nodes, s.budget, s.full⟩) HP2.out (HRW.out.clone HRn.out HB2.out (sput (pw_below_drewN HB1.out nq) HPP.out 3 (.int .i64 g)).size) rfl⟩
  ·
    rw [if_neg q3] at h1
    have z3 : decide (s.most < g) = false := decide_eq_false q3
    by_cases q4 : g = s.most
    ·
      rw [if_pos q4] at h1
      have z4 : (g == s.most) = true := by simpa using q4
      obtain ⟨q, hq, h2⟩ := Option.bind_eq_some_iff.1 h1
      have HQ := Aside0.mk hq
      clear h1 hq q3 q4
      cases q with
      | true =>
       rw [if_pos rfl] at h2
       obtain rfl := Option.some.inj h2
       clear h2
       go_enter Try.func94, Try.ntmps94
       go_wp2
       go_quiet (first | (go_at_call 72; refine (HBU.out _ (pw_below_drewN (Below.refl _ _) _)).mono ?_; rintro e w' ⟨rfl, ⟨⟨nd, rfl⟩⟩⟩; (first | (with_reducible exact ⟨rfl, _, World.drewN_drewN _ _ _⟩) | exact ⟨rfl, _, rfl⟩)))
       go_wp2
       have hs1 := StX.set_count (HS.out.below (pw_below_drewN (Below.refl _ _) nq)) (wrap64 (s.count + 1))
       have hb1 := sput (pw_below_drewN HB.out nq) HPP.out 4 (.int .i64 (wrap64 (s.count + 1)))
       clear x0 x1 x2 x3 x4 x5 x6 x7 xf
       generalize (w.drewN nq).setCell ⟨p, 4, none⟩ (.int .i64 (wrap64 (s.count + 1))) = w1 at hs1 hb1 ⊢
       obtain ⟨A2, c2, A3, c3, ⟨x0, x1, x2, x3, x4, x5, x6, x7, xf⟩, ⟨hc2, hC2⟩, ⟨hc3, hC3⟩, hP, hR⟩ := hs1.open
       have HS1 := Aside0.mk hs1
       have HB1 := Aside0.mk hb1
       have HC2 := Aside0.mk hc2
       have HR := Aside0.mk hR
       have HP1 := Aside0.mk hP
       have HBF := Aside0.mk (fun W (hW : Below w1.heap.size w1 W) => spec_l08Before.calls k A2 c2 s.set A3 c3 s.best true W (Kd.C_below hC2 hW) hc2 (Kd.C_below hC3 hW) hc3 HQ.out)
       clear hs1 hb1 hc2 hC2 hc3 hC3 hP hR
       go_quiet (first | (go_at_call 115; refine (HBF.out _ (pw_below_drewN (Below.refl _ _) _)).mono ?_; rintro e w' ⟨rfl, ⟨⟨nd, rfl⟩⟩⟩; (first | (with_reducible exact ⟨rfl, _, World.drewN_drewN _ _ _⟩) | exact ⟨rfl, _, rfl⟩)))
       have HRW := Aside0.mk ((HR.out.drewN nq).set HP1.out (by decide) 3 (.int .i64 g))
       go_wp2_with (go_at_call 100; refine (spec_l00Own.calls A2 c2 s.set s.set _ (Kd.R_reads' HRW.out.1).2.2 HC2.out HOWN.out).mono ?_; rintro e w2 ⟨v, rfl, hRn, hb2⟩; obtain ⟨A9, c9, e9⟩ := Kd.R_slice hRn; subst e9; have hP2 := blk_below (blk_set (show (w1.drewN nq).heap[p]? = _ from HP1.out) 3 (.int .i64 g)) hb2; obtain ⟨u0, u1, u2, u3, u4, u5, u6, u7, uf⟩ := cells8 hP2; have HRn := Aside0.mk hRn; have HB2 := Aside0.mk hb2; have HP2 := Aside0.mk hP2; clear hRn hb2 hP2)
       ((try simp only [Exit.inBlock, Exit.then]); first | (refine bodyPost_ret (results_none rfl _ _ _) rfl ?_) | (refine bodyPost_end (results_none rfl _ _ _) rfl ?_))
       exact ⟨rfl, sput (below_then (sput (pw_below_drewN HB1.out _) HPP.out 3 _) (sput (pw_below_drewN HB1.out nq) HPP.out 3 (.int .i64 g)).size HB2.out) HPP.out 2 _, StX.put_best (s := ⟨s.set, s.best, g, wrap64 (s.count + 1), s.nodes, s.budget, s.full⟩) HP2.out (HRW.out.clone HRn.out HB2.out (sput (pw_below_drewN HB1.out nq) HPP.out 3 (.int .i64 g)).size) rfl⟩
      | false =>
       rw [if_neg (by decide)] at h2
       obtain rfl := Option.some.inj h2
       clear h2
       go_enter Try.func94, Try.ntmps94
       go_wp2
       go_quiet (first | (go_at_call 72; refine (HBU.out _ (pw_below_drewN (Below.refl _ _) _)).mono ?_; rintro e w' ⟨rfl, ⟨⟨nd, rfl⟩⟩⟩; (first | (with_reducible exact ⟨rfl, _, World.drewN_drewN _ _ _⟩) | exact ⟨rfl, _, rfl⟩)))
       go_wp2
       have hs1 := StX.set_count (HS.out.below (pw_below_drewN (Below.refl _ _) nq)) (wrap64 (s.count + 1))
       have hb1 := sput (pw_below_drewN HB.out nq) HPP.out 4 (.int .i64 (wrap64 (s.count + 1)))
       clear x0 x1 x2 x3 x4 x5 x6 x7 xf
       generalize (w.drewN nq).setCell ⟨p, 4, none⟩ (.int .i64 (wrap64 (s.count + 1))) = w1 at hs1 hb1 ⊢
       obtain ⟨A2, c2, A3, c3, ⟨x0, x1, x2, x3, x4, x5, x6, x7, xf⟩, ⟨hc2, hC2⟩, ⟨hc3, hC3⟩, hP, hR⟩ := hs1.open
       have HS1 := Aside0.mk hs1
       have HB1 := Aside0.mk hb1
       have HC2 := Aside0.mk hc2
       have HR := Aside0.mk hR
       have HP1 := Aside0.mk hP
       have HBF := Aside0.mk (fun W (hW : Below w1.heap.size w1 W) => spec_l08Before.calls k A2 c2 s.set A3 c3 s.best false W (Kd.C_below hC2 hW) hc2 (Kd.C_below hC3 hW) hc3 HQ.out)
       clear hs1 hb1 hc2 hC2 hc3 hC3 hP hR
       go_quiet (first | (go_at_call 115; refine (HBF.out _ (pw_below_drewN (Below.refl _ _) _)).mono ?_; rintro e w' ⟨rfl, ⟨⟨nd, rfl⟩⟩⟩; (first | (with_reducible exact ⟨rfl, _, World.drewN_drewN _ _ _⟩) | exact ⟨rfl, _, rfl⟩)))
       go_wp2
       ((try simp only [Exit.inBlock, Exit.then]); first | (refine bodyPost_ret (results_none rfl _ _ _) rfl ?_) | (refine bodyPost_end (results_none rfl _ _ _) rfl ?_))
       exact ⟨rfl, pw_below_drewN HB1.out _, HS1.out.below (pw_below_drewN (Below.refl _ _) _)⟩
    ·
      rw [if_neg q4] at h1
      have z4 : (g == s.most) = false := by simpa using q4
      obtain rfl := Option.some.inj h1
      clear h1 q3 q4
      go_enter Try.func94, Try.ntmps94
      go_wp2
      go_quiet (first | (go_at_call 72; refine (HBU.out _ (pw_below_drewN (Below.refl _ _) _)).mono ?_; rintro e w' ⟨rfl, ⟨⟨nd, rfl⟩⟩⟩; (first | (with_reducible exact ⟨rfl, _, World.drewN_drewN _ _ _⟩) | exact ⟨rfl, _, rfl⟩)))
      go_wp2
      have hs1 := StX.set_count (HS.out.below (pw_below_drewN (Below.refl _ _) nq)) (wrap64 (s.count + 1))
      have hb1 := sput (pw_below_drewN HB.out nq) HPP.out 4 (.int .i64 (wrap64 (s.count + 1)))
      clear x0 x1 x2 x3 x4 x5 x6 x7 xf
      generalize (w.drewN nq).setCell ⟨p, 4, none⟩ (.int .i64 (wrap64 (s.count + 1))) = w1 at hs1 hb1 ⊢
      obtain ⟨A2, c2, A3, c3, ⟨x0, x1, x2, x3, x4, x5, x6, x7, xf⟩, ⟨hc2, hC2⟩, ⟨hc3, hC3⟩, hP, hR⟩ := hs1.open
      have HS1 := Aside0.mk hs1
      have HB1 := Aside0.mk hb1
      have HC2 := Aside0.mk hc2
      have HR := Aside0.mk hR
      have HP1 := Aside0.mk hP
      clear hs1 hb1 hc2 hC2 hc3 hC3 hP hR
      go_quiet (fail)
      go_wp2
      ((try simp only [Exit.inBlock, Exit.then]); first | (refine bodyPost_ret (results_none rfl _ _ _) rfl ?_) | (refine bodyPost_end (results_none rfl _ _ _) rfl ?_))
      exact ⟨rfl, pw_below_drewN HB1.out _, HS1.out.below (pw_below_drewN (Below.refl _ _) _)⟩
theorem runX_set (k : Nat) (l0 : List S34) : ∀ d m g s s', runX k l0 d m g s = some s' → s'.set = s.set := by
 have hn : ∀ s : SVX, (nodeS s).set = s.set := fun s => by unfold nodeS; split; rfl; split <;> rfl
 intro d
 induction d with
 | zero =>
  intro m g s s' h
  unfold runX at h
  obtain ⟨B, _, h⟩ := Option.bind_eq_some_iff.1 h
  split at h
  ·
    split at h
    ·
      obtain rfl := Option.some.inj h; rfl
    ·
      split at h
      ·
       obtain ⟨c, _, h⟩ := Option.bind_eq_some_iff.1 h
       split at h
       ·
        obtain rfl := Option.some.inj h; rfl
       ·
        obtain rfl := Option.some.inj h; rfl
      ·
       obtain rfl := Option.some.inj h; rfl
  ·
    obtain rfl := Option.some.inj h; rfl
 | succ d ih =>
  intro m g s s' h
  unfold runX at h
  obtain ⟨q, hq, h⟩ := Option.bind_eq_some_iff.1 h
  have hqb : q.set = s.set := by
    split at hq
    ·
      split at hq
      ·
       obtain ⟨s2, h2, hq⟩ := Option.bind_eq_some_iff.1 hq
       obtain rfl := Option.some.inj hq
       have := ih _ _ _ _ h2
       simp only [this, hn, List.length_append, List.length_cons, List.length_nil, Nat.add_sub_cancel]
       simp
      ·
       obtain rfl := Option.some.inj hq; exact hn s
    ·
      obtain rfl := Option.some.inj hq; rfl
  split at h
  ·
    exact (ih _ _ _ _ h).trans ((hn q).trans hqb)
  ·
    obtain rfl := Option.some.inj h; exact (hn q).trans hqb
set_option maxHeartbeats 8000000 in
set_option maxRecDepth 100000 in
/-- The search with stages left, given what it does with one stage less. -/
theorem runX_s.calls (k : Nat) (A0 : Option Addr) (c0 : Nat) (l0 : List S34) (w0 : World) (hr0 : Kd.C k34 w0 A0 l0.length l0) (hc0 : l0.length ≤ c0) (h8 : l0.length ≤ 8) (p : Nat) (hp : w0.heap.size ≤ p) (d i : Nat) (hi : i + (d + 1) = l0.length)
  (ih : ∀ (m g : Int) (s s' : SVX) (w : World), runX k l0 d m g s = some s' → Below w0.heap.size w0 w → StX w w0.heap.size p A0 l0.length c0 s → s.set.length + d ≤ l0.length → Calls Try.prog 94 #[.pointer (some ⟨p, 0, none⟩), .int .i64 ((i : Int) + 1), .int .i64 m, .int .i64 g] w fun e w' => e = .returned (.tuple #[]) ∧ Below w0.heap.size w0 w' ∧ StX w' w0.heap.size p A0 l0.length c0 s')
  (m g : Int) (s s' : SVX) (w : World) (h : runX k l0 (d + 1) m g s = some s') (hb : Below w0.heap.size w0 w) (hs : StX w w0.heap.size p A0 l0.length c0 s) (hl : s.set.length + (d + 1) ≤ l0.length) :
  Calls Try.prog 94 #[.pointer (some ⟨p, 0, none⟩), .int .i64 (i : Int), .int .i64 m, .int .i64 g] w fun e w' => e = .returned (.tuple #[]) ∧ Below w0.heap.size w0 w' ∧ StX w' w0.heap.size p A0 l0.length c0 s' := by
 have hset := runX_set k l0
 have hn : ∀ s : SVX, (nodeS s).set = s.set := fun s => by unfold nodeS; split; rfl; split <;> rfl
 unfold runX at h
 rw [show l0.length - (d + 1) = i by omega] at h
 obtain ⟨q, hq, h1⟩ := Option.bind_eq_some_iff.1 h
 clear h
 have HAT := Aside0.mk (fun W (hW : Below w0.heap.size w0 W) => at_T34 (Kd.C_below hr0 hW) (i : Int) (by omega) (by omega))
 obtain ⟨A2, c2, A3, c3, ⟨x0, x1, x2, x3, x4, x5, x6, x7, xf⟩, _, _, _, _⟩ := hs.open
 have z0 : ((i : Int) == (l0.length : Int)) = false := by simp; omega
 have z2 := eq_true (show (0 : Int) ≤ (i : Int) by omega)
 have z3 := eq_true (show (i : Int) < (l0.length : Int) by omega)
 have HB := Aside0.mk hb
 have HS := Aside0.mk hs
 have HPP := Aside0.mk hp
 have HI := Aside0.mk hi
 have H8 := Aside0.mk h8
 have HL := Aside0.mk hl
 have IH := Aside0.mk ih
 have HSET := Aside0.mk hset
 have HN := Aside0.mk hn
 have HR0 := Aside0.mk hr0
 have HC0 := Aside0.mk hc0
 have hw1 : IntKind.i64.wrap ((i : Int) + 1) = (i : Int) + 1 := IntWalk.i64_in _ (by omega)
 have hw2 : wrap64 ((i : Int) + 1) = (i : Int) + 1 := by unfold wrap64; omega
 obtain ⟨ad, A8, c8, e8, hx0, hx1, hx2, hx3, _, _⟩ := HAT.out w hb
 cases e8
 rw [Int.toNat_natCast] at hx0 hx1 hx2 hx3
 clear hb hs hp hi h8 hl ih hset hn hr0 hc0
 by_cases qc : (rd_T34 l0 (i : Int)).f1 ≤ m
 ·
  rw [if_pos qc] at hq
  have zc : decide ((rd_T34 l0 (i : Int)).f1 ≤ m) = true := decide_eq_true qc
  clear qc
  cases hN : nodeB s with
  | true =>
    rw [if_pos hN] at hq
    obtain ⟨s2, hrec, hq2⟩ := Option.bind_eq_some_iff.1 hq
    obtain rfl := Option.some.inj hq2
    have hbu := HSET.out _ _ _ _ _ hrec
    simp only at hbu
    rw [HN.out] at hbu
    have HLEN := Aside0.mk (show s2.set.length = s.set.length + 1 by rw [hbu, List.length_append]; rfl)
    have HREC := Aside0.mk hrec
    have H1 := Aside0.mk h1
    clear hq hq2 hbu hrec h1
    go_enter Try.func94, Try.ntmps94
    go_wp2_with (first | (go_at_call 116; refine (nodeX.calls HB.out HPP.out HS.out).mono ?_; rintro e w1 ⟨rfl, hb1, hs1⟩; have HB1 := Aside0.mk hb1; have HS1 := Aside0.mk hs1; clear x0 x1 x2 x3 x4 x5 x6 x7 xf hx0 hx1 hx2 hx3; obtain ⟨A4, c4, A5, c5, ⟨y0, y1, y2, y3, y4, y5, y6, y7, yf⟩, ⟨hc4, _⟩, _, hP1, hR1⟩ := hs1.open; have HP1 := Aside0.mk hP1; have HR1 := Aside0.mk hR1; clear hb1 hs1 hP1 hR1 hc4) | (at_builtin; refine Kd.R_append (Kd.int .i64) (w0 := w0) w0.heap.size rfl _ _ 27 2 (.int .i64 0) 8 rfl Try.underlying27 info2 rfl (by decide) (by omega) (.slice A4 (nodeS s).set.length c4) (nodeS s).set (i : Int) [.int .i64 (i : Int)] (fun k => some k ≠ (Value.slice A5 (nodeS s).best.length c5).ownBlock) (fun _ => False) rfl rfl rfl (fun _ hk => hk.elim) (fun k hk e => (by have := Kd.R_lt HR1.out.2 k e.symm; omega)) HR1.out.1 HB1.out HB1.out.size (by have := HL.out; have := H8.out; have e := HN.out s; rw [e]; omega) ?_; intro v1 w2 ho hb2 hg hat; obtain ⟨A9, c9, e9⟩ := Kd.R_slice ho; rw [List.length_append, List.length_singleton] at e9; subst e9; have hP2 := blk_grown HP1.out hg (Kd.R_ne HR1.out.1 HP1.out (by decide)); have hR2 := HR1.out.append ho hg hat; obtain ⟨u0, u1, u2, u3, u4, u5, u6, u7, uf⟩ := cells8 hP2; have hb3 := sput hb2 HPP.out 1 (.slice A9 ((nodeS s).set.length + 1) c9); obtain ⟨ad2, _, _, e8, k0, k1, k2, k3, _, _⟩ := HAT.out _ hb3; injection e8 with e8; subst e8; rw [Int.toNat_natCast] at k0 k1 k2 k3; have HB3 := Aside0.mk hb3; have HS3 := Aside0.mk (StX.put_set (s := nodeS s) hP2 hR2 (show (nodeS s).set.length + 1 = ((nodeS s).set ++ [(i : Int)]).length by simp)); clear ho hb2 hg hat hP2 hR2 hb3))
    generalize w2.setCell ⟨p, 1, none⟩ (.slice A9 ((nodeS s).set.length + 1) c9) = w3 at HB3 HS3 k0 k1 k2 k3 ⊢
    clear u0 u1 u2 u3 u4 u5 u6 u7 uf
    obtain ⟨_, _, _, _, ⟨v0, v1_, v2, v3, v4, v5, v6, v7, vf⟩, _⟩ := HS3.out.open
    go_region_held3 (fun W => W.cell? ⟨p, 0, none⟩ = some (.slice (some ad) l0.length c0) ∧ W.cell? ⟨(ad.add (i * 4)).block, (ad.add (i * 4)).off + 1, none⟩ = some (.int .i64 (rd_T34 l0 (i : Int)).f1) ∧ W.cell? ⟨(ad.add (i * 4)).block, (ad.add (i * 4)).off + 2, none⟩ = some (.int .i64 (rd_T34 l0 (i : Int)).f2)) (first | assumption | exact ⟨v0, k1, k2⟩) (first | (go_at_call 94; (try simp only [Go.IntWalk.i64_left, hw1, hw2]); refine (IH.out (wrap64 (m - (rd_T34 l0 (i : Int)).f1)) (wrap64 (g + (rd_T34 l0 (i : Int)).f2)) _ s2 _ HREC.out (by repeat (first | exact HB3.out | apply below_drew | apply pw_below_drewN)) (StX.below HS3.out (by repeat (first | exact Below.refl _ _ | apply below_drew | apply pw_below_drewN))) (by have := HL.out; have e := HN.out s; simp only [List.length_append, List.length_cons, List.length_nil, e]; omega)).mono ?_; rintro e w5 ⟨rfl, hb5, hs5⟩; obtain ⟨ad5, _, _, e8, j0, j1, j2, j3, _, _⟩ := HAT.out _ hb5; injection e8 with e8; subst e8; rw [Int.toNat_natCast] at j0 j1 j2 j3; obtain ⟨A6, c6, A7, c7, ⟨t0, t1, t2, t3, t4, t5, t6, t7, tf⟩, ⟨hc6, _⟩, _, hP5, hR5⟩ := hs5.open; have hS_ : w5.cell? ⟨p, 0, none⟩ = some (.slice (some ad) l0.length c0) ∧ w5.cell? ⟨(ad.add (i * 4)).block, (ad.add (i * 4)).off + 1, none⟩ = some (.int .i64 (rd_T34 l0 (i : Int)).f1) ∧ w5.cell? ⟨(ad.add (i * 4)).block, (ad.add (i * 4)).off + 2, none⟩ = some (.int .i64 (rd_T34 l0 (i : Int)).f2) := ⟨t0, j1, j2⟩; have HB5 := Aside0.mk hb5; have HS5 := Aside0.mk hs5; have HP5 := Aside0.mk hP5; have HR5 := Aside0.mk hR5; have HC6 := Aside0.mk hc6; clear hb5 hs5 hP5 hR5 hc6))
    have hk0 : (0 : Int) ≤ (s2.set.length : Int) - 1 := by have := HLEN.out; omega
    have hk1 : (s2.set.length : Int) - 1 ≤ (s2.set.length : Int) := by omega
    have hk2 : (s2.set.length : Int) - 1 ≤ (c6 : Int) := by have := HC6.out; omega
    obtain ⟨g6, rfl⟩ := HR5.out.some (by have := HLEN.out; omega)
    have hw3 : IntKind.i64.wrap ((s2.set.length : Int) - 1) = (s2.set.length : Int) - 1 := IntWalk.i64_in _ (by have := HLEN.out; have := HL.out; have := H8.out; omega)
    clear v0 v1_ v2 v3 v4 v5 v6 v7 vf k0 k1 k2 k3 hS_
    go_wp2
    go_region
    have hS6 := (StX.put_set (s := s2) HP5.out (HR5.out.cut (m := s2.set.length - 1) (by omega)) (show s2.set.length - 1 = (s2.set.take (s2.set.length - 1)).length by rw [List.length_take]; omega)).below (below_drew (Below.refl _ _))
    have hB6 := below_drew (sput HB5.out HPP.out 1 (.slice (some ⟨g6, 0, none⟩) (s2.set.length - 1) c6))
    clear t0 t1 t2 t3 t4 t5 t6 t7 tf j0 j1 j2 j3
    generalize (w5.setCell ⟨p, 1, none⟩ (.slice (some ⟨g6, 0, none⟩) (s2.set.length - 1) c6)).drew = w6 at hS6 hB6 ⊢
    have h1 := H1.out
    have hl3 : (⟨s2.set.take (s2.set.length - 1), s2.best, s2.most, s2.count, s2.nodes, s2.budget, s2.full⟩ : SVX).set.length + 1 = s.set.length + 1 := by have := HLEN.out; simp only [List.length_take]; omega
    generalize (⟨s2.set.take (s2.set.length - 1), s2.best, s2.most, s2.count, s2.nodes, s2.budget, s2.full⟩ : SVX) = s3 at h1 hS6 hl3
    have HB6 := Aside0.mk hB6
    have HS6 := Aside0.mk hS6
    have HLEN3 := Aside0.mk hl3
    clear hB6 hS6 hl3 H1
    cases hN2 : nodeB s3 with
    | true =>
      rw [if_pos hN2] at h1
      have H := Aside0.mk h1
      clear h1
      go_wp2_with (first | (go_at_call 116; refine (nodeX.calls HB6.out HPP.out HS6.out).mono ?_; rintro e w4 ⟨rfl, hb1, hs1⟩; have HB2 := Aside0.mk hb1; have HS2 := Aside0.mk hs1; clear hb1 hs1) | (go_at_call 94; refine (IH.out m g _ s' _ H.out HB2.out HS2.out (by have := HL.out; have e := HN.out s3; have := HLEN3.out; rw [e]; omega)).mono ?_; rintro e w5 ⟨rfl, hb5, hs5⟩))
      ((try simp only [Exit.inBlock, Exit.then]); first | (refine bodyPost_ret (results_none rfl _ _ _) rfl ?_) | (refine bodyPost_end (results_none rfl _ _ _) rfl ?_))
      exact ⟨rfl, hb5, hs5⟩
    | false =>
      rw [if_neg (by rw [hN2]; decide)] at h1
      obtain rfl := Option.some.inj h1
      clear h1
      go_wp2_with (first | (go_at_call 116; refine (nodeX.calls HB6.out HPP.out HS6.out).mono ?_; rintro e w4 ⟨rfl, hb1, hs1⟩; have HB2 := Aside0.mk hb1; have HS2 := Aside0.mk hs1; clear hb1 hs1))
      ((try simp only [Exit.inBlock, Exit.then]); first | (refine bodyPost_ret (results_none rfl _ _ _) rfl ?_) | (refine bodyPost_end (results_none rfl _ _ _) rfl ?_))
      exact ⟨rfl, HB2.out, HS2.out⟩
  | false =>
    rw [if_neg (by rw [hN]; decide)] at hq
    obtain rfl := Option.some.inj hq
    clear hq
    have HLEN := Aside0.mk (show s.set.length + (d + 1) ≤ l0.length from HL.out)
    cases hN2 : nodeB (nodeS s) with
    | true =>
      rw [if_pos hN2] at h1
      have H := Aside0.mk h1
      clear h1
      go_enter Try.func94, Try.ntmps94
      go_wp2_with (first | (go_at_call 116; refine (nodeX.calls HB.out HPP.out HS.out).mono ?_; rintro e w1 ⟨rfl, hb1, hs1⟩; have HB1 := Aside0.mk hb1; have HS1 := Aside0.mk hs1; clear hb1 hs1) | (go_at_call 116; refine (nodeX.calls HB1.out HPP.out HS1.out).mono ?_; rintro e w4 ⟨rfl, hb1, hs1⟩; have HB2 := Aside0.mk hb1; have HS2 := Aside0.mk hs1; clear hb1 hs1) | (go_at_call 94; refine (IH.out m g _ s' _ H.out HB2.out HS2.out (by have := HL.out; have e := HN.out (nodeS s); have := HLEN.out; rw [e, HN.out s]; omega)).mono ?_; rintro e w5 ⟨rfl, hb5, hs5⟩))
      ((try simp only [Exit.inBlock, Exit.then]); first | (refine bodyPost_ret (results_none rfl _ _ _) rfl ?_) | (refine bodyPost_end (results_none rfl _ _ _) rfl ?_))
      exact ⟨rfl, hb5, hs5⟩
    | false =>
      rw [if_neg (by rw [hN2]; decide)] at h1
      obtain rfl := Option.some.inj h1
      clear h1
      go_enter Try.func94, Try.ntmps94
      go_wp2_with (first | (go_at_call 116; refine (nodeX.calls HB.out HPP.out HS.out).mono ?_; rintro e w1 ⟨rfl, hb1, hs1⟩; have HB1 := Aside0.mk hb1; have HS1 := Aside0.mk hs1; clear hb1 hs1) | (go_at_call 116; refine (nodeX.calls HB1.out HPP.out HS1.out).mono ?_; rintro e w4 ⟨rfl, hb1, hs1⟩; have HB2 := Aside0.mk hb1; have HS2 := Aside0.mk hs1; clear hb1 hs1))
      ((try simp only [Exit.inBlock, Exit.then]); first | (refine bodyPost_ret (results_none rfl _ _ _) rfl ?_) | (refine bodyPost_end (results_none rfl _ _ _) rfl ?_))
      exact ⟨rfl, HB2.out, HS2.out⟩
 ·
  rw [if_neg qc] at hq
  have zc : decide ((rd_T34 l0 (i : Int)).f1 ≤ m) = false := decide_eq_false qc
  clear qc
  obtain rfl := Option.some.inj hq
  clear hq
  have HLEN := Aside0.mk (show s.set.length + (d + 1) ≤ l0.length from HL.out)
  cases hN2 : nodeB s with
  | true =>
    rw [if_pos hN2] at h1
    have H := Aside0.mk h1
    clear h1
    go_enter Try.func94, Try.ntmps94
    go_wp2_with (first | (go_at_call 116; refine (nodeX.calls HB.out HPP.out HS.out).mono ?_; rintro e w4 ⟨rfl, hb1, hs1⟩; have HB2 := Aside0.mk hb1; have HS2 := Aside0.mk hs1; clear hb1 hs1) | (go_at_call 94; refine (IH.out m g _ s' _ H.out HB2.out HS2.out (by have := HL.out; have e := HN.out s; have := HLEN.out; rw [e]; omega)).mono ?_; rintro e w5 ⟨rfl, hb5, hs5⟩))
    ((try simp only [Exit.inBlock, Exit.then]); first | (refine bodyPost_ret (results_none rfl _ _ _) rfl ?_) | (refine bodyPost_end (results_none rfl _ _ _) rfl ?_))
    exact ⟨rfl, hb5, hs5⟩
  | false =>
    rw [if_neg (by rw [hN2]; decide)] at h1
    obtain rfl := Option.some.inj h1
    clear h1
    go_enter Try.func94, Try.ntmps94
    go_wp2_with (first | (go_at_call 116; refine (nodeX.calls HB.out HPP.out HS.out).mono ?_; rintro e w4 ⟨rfl, hb1, hs1⟩; have HB2 := Aside0.mk hb1; have HS2 := Aside0.mk hs1; clear hb1 hs1))
    ((try simp only [Exit.inBlock, Exit.then]); first | (refine bodyPost_ret (results_none rfl _ _ _) rfl ?_) | (refine bodyPost_end (results_none rfl _ _ _) rfl ?_))
    exact ⟨rfl, HB2.out, HS2.out⟩
/-- The search from a place on, whatever is left. -/
theorem runX.calls (k : Nat) (A0 : Option Addr) (c0 : Nat) (l0 : List S34) (w0 : World) (hr0 : Kd.C k34 w0 A0 l0.length l0) (hc0 : l0.length ≤ c0) (h8 : l0.length ≤ 8) (p : Nat) (hp : w0.heap.size ≤ p) : ∀ (d i : Nat), i + d = l0.length → ∀ (m g : Int) (s s' : SVX) (w : World), runX k l0 d m g s = some s' → Below w0.heap.size w0 w → StX w w0.heap.size p A0 l0.length c0 s → s.set.length + d ≤ l0.length → Calls Try.prog 94 #[.pointer (some ⟨p, 0, none⟩), .int .i64 (i : Int), .int .i64 m, .int .i64 g] w fun e w' => e = .returned (.tuple #[]) ∧ Below w0.heap.size w0 w' ∧ StX w' w0.heap.size p A0 l0.length c0 s'
 | 0, i, hi, m, g, s, s', w, h, hb, hs, hl => by
  have e : i = l0.length := by omega
  subst e
  exact runX_0.calls k A0 c0 l0 w0 hr0 hc0 m g s s' w p h hb hp hs (by omega)
 | d + 1, i, hi, m, g, s, s', w, h, hb, hs, hl =>
  runX_s.calls k A0 c0 l0 w0 hr0 hc0 h8 p hp d i hi (fun m g s s' w h hb hs hl => by
    have := runX.calls k A0 c0 l0 w0 hr0 hc0 h8 p hp d (i + 1) (by omega) m g s s' w h hb hs hl
    rwa [show ((i + 1 : Nat) : Int) = (i : Int) + 1 by omega] at this) m g s s' w h hb hs hl
/-- The search for stages, and the error. -/
def allX (k : Nat) (l0 : List S34) (a1 a2 : Int) : Option (SVX × Int) :=
 (spec_l24Ok.f k l0).bind fun v => if v = true then
  ((spec_l22Money.f a1).bind fun m1 => if m1 = true then
    ((spec_l00In.f a2 1 20000).bind fun b1 => if b1 = true then
      (if l0.length ≤ 8 then ((runX k l0 l0.length a1 0 ⟨[], [], -1, 0, 0, a2, false⟩).bind fun s => if s.full = true then some (s, 5) else some (s, 0)) else none)
    else some (⟨[], [], -1, 0, 0, a2, false⟩, 2))
  else some (⟨[], [], -1, 0, 0, a2, false⟩, 2))
 else some (⟨[], [], -1, 0, 0, a2, false⟩, 1)
theorem allX_mono (k : Nat) (l0 : List S34) (a1 a2 : Int) : LeO (allX k l0 a1 a2) (allX (k + 1) l0 a1 a2) := by
 unfold allX
 exact LeO.bind (spec_l24Ok.mono _ k) (fun _ => LeO.ite (LeO.bind (LeO.refl _) (fun _ => LeO.ite (LeO.bind (LeO.refl _) (fun _ => LeO.ite (LeO.ite (LeO.bind (runX_mono k l0 _ _ _ _) (fun _ => LeO.refl _)) (LeO.refl _)) (LeO.refl _))) (LeO.refl _))) (LeO.refl _))
-- @cut
set_option maxHeartbeats 4000000 in
set_option maxRecDepth 100000 in
theorem l24All.calls (k : Nat) (A0 : Option Addr) (c0 : Nat) (l0 : List S34) (a1 a2 : Int) (s : SVX) (c : Int) (w : World) (hr0 : Kd.C k34 w A0 l0.length l0) (hc0 : l0.length ≤ c0) (h : allX k l0 a1 a2 = some (s, c)) :
  Calls Try.prog 59 #[.slice A0 l0.length c0, .int .i64 a1, .int .i64 a2] w fun e w' => ∃ p, e = .returned (.tuple #[.pointer (some ⟨p, 0, none⟩), .int .i64 c]) ∧ w.heap.size ≤ p ∧ Below w.heap.size w w' ∧ StX w' w.heap.size p A0 l0.length c0 s := by
 unfold allX at h
 obtain ⟨v, hv, h1⟩ := Option.bind_eq_some_iff.1 h
 clear h
 have HV := Aside0.mk (fun W (hW : Below w.heap.size w W) => (spec_l24Ok.calls k A0 c0 l0 v W (Kd.C_below hr0 hW) hc0 hv).mono fun e w' he => (⟨he.1, he.2, below_then hW hW.size he.2⟩ : e = .returned (.bool v) ∧ Below W.heap.size W w' ∧ Below w.heap.size w w'))
 have HR0 := Aside0.mk hr0
 have HC0 := Aside0.mk hc0
 clear hv hr0 hc0
 cases v with
 | false =>
  rw [if_neg (by decide)] at h1
  obtain ⟨rfl, rfl⟩ := Prod.mk.inj (Option.some.inj h1)
  clear h1
  go_enter Try.func59, Try.ntmps59
  go_wp2_with (first | (go_at_call 61; refine (HV.out _ (below_alloc (Below.refl _ _) _)).mono ?_; rintro e w1 ⟨rfl, hB1, hB⟩; have HS := Aside0.mk (StX.below (⟨none, 0, none, 0, blk_new w _, Kd.R_nil _ _ _ _ _, Kd.R_nil _ _ _ _ _⟩ : StX (w.alloc _) w.heap.size w.heap.size A0 l0.length c0 ⟨[], [], -1, 0, 0, a2, false⟩) hB1); have HB := Aside0.mk hB; clear hB hB1))
  go_ret2
  exact ⟨w.heap.size, rfl, Nat.le_refl _, HB.out, HS.out⟩
 | true =>
  rw [if_pos rfl] at h1
  obtain ⟨m1, hm, h2⟩ := Option.bind_eq_some_iff.1 h1
  clear h1
  have HM := Aside0.mk hm
  clear hm
  cases m1 with
  | false =>
    rw [if_neg (by decide)] at h2
    obtain ⟨rfl, rfl⟩ := Prod.mk.inj (Option.some.inj h2)
    clear h2
    go_enter Try.func59, Try.ntmps59
    go_wp2_with (first | (go_at_call 61; refine (HV.out _ (below_alloc (Below.refl _ _) _)).mono ?_; rintro e w1 ⟨rfl, hB1, hB⟩; have HS := Aside0.mk (StX.below (⟨none, 0, none, 0, blk_new w _, Kd.R_nil _ _ _ _ _, Kd.R_nil _ _ _ _ _⟩ : StX (w.alloc _) w.heap.size w.heap.size A0 l0.length c0 ⟨[], [], -1, 0, 0, a2, false⟩) hB1); have HB := Aside0.mk hB; clear hB hB1) | (go_at_call 93; refine (spec_l22Money.calls _ _ _ HM.out).mono ?_; rintro e w2 ⟨rfl, hD⟩; have hD1 := hD.below; have HS := Aside0.mk (HS.out.below hD1); have HB := Aside0.mk (below_then HB.out HB.out.size hD1); clear hD hD1))
    go_ret2
    exact ⟨w.heap.size, rfl, Nat.le_refl _, HB.out, HS.out⟩
  | true =>
    rw [if_pos rfl] at h2
    obtain ⟨b1, hb, h3⟩ := Option.bind_eq_some_iff.1 h2
    clear h2
    have HBV := Aside0.mk hb
    clear hb
    cases b1 with
    | false =>
      rw [if_neg (by decide)] at h3
      obtain ⟨rfl, rfl⟩ := Prod.mk.inj (Option.some.inj h3)
      clear h3
      go_enter Try.func59, Try.ntmps59
      go_wp2_with (first | (go_at_call 61; refine (HV.out _ (below_alloc (Below.refl _ _) _)).mono ?_; rintro e w1 ⟨rfl, hB1, hB⟩; have HS := Aside0.mk (StX.below (⟨none, 0, none, 0, blk_new w _, Kd.R_nil _ _ _ _ _, Kd.R_nil _ _ _ _ _⟩ : StX (w.alloc _) w.heap.size w.heap.size A0 l0.length c0 ⟨[], [], -1, 0, 0, a2, false⟩) hB1); have HB := Aside0.mk hB; clear hB hB1) | (go_at_call 93; refine (spec_l22Money.calls _ _ _ HM.out).mono ?_; rintro e w2 ⟨rfl, hD⟩; have hD1 := hD.below; have HS := Aside0.mk (HS.out.below hD1); have HB := Aside0.mk (below_then HB.out HB.out.size hD1); clear hD hD1) | (go_at_call 62; refine (spec_l00In.calls _ _ _ _ _ HBV.out).mono ?_; rintro e w2 ⟨rfl, hD⟩; have hD1 := hD.below; have HS := Aside0.mk (HS.out.below hD1); have HB := Aside0.mk (below_then HB.out HB.out.size hD1); clear hD hD1))
      go_ret2
      exact ⟨w.heap.size, rfl, Nat.le_refl _, HB.out, HS.out⟩
    | true =>
      rw [if_pos rfl] at h3
      by_cases h8 : l0.length ≤ 8
      ·
       rw [if_pos h8] at h3
       obtain ⟨s1, hvis, h4⟩ := Option.bind_eq_some_iff.1 h3
       clear h3
       have HVIS := Aside0.mk hvis
       have H8 := Aside0.mk h8
       clear hvis h8
       cases q5 : s1.full with
       | true =>
        rw [q5, if_pos rfl] at h4
        obtain ⟨rfl, rfl⟩ := Prod.mk.inj (Option.some.inj h4)
        clear h4
        go_enter Try.func59, Try.ntmps59
        go_wp2_with (first | (go_at_call 61; refine (HV.out _ (below_alloc (Below.refl _ _) _)).mono ?_; rintro e w1 ⟨rfl, hB1, hB⟩; have HS := Aside0.mk (StX.below (⟨none, 0, none, 0, blk_new w _, Kd.R_nil _ _ _ _ _, Kd.R_nil _ _ _ _ _⟩ : StX (w.alloc _) w.heap.size w.heap.size A0 l0.length c0 ⟨[], [], -1, 0, 0, a2, false⟩) hB1); have HB := Aside0.mk hB; clear hB hB1) | (go_at_call 93; refine (spec_l22Money.calls _ _ _ HM.out).mono ?_; rintro e w2 ⟨rfl, hD⟩; have hD1 := hD.below; have HS := Aside0.mk (HS.out.below hD1); have HB := Aside0.mk (below_then HB.out HB.out.size hD1); clear hD hD1) | (go_at_call 62; refine (spec_l00In.calls _ _ _ _ _ HBV.out).mono ?_; rintro e w2 ⟨rfl, hD⟩; have hD1 := hD.below; have HS := Aside0.mk (HS.out.below hD1); have HB := Aside0.mk (below_then HB.out HB.out.size hD1); clear hD hD1) | (go_at_call 94; refine (runX.calls k A0 c0 l0 w HR0.out HC0.out H8.out w.heap.size (Nat.le_refl _) l0.length 0 (Nat.zero_add _) a1 0 _ s1 _ HVIS.out HB.out HS.out (by simp)).mono ?_; rintro e w3 ⟨rfl, hB3, hS3⟩; obtain ⟨A2, c2, A3, c3, ⟨x0, x1, x2, x3, x4, x5, x6, x7, xf⟩, _, _, _, _⟩ := hS3.open; have HB := Aside0.mk hB3; have HS := Aside0.mk hS3; clear hB3 hS3; rw [q5] at x7))
        go_ret2
        exact ⟨w.heap.size, rfl, Nat.le_refl _, HB.out, HS.out⟩
       | false =>
        rw [q5, if_neg (by decide)] at h4
        obtain ⟨rfl, rfl⟩ := Prod.mk.inj (Option.some.inj h4)
        clear h4
        go_enter Try.func59, Try.ntmps59
        go_wp2_with (first | (go_at_call 61; refine (HV.out _ (below_alloc (Below.refl _ _) _)).mono ?_; rintro e w1 ⟨rfl, hB1, hB⟩; have HS := Aside0.mk (StX.below (⟨none, 0, none, 0, blk_new w _, Kd.R_nil _ _ _ _ _, Kd.R_nil _ _ _ _ _⟩ : StX (w.alloc _) w.heap.size w.heap.size A0 l0.length c0 ⟨[], [], -1, 0, 0, a2, false⟩) hB1); have HB := Aside0.mk hB; clear hB hB1) | (go_at_call 93; refine (spec_l22Money.calls _ _ _ HM.out).mono ?_; rintro e w2 ⟨rfl, hD⟩; have hD1 := hD.below; have HS := Aside0.mk (HS.out.below hD1); have HB := Aside0.mk (below_then HB.out HB.out.size hD1); clear hD hD1) | (go_at_call 62; refine (spec_l00In.calls _ _ _ _ _ HBV.out).mono ?_; rintro e w2 ⟨rfl, hD⟩; have hD1 := hD.below; have HS := Aside0.mk (HS.out.below hD1); have HB := Aside0.mk (below_then HB.out HB.out.size hD1); clear hD hD1) | (go_at_call 94; refine (runX.calls k A0 c0 l0 w HR0.out HC0.out H8.out w.heap.size (Nat.le_refl _) l0.length 0 (Nat.zero_add _) a1 0 _ s1 _ HVIS.out HB.out HS.out (by simp)).mono ?_; rintro e w3 ⟨rfl, hB3, hS3⟩; obtain ⟨A2, c2, A3, c3, ⟨x0, x1, x2, x3, x4, x5, x6, x7, xf⟩, _, _, _, _⟩ := hS3.open; have HB := Aside0.mk hB3; have HS := Aside0.mk hS3; clear hB3 hS3; rw [q5] at x7))
        go_ret2
        exact ⟨w.heap.size, rfl, Nat.le_refl _, HB.out, HS.out⟩
      ·
       rw [if_neg h8] at h3; cases h3

-- @cut
def spec_BestStages.f (k : Nat) (l0 : List (S34)) (a1 a2 : Int) : Option (List Int × Int × Int) := (allX k l0 a1 a2).bind fun q => if q.2 = 0 then some (q.1.best, q.1.most, 0) else some ([], 0, q.2)
theorem spec_BestStages.mono : ∀ a0 a1 a2 k, LeO (spec_BestStages.f k a0 a1 a2) (spec_BestStages.f (k + 1) a0 a1 a2) := fun a0 a1 a2 k => LeO.bind (allX_mono k a0 a1 a2) (fun _ => LeO.refl _)
set_option maxHeartbeats 4000000 in
set_option maxRecDepth 100000 in
theorem spec_BestStages.calls (k : Nat) (A0 : Option Addr) (c0 : Nat) (l0 : List (S34)) (a1 : Int) (a2 : Int) (r1 : List Int) (r2 : Int) (r3 : Int) (w : World) (hr0 : Kd.C k34 w A0 l0.length l0) (hc0 : l0.length ≤ c0) (h : spec_BestStages.f k l0 a1 a2 = some (r1, r2, r3)) :
  Calls Try.prog 28 #[.slice A0 l0.length c0, .int .i64 a1, .int .i64 a2] w fun e w' => ∃ v0_ : Value, e = .returned (.tuple #[v0_, .int .i64 r2, .int .i64 r3]) ∧ Kd.R (Kd.int .i64) 2 w' w.heap.size (fun _ => True) v0_ r1 ∧ Below w.heap.size w w' := by
 unfold spec_BestStages.f at h
 obtain ⟨⟨s, c⟩, hq, h⟩ := Option.bind_eq_some_iff.1 h
 have HQ := Aside0.mk (fun W (hW : Below w.heap.size w W) => l24All.calls k A0 c0 l0 a1 a2 s c W (Kd.C_below hr0 hW) hc0 hq)
 clear hr0 hc0 hq
 by_cases q : c = 0
 ·
  subst q
  rw [if_pos rfl] at h
  obtain ⟨rfl, h5⟩ := Prod.mk.inj (Option.some.inj h)
  obtain ⟨rfl, rfl⟩ := Prod.mk.inj h5
  clear h h5
  go_enter Try.func28, Try.ntmps28
  go_wp2_with (go_at_call 59; refine (HQ.out _ (Below.refl _ _)).mono ?_; rintro e w1 ⟨p, rfl, hp, hB, hS⟩; obtain ⟨A2, c2, A3, c3, ⟨x0, x1, x2, x3, x4, x5, x6, x7, xf⟩, _, _, _, hR⟩ := hS.open; have HB := Aside0.mk hB; have HR := Aside0.mk hR; clear hB hS hR)
  go_quiet (fail)
  go_wp2
  refine bodyPost_ret (results_tmp3 rfl _ _ _) rfl ?_
  exact ⟨_, rfl, Kd.R_mono (Kd.R_below HR.out.2 (pw_below_drewN (Below.refl _ _) _)) (fun _ _ => trivial), pw_below_drewN HB.out _⟩
 ·
  rw [if_neg q] at h
  obtain ⟨rfl, h5⟩ := Prod.mk.inj (Option.some.inj h)
  obtain ⟨rfl, rfl⟩ := Prod.mk.inj h5
  have z : (c == 0) = false := by simpa using q
  clear h h5 q
  go_enter Try.func28, Try.ntmps28
  go_wp2_with (go_at_call 59; refine (HQ.out _ (Below.refl _ _)).mono ?_; rintro e w1 ⟨p, rfl, hp, hB, hS⟩; obtain ⟨A2, c2, A3, c3, ⟨x0, x1, x2, x3, x4, x5, x6, x7, xf⟩, _, _, _, hR⟩ := hS.open; have HB := Aside0.mk hB; have HR := Aside0.mk hR; clear hB hS hR)
  refine bodyPost_ret (results_tmp3 rfl _ _ _) rfl ?_
  exact ⟨_, rfl, Kd.R_nil _ _ _ _ _, HB.out⟩

/-! ### impl_within: function 43 -/
def impl_within.f (a0 : Int) (a1 : Int) (a2 : Int) : Option (Bool) := if a0 ≥ a1 then (some (decide (a0 ≤ a2))) else (some false)
set_option maxHeartbeats 8000000 in
set_option maxRecDepth 100000 in
theorem impl_within.calls (a0 : Int) (a1 : Int) (a2 : Int) (r : Bool) (w : World) (h : impl_within.f a0 a1 a2 = some r) :
  Calls Try.prog 43 #[.int .i64 a0, .int .i64 a1, .int .i64 a2] w fun e w' => e = .returned (.bool r) ∧ Drawn0 w w' := by
 have H : (if a0 ≥ a1 then (some (decide (a0 ≤ a2))) else (some false)) = some r := h
 clear h
 by_cases c4 : a0 ≥ a1
 ·
  rw [if_pos c4] at H
  have c4b0 : decide (a1 ≤ a0) = true := decide_eq_true c4
  clear c4
  obtain rfl := Option.some.inj H
  go_enter Try.func43, Try.ntmps43
  go_wp2
  go_ret
  exact ⟨by first | rfl | (simp; done) | (simp [*]; done), by repeat (first | exact Drawn0.refl _ | apply Drawn0.step)⟩
 ·
  rw [if_neg c4] at H
  have c4b0 : decide (a1 ≤ a0) = false := decide_eq_false c4
  clear c4
  obtain rfl := Option.some.inj H
  go_enter Try.func43, Try.ntmps43
  go_wp2
  go_ret
  exact ⟨by first | rfl | (simp; done) | (simp [*]; done), by repeat (first | exact Drawn0.refl _ | apply Drawn0.step)⟩

/-! ### slices_Index_int64_int64: function 108 -/
def slices_Index_int64_int64.l0 : Nat → List Int → Int → Int → Int → Option (Int)
 | 0, _, _, _, _ => none
 | k + 1, x0, x1, x7, x8 => if x8 < x7 then (if 0 ≤ x8 then (if x8 < (x0.length : Int) then (if x1 = (rd x0 x8) then (some x8) else (slices_Index_int64_int64.l0 k x0 x1 x7 (wrap64 (x8 + 1)))) else (none)) else (none)) else (some (-1))
def slices_Index_int64_int64.f (k : Nat) (l0 : List Int) (a1 : Int) : Option (Int) := slices_Index_int64_int64.l0 k l0 a1 (l0.length : Int) 0
theorem slices_Index_int64_int64.mono_l : ∀ k, (∀ y0 y1 y2 y3, LeO (slices_Index_int64_int64.l0 k y0 y1 y2 y3) (slices_Index_int64_int64.l0 (k + 1) y0 y1 y2 y3))
 | 0 => fun _ _ _ _ r h => by simp [slices_Index_int64_int64.l0] at h
 | k + 1 => by
  have ih0 := slices_Index_int64_int64.mono_l k
  ·
    intro y0 y1 y2 y3
    unfold slices_Index_int64_int64.l0
    repeat' first
    | (with_reducible exact ih0 _ _ _ _)
    | (with_reducible exact LeO.refl _)
    | (with_reducible exact LeO.none _)
    | (with_reducible refine LeO.ite ?_ ?_)
    | (with_reducible refine LeO.bind ?_ (fun _ => ?_))
    | exact ih0 _ _ _ _
    | exact LeO.none _
    | refine LeO.ite ?_ ?_
    | refine LeO.bind ?_ (fun _ => ?_)
theorem slices_Index_int64_int64.mono : ∀ a0 a1 k, LeO (slices_Index_int64_int64.f k a0 a1) (slices_Index_int64_int64.f (k + 1) a0 a1) := by
 intro a0 a1 k
 have ih0 := slices_Index_int64_int64.mono_l k
 unfold slices_Index_int64_int64.f
 repeat' first
    | (with_reducible exact ih0 _ _ _ _)
    | (with_reducible exact LeO.refl _)
    | (with_reducible exact LeO.none _)
    | (with_reducible refine LeO.ite ?_ ?_)
    | (with_reducible refine LeO.bind ?_ (fun _ => ?_))
    | exact ih0 _ _ _ _
    | exact LeO.none _
    | refine LeO.ite ?_ ?_
    | refine LeO.bind ?_ (fun _ => ?_)
set_option maxHeartbeats 8000000 in
set_option maxRecDepth 100000 in
theorem slices_Index_int64_int64.calls (k : Nat) (A0 : Option Addr) (c0 : Nat) (l0 : List Int) (a1 : Int) (r : Int) (w : World) (hr0 : Kd.C (Kd.int .i64) w A0 l0.length l0) (hc0 : l0.length ≤ c0) (h : slices_Index_int64_int64.f k l0 a1 = some r) :
  Calls Try.prog 108 #[.slice A0 l0.length c0, .int .i64 a1] w fun e w' => e = .returned (.int .i64 r) ∧ Drawn0 w w' := by
 have HR0 := Aside0.mk hr0
 have HC0 := Aside0.mk hc0
 clear hr0 hc0
 have H : (slices_Index_int64_int64.l0 k l0 a1 (l0.length : Int) 0) = some r := h
 clear h
 have H' := Aside0.mk H
 clear H
 go_enter Try.func108, Try.ntmps108
 go_wp2
 go_loopg [8] k (fun kq v8 w' => ∃ (x8_1 : Int), v8 = .int .i64 x8_1 ∧ Aside0 (slices_Index_int64_int64.l0 kq l0 a1 (l0.length : Int) x8_1 = some r) ∧ Aside0 (kq ≤ k) ∧ Drawn0 w w')
 case atStart => exact ⟨(0), (by first | rfl | (simp; done) | (simp [*]; done)), H', ⟨Nat.le_refl _⟩, by repeat (first | exact Drawn0.refl _ | apply Drawn0.step)⟩
 case round =>
  clear H'
  try clear c1
  try clear p2
  obtain ⟨x8_1, rfl, HA, HK1, ⟨m1, rfl⟩⟩ := hrel
  cases gk with
  | zero => exact absurd HA.out (by simp [slices_Index_int64_int64.l0])
  | succ k1 =>
    have H := HA.out
    clear HA
    simp only [slices_Index_int64_int64.l0] at H
    by_cases c3 : x8_1 < (l0.length : Int)
    ·
      rw [if_pos c3] at H
      have c3b0 : decide (x8_1 < (l0.length : Int)) = true := decide_eq_true c3
      clear c3
      by_cases c4 : 0 ≤ x8_1
      ·
       rw [if_pos c4] at H
       have c4b0 : decide (0 ≤ x8_1) = true := decide_eq_true c4
       clear c4
       by_cases c5 : x8_1 < (l0.length : Int)
       ·
        rw [if_pos c5] at H
        have c5b0 : decide (x8_1 < (l0.length : Int)) = true := decide_eq_true c5
        clear c5
        by_cases c6 : a1 = (rd l0 x8_1)
        ·
         rw [if_pos c6] at H
         have c6b0 : (a1 == (rd l0 x8_1)) = true := beq_iff_eq.mpr c6
         have c6b1 : (a1 != (rd l0 x8_1)) = false := bne_eq_false_iff_eq.mpr c6
         clear c6
         obtain rfl := Option.some.inj H
         have p193 : 0 ≤ (x8_1 : Int) := of_decide_eq_true (by first | (with_reducible assumption) | assumption)
         have q193 : x8_1 < (l0.length : Int) := of_decide_eq_true (by first | (with_reducible assumption) | assumption)
         obtain ⟨ad193, e193, hx193_0⟩ := Kd.at_int HR0.out x8_1 p193 q193
         cases e193
         replace p193 := eq_true p193
         replace q193 := eq_true q193
         go_wp2
         go_ret
         exact ⟨by first | rfl | (simp; done) | (simp [*]; done), by repeat (first | exact Drawn0.refl _ | apply Drawn0.step)⟩
        ·
         rw [if_neg c6] at H
         have c6b0 : (a1 == (rd l0 x8_1)) = false := beq_eq_false_iff_ne.mpr c6
         have c6b1 : (a1 != (rd l0 x8_1)) = true := bne_iff_ne.mpr c6
         have H' := Aside0.mk H
         clear H
         have p193 : 0 ≤ (x8_1 : Int) := of_decide_eq_true (by first | (with_reducible assumption) | assumption)
         have q193 : x8_1 < (l0.length : Int) := of_decide_eq_true (by first | (with_reducible assumption) | assumption)
         obtain ⟨ad193, e193, hx193_0⟩ := Kd.at_int HR0.out x8_1 p193 q193
         cases e193
         replace p193 := eq_true p193
         replace q193 := eq_true q193
         go_wp2
         go_roundg k1
         case measure => have := HK1.out; omega
         case rel => exact ⟨(wrap64 (x8_1 + 1)), (by first | rfl | (simp; done) | (simp [*]; done)), H', ⟨by have := HK1.out; omega⟩, by repeat (first | exact Drawn0.refl _ | apply Drawn0.step)⟩
       ·
        rw [if_neg c5] at H
        exact absurd H (by simp)
      ·
       rw [if_neg c4] at H
       exact absurd H (by simp)
    ·
      rw [if_neg c3] at H
      have c3b0 : decide (x8_1 < (l0.length : Int)) = false := decide_eq_false c3
      clear c3
      obtain rfl := Option.some.inj H
      go_wp2
      go_ret
      exact ⟨by first | rfl | (simp; done) | (simp [*]; done), by repeat (first | exact Drawn0.refl _ | apply Drawn0.step)⟩

/-! ### slices_Contains_int64_int64: function 74 -/
def slices_Contains_int64_int64.f (k : Nat) (l0 : List Int) (a1 : Int) : Option (Bool) := (slices_Index_int64_int64.f k l0 a1).bind fun t194 => (some (decide (t194 ≥ 0)))
theorem slices_Contains_int64_int64.mono : ∀ a0 a1 k, LeO (slices_Contains_int64_int64.f k a0 a1) (slices_Contains_int64_int64.f (k + 1) a0 a1) := by
 intro a0 a1 k
 unfold slices_Contains_int64_int64.f
 repeat' first
    | (with_reducible exact slices_Index_int64_int64.mono _ _ _)
    | (with_reducible exact LeO.refl _)
    | (with_reducible exact LeO.none _)
    | (with_reducible refine LeO.ite ?_ ?_)
    | (with_reducible refine LeO.bind ?_ (fun _ => ?_))
    | exact slices_Index_int64_int64.mono _ _ _
    | exact LeO.none _
    | refine LeO.ite ?_ ?_
    | refine LeO.bind ?_ (fun _ => ?_)
set_option maxHeartbeats 8000000 in
set_option maxRecDepth 100000 in
theorem slices_Contains_int64_int64.calls (k : Nat) (A0 : Option Addr) (c0 : Nat) (l0 : List Int) (a1 : Int) (r : Bool) (w : World) (hr0 : Kd.C (Kd.int .i64) w A0 l0.length l0) (hc0 : l0.length ≤ c0) (h : slices_Contains_int64_int64.f k l0 a1 = some r) :
  Calls Try.prog 74 #[.slice A0 l0.length c0, .int .i64 a1] w fun e w' => e = .returned (.bool r) ∧ Drawn0 w w' := by
 have HR0 := Aside0.mk hr0
 have HC0 := Aside0.mk hc0
 clear hr0 hc0
 have H : ((slices_Index_int64_int64.f k l0 a1).bind fun t194 => (some (decide (t194 ≥ 0)))) = some r := h
 clear h
 replace H := Option.bind_eq_some_iff.mp H
 obtain ⟨t194, A30, H⟩ := H
 replace H : (some (decide (t194 ≥ 0))) = some r := H
 have A3 := Aside0.mk A30
 clear A30
 obtain rfl := Option.some.inj H
 go_enter Try.func74, Try.ntmps74
 go_wp2_with (first | ((with_reducible refine gate_callee (f := 108) rfl ?_); refine goesL_ (some 7) rfl rfl Try.func108 (by kernel_rfl) rfl #[.slice A0 l0.length c0, .int .i64 a1] rfl (by (try simp only [List.map_toArray, List.map_cons, List.map_nil]); first | done | rfl | (simp only [List.length_drop, List.length_take]; rfl)) ?_; (with_reducible refine (slices_Index_int64_int64.calls k _ _ l0 a1 t194 _ ?side1 ?side2 A3.out).mono ?_); (case side1 => repeat (first | exact HR0.out | (with_reducible refine Kd.C_alloc ?_ _) | (with_reducible refine Kd.C_drewN ?_ _) | (with_reducible refine Kd.C_drew ?_))); (case side2 => exact HC0.out); rintro e w' ⟨rfl, ⟨nd, rfl⟩⟩; refine ⟨_, rfl, ?_⟩))
 go_ret
 exact ⟨by first | rfl | (simp; done) | (simp [*]; done), by repeat (first | exact Drawn0.refl _ | apply Drawn0.step)⟩

-- NOT PRINTED: function 113 (impl_Stage)

/-! ### impl_stageAt: function 81 -/
/-- The first place, from i on, of which p holds; -1. -/
def idxFrom_34 (p : S34 → Bool) (xs : List S34) (i : Nat) : Int := if h : i < xs.length then (if p xs[i] = true then (i : Int) else idxFrom_34 p xs (i + 1)) else -1
termination_by xs.length - i
set_option maxHeartbeats 4000000 in
theorem idx_34.calls (g : Nat) (pre lb : Array Value) (p : S34 → Bool) (A0 : Option Addr) (c0 : Nat) (l0 : List S34) (w : World) (hr0 : Kd.C k34 w A0 l0.length l0)
  (eg : ∀ args w, (callFunc g args).run Try.prog w = .ok (.enter g args) w)
  (hp : ∀ (W : World) (x : S34) (A3 : Option Addr) (c3 : Nat), x ∈ l0 → Kd.C Kd.string W A3 x.f3.length x.f3 → x.f3.length ≤ c3 →  Below w.heap.size w W → Calls Try.prog g (pre ++ #[.agg #[.string x.f0, .int .i64 x.f1, .int .i64 x.f2, .slice A3 x.f3.length c3]] ++ lb) W fun e w' => e = .returned (.bool (p x)) ∧ Below w.heap.size w w') :
  Calls Try.prog 113 #[.slice A0 l0.length c0, .func (.func g) pre lb] w fun e w' => e = .returned (.int .i64 (idxFrom_34 p l0 0)) ∧ Below w.heap.size w w' := by
 have hn : l0.length ≤ 9223372036854775807 := by have := hr0.2.1; omega
 have HR0 := Aside0.mk hr0
 have HP := Aside0.mk hp
 have HN := Aside0.mk hn
 clear hr0 hp hn
 go_enter Try.func113, Try.ntmps113
 go_wp2
 go_loopg [5, 8] l0.length (fun gg _ s8 wr => ∃ kk : Nat, s8 = .int .i64 kk ∧ Aside0 (kk ≤ l0.length) ∧ Aside0 (l0.length - kk ≤ gg) ∧ Aside0 (idxFrom_34 p l0 0 = idxFrom_34 p l0 kk) ∧ Aside0 (Below w.heap.size w wr))
 case atStart => exact ⟨0, rfl, ⟨Nat.zero_le _⟩, ⟨by omega⟩, ⟨rfl⟩, ⟨Below.refl _ w⟩⟩
 case round =>
  obtain ⟨kk, rfl, hkk, hg, hq, hb⟩ := hrel
  by_cases hlt : kk < l0.length
  ·
    have hltz : decide ((kk : Int) < (l0.length : Int)) = true := decide_eq_true (by omega)
    obtain ⟨ad, A3_, c3_, e, hx0, hx1, hx2, hx3, hl3_, hi3_⟩ := at_T34 HR0.out (kk : Int) (by omega) (by omega)
    cases e
    have hxx : rd_T34 l0 (kk : Int) = l0[kk] := by unfold rd_T34; simp [List.getD_eq_getElem?_getD, hlt]
    rw [hxx, Int.toNat_natCast] at hx0
    replace hx0 := (hb.out.cell (World.block_lt_of_cell? w _ hx0)).trans hx0
    rw [hxx, Int.toNat_natCast] at hx1
    replace hx1 := (hb.out.cell (World.block_lt_of_cell? w _ hx1)).trans hx1
    rw [hxx, Int.toNat_natCast] at hx2
    replace hx2 := (hb.out.cell (World.block_lt_of_cell? w _ hx2)).trans hx2
    rw [hxx, Int.toNat_natCast] at hx3
    replace hx3 := (hb.out.cell (World.block_lt_of_cell? w _ hx3)).trans hx3
    rw [hxx] at hl3_ hi3_
    have hcall := HP.out wr l0[kk] A3_ c3_ (List.getElem_mem hlt) (Kd.C_below hi3_ hb.out) hl3_ hb.out
    have hq2 := hq.out
    rw [show idxFrom_34 p l0 kk = if p l0[kk] = true then (kk : Int) else idxFrom_34 p l0 (kk + 1) by rw [idxFrom_34, dif_pos hlt]] at hq2
    clear hxx
    generalize hx : l0[kk] = x at hx0 hx1 hx2 hx3 hcall hq2
    clear hx
    cases hc : p x with
    | true =>
      rw [hc] at hcall hq2
      have hq3 := Aside0.mk hq2
      clear hq2 hc
      go_wp2_with (go_at_fn g; refine hcall.mono ?_; rintro e w' ⟨rfl, hb'⟩)
      go_ret
      refine ⟨?_, hb'⟩
      rw [hq3.out]; rfl
    | false =>
      rw [hc] at hcall hq2
      have hq3 := Aside0.mk hq2
      clear hq2 hc
      go_wp2_with (go_at_fn g; refine hcall.mono ?_; rintro e w' ⟨rfl, hb'⟩)
      go_roundg (l0.length - (kk + 1))
      case measure => have := hg.out; omega
      case rel => exact ⟨kk + 1, by rw [show wrap64 ((kk : Int) + 1) = ((kk + 1 : Nat) : Int) by have := HN.out; unfold wrap64; omega], ⟨by omega⟩, ⟨by omega⟩, ⟨by rw [hq3.out]; rfl⟩, ⟨hb'⟩⟩
  ·
    have hltz : decide ((kk : Int) < (l0.length : Int)) = false := decide_eq_false (by omega)
    go_wp2
    go_ret
    refine ⟨?_, hb.out⟩
    rw [hq.out, idxFrom_34, dif_neg hlt]
    rfl
theorem idxFrom_34_any (p : S34 → Bool) (xs : List S34) (i : Nat) : decide (0 ≤ idxFrom_34 p xs i) = (xs.drop i).any p := by
 rw [idxFrom_34]
 by_cases h : i < xs.length
 ·
  rw [dif_pos h, List.drop_eq_getElem_cons h, List.any_cons]
  cases c : p xs[i] with
  | true => simp
  | false =>
    rw [if_neg (by simp), idxFrom_34_any p xs (i + 1), Bool.false_or]
 ·
  rw [dif_neg h, List.drop_eq_nil_of_le (by omega)]; rfl
termination_by xs.length - i

set_option maxHeartbeats 2000000 in
theorem stageAt_1.calls (x : S34) (A3 : Option Addr) (c3 : Nat) (a : ByteArray) (B : Nat) (w : World) (hB : w.cell? ⟨B, 0, none⟩ = some (.string a)) :
  Calls Try.prog 114 #[.agg #[.string x.f0, .int .i64 x.f1, .int .i64 x.f2, .slice A3 x.f3.length c3], .pointer (some ⟨B, 0, none⟩)] w fun e w' => e = .returned (.bool (x.f0.toList == a.toList)) ∧ Below w.heap.size w w' := by
 have hu := Try.underlying34
 have hB' : ∀ o, (w.alloc o).cell? ⟨B, 0, none⟩ = some (.string a) := fun o => pw_cell_below (below_alloc (Below.refl _ _) o) hB
 clear hB
 generalize hb : (x.f0.toList == a.toList) = b
 go_enter Try.func114, Try.ntmps114
 go_wp2
 go_ret
 exact ⟨by first | rfl | simp [*], by repeat (first | exact Below.refl _ _ | apply pw_below_drewN | apply below_alloc)⟩
/-- The first stage with a name; -1. -/
def stageIx (l0 : List S34) (a : ByteArray) : Int := idxFrom_34 (fun x => x.f0.toList == a.toList) l0 0
def impl_stageAt.f (l0 : List (S34)) (a1 : ByteArray) : Option Int := some (stageIx l0 a1)
set_option maxHeartbeats 2000000 in
theorem stageAt_in.calls (A0 : Option Addr) (c0 : Nat) (l0 : List (S34)) (a1 : ByteArray) (w : World) (hr0 : Kd.C k34 w A0 l0.length l0) :
  Calls Try.prog 81 #[.slice A0 l0.length c0, .string a1] w fun e w' => e = .returned (.int .i64 (stageIx l0 a1)) ∧ Below w.heap.size w w' := by
 have hcall : ∀ (W : World) (B : Nat), Below w.heap.size w W → B < W.heap.size → W.cell? ⟨B, 0, none⟩ = some (.string a1) →
    Calls Try.prog 113 #[.slice A0 l0.length c0, .func (.func 114) #[] #[.pointer (some ⟨B, 0, none⟩)]] W fun e w' => e = .returned (.int .i64 (stageIx l0 a1)) ∧ Below w.heap.size w w' := fun W B hb l1 h1 => by
  refine (idx_34.calls 114 #[] #[.pointer (some ⟨B, 0, none⟩)] (fun x => x.f0.toList == a1.toList) A0 c0 l0 W (Kd.C_below hr0 hb) (enters_ Try.func114 (by kernel_rfl) rfl) (fun V x A3 c3 _ _ _ hV => ?_)).mono fun e w' ⟨he, hb'⟩ => ⟨he, below_then hb hb.size hb'⟩
  exact (stageAt_1.calls x A3 c3 a1 B V ((hV.cell l1).trans h1)).mono fun e w' ⟨he, hb'⟩ => ⟨he, below_then hV hV.size hb'⟩
 clear hr0
 go_enter Try.func81, Try.ntmps81
 go_wp2_with (go_at_call 113; refine (hcall _ _ (below_alloc (Below.refl _ _) _) (by first | (simp; done) | (simp; omega)) (by first | (simp; done) | (simp; omega))).mono ?_; rintro e w' ⟨rfl, hb'⟩)
 go_ret
 exact ⟨rfl, hb'⟩
theorem impl_stageAt.calls (A0 : Option Addr) (c0 : Nat) (l0 : List (S34)) (a1 : ByteArray) (r : Int) (w : World) (hr0 : Kd.C k34 w A0 l0.length l0) (hc0 : l0.length ≤ c0) (h : impl_stageAt.f l0 a1 = some r) :
  Calls Try.prog 81 #[.slice A0 l0.length c0, .string a1] w fun e w' => e = .returned (.int .i64 r) ∧ Below w.heap.size w w' := by
 obtain rfl := Option.some.inj h
 exact stageAt_in.calls A0 c0 l0 a1 w hr0

-- NOT PRINTED: function 121 (slices_IndexFunc_string_string)

-- NOT PRINTED: function 109 (slices_ContainsFunc_string_string)

end Go.Proofs.Ytmbiapefigcgnaa.PFnExactBestStages
