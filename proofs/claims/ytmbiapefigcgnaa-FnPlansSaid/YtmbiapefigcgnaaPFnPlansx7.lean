-- written by a program of this session (mkp.py) out of the translation; Lean checks it. -- squeezed
import Derived.StillTailTactics
import Derived.Deep.RegionHeld3
import Derived.Test.YtmbiapefigcgnaaPFnPlansx0
import Derived.Test.YtmbiapefigcgnaaPFnPlansx4
import Derived.Test.YtmbiapefigcgnaaPFnPlansx6
namespace Go.Proofs.Ytmbiapefigcgnaa.PFnPlans
open Go.RowKit Go.Proofs.YtmbiapefigcgnaaW.PrintWords Go.Proofs.YtmbiapefigcgnaaW.PrintLast Go.Proofs.YtmbiapefigcgnaaW.PrintMore
attribute [local go_sem] bin_leq bin_gtr bin_geq max2_int min2_int max_two min_two max_three min_three max_four min_four   -- for this text's walks alone
set_option linter.unusedVariables false
set_option linter.unusedSimpArgs false

/-! ### impl_BestPlan: function 11 -/
theorem sput {b : Nat} {w W : World} (h : Below b w W) {g : Nat} (hg : b ≤ g) (i : Nat) (u : Value) : Below b w (W.setCell ⟨g, i, none⟩ u) := h.setCell (p := ⟨g, i, none⟩) hg u
/-- Two rows of whole numbers of one's own, apart from each other. -/
def Rows2 (w : World) (base : Nat) (v2 v3 : Value) (bu be : List Int) : Prop :=
 Kd.R (Kd.int .i64) 2 w base (fun k => some k ≠ v3.ownBlock) v2 bu ∧ Kd.R (Kd.int .i64) 2 w base (fun k => some k ≠ v2.ownBlock) v3 be
theorem Rows2.below {w w' : World} {base : Nat} {v2 v3 : Value} {bu be : List Int} (h : Rows2 w base v2 v3 bu be) (hb : Below w.heap.size w w') : Rows2 w' base v2 v3 bu be := ⟨Kd.R_below h.1 hb, Kd.R_below h.2 hb⟩
theorem ne_int {t : Nat} (h : t ≠ 2) : ∀ q, q ∈ 2 :: (Kd.int .i64).E → q ≠ t := fun q hq => by
 rcases List.mem_cons.1 hq with h1 | h1
 ·
  subst h1; exact fun e => h e.symm
 ·
  cases h1
theorem Rows2.set {w : World} {base g t : Nat} {cells : Array Value} {v2 v3 : Value} {bu be : List Int} (h : Rows2 w base v2 v3 bu be) (hb : w.heap[g]? = some (.cells cells t (0, 0))) (ht : t ≠ 2) (j : Nat) (u : Value) : Rows2 (w.setCell ⟨g, j, none⟩ u) base v2 v3 bu be := ⟨Kd.R_set h.1 hb (ne_int ht) j u, Kd.R_set h.2 hb (ne_int ht) j u⟩
theorem Rows2.clone {W w2 : World} {base : Nat} {v2 v3 v : Value} {bu be xs : List Int} (h : Rows2 W base v2 v3 bu be) (hR : Kd.R (Kd.int .i64) 2 w2 W.heap.size (fun _ => True) v xs) (hb : Below W.heap.size W w2) (hs : base ≤ W.heap.size) : Rows2 w2 base v2 v bu xs :=
 ⟨Kd.R_mono (Kd.R_elder' h.1 (fun k hk => Kd.R_base hR k hk) hb) (fun _ hk => hk.2), Kd.R_mono (Kd.R_lower (Kd.R_new' hR (fun k hk => Kd.R_lt h.1 k hk)) hs) (fun _ hk => hk.2)⟩
theorem Rows2.append {W w1 : World} {base : Nat} {v2 v3 v1 : Value} {bu be xs : List Int} (h : Rows2 W base v2 v3 bu be) (hR : Kd.R (Kd.int .i64) 2 w1 base (fun k => some k ≠ v3.ownBlock) v1 xs) (hg : W.grownBy w1 v2.ownBlock) (hat : v1.ownBlock = v2.ownBlock ∨ ∃ b, v1.ownBlock = some b ∧ W.heap.size ≤ b) : Rows2 w1 base v1 v3 xs be :=
 ⟨hR, Kd.R_mono (Kd.R_grown (Kd.R_bound h.2) hg (fun k hk => hk.1)) (fun k hk => by
  rcases hat with e | ⟨b, e, hb⟩
  ·
   rw [e]; exact hk.1
  ·
   rw [e]
   intro e2
   injection e2 with e2
   have := hk.2.2.1
   omega)⟩
theorem Rows2.cut {w : World} {base n c : Nat} {A : Option Addr} {v3 : Value} {bu be : List Int} (h : Rows2 w base (.slice A n c) v3 bu be) {m : Nat} (hm : m ≤ bu.length) : Rows2 w base (.slice A m c) v3 (bu.take m) be := by
 have e : (Value.slice A m c).ownBlock = (Value.slice A n c).ownBlock := by cases A <;> rfl
 refine ⟨Kd.R_take h.1 hm, ?_⟩
 rw [e]
 exact h.2
theorem Rows2.drewN {w : World} {base : Nat} {v2 v3 : Value} {bu be : List Int} (h : Rows2 w base v2 v3 bu be) (n : Nat) : Rows2 (w.drewN n) base v2 v3 bu be := h.below (pw_below_drewN (Below.refl _ _) n)
/-- The search leaves the list as it was. -/
theorem cell_al {W : World} {a : Addr} {v : Value} (h : W.cell? a = some v) (o : Obj) : (W.alloc o).cell? a = some v := pw_cell_below (below_alloc (Below.refl _ _) o) h
theorem Rows2.some {w : World} {base n c : Nat} {A : Option Addr} {v3 : Value} {bu be : List Int} (h : Rows2 w base (.slice A n c) v3 bu be) (hn : 0 < n) : ∃ g, A = Option.some ⟨g, 0, none⟩ := by
 have ho := Kd.own_of_R (enc := Value.int .i64) (h1 := fun _ => rfl) h.1
 rcases ho.2 with ⟨hv, h0⟩ | ⟨g, cap, cur, hv, _⟩
 ·
  injection hv with h1 h2 _; omega
 ·
  injection hv with h1 _ _; exact ⟨g, h1⟩
theorem Rows2.lower {w : World} {base b2 : Nat} {v2 v3 : Value} {bu be : List Int} (h : Rows2 w base v2 v3 bu be) (hb : b2 ≤ base) : Rows2 w b2 v2 v3 bu be := ⟨Kd.R_lower h.1 hb, Kd.R_lower h.2 hb⟩
theorem cells7 {w : World} {p t : Nat} {x0 x1 x2 x3 x4 x5 x6 : Value} (h : w.heap[p]? = some (.cells #[x0, x1, x2, x3, x4, x5, x6] t (0, 0))) :
  w.cell? ⟨p, 0, none⟩ = some x0 ∧ w.cell? ⟨p, 1, none⟩ = some x1 ∧ w.cell? ⟨p, 2, none⟩ = some x2 ∧ w.cell? ⟨p, 3, none⟩ = some x3 ∧ w.cell? ⟨p, 4, none⟩ = some x4 ∧ w.cell? ⟨p, 5, none⟩ = some x5 ∧ w.cell? ⟨p, 6, none⟩ = some x6 ∧ ∀ i, w.frozen? ⟨p, i, none⟩ = false :=
 ⟨(blk_cell h 0).trans rfl, (blk_cell h 1).trans rfl, (blk_cell h 2).trans rfl, (blk_cell h 3).trans rfl, (blk_cell h 4).trans rfl, (blk_cell h 5).trans rfl, (blk_cell h 6).trans rfl, fun i => blk_frozen h i⟩
def sets7 (w : World) (g : Nat) (y0 y1 y2 y3 y4 y5 y6 : Value) : World := (((((((w.setCell ⟨g, 0, none⟩ y0).setCell ⟨g, 1, none⟩ y1).setCell ⟨g, 2, none⟩ y2).setCell ⟨g, 3, none⟩ y3).setCell ⟨g, 4, none⟩ y4).setCell ⟨g, 5, none⟩ y5).setCell ⟨g, 6, none⟩ y6)
theorem sets7_blk {w : World} {g t : Nat} {x0 x1 x2 x3 x4 x5 x6 : Value} (hb : w.heap[g]? = some (.cells #[x0, x1, x2, x3, x4, x5, x6] t (0, 0))) (y0 y1 y2 y3 y4 y5 y6 : Value) : (sets7 w g y0 y1 y2 y3 y4 y5 y6).heap[g]? = some (.cells #[y0, y1, y2, y3, y4, y5, y6] t (0, 0)) := by
 have h1 : (w.setCell ⟨g, 0, none⟩ y0).heap[g]? = some (.cells #[y0, x1, x2, x3, x4, x5, x6] t (0, 0)) := blk_set hb 0 y0
 have h2 : ((w.setCell ⟨g, 0, none⟩ y0).setCell ⟨g, 1, none⟩ y1).heap[g]? = some (.cells #[y0, y1, x2, x3, x4, x5, x6] t (0, 0)) := blk_set h1 1 y1
 have h3 : (((w.setCell ⟨g, 0, none⟩ y0).setCell ⟨g, 1, none⟩ y1).setCell ⟨g, 2, none⟩ y2).heap[g]? = some (.cells #[y0, y1, y2, x3, x4, x5, x6] t (0, 0)) := blk_set h2 2 y2
 have h4 : ((((w.setCell ⟨g, 0, none⟩ y0).setCell ⟨g, 1, none⟩ y1).setCell ⟨g, 2, none⟩ y2).setCell ⟨g, 3, none⟩ y3).heap[g]? = some (.cells #[y0, y1, y2, y3, x4, x5, x6] t (0, 0)) := blk_set h3 3 y3
 have h5 : (((((w.setCell ⟨g, 0, none⟩ y0).setCell ⟨g, 1, none⟩ y1).setCell ⟨g, 2, none⟩ y2).setCell ⟨g, 3, none⟩ y3).setCell ⟨g, 4, none⟩ y4).heap[g]? = some (.cells #[y0, y1, y2, y3, y4, x5, x6] t (0, 0)) := blk_set h4 4 y4
 have h6 : ((((((w.setCell ⟨g, 0, none⟩ y0).setCell ⟨g, 1, none⟩ y1).setCell ⟨g, 2, none⟩ y2).setCell ⟨g, 3, none⟩ y3).setCell ⟨g, 4, none⟩ y4).setCell ⟨g, 5, none⟩ y5).heap[g]? = some (.cells #[y0, y1, y2, y3, y4, y5, x6] t (0, 0)) := blk_set h5 5 y5
 have h7 : (((((((w.setCell ⟨g, 0, none⟩ y0).setCell ⟨g, 1, none⟩ y1).setCell ⟨g, 2, none⟩ y2).setCell ⟨g, 3, none⟩ y3).setCell ⟨g, 4, none⟩ y4).setCell ⟨g, 5, none⟩ y5).setCell ⟨g, 6, none⟩ y6).heap[g]? = some (.cells #[y0, y1, y2, y3, y4, y5, y6] t (0, 0)) := blk_set h6 6 y6
 exact h7
theorem sets7_below {b : Nat} {w W : World} (h : Below b w W) {g : Nat} (hg : b ≤ g) (y0 y1 y2 y3 y4 y5 y6 : Value) : Below b w (sets7 W g y0 y1 y2 y3 y4 y5 y6) := (sput (sput (sput (sput (sput (sput (sput h hg 0 y0) hg 1 y1) hg 2 y2) hg 3 y3) hg 4 y4) hg 5 y5) hg 6 y6)
theorem rows2_sets7 {w : World} {base g t : Nat} {x0 x1 x2 x3 x4 x5 x6 v2 v3 : Value} {bu be : List Int} (h : Rows2 w base v2 v3 bu be) (hb : w.heap[g]? = some (.cells #[x0, x1, x2, x3, x4, x5, x6] t (0, 0))) (ht : t ≠ 2) (y0 y1 y2 y3 y4 y5 y6 : Value) : Rows2 (sets7 w g y0 y1 y2 y3 y4 y5 y6) base v2 v3 bu be := by
 have h1 : (w.setCell ⟨g, 0, none⟩ y0).heap[g]? = some (.cells #[y0, x1, x2, x3, x4, x5, x6] t (0, 0)) := blk_set hb 0 y0
 have h2 : ((w.setCell ⟨g, 0, none⟩ y0).setCell ⟨g, 1, none⟩ y1).heap[g]? = some (.cells #[y0, y1, x2, x3, x4, x5, x6] t (0, 0)) := blk_set h1 1 y1
 have h3 : (((w.setCell ⟨g, 0, none⟩ y0).setCell ⟨g, 1, none⟩ y1).setCell ⟨g, 2, none⟩ y2).heap[g]? = some (.cells #[y0, y1, y2, x3, x4, x5, x6] t (0, 0)) := blk_set h2 2 y2
 have h4 : ((((w.setCell ⟨g, 0, none⟩ y0).setCell ⟨g, 1, none⟩ y1).setCell ⟨g, 2, none⟩ y2).setCell ⟨g, 3, none⟩ y3).heap[g]? = some (.cells #[y0, y1, y2, y3, x4, x5, x6] t (0, 0)) := blk_set h3 3 y3
 have h5 : (((((w.setCell ⟨g, 0, none⟩ y0).setCell ⟨g, 1, none⟩ y1).setCell ⟨g, 2, none⟩ y2).setCell ⟨g, 3, none⟩ y3).setCell ⟨g, 4, none⟩ y4).heap[g]? = some (.cells #[y0, y1, y2, y3, y4, x5, x6] t (0, 0)) := blk_set h4 4 y4
 have h6 : ((((((w.setCell ⟨g, 0, none⟩ y0).setCell ⟨g, 1, none⟩ y1).setCell ⟨g, 2, none⟩ y2).setCell ⟨g, 3, none⟩ y3).setCell ⟨g, 4, none⟩ y4).setCell ⟨g, 5, none⟩ y5).heap[g]? = some (.cells #[y0, y1, y2, y3, y4, y5, x6] t (0, 0)) := blk_set h5 5 y5
 have h7 : (((((((w.setCell ⟨g, 0, none⟩ y0).setCell ⟨g, 1, none⟩ y1).setCell ⟨g, 2, none⟩ y2).setCell ⟨g, 3, none⟩ y3).setCell ⟨g, 4, none⟩ y4).setCell ⟨g, 5, none⟩ y5).setCell ⟨g, 6, none⟩ y6).heap[g]? = some (.cells #[y0, y1, y2, y3, y4, y5, y6] t (0, 0)) := blk_set h6 6 y6
 exact (Rows2.set (Rows2.set (Rows2.set (Rows2.set (Rows2.set (Rows2.set (Rows2.set h hb ht 0 y0) h1 ht 1 y1) h2 ht 2 y2) h3 ht 3 y3) h4 ht 4 y4) h5 ht 5 y5) h6 ht 6 y6)
structure SVO where
 yearly : Int
 years : Int
 budget : Int
 order : List Int
 best : List Int
 most : Int
def StO (w : World) (base p : Nat) (Alist : Option Addr) (nlist clist : Nat) (s : SVO) : Prop := ∃ A2 c2 A3 c3,
 w.heap[p]? = some (.cells #[.slice Alist nlist clist, .int .i64 s.yearly, .int .i64 s.years, .int .i64 s.budget, .slice A2 s.order.length c2, .slice A3 s.best.length c3, .int .i64 s.most] 70 (0, 0)) ∧ Rows2 w base (.slice A2 s.order.length c2) (.slice A3 s.best.length c3) s.order s.best
theorem StO.below {w' : World} {w : World} {base p : Nat} {Alist : Option Addr} {nlist clist : Nat} {s : SVO} (h : StO w base p Alist nlist clist s) (hb : Below w.heap.size w w') : StO w' base p Alist nlist clist s := by
 obtain ⟨A2, c2, A3, c3, hP, hR⟩ := h
 exact ⟨A2, c2, A3, c3, blk_below hP hb, hR.below hb⟩
theorem StO.size {w : World} {base p : Nat} {Alist : Option Addr} {nlist clist : Nat} {s : SVO} (h : StO w base p Alist nlist clist s) : p < w.heap.size := by
 obtain ⟨A2, c2, A3, c3, hP, _⟩ := h
 exact blk_lt hP
theorem StO.set_yearly {w : World} {base p : Nat} {Alist : Option Addr} {nlist clist : Nat} {s : SVO} (h : StO w base p Alist nlist clist s) (x : Int) : StO (w.setCell ⟨p, 1, none⟩ (.int .i64 x)) base p Alist nlist clist ⟨x, s.years, s.budget, s.order, s.best, s.most⟩ := by
 obtain ⟨A2, c2, A3, c3, hP, hR⟩ := h
 exact ⟨A2, c2, A3, c3, blk_set hP 1 _, hR.set hP (by decide) 1 _⟩
theorem StO.set_years {w : World} {base p : Nat} {Alist : Option Addr} {nlist clist : Nat} {s : SVO} (h : StO w base p Alist nlist clist s) (x : Int) : StO (w.setCell ⟨p, 2, none⟩ (.int .i64 x)) base p Alist nlist clist ⟨s.yearly, x, s.budget, s.order, s.best, s.most⟩ := by
 obtain ⟨A2, c2, A3, c3, hP, hR⟩ := h
 exact ⟨A2, c2, A3, c3, blk_set hP 2 _, hR.set hP (by decide) 2 _⟩
theorem StO.set_budget {w : World} {base p : Nat} {Alist : Option Addr} {nlist clist : Nat} {s : SVO} (h : StO w base p Alist nlist clist s) (x : Int) : StO (w.setCell ⟨p, 3, none⟩ (.int .i64 x)) base p Alist nlist clist ⟨s.yearly, s.years, x, s.order, s.best, s.most⟩ := by
 obtain ⟨A2, c2, A3, c3, hP, hR⟩ := h
 exact ⟨A2, c2, A3, c3, blk_set hP 3 _, hR.set hP (by decide) 3 _⟩
theorem StO.put_order {w : World} {base p : Nat} {Alist : Option Addr} {nlist clist : Nat} {s : SVO} {A9 A3 : Option Addr} {n9 c9 c3 : Nat} {u : Value} {xs : List Int} (hP : w.heap[p]? = some (.cells #[.slice Alist nlist clist, .int .i64 s.yearly, .int .i64 s.years, .int .i64 s.budget, u, .slice A3 s.best.length c3, .int .i64 s.most] 70 (0, 0))) (hR : Rows2 w base (.slice A9 n9 c9) (.slice A3 s.best.length c3) xs s.best) (hn : n9 = xs.length) : StO (w.setCell ⟨p, 4, none⟩ (.slice A9 n9 c9)) base p Alist nlist clist ⟨s.yearly, s.years, s.budget, xs, s.best, s.most⟩ := by
 subst hn
 exact ⟨A9, c9, A3, c3, blk_set hP 4 _, hR.set hP (by decide) 4 _⟩
theorem StO.put_best {w : World} {base p : Nat} {Alist : Option Addr} {nlist clist : Nat} {s : SVO} {A9 A2 : Option Addr} {n9 c9 c2 : Nat} {u : Value} {xs : List Int} (hP : w.heap[p]? = some (.cells #[.slice Alist nlist clist, .int .i64 s.yearly, .int .i64 s.years, .int .i64 s.budget, .slice A2 s.order.length c2, u, .int .i64 s.most] 70 (0, 0))) (hR : Rows2 w base (.slice A2 s.order.length c2) (.slice A9 n9 c9) s.order xs) (hn : n9 = xs.length) : StO (w.setCell ⟨p, 5, none⟩ (.slice A9 n9 c9)) base p Alist nlist clist ⟨s.yearly, s.years, s.budget, s.order, xs, s.most⟩ := by
 subst hn
 exact ⟨A2, c2, A9, c9, blk_set hP 5 _, hR.set hP (by decide) 5 _⟩
theorem StO.set_most {w : World} {base p : Nat} {Alist : Option Addr} {nlist clist : Nat} {s : SVO} (h : StO w base p Alist nlist clist s) (x : Int) : StO (w.setCell ⟨p, 6, none⟩ (.int .i64 x)) base p Alist nlist clist ⟨s.yearly, s.years, s.budget, s.order, s.best, x⟩ := by
 obtain ⟨A2, c2, A3, c3, hP, hR⟩ := h
 exact ⟨A2, c2, A3, c3, blk_set hP 6 _, hR.set hP (by decide) 6 _⟩
theorem StO.open {w : World} {base p : Nat} {Alist : Option Addr} {nlist clist : Nat} {s : SVO} (h : StO w base p Alist nlist clist s) : ∃ A2 c2 A3 c3,
  (w.cell? ⟨p, 0, none⟩ = some (.slice Alist nlist clist) ∧ w.cell? ⟨p, 1, none⟩ = some (.int .i64 s.yearly) ∧ w.cell? ⟨p, 2, none⟩ = some (.int .i64 s.years) ∧ w.cell? ⟨p, 3, none⟩ = some (.int .i64 s.budget) ∧ w.cell? ⟨p, 4, none⟩ = some (.slice A2 s.order.length c2) ∧ w.cell? ⟨p, 5, none⟩ = some (.slice A3 s.best.length c3) ∧ w.cell? ⟨p, 6, none⟩ = some (.int .i64 s.most) ∧ ∀ i, w.frozen? ⟨p, i, none⟩ = false) ∧
  (s.order.length ≤ c2 ∧ Kd.C (Kd.int .i64) w A2 s.order.length s.order) ∧ (s.best.length ≤ c3 ∧ Kd.C (Kd.int .i64) w A3 s.best.length s.best) ∧
  w.heap[p]? = some (.cells #[.slice Alist nlist clist, .int .i64 s.yearly, .int .i64 s.years, .int .i64 s.budget, .slice A2 s.order.length c2, .slice A3 s.best.length c3, .int .i64 s.most] 70 (0, 0)) ∧ Rows2 w base (.slice A2 s.order.length c2) (.slice A3 s.best.length c3) s.order s.best := by
 obtain ⟨A2, c2, A3, c3, hP, hR⟩ := h
 exact ⟨A2, c2, A3, c3, cells7 hP, (Kd.R_reads' hR.1).2, (Kd.R_reads' hR.2).2, hP, hR⟩
/-- The stages from one on, tried behind an order. -/
def loopO (rec : Int → Int → SVO → Option SVO) (k : Nat) (xs : List S34) (cost worth : Int) : Nat → SVO → Option SVO
 | 0, s => some s
 | d + 1, s => (slices_Contains_int64_int64.f k s.order ((xs.length - (d + 1) : Nat) : Int)).bind fun c => if c = true then loopO rec k xs cost worth d s else
  (impl_hasNeeds.f xs s.order ((xs.length - (d + 1) : Nat) : Int)).bind fun h => if h = true then
   (impl_divUp.f (wrap64 (cost + (rd_T34 xs ((xs.length - (d + 1) : Nat) : Int)).f1)) s.yearly).bind fun y => if s.years < y then loopO rec k xs cost worth d s else
    if wrap64 (s.budget - 1) < 0 then some ⟨s.yearly, s.years, wrap64 (s.budget - 1), s.order, s.best, s.most⟩ else
    if s.order.length < 1000 then
     (rec (wrap64 (cost + (rd_T34 xs ((xs.length - (d + 1) : Nat) : Int)).f1)) (wrap64 (worth + wrap64 ((rd_T34 xs ((xs.length - (d + 1) : Nat) : Int)).f2 * wrap64 (s.years - y)))) ⟨s.yearly, s.years, wrap64 (s.budget - 1), s.order ++ [((xs.length - (d + 1) : Nat) : Int)], s.best, s.most⟩).bind fun s2 =>
      if s2.budget < 0 then some ⟨s2.yearly, s2.years, s2.budget, s2.order.take (s2.order.length - 1), s2.best, s2.most⟩
      else loopO rec k xs cost worth d ⟨s2.yearly, s2.years, s2.budget, s2.order.take (s2.order.length - 1), s2.best, s2.most⟩
    else none
  else loopO rec k xs cost worth d s
def firstO (worth : Int) (s : SVO) : SVO := if s.most < worth then ⟨s.yearly, s.years, s.budget, s.order, s.order, worth⟩ else s
/-- The search for the best order. -/
def visitO (xs : List S34) : Nat → Int → Int → SVO → Option SVO
 | 0, _, _, _ => none
 | k + 1, cost, worth, s => if s.order.length ≤ 1000 then loopO (visitO xs k) k xs cost worth xs.length (firstO worth s) else none
theorem loopO_mono (rec rec2 : Int → Int → SVO → Option SVO) (hrec : ∀ c w s, LeO (rec c w s) (rec2 c w s)) (k : Nat) (xs : List S34) (cost worth : Int) : ∀ d s, LeO (loopO rec k xs cost worth d s) (loopO rec2 (k + 1) xs cost worth d s)
 | 0, s => LeO.refl _
 | d + 1, s => by
  unfold loopO
  exact LeO.bind (slices_Contains_int64_int64.mono _ _ k) (fun _ => LeO.ite (loopO_mono rec rec2 hrec k xs cost worth d s) (LeO.bind (LeO.refl _) (fun _ => LeO.ite (LeO.bind (LeO.refl _) (fun _ => LeO.ite (loopO_mono rec rec2 hrec k xs cost worth d s) (LeO.ite (LeO.refl _) (LeO.ite (LeO.bind (hrec _ _ _) (fun _ => LeO.ite (LeO.refl _) (loopO_mono rec rec2 hrec k xs cost worth d _))) (LeO.refl _))))) (loopO_mono rec rec2 hrec k xs cost worth d s))))
theorem visitO_mono (xs : List S34) : ∀ k c w s, LeO (visitO xs k c w s) (visitO xs (k + 1) c w s)
 | 0, c, w, s => LeO.none _
 | k + 1, c, w, s => by
  have h := loopO_mono (visitO xs k) (visitO xs (k + 1)) (fun c w s => visitO_mono xs k c w s) k xs c w xs.length (firstO w s)
  show LeO (if s.order.length ≤ 1000 then loopO (visitO xs k) k xs c w xs.length (firstO w s) else none) (if s.order.length ≤ 1000 then loopO (visitO xs (k + 1)) (k + 1) xs c w xs.length (firstO w s) else none)
  exact LeO.ite h (LeO.refl _)
theorem loopO_order (rec : Int → Int → SVO → Option SVO) (hrec : ∀ c w s s', rec c w s = Option.some s' → s'.order = s.order) (k : Nat) (xs : List S34) (cost worth : Int) : ∀ d s s', loopO rec k xs cost worth d s = Option.some s' → s'.order = s.order := by
 intro d
 induction d with
 | zero => intro s s' h; obtain rfl := Option.some.inj h; rfl
 | succ d ih =>
  intro s s' h
  unfold loopO at h
  obtain ⟨c, _, h⟩ := Option.bind_eq_some_iff.1 h
  split at h
  ·
   exact ih _ _ h
  ·
   obtain ⟨n, _, h⟩ := Option.bind_eq_some_iff.1 h
   split at h
   ·
    obtain ⟨y, _, h⟩ := Option.bind_eq_some_iff.1 h
    split at h
    ·
     exact ih _ _ h
    ·
     split at h
     ·
      obtain rfl := Option.some.inj h; rfl
     ·
      split at h
      ·
       obtain ⟨s2, h2, h⟩ := Option.bind_eq_some_iff.1 h
       have e := hrec _ _ _ _ h2
       have t : s2.order.take (s2.order.length - 1) = s.order := by rw [e]; simp
       split at h
       ·
        obtain rfl := Option.some.inj h; exact t
       ·
        exact (ih _ _ h).trans t
      ·
       cases h
   ·
    exact ih _ _ h
theorem firstO_order (worth : Int) (s : SVO) : (firstO worth s).order = s.order := by unfold firstO; split <;> rfl
theorem visitO_order (xs : List S34) : ∀ k c w s s', visitO xs k c w s = Option.some s' → s'.order = s.order
 | 0, c, w, s, s', h => by cases h
 | k + 1, c, w, s, s', h => by
  unfold visitO at h
  split at h
  ·
   exact (loopO_order (visitO xs k) (visitO_order xs k) k xs c w _ _ _ h).trans (firstO_order w s)
  ·
   cases h
theorem stg_blk {W : World} {g : Nat} {a0 a1 a2 a3 : Value} (h : W.heap[g]? = some (.cells #[a0, a1, a2, a3] 34 (0, 0))) : W.cell? ⟨g, 1, none⟩ = some a1 ∧ W.cell? ⟨g, 2, none⟩ = some a2 := ⟨(blk_cell h 1).trans rfl, (blk_cell h 2).trans rfl⟩
-- @cut
theorem below_alloc_ {b : Nat} {w W : World} (h : Below b w W) (hs : b ≤ W.heap.size) (o : Obj) : Below b w (W.alloc o) := h.alloc hs o
theorem blk_put_ {W : World} {g : Nat} {o : Obj} (h : W.heap[g]? = some o) {q : Nat} (hq : g ≠ q) (i : Nat) (u : Value) : (W.setCell ⟨q, i, none⟩ u).heap[g]? = some o := (Below.heap_setCell W ⟨q, i, none⟩ u g hq).trans h
set_option maxHeartbeats 16000000 in
set_option maxRecDepth 100000 in
/-- The search, given what it does with less to go on. -/
theorem visitO_s.calls (xs : List S34) (hxl : xs.length ≤ 1000) (b0 : Nat) (w0 : World) (Al : Option Addr) (cl : Nat) (hcl : xs.length ≤ cl) (hrd : ∀ W, Below b0 w0 W → b0 ≤ W.heap.size → Kd.C k34 W Al xs.length xs) (p : Nat) (hp : b0 ≤ p) (k : Nat)
  (ih : ∀ (cost worth : Int) (s s' : SVO) (w : World), visitO xs k cost worth s = some s' → Below b0 w0 w → b0 ≤ w.heap.size → StO w b0 p Al xs.length cl s → Calls Try.prog 45 #[.pointer (some ⟨p, 0, none⟩), .int .i64 cost, .int .i64 worth] w fun e w' => e = .returned (.tuple #[]) ∧ Below b0 w0 w' ∧ b0 ≤ w'.heap.size ∧ StO w' b0 p Al xs.length cl s')
  (cost worth : Int) (s0 s' : SVO) (w : World) (h : visitO xs (k + 1) cost worth s0 = some s') (hb : Below b0 w0 w) (hbw : b0 ≤ w.heap.size) (hs : StO w b0 p Al xs.length cl s0) :
  Calls Try.prog 45 #[.pointer (some ⟨p, 0, none⟩), .int .i64 cost, .int .i64 worth] w fun e w' => e = .returned (.tuple #[]) ∧ Below b0 w0 w' ∧ b0 ≤ w'.heap.size ∧ StO w' b0 p Al xs.length cl s' := by
 have hord := visitO_order xs k
 unfold visitO at h
 by_cases hol : s0.order.length ≤ 1000
 ·
  rw [if_pos hol] at h
  have HOL0 := Aside0.mk (show (firstO worth s0).order.length ≤ 1000 by rw [firstO_order]; exact hol)
  have HH := Aside0.mk h
  have HORD := Aside0.mk hord
  have HXL := Aside0.mk hxl
  have HCL := Aside0.mk hcl
  have HRD := Aside0.mk hrd
  have HPP := Aside0.mk hp
  have IH := Aside0.mk ih
  have HB := Aside0.mk hb
  have HBW := Aside0.mk hbw
  have HS := Aside0.mk hs
  have HOL := Aside0.mk hol
  obtain ⟨A2, c2, A3, c3, ⟨x0, x1, x2, x3, x4, x5, x6, xf⟩, ⟨hc2, hC2⟩, _, hP, hR⟩ := hs.open
  have HCLONE := Aside0.mk (show slices_Clone_int64_int64.f s0.order = some s0.order by unfold slices_Clone_int64_int64.f; rw [if_pos (by omega)])
  have HC2 := Aside0.mk hc2
  have HP := Aside0.mk hP
  have HR := Aside0.mk hR
  clear h hord hxl hcl hrd hp ih hb hbw hs hol hc2 hC2 hP hR
  go_enter Try.func45, Try.ntmps45
  go_upto_if 14 with fail
  go_cut [] (fun wx => Aside0 (Below b0 w0 wx) ∧ Aside0 (b0 ≤ wx.heap.size) ∧ Aside0 (StO wx b0 p Al xs.length cl (firstO worth s0)))
  case first =>
   by_cases q : s0.most < worth
   ·
    have z : decide (s0.most < worth) = true := decide_eq_true q
    have e1 : firstO worth s0 = ⟨s0.yearly, s0.years, s0.budget, s0.order, s0.order, worth⟩ := by unfold firstO; rw [if_pos q]
    have E1 := Aside0.mk e1
    clear q e1
    rw [z]
    go_wp2_with (go_at_call 83; refine (slices_Clone_int64_int64.calls A2 c2 s0.order s0.order _ (Kd.R_reads' HR.out.1).2.2 HC2.out HCLONE.out).mono ?_; rintro e w2 ⟨v, rfl, hRn, hb2⟩; obtain ⟨A9, c9, e9⟩ := Kd.R_slice hRn; subst e9; have hP2 := blk_below HP.out hb2; obtain ⟨u0, u1, u2, u3, u4, u5, u6, uf⟩ := cells7 hP2; have HRn := Aside0.mk hRn; have HB2 := Aside0.mk hb2; have HP2 := Aside0.mk hP2; clear hRn hb2 hP2)
    go_meet
    case rel =>
     rw [E1.out]
     exact ⟨⟨sput (sput (below_then HB.out HBW.out HB2.out) HPP.out 5 _) HPP.out 6 _⟩, ⟨by simp; exact Nat.le_trans HBW.out HB2.out.size⟩, ⟨StO.set_most (StO.put_best (s := s0) HP2.out (HR.out.clone HRn.out HB2.out HBW.out) rfl) worth⟩⟩
   ·
    have z : decide (s0.most < worth) = false := decide_eq_false q
    have e1 : firstO worth s0 = s0 := by unfold firstO; rw [if_neg q]
    have E1 := Aside0.mk e1
    clear q e1
    rw [z]
    go_wp2
    go_meet
    case rel =>
     rw [E1.out]
     exact ⟨HB, HBW, HS⟩
  case rest =>
   obtain ⟨HBc, HWc, HSc⟩ := hcut
   clear HB HBW HS HOL HCLONE HC2 HP HR x0 x1 x2 x3 x4 x5 x6 xf
   have hh := HH.out
   have hol := HOL0.out
   clear HH HOL0
   generalize firstO worth s0 = s1 at HSc hh hol
   obtain ⟨A2, c2, A3, c3, ⟨x0, x1, x2, x3, x4, x5, x6, xf⟩, _, _, _, _⟩ := HSc.out.open
   have HH := Aside0.mk hh
   have HOL := Aside0.mk hol
   clear hh hol
   go_wp2
   go_loopg [32] xs.length (fun gg s32 wr => ∃ (kk : Nat) (s : SVO), s32 = .int .i64 kk ∧ Aside0 (kk ≤ xs.length) ∧ Aside0 (xs.length - kk ≤ gg) ∧ Aside0 (loopO (visitO xs k) k xs cost worth (xs.length - kk) s = some s') ∧ Aside0 (Below b0 w0 wr) ∧ Aside0 (b0 ≤ wr.heap.size) ∧ Aside0 (StO wr b0 p Al xs.length cl s))
   case atStart => exact ⟨0, s1, rfl, ⟨Nat.zero_le _⟩, ⟨by omega⟩, HH, HBc, HWc, HSc⟩
   case round =>
    obtain ⟨kk, s, rfl, hkk, hg, hq, hB, hW, hS⟩ := hrel
    clear HH HBc HWc HSc x0 x1 x2 x3 x4 x5 x6 xf
    by_cases hlt : kk < xs.length
    ·
     have hltz : decide ((kk : Int) < (xs.length : Int)) = true := decide_eq_true (by omega)
     have z2 := eq_true (show (0 : Int) ≤ (kk : Int) by omega)
     have z3 := eq_true (show (kk : Int) < (xs.length : Int) by omega)
     have h2 := hq.out
     rw [show xs.length - kk = (xs.length - (kk + 1)) + 1 by omega] at h2
     unfold loopO at h2
     rw [show xs.length - (xs.length - (kk + 1) + 1) = kk by omega] at h2
     obtain ⟨con, hcon, h2⟩ := Option.bind_eq_some_iff.1 h2
     obtain ⟨ad, A8, c8, e8, hx0, hx1, hx2, hx3, _, _⟩ := at_T34 (HRD.out wr hB.out hW.out) (kk : Int) (Int.natCast_nonneg kk) (Int.ofNat_lt.2 hlt)
     cases e8
     rw [Int.toNat_natCast] at hx0 hx1 hx2 hx3
     have HLT := Aside0.mk hlt
     have H2 := Aside0.mk h2
     clear hq h2 hlt
     go_wp2
     have HX1 := blk_new wr (.cells #[.string (rd_T34 xs (kk : Int)).f0, .int .i64 (rd_T34 xs (kk : Int)).f1, .int .i64 (rd_T34 xs (kk : Int)).f2, .slice A8 (rd_T34 xs (kk : Int)).f3.length c8] 34)
     have HB1 := below_alloc_ hB.out hW.out (.cells #[.string (rd_T34 xs (kk : Int)).f0, .int .i64 (rd_T34 xs (kk : Int)).f1, .int .i64 (rd_T34 xs (kk : Int)).f2, .slice A8 (rd_T34 xs (kk : Int)).f3.length c8] 34)
     have HW1 : b0 ≤ (wr.alloc (.cells #[.string (rd_T34 xs (kk : Int)).f0, .int .i64 (rd_T34 xs (kk : Int)).f1, .int .i64 (rd_T34 xs (kk : Int)).f2, .slice A8 (rd_T34 xs (kk : Int)).f3.length c8] 34)).heap.size := by simp; exact Nat.le_succ_of_le hW.out
     have HS1 := hS.out.below (below_alloc (Below.refl wr.heap.size wr) (.cells #[.string (rd_T34 xs (kk : Int)).f0, .int .i64 (rd_T34 xs (kk : Int)).f1, .int .i64 (rd_T34 xs (kk : Int)).f2, .slice A8 (rd_T34 xs (kk : Int)).f3.length c8] 34))
     clear hx0 hx1 hx2 hx3
     have hxp : ¬ wr.heap.size = p := fun e => by have := StO.size hS.out; omega
     generalize wr.alloc (.cells #[.string (rd_T34 xs (kk : Int)).f0, .int .i64 (rd_T34 xs (kk : Int)).f1, .int .i64 (rd_T34 xs (kk : Int)).f2, .slice A8 (rd_T34 xs (kk : Int)).f3.length c8] 34) = W1 at HX1 HB1 HW1 HS1 ⊢
     obtain ⟨A2, c2, A3, c3, ⟨x0, x1, x2, x3, x4, x5, x6, xf⟩, ⟨hc2, hC2⟩, _, _, _⟩ := HS1.open
     obtain ⟨m1, m2⟩ := stg_blk HX1
     have HCO := Aside0.mk (fun W (hW : Below W1.heap.size W1 W) => slices_Contains_int64_int64.calls k A2 c2 s.order (kk : Int) con W (Kd.C_below hC2 hW) hc2 hcon)
     have HX1 := Aside0.mk HX1
     have HB1 := Aside0.mk HB1
     have HW1 := Aside0.mk HW1
     have HS1 := Aside0.mk HS1
     have HC2 := Aside0.mk (⟨hc2, hC2⟩ : s.order.length ≤ c2 ∧ Kd.C (Kd.int .i64) W1 A2 s.order.length s.order)
     clear hC2 hc2 hcon
     have h2 := H2.out
     clear H2
     have HXP := Aside0.mk hxp
     clear hxp
     cases con with
     | true =>
      rw [if_pos rfl] at h2
      have HREST := Aside0.mk h2
      clear h2
      go_quiet ((go_at_call 74; refine (HCO.out _ (by repeat (first | exact Below.refl _ _ | apply pw_below_drewN | apply below_drew))).mono ?_; rintro e w' ⟨rfl, ⟨⟨nd, rfl⟩⟩⟩; (first | (with_reducible exact ⟨rfl, _, World.drewN_drewN _ _ _⟩) | exact ⟨rfl, _, rfl⟩)))
      go_wp2
      go_roundg (xs.length - (kk + 1))
      all_goals first
       | (have := HLT.out; have := hg.out; omega)
       | (exact ⟨kk + 1, s, by rw [show wrap64 ((kk : Int) + 1) = ((kk + 1 : Nat) : Int) by (have := HLT.out; have := HXL.out; unfold wrap64; omega)], ⟨by have := HLT.out; omega⟩, ⟨by omega⟩, ⟨HREST.out⟩, ⟨pw_below_drewN HB1.out _⟩, ⟨HW1.out⟩, ⟨HS1.out.below (pw_below_drewN (Below.refl _ _) _)⟩⟩)
     | false =>
      rw [if_neg (by decide)] at h2
      obtain ⟨need, hneed, h3⟩ := Option.bind_eq_some_iff.1 h2
      clear h2
      have HNE := Aside0.mk (fun W (hW : Below W1.heap.size W1 W) => (impl_hasNeeds.calls _ cl xs A2 c2 s.order (kk : Int) need W (HRD.out W (below_then HB1.out HW1.out hW) (Nat.le_trans HW1.out hW.size)) HCL.out (Kd.C_below HC2.out.2 hW) HC2.out.1 hneed).mono fun e w' he => (⟨he.1, below_then hW hW.size he.2⟩ : e = .returned (.bool need) ∧ Below W1.heap.size W1 w'))
      clear hneed
      cases need with
      | false =>
       rw [if_neg (by decide)] at h3
       have HREST := Aside0.mk h3
       clear h3
       go_region_held3 (fun W_ => W_.cell? ⟨p, 0, none⟩ = some (.slice (some ad) xs.length cl) ∧ W_.cell? ⟨p, 4, none⟩ = some (.slice A2 s.order.length c2)) (first | (exact ⟨y0, y4⟩) | go_keep) (first | (go_at_call 74; refine (HCO.out _ (by repeat (first | exact Below.refl _ _ | apply pw_below_drewN | apply below_drew))).mono ?_; rintro e w' ⟨rfl, ⟨⟨nd, rfl⟩⟩⟩) | (go_at_call 75; refine (HNE.out _ (by repeat (first | exact Below.refl _ _ | apply pw_below_drewN | apply below_drew))).mono ?_; rintro e w5 ⟨rfl, hb5⟩; have y0 := pw_cell_below hb5 x0; have y4 := pw_cell_below hb5 x4; have HB5 := Aside0.mk hb5; clear hb5))
       go_wp2
       go_roundg (xs.length - (kk + 1))
       all_goals first
        | (have := HLT.out; have := hg.out; omega)
        | (exact ⟨kk + 1, s, by rw [show wrap64 ((kk : Int) + 1) = ((kk + 1 : Nat) : Int) by (have := HLT.out; have := HXL.out; unfold wrap64; omega)], ⟨by have := HLT.out; omega⟩, ⟨by omega⟩, ⟨HREST.out⟩, ⟨below_then HB1.out HW1.out HB5.out⟩, ⟨Nat.le_trans HW1.out HB5.out.size⟩, ⟨HS1.out.below HB5.out⟩⟩)
      | true =>
       rw [if_pos rfl] at h3
       go_region_held3 (fun W_ => W_.cell? ⟨p, 0, none⟩ = some (.slice (some ad) xs.length cl) ∧ W_.cell? ⟨p, 4, none⟩ = some (.slice A2 s.order.length c2)) (first | (exact ⟨y0, y4⟩) | go_keep) (first | (go_at_call 74; refine (HCO.out _ (by repeat (first | exact Below.refl _ _ | apply pw_below_drewN | apply below_drew))).mono ?_; rintro e w' ⟨rfl, ⟨⟨nd, rfl⟩⟩⟩) | (go_at_call 75; refine (HNE.out _ (by repeat (first | exact Below.refl _ _ | apply pw_below_drewN | apply below_drew))).mono ?_; rintro e w5 ⟨rfl, hb5⟩; have y0 := pw_cell_below hb5 x0; have y4 := pw_cell_below hb5 x4; have HB5 := Aside0.mk hb5; clear hb5))
       obtain ⟨y, hy, h4⟩ := Option.bind_eq_some_iff.1 h3
       clear h3
       have HDI := Aside0.mk (fun W => impl_divUp.calls _ _ y W hy)
       clear hy
       -- the world behind the test
       have hB5 := below_then HB1.out HW1.out HB5.out
       have hW5 := Nat.le_trans HW1.out HB5.out.size
       have hS5 := HS1.out.below HB5.out
       have hX5 := blk_below HX1.out HB5.out
       have Y4 := Aside0.mk y4
       clear x0 x1 x2 x3 x4 x5 x6 xf m1 m2 y0 y4 HB5
       have HB5 := Aside0.mk hB5
       have HW5 := Aside0.mk hW5
       have HS5 := Aside0.mk hS5
       have HX5 := Aside0.mk hX5
       clear hB5 hW5 hS5 hX5
       obtain ⟨A4, c4, A5, c5, ⟨x0, x1, x2, x3, x4, x5, x6, xf⟩, ⟨hc4, _⟩, _, hP5, hR5⟩ := HS5.out.open
       have e4 := Option.some.inj (x4.symm.trans Y4.out)
       injection e4 with e4a e4b e4c
       subst e4a
       subst e4c
       clear e4b Y4
       obtain ⟨m1, m2⟩ := stg_blk HX5.out
       have HP5 := Aside0.mk hP5
       have HR5 := Aside0.mk hR5
       clear hc4 hP5 hR5
       by_cases qy : s.years < y
       ·
        rw [if_pos qy] at h4
        have zy : decide (s.years < y) = true := decide_eq_true qy
        have HREST := Aside0.mk h4
        clear h4 qy
        go_wp2
        go_quiet ((go_at_call 84; refine (HDI.out _).mono ?_; rintro e w' ⟨rfl, ⟨⟨nd, rfl⟩⟩⟩; (first | (with_reducible exact ⟨rfl, _, World.drewN_drewN _ _ _⟩) | exact ⟨rfl, _, rfl⟩)))
        go_wp2
        go_roundg (xs.length - (kk + 1))
        all_goals first
         | (have := HLT.out; have := hg.out; omega)
         | (exact ⟨kk + 1, s, by rw [show wrap64 ((kk : Int) + 1) = ((kk + 1 : Nat) : Int) by (have := HLT.out; have := HXL.out; unfold wrap64; omega)], ⟨by have := HLT.out; omega⟩, ⟨by omega⟩, ⟨HREST.out⟩, ⟨pw_below_drewN HB5.out _⟩, ⟨HW5.out⟩, ⟨HS5.out.below (pw_below_drewN (Below.refl _ _) _)⟩⟩)
       ·
        rw [if_neg qy] at h4
        have zy : decide (s.years < y) = false := decide_eq_false qy
        clear qy
        by_cases qb : wrap64 (s.budget - 1) < 0
        ·
         rw [if_pos qb] at h4
         have zb : decide (wrap64 (s.budget - 1) < 0) = true := decide_eq_true qb
         obtain rfl := Option.some.inj h4
         clear qb h4
         go_wp2
         go_quiet ((go_at_call 84; refine (HDI.out _).mono ?_; rintro e w' ⟨rfl, ⟨⟨nd, rfl⟩⟩⟩; (first | (with_reducible exact ⟨rfl, _, World.drewN_drewN _ _ _⟩) | exact ⟨rfl, _, rfl⟩)))
         go_wp2
         ((try simp only [Exit.inBlock, Exit.then]); first | (refine bodyPost_ret (results_none rfl _ _ _) rfl ?_) | (refine bodyPost_end (results_none rfl _ _ _) rfl ?_))
         exact ⟨rfl, sput (pw_below_drewN HB5.out _) HPP.out 3 _, by simp; exact HW5.out, StO.set_budget (HS5.out.below (pw_below_drewN (Below.refl _ _) _)) _⟩
        ·
         rw [if_neg qb] at h4
         have zb : decide (wrap64 (s.budget - 1) < 0) = false := decide_eq_false qb
         clear qb
         by_cases ql : s.order.length < 1000
         ·
          rw [if_pos ql] at h4
          obtain ⟨s2, hrec, h5⟩ := Option.bind_eq_some_iff.1 h4
          clear h4
          have hlen := HORD.out _ _ _ _ hrec
          simp only at hlen
          have HLEN := Aside0.mk (show s2.order.length = s.order.length + 1 by rw [hlen, List.length_append]; rfl)
          have HREC := Aside0.mk hrec
          have H5 := Aside0.mk h5
          have HOL := Aside0.mk ql
          clear hrec hlen h5 ql
          go_wp2
          go_quiet ((go_at_call 84; refine (HDI.out _).mono ?_; rintro e w' ⟨rfl, ⟨⟨nd, rfl⟩⟩⟩; (first | (with_reducible exact ⟨rfl, _, World.drewN_drewN _ _ _⟩) | exact ⟨rfl, _, rfl⟩)))
          have HSZ := Aside0.mk (show w5.heap.size = ((w5.drewN nq).setCell ⟨p, 3, none⟩ (.int .i64 (wrap64 (s.budget - 1)))).heap.size by simp)
          have HP7 := Aside0.mk (blk_set (show (w5.drewN nq).heap[p]? = _ from HP5.out) 3 (.int .i64 (wrap64 (s.budget - 1))))
          have HR7 := Aside0.mk ((HR5.out.drewN nq).set HP5.out (by decide) 3 (.int .i64 (wrap64 (s.budget - 1))))
          have HB7 := Aside0.mk (sput (pw_below_drewN HB5.out nq) HPP.out 3 (.int .i64 (wrap64 (s.budget - 1))))
          have HW7 := Aside0.mk (show b0 ≤ ((w5.drewN nq).setCell ⟨p, 3, none⟩ (.int .i64 (wrap64 (s.budget - 1)))).heap.size by simp; exact HW5.out)
          have HX7 := Aside0.mk (blk_put_ (show (w5.drewN nq).heap[_]? = _ from HX5.out) HXP.out 3 (.int .i64 (wrap64 (s.budget - 1))))
          go_wp2_with (first | (at_builtin; refine Kd.R_append (Kd.int .i64) (w0 := w0) b0 rfl _ _ 27 2 (.int .i64 0) 8 rfl Try.underlying27 info2 rfl (by decide) (by omega) (.slice A4 s.order.length c4) s.order (kk : Int) [.int .i64 (kk : Int)] (fun k => some k ≠ (Value.slice A5 s.best.length c5).ownBlock) (fun _ => False) rfl (by exact congrArg (fun n => Value.slice (some ⟨n, 0, none⟩) 1 1) HSZ.out) rfl (fun _ hk => hk.elim) (fun k hk e => (by have := Kd.R_lt HR7.out.2 k e.symm; omega)) HR7.out.1 HB7.out HW7.out (by have := HOL.out; omega) ?_; intro v1 w2 ho hb2 hg2 hat; obtain ⟨A9, c9, e9⟩ := Kd.R_slice ho; rw [List.length_append, List.length_singleton] at e9; subst e9; have hP2 := blk_grown HP7.out hg2 (Kd.R_ne HR7.out.1 HP7.out (by decide)); have hX2 := blk_grown HX7.out hg2 (Kd.R_ne HR7.out.1 HX7.out (by decide)); have hR2 := HR7.out.append ho hg2 hat; obtain ⟨u0, u1, u2, u3, u4, u5, u6, uf⟩ := cells7 hP2; have hS3 := StO.put_order (s := ⟨s.yearly, s.years, wrap64 (s.budget - 1), s.order, s.best, s.most⟩) hP2 hR2 (show s.order.length + 1 = (s.order ++ [(kk : Int)]).length by simp); have hB3 := sput hb2 HPP.out 4 (.slice A9 (s.order.length + 1) c9); have hW3 : b0 ≤ (w2.setCell ⟨p, 4, none⟩ (.slice A9 (s.order.length + 1) c9)).heap.size := (by simp; exact Nat.le_trans HW7.out hg2.size); have hX3 := blk_put_ hX2 HXP.out 4 (.slice A9 (s.order.length + 1) c9); have HB3 := Aside0.mk hB3; have HS3 := Aside0.mk hS3; have HW3 := Aside0.mk hW3; have HX3 := Aside0.mk hX3; clear ho hb2 hg2 hat hP2 hR2 hX2 hB3 hS3 hW3 hX3))
          clear x0 x1 x2 x3 x4 x5 x6 xf m1 m2 u0 u1 u2 u3 u4 u5 u6 uf
          generalize w2.setCell ⟨p, 4, none⟩ (.slice A9 (s.order.length + 1) c9) = W4 at HB3 HS3 HW3 HX3 ⊢
          obtain ⟨B2, d2, B3, d3, ⟨x0, x1, x2, x3, x4, x5, x6, xf⟩, _, _, _, _⟩ := HS3.out.open
          obtain ⟨m1, m2⟩ := stg_blk HX3.out
          have HRC := Aside0.mk (fun W (hW : Below W4.heap.size W4 W) => IH.out _ _ _ s2 W HREC.out (below_then HB3.out HW3.out hW) (Nat.le_trans HW3.out hW.size) (HS3.out.below hW))
          go_still_tail 16, (by kernel_rfl)
          change wpList _ _ _ _ _ W4.drew
          go_wp2_with (first | (go_at_call 45; (try simp only [Go.IntWalk.i64_left]); refine (HRC.out _ (by repeat (first | exact Below.refl _ _ | apply pw_below_drewN | apply below_drew))).mono ?_; rintro e w6 ⟨rfl, hb6, hw6, hs6⟩; have HB6 := Aside0.mk hb6; have HW6 := Aside0.mk hw6; have HS6 := Aside0.mk hs6; clear hb6 hw6 hs6))
          obtain ⟨A6, c6, A7, c7, ⟨t0, t1, t2, t3, t4, t5, t6, tf⟩, ⟨hc6, _⟩, _, hP6, hR6⟩ := HS6.out.open
          have hk0 : (0 : Int) ≤ (s2.order.length : Int) - 1 := by have := HLEN.out; omega
          have hk1 : (s2.order.length : Int) - 1 ≤ (s2.order.length : Int) := by omega
          have hk2 : (s2.order.length : Int) - 1 ≤ (c6 : Int) := by omega
          obtain ⟨g6, rfl⟩ := hR6.some (by have := HLEN.out; omega)
          have hw3 : IntKind.i64.wrap ((s2.order.length : Int) - 1) = (s2.order.length : Int) - 1 := IntWalk.i64_in _ (by have := HLEN.out; have := HOL.out; omega)
          have HP6 := Aside0.mk hP6
          have HR6 := Aside0.mk hR6
          clear x0 x1 x2 x3 x4 x5 x6 xf m1 m2 hP6 hR6 hc6
          go_region
          have hS8 := (StO.put_order (s := s2) HP6.out (HR6.out.cut (m := s2.order.length - 1) (by omega)) (show s2.order.length - 1 = (s2.order.take (s2.order.length - 1)).length by rw [List.length_take]; omega)).below (below_drew (Below.refl _ _))
          have hB8 := below_drew (sput HB6.out HPP.out 4 (.slice (some ⟨g6, 0, none⟩) (s2.order.length - 1) c6))
          have hW8 : b0 ≤ (w6.setCell ⟨p, 4, none⟩ (.slice (some ⟨g6, 0, none⟩) (s2.order.length - 1) c6)).drew.heap.size := by simp; exact HW6.out
          clear t0 t1 t2 t3 t4 t5 t6 tf
          generalize (w6.setCell ⟨p, 4, none⟩ (.slice (some ⟨g6, 0, none⟩) (s2.order.length - 1) c6)).drew = w8 at hS8 hB8 hW8 ⊢
          obtain ⟨_, _, _, _, ⟨t0, t1, t2, t3, t4, t5, t6, tf⟩, _⟩ := hS8.open
          have HB8 := Aside0.mk hB8
          have HS8 := Aside0.mk hS8
          have HW8 := Aside0.mk hW8
          have h5 := H5.out
          clear hB8 hS8 hW8 H5
          by_cases qe : s2.budget < 0
          ·
           rw [if_pos qe] at h5
           have ze : decide (s2.budget < 0) = true := decide_eq_true qe
           obtain rfl := Option.some.inj h5
           clear qe h5
           go_wp2
           ((try simp only [Exit.inBlock, Exit.then]); first | (refine bodyPost_ret (results_none rfl _ _ _) rfl ?_) | (refine bodyPost_end (results_none rfl _ _ _) rfl ?_))
           exact ⟨rfl, HB8.out, HW8.out, HS8.out⟩
          ·
           rw [if_neg qe] at h5
           have ze : decide (s2.budget < 0) = false := decide_eq_false qe
           have HREST := Aside0.mk h5
           clear qe h5
           go_wp2
           go_roundg (xs.length - (kk + 1))
           all_goals first
            | (have := HLT.out; have := hg.out; omega)
            | (exact ⟨kk + 1, _, by rw [show wrap64 ((kk : Int) + 1) = ((kk + 1 : Nat) : Int) by (have := HLT.out; have := HXL.out; unfold wrap64; omega)], ⟨by have := HLT.out; omega⟩, ⟨by omega⟩, ⟨HREST.out⟩, ⟨HB8.out⟩, ⟨HW8.out⟩, ⟨HS8.out⟩⟩)
         ·
          rw [if_neg ql] at h4; cases h4
    ·
     have hltz : decide ((kk : Int) < (xs.length : Int)) = false := decide_eq_false (by omega)
     have hk : kk = xs.length := by have := hkk.out; omega
     subst hk
     have h2 := hq.out
     rw [Nat.sub_self] at h2
     obtain rfl := Option.some.inj h2
     clear hq h2
     go_wp2
     ((try simp only [Exit.inBlock, Exit.then]); first | (refine bodyPost_ret (results_none rfl _ _ _) rfl ?_) | (refine bodyPost_end (results_none rfl _ _ _) rfl ?_))
     exact ⟨rfl, hB.out, hW.out, hS.out⟩
 ·
  rw [if_neg hol] at h; cases h
theorem visitO.calls (xs : List S34) (hxl : xs.length ≤ 1000) (b0 : Nat) (w0 : World) (Al : Option Addr) (cl : Nat) (hcl : xs.length ≤ cl) (hrd : ∀ W, Below b0 w0 W → b0 ≤ W.heap.size → Kd.C k34 W Al xs.length xs) (p : Nat) (hp : b0 ≤ p) : ∀ (k : Nat) (cost worth : Int) (s s' : SVO) (w : World), visitO xs k cost worth s = some s' → Below b0 w0 w → b0 ≤ w.heap.size → StO w b0 p Al xs.length cl s → Calls Try.prog 45 #[.pointer (some ⟨p, 0, none⟩), .int .i64 cost, .int .i64 worth] w fun e w' => e = .returned (.tuple #[]) ∧ Below b0 w0 w' ∧ b0 ≤ w'.heap.size ∧ StO w' b0 p Al xs.length cl s'
 | 0, _, _, _, _, _, h, _, _, _ => by cases h
 | k + 1, cost, worth, s, s', w, h, hb, hbw, hs => visitO_s.calls xs hxl b0 w0 Al cl hcl hrd p hp k (visitO.calls xs hxl b0 w0 Al cl hcl hrd p hp k) cost worth s s' w h hb hbw hs
def impl_BestPlan.f (k : Nat) (l0 : List S34) (a1 a2 a3 : Int) : Option (List Int × Int × Int) :=
 (impl_ValidStages.f k l0).bind fun v => if v = true then
  ((impl_yearlyOk.f a1).bind fun m1 => if m1 = true then
   ((impl_within.f a2 1 10).bind fun n1 => if n1 = true then
    ((impl_budgetValid.f a3).bind fun b1 => if b1 = true then
     (if l0.length ≤ 1000 then ((visitO l0 k 0 0 ⟨a1, a2, a3, [], [], 0⟩).bind fun s => if s.budget < 0 then some ([], 0, 5) else some (s.best, s.most, 0)) else none)
    else some ([], 0, 2))
   else some ([], 0, 2))
  else some ([], 0, 2))
 else some ([], 0, 1)
theorem impl_BestPlan.mono : ∀ a0 a1 a2 a3 k, LeO (impl_BestPlan.f k a0 a1 a2 a3) (impl_BestPlan.f (k + 1) a0 a1 a2 a3) := fun a0 a1 a2 a3 k =>
 LeO.bind (impl_ValidStages.mono _ k) (fun _ => LeO.ite (LeO.bind (LeO.refl _) (fun _ => LeO.ite (LeO.bind (LeO.refl _) (fun _ => LeO.ite (LeO.bind (LeO.refl _) (fun _ => LeO.ite (LeO.ite (LeO.bind (visitO_mono _ k _ _ _) (fun _ => LeO.refl _)) (LeO.refl _)) (LeO.refl _))) (LeO.refl _))) (LeO.refl _))) (LeO.refl _))
-- @cut
set_option maxHeartbeats 8000000 in
set_option maxRecDepth 100000 in
theorem impl_BestPlan.calls (k : Nat) (A0 : Option Addr) (c0 : Nat) (l0 : List (S34)) (a1 : Int) (a2 : Int) (a3 : Int) (r1 : List Int) (r2 : Int) (r3 : Int) (w : World) (hr0 : Kd.C k34 w A0 l0.length l0) (hc0 : l0.length ≤ c0) (h : impl_BestPlan.f k l0 a1 a2 a3 = some (r1, r2, r3)) :
  Calls Try.prog 11 #[.slice A0 l0.length c0, .int .i64 a1, .int .i64 a2, .int .i64 a3] w fun e w' => ∃ v0_ : Value, e = .returned (.tuple #[v0_, .int .i64 r2, .int .i64 r3]) ∧ Kd.R (Kd.int .i64) 2 w' w.heap.size (fun _ => True) v0_ r1 ∧ Below w.heap.size w w' := by
 unfold impl_BestPlan.f at h
 obtain ⟨v, hv, h1⟩ := Option.bind_eq_some_iff.1 h
 clear h
 have HV := Aside0.mk (fun W (hW : Below w.heap.size w W) => (impl_ValidStages.calls k A0 c0 l0 v W (Kd.C_below hr0 hW) hc0 hv).mono fun e w' he => (⟨he.1, below_then hW hW.size he.2⟩ : e = .returned (.bool v) ∧ Below w.heap.size w w'))
 have HR0 := Aside0.mk hr0
 have HC0 := Aside0.mk hc0
 clear hv hr0 hc0
 cases v with
 | false =>
  rw [if_neg (by decide)] at h1
  obtain ⟨rfl, h2⟩ := Prod.mk.inj (Option.some.inj h1)
  obtain ⟨rfl, rfl⟩ := Prod.mk.inj h2
  clear h1 h2
  go_enter Try.func11, Try.ntmps11
  go_wp2_with (first | (go_at_call 41; refine (HV.out _ (Below.refl _ _)).mono ?_; rintro e w2 ⟨rfl, hB⟩; have HB := Aside0.mk hB; clear hB))
  refine bodyPost_ret (results_tmp3 rfl _ _ _) rfl ?_
  exact ⟨_, rfl, Kd.R_nil _ _ _ _ _, HB.out⟩
 | true =>
  rw [if_pos rfl] at h1
  obtain ⟨m1, hm, h1⟩ := Option.bind_eq_some_iff.1 h1
  have HYO := Aside0.mk hm
  clear hm
  cases m1 with
  | false =>
   rw [if_neg (by decide)] at h1
   obtain ⟨rfl, h2⟩ := Prod.mk.inj (Option.some.inj h1)
   obtain ⟨rfl, rfl⟩ := Prod.mk.inj h2
   clear h1 h2
   go_enter Try.func11, Try.ntmps11
   go_wp2_with (first | (go_at_call 41; refine (HV.out _ (Below.refl _ _)).mono ?_; rintro e w2 ⟨rfl, hB⟩; have HB := Aside0.mk hB; clear hB) | (go_at_call 42; refine (impl_yearlyOk.calls _ _ _ HYO.out).mono ?_; rintro e w2 ⟨rfl, hD⟩; have HB := Aside0.mk (below_then HB.out HB.out.size hD.below); clear hD))
   refine bodyPost_ret (results_tmp3 rfl _ _ _) rfl ?_
   exact ⟨_, rfl, Kd.R_nil _ _ _ _ _, HB.out⟩
  | true =>
   rw [if_pos rfl] at h1
   obtain ⟨n1, hm, h1⟩ := Option.bind_eq_some_iff.1 h1
   have HWI := Aside0.mk hm
   clear hm
   cases n1 with
   | false =>
    rw [if_neg (by decide)] at h1
    obtain ⟨rfl, h2⟩ := Prod.mk.inj (Option.some.inj h1)
    obtain ⟨rfl, rfl⟩ := Prod.mk.inj h2
    clear h1 h2
    go_enter Try.func11, Try.ntmps11
    go_wp2_with (first | (go_at_call 41; refine (HV.out _ (Below.refl _ _)).mono ?_; rintro e w2 ⟨rfl, hB⟩; have HB := Aside0.mk hB; clear hB) | (go_at_call 42; refine (impl_yearlyOk.calls _ _ _ HYO.out).mono ?_; rintro e w2 ⟨rfl, hD⟩; have HB := Aside0.mk (below_then HB.out HB.out.size hD.below); clear hD) | (go_at_call 43; refine (impl_within.calls _ _ _ _ _ HWI.out).mono ?_; rintro e w2 ⟨rfl, hD⟩; have HB := Aside0.mk (below_then HB.out HB.out.size hD.below); clear hD))
    refine bodyPost_ret (results_tmp3 rfl _ _ _) rfl ?_
    exact ⟨_, rfl, Kd.R_nil _ _ _ _ _, HB.out⟩
   | true =>
    rw [if_pos rfl] at h1
    obtain ⟨b1, hm, h1⟩ := Option.bind_eq_some_iff.1 h1
    have HBV := Aside0.mk hm
    clear hm
    cases b1 with
    | false =>
     rw [if_neg (by decide)] at h1
     obtain ⟨rfl, h2⟩ := Prod.mk.inj (Option.some.inj h1)
     obtain ⟨rfl, rfl⟩ := Prod.mk.inj h2
     clear h1 h2
     go_enter Try.func11, Try.ntmps11
     go_wp2_with (first | (go_at_call 41; refine (HV.out _ (Below.refl _ _)).mono ?_; rintro e w2 ⟨rfl, hB⟩; have HB := Aside0.mk hB; clear hB) | (go_at_call 42; refine (impl_yearlyOk.calls _ _ _ HYO.out).mono ?_; rintro e w2 ⟨rfl, hD⟩; have HB := Aside0.mk (below_then HB.out HB.out.size hD.below); clear hD) | (go_at_call 43; refine (impl_within.calls _ _ _ _ _ HWI.out).mono ?_; rintro e w2 ⟨rfl, hD⟩; have HB := Aside0.mk (below_then HB.out HB.out.size hD.below); clear hD) | (go_at_call 44; refine (impl_budgetValid.calls _ _ _ HBV.out).mono ?_; rintro e w2 ⟨rfl, hD⟩; have HB := Aside0.mk (below_then HB.out HB.out.size hD.below); clear hD))
     refine bodyPost_ret (results_tmp3 rfl _ _ _) rfl ?_
     exact ⟨_, rfl, Kd.R_nil _ _ _ _ _, HB.out⟩
    | true =>
     rw [if_pos rfl] at h1
     by_cases h8 : l0.length ≤ 1000
     ·
      rw [if_pos h8] at h1
      obtain ⟨s1, hvis, h6⟩ := Option.bind_eq_some_iff.1 h1
      clear h1
      have HVIS := Aside0.mk hvis
      have H8 := Aside0.mk h8
      clear hvis h8
      by_cases qb : s1.budget < 0
      ·
       rw [if_pos qb] at h6
       obtain ⟨rfl, h7⟩ := Prod.mk.inj (Option.some.inj h6)
       obtain ⟨rfl, rfl⟩ := Prod.mk.inj h7
       have zb : decide (s1.budget < 0) = true := decide_eq_true qb
       clear h6 h7 qb
       go_enter Try.func11, Try.ntmps11
       go_wp2_with (first | (go_at_call 41; refine (HV.out _ (Below.refl _ _)).mono ?_; rintro e w2 ⟨rfl, hB⟩; have HB := Aside0.mk hB; clear hB) | (go_at_call 42; refine (impl_yearlyOk.calls _ _ _ HYO.out).mono ?_; rintro e w2 ⟨rfl, hD⟩; have HB := Aside0.mk (below_then HB.out HB.out.size hD.below); clear hD) | (go_at_call 43; refine (impl_within.calls _ _ _ _ _ HWI.out).mono ?_; rintro e w2 ⟨rfl, hD⟩; have HB := Aside0.mk (below_then HB.out HB.out.size hD.below); clear hD) | (go_at_call 44; refine (impl_budgetValid.calls _ _ _ HBV.out).mono ?_; rintro e w2 ⟨rfl, hD⟩; have HB := Aside0.mk (below_then HB.out HB.out.size hD.below); clear hD) | (go_at_call 45; refine (visitO.calls l0 H8.out w.heap.size w A0 c0 HC0.out (fun W hW _ => Kd.C_below HR0.out hW) w2.heap.size HB.out.size k 0 0 _ s1 _ HVIS.out (below_alloc_ HB.out HB.out.size _) (by simp; exact Nat.le_succ_of_le HB.out.size) (⟨none, 0, none, 0, blk_new w2 (.cells #[.slice A0 l0.length c0, .int .i64 a1, .int .i64 a2, .int .i64 a3, .slice none 0 0, .slice none 0 0, .int .i64 0] 70), ⟨Kd.R_nil _ _ _ _ _, Kd.R_nil _ _ _ _ _⟩⟩ : StO (w2.alloc (.cells #[.slice A0 l0.length c0, .int .i64 a1, .int .i64 a2, .int .i64 a3, .slice none 0 0, .slice none 0 0, .int .i64 0] 70)) w.heap.size w2.heap.size A0 l0.length c0 ⟨a1, a2, a3, [], [], 0⟩)).mono ?_; rintro e w5 ⟨rfl, hb5, hw5, hs5⟩; obtain ⟨A2, c2, A3, c3, ⟨t0, t1, t2, t3, t4, t5, t6, tf⟩, _, _, _, hR5⟩ := hs5.open; have HB5 := Aside0.mk hb5; have HR5 := Aside0.mk hR5; clear hb5 hw5 hs5 hR5))
       refine bodyPost_ret (results_tmp3 rfl _ _ _) rfl ?_
       exact ⟨_, rfl, Kd.R_nil _ _ _ _ _, HB5.out⟩
      ·
       rw [if_neg qb] at h6
       obtain ⟨rfl, h7⟩ := Prod.mk.inj (Option.some.inj h6)
       obtain ⟨rfl, rfl⟩ := Prod.mk.inj h7
       have zb : decide (s1.budget < 0) = false := decide_eq_false qb
       clear h6 h7 qb
       go_enter Try.func11, Try.ntmps11
       go_wp2_with (first | (go_at_call 41; refine (HV.out _ (Below.refl _ _)).mono ?_; rintro e w2 ⟨rfl, hB⟩; have HB := Aside0.mk hB; clear hB) | (go_at_call 42; refine (impl_yearlyOk.calls _ _ _ HYO.out).mono ?_; rintro e w2 ⟨rfl, hD⟩; have HB := Aside0.mk (below_then HB.out HB.out.size hD.below); clear hD) | (go_at_call 43; refine (impl_within.calls _ _ _ _ _ HWI.out).mono ?_; rintro e w2 ⟨rfl, hD⟩; have HB := Aside0.mk (below_then HB.out HB.out.size hD.below); clear hD) | (go_at_call 44; refine (impl_budgetValid.calls _ _ _ HBV.out).mono ?_; rintro e w2 ⟨rfl, hD⟩; have HB := Aside0.mk (below_then HB.out HB.out.size hD.below); clear hD) | (go_at_call 45; refine (visitO.calls l0 H8.out w.heap.size w A0 c0 HC0.out (fun W hW _ => Kd.C_below HR0.out hW) w2.heap.size HB.out.size k 0 0 _ s1 _ HVIS.out (below_alloc_ HB.out HB.out.size _) (by simp; exact Nat.le_succ_of_le HB.out.size) (⟨none, 0, none, 0, blk_new w2 (.cells #[.slice A0 l0.length c0, .int .i64 a1, .int .i64 a2, .int .i64 a3, .slice none 0 0, .slice none 0 0, .int .i64 0] 70), ⟨Kd.R_nil _ _ _ _ _, Kd.R_nil _ _ _ _ _⟩⟩ : StO (w2.alloc (.cells #[.slice A0 l0.length c0, .int .i64 a1, .int .i64 a2, .int .i64 a3, .slice none 0 0, .slice none 0 0, .int .i64 0] 70)) w.heap.size w2.heap.size A0 l0.length c0 ⟨a1, a2, a3, [], [], 0⟩)).mono ?_; rintro e w5 ⟨rfl, hb5, hw5, hs5⟩; obtain ⟨A2, c2, A3, c3, ⟨t0, t1, t2, t3, t4, t5, t6, tf⟩, _, _, _, hR5⟩ := hs5.open; have HB5 := Aside0.mk hb5; have HR5 := Aside0.mk hR5; clear hb5 hw5 hs5 hR5))
       go_quiet (fail)
       go_wp2
       refine bodyPost_ret (results_tmp3 rfl _ _ _) rfl ?_
       exact ⟨_, rfl, Kd.R_mono (Kd.R_below HR5.out.2 (pw_below_drewN (Below.refl _ _) _)) (fun _ _ => trivial), pw_below_drewN HB5.out _⟩
     ·
      rw [if_neg h8] at h1; cases h1


/-! ### impl_differentOk: function 85 -/
def impl_differentOk.l0 : Nat → Int → List Int → List Int → Int → Int → Option (Bool)
 | 0, _, _, _, _, _ => none
 | k + 1, x0, x1, x7, x8, x9 => if x9 < x8 then (if 0 ≤ x9 then (if x9 < (x7.length : Int) then ((impl_within.f (rd x7 x9) 0 (wrap64 (x0 - 1))).bind fun t283 => (if t283 = true then (if x9 ≤ (x1.length : Int) then ((slices_Contains_int64_int64.f k (x1.take (x9 : Int).toNat) (rd x7 x9)).bind fun t285 => (if t285 = true then (some false) else (impl_differentOk.l0 k x0 x1 x7 x8 (wrap64 (x9 + 1))))) else (none)) else (some false))) else (none)) else (none)) else (some true)
def impl_differentOk.f (k : Nat) (a0 : Int) (l1 : List Int) : Option (Bool) := impl_differentOk.l0 k a0 l1 l1 (l1.length : Int) 0
theorem impl_differentOk.mono_l : ∀ k, (∀ y0 y1 y2 y3 y4, LeO (impl_differentOk.l0 k y0 y1 y2 y3 y4) (impl_differentOk.l0 (k + 1) y0 y1 y2 y3 y4))
 | 0 => fun _ _ _ _ _ r h => by simp [impl_differentOk.l0] at h
 | k + 1 => by
  have ih0 := impl_differentOk.mono_l k
  ·
   intro y0 y1 y2 y3 y4
   unfold impl_differentOk.l0
   repeat' first
   | (with_reducible exact ih0 _ _ _ _ _)
   | (with_reducible exact slices_Contains_int64_int64.mono _ _ _)
   | (with_reducible exact LeO.refl _)
   | (with_reducible exact LeO.none _)
   | (with_reducible refine LeO.ite ?_ ?_)
   | (with_reducible refine LeO.bind ?_ (fun _ => ?_))
   | exact ih0 _ _ _ _ _
   | exact slices_Contains_int64_int64.mono _ _ _
   | exact LeO.none _
   | refine LeO.ite ?_ ?_
   | refine LeO.bind ?_ (fun _ => ?_)
theorem impl_differentOk.mono : ∀ a0 a1 k, LeO (impl_differentOk.f k a0 a1) (impl_differentOk.f (k + 1) a0 a1) := by
 intro a0 a1 k
 have ih0 := impl_differentOk.mono_l k
 unfold impl_differentOk.f
 repeat' first
  | (with_reducible exact ih0 _ _ _ _ _)
  | (with_reducible exact slices_Contains_int64_int64.mono _ _ _)
  | (with_reducible exact LeO.refl _)
  | (with_reducible exact LeO.none _)
  | (with_reducible refine LeO.ite ?_ ?_)
  | (with_reducible refine LeO.bind ?_ (fun _ => ?_))
  | exact ih0 _ _ _ _ _
  | exact slices_Contains_int64_int64.mono _ _ _
  | exact LeO.none _
  | refine LeO.ite ?_ ?_
  | refine LeO.bind ?_ (fun _ => ?_)
set_option maxHeartbeats 8000000 in
set_option maxRecDepth 100000 in
theorem impl_differentOk.calls (k : Nat) (a0 : Int) (A1 : Option Addr) (c1 : Nat) (l1 : List Int) (r : Bool) (w : World) (hr1 : Kd.C (Kd.int .i64) w A1 l1.length l1) (hc1 : l1.length ≤ c1) (h : impl_differentOk.f k a0 l1 = some r) :
  Calls Try.prog 85 #[.int .i64 a0, .slice A1 l1.length c1] w fun e w' => e = .returned (.bool r) ∧ Drawn0 w w' := by
 have HR1 := Aside0.mk hr1
 have HC1 := Aside0.mk hc1
 clear hr1 hc1
 have H : (impl_differentOk.l0 k a0 l1 l1 (l1.length : Int) 0) = some r := h
 clear h
 have H' := Aside0.mk H
 clear H
 go_enter Try.func85, Try.ntmps85
 go_wp2
 go_loopg [9] k (fun kq v9 w' => ∃ (x9_1 : Int), v9 = .int .i64 x9_1 ∧ Aside0 (impl_differentOk.l0 kq a0 l1 l1 (l1.length : Int) x9_1 = some r) ∧ Aside0 (kq ≤ k) ∧ Drawn0 w w')
 case atStart => exact ⟨(0), rs, H', ⟨Nat.le_refl _⟩, dr0⟩
 case round =>
  clear H'
  obtain ⟨x9_1, rfl, HA, HK1, ⟨m1, rfl⟩⟩ := hrel
  cases gk with
  | zero => exact absurd HA.out (by simp [impl_differentOk.l0])
  | succ k1 =>
   have H := HA.out
   clear HA
   simp only [impl_differentOk.l0] at H
   by_cases c3 : x9_1 < (l1.length : Int)
   ·
    rw [if_pos c3] at H
    have c3b0 : decide (x9_1 < (l1.length : Int)) = true := decide_eq_true c3
    clear c3
    by_cases c4 : 0 ≤ x9_1
    ·
     rw [if_pos c4] at H
     have c4b0 : decide (0 ≤ x9_1) = true := decide_eq_true c4
     clear c4
     by_cases c5 : x9_1 < (l1.length : Int)
     ·
      rw [if_pos c5] at H
      have c5b0 : decide (x9_1 < (l1.length : Int)) = true := decide_eq_true c5
      clear c5
      replace H := Option.bind_eq_some_iff.mp H
      obtain ⟨t283, A60, H⟩ := H
      replace H : (if t283 = true then (if x9_1 ≤ (l1.length : Int) then ((slices_Contains_int64_int64.f k1 (l1.take (x9_1 : Int).toNat) (rd l1 x9_1)).bind fun t285 => (if t285 = true then (some false) else (impl_differentOk.l0 k1 a0 l1 l1 (l1.length : Int) (wrap64 (x9_1 + 1))))) else (none)) else (some false)) = some r := H
      have A6 := Aside0.mk A60
      clear A60
      by_cases c7 : t283 = true
      ·
       subst c7
       have H1 : (if x9_1 ≤ (l1.length : Int) then ((slices_Contains_int64_int64.f k1 (l1.take (x9_1 : Int).toNat) (rd l1 x9_1)).bind fun t285 => (if t285 = true then (some false) else (impl_differentOk.l0 k1 a0 l1 l1 (l1.length : Int) (wrap64 (x9_1 + 1))))) else (none)) = some r := by rw [if_pos rfl] at H; exact H
       clear H
       have H := H1
       clear H1
       have c8b0 := eq_true (od : 0 ≤ x9_1)
       by_cases c9 : x9_1 ≤ (l1.length : Int)
       ·
        rw [if_pos c9] at H
        have c9b0 := eq_true c9
        have c9b1 : decide (x9_1 ≤ (l1.length : Int)) = true := decide_eq_true c9
        clear c9
        replace H := Option.bind_eq_some_iff.mp H
        obtain ⟨t285, A100, H⟩ := H
        replace H : (if t285 = true then (some false) else (impl_differentOk.l0 k1 a0 l1 l1 (l1.length : Int) (wrap64 (x9_1 + 1)))) = some r := H
        have A10 := Aside0.mk A100
        clear A100
        by_cases c11 : t285 = true
        ·
         subst c11
         have H1 : (some false) = some r := by rw [if_pos rfl] at H; exact H
         clear H
         have H := H1
         clear H1
         obtain rfl := Option.some.inj H
         have p282 : 0 ≤ (x9_1 : Int) := od
         have q282 : x9_1 < (l1.length : Int) := od
         obtain ⟨ad282, e282, hx282_0⟩ := Kd.at_int HR1.out x9_1 p282 q282
         cases e282
         replace p282 := eq_true p282
         replace q282 := eq_true q282
         go_wp2_with (first | ((with_reducible refine gate_callee (f := 43) rfl ?_); refine goesA_ (some 17) Try.func43 #[.int .i64 (rd l1 x9_1), .int .i64 0, .int .i64 (wrap64 (a0 - 1))] ?_; (with_reducible refine (impl_within.calls (rd l1 x9_1) 0 (wrap64 (a0 - 1)) true _ A6.out).mono ?_); rintro e w' ⟨rfl, ⟨nd, rfl⟩⟩; refine ⟨_, rfl, ?_⟩; obtain ⟨i012, hi012, _, hsz12, _⟩ := info_parts info2; obtain ⟨hcut12, hA12, hC12⟩ := print_take_of (P := Try.prog) (Value.int .i64) 0 27 2 .i64 Try.underlying27 hi012 hsz12 (some ad282) c1 l1 x9_1 (od) (od) HC1.out; have HR284 := Aside0.mk (Kd.C_of_reads (h1 := fun _ => rfl) (hA12 _ (Kd.reads_of_C HR1.out))); have HC284 := Aside0.mk hC12; clear hA12 hC12 hi012 hsz12) | (go_at_call 74; (try rw [show (Value.slice (some ad282) (x9_1).toNat c1 : Value) = Value.slice (some ad282) (l1.take (x9_1 : Int).toNat).length c1 from by rw [List.length_take, Nat.min_eq_left (Int.toNat_le.mpr (od))]]); (with_reducible refine (slices_Contains_int64_int64.calls k1 _ _ (l1.take (x9_1 : Int).toNat) (rd l1 x9_1) true _ ?side1 ?side2 A10.out).mono ?_); (case side1 => exact mvC HR284.out); (case side2 => exact HC284.out); rintro e w' ⟨rfl, ⟨nd, rfl⟩⟩))
         go_ret
         exact ⟨rs, dr0⟩
        ·
         replace c11 := Bool.eq_false_iff.mpr c11
         subst c11
         have H1 : (impl_differentOk.l0 k1 a0 l1 l1 (l1.length : Int) (wrap64 (x9_1 + 1))) = some r := by rw [if_neg (show ¬ (false = true) by decide)] at H; exact H
         clear H
         have H := H1
         clear H1
         have H' := Aside0.mk H
         clear H
         have p282 : 0 ≤ (x9_1 : Int) := od
         have q282 : x9_1 < (l1.length : Int) := od
         obtain ⟨ad282, e282, hx282_0⟩ := Kd.at_int HR1.out x9_1 p282 q282
         cases e282
         replace p282 := eq_true p282
         replace q282 := eq_true q282
         go_wp2_with (first | ((with_reducible refine gate_callee (f := 43) rfl ?_); refine goesA_ (some 17) Try.func43 #[.int .i64 (rd l1 x9_1), .int .i64 0, .int .i64 (wrap64 (a0 - 1))] ?_; (with_reducible refine (impl_within.calls (rd l1 x9_1) 0 (wrap64 (a0 - 1)) true _ A6.out).mono ?_); rintro e w' ⟨rfl, ⟨nd, rfl⟩⟩; refine ⟨_, rfl, ?_⟩; obtain ⟨i013, hi013, _, hsz13, _⟩ := info_parts info2; obtain ⟨hcut13, hA13, hC13⟩ := print_take_of (P := Try.prog) (Value.int .i64) 0 27 2 .i64 Try.underlying27 hi013 hsz13 (some ad282) c1 l1 x9_1 (od) (od) HC1.out; have HR284 := Aside0.mk (Kd.C_of_reads (h1 := fun _ => rfl) (hA13 _ (Kd.reads_of_C HR1.out))); have HC284 := Aside0.mk hC13; clear hA13 hC13 hi013 hsz13) | (go_at_call 74; (try rw [show (Value.slice (some ad282) (x9_1).toNat c1 : Value) = Value.slice (some ad282) (l1.take (x9_1 : Int).toNat).length c1 from by rw [List.length_take, Nat.min_eq_left (Int.toNat_le.mpr (od))]]); (with_reducible refine (slices_Contains_int64_int64.calls k1 _ _ (l1.take (x9_1 : Int).toNat) (rd l1 x9_1) false _ ?side1 ?side2 A10.out).mono ?_); (case side1 => exact mvC HR284.out); (case side2 => exact HC284.out); rintro e w' ⟨rfl, ⟨nd, rfl⟩⟩))
         go_roundg k1
         case measure => have := HK1.out; omega
         case rel => exact ⟨(wrap64 (x9_1 + 1)), rs, H', ⟨by have := HK1.out; omega⟩, dr0⟩
       ·
        rw [if_neg c9] at H
        exact absurd H (by simp)
      ·
       replace c7 := Bool.eq_false_iff.mpr c7
       subst c7
       have H1 : (some false) = some r := by rw [if_neg (show ¬ (false = true) by decide)] at H; exact H
       clear H
       have H := H1
       clear H1
       obtain rfl := Option.some.inj H
       have p282 : 0 ≤ (x9_1 : Int) := od
       have q282 : x9_1 < (l1.length : Int) := od
       obtain ⟨ad282, e282, hx282_0⟩ := Kd.at_int HR1.out x9_1 p282 q282
       cases e282
       replace p282 := eq_true p282
       replace q282 := eq_true q282
       go_wp2_with (first | ((with_reducible refine gate_callee (f := 43) rfl ?_); refine goesA_ (some 17) Try.func43 #[.int .i64 (rd l1 x9_1), .int .i64 0, .int .i64 (wrap64 (a0 - 1))] ?_; (with_reducible refine (impl_within.calls (rd l1 x9_1) 0 (wrap64 (a0 - 1)) false _ A6.out).mono ?_); rintro e w' ⟨rfl, ⟨nd, rfl⟩⟩; refine ⟨_, rfl, ?_⟩))
       go_ret
       exact ⟨rs, dr0⟩
     ·
      rw [if_neg c5] at H
      exact absurd H (by simp)
    ·
     rw [if_neg c4] at H
     exact absurd H (by simp)
   ·
    rw [if_neg c3] at H
    have c3b0 : decide (x9_1 < (l1.length : Int)) = false := decide_eq_false c3
    clear c3
    obtain rfl := Option.some.inj H
    go_wp2
    go_ret
    exact ⟨rs, dr0⟩

end Go.Proofs.Ytmbiapefigcgnaa.PFnPlans
