-- written by a program of this session (mkp.py) out of the translation; Lean checks it.
import Derived.Deep.RegionLaw
import Derived.Test.YtndbgkcjccejdaaPFnExactCheapestPumpsx0
import Derived.Test.YtndbgkcjccejdaaPFnExactCheapestPumpsx1
import Derived.Test.YtndbgkcjccejdaaPFnExactCheapestPumpsx3
import Derived.Test.YtndbgkcjccejdaaPFnExactCheapestPumpsx4
namespace Go.Proofs.Ytndbgkcjccejdaa.PFnExactCheapestPumps
open Go.RowKit Go.Proofs.YtndbgkcjccejdaaW.PrintWords Go.Proofs.YtndbgkcjccejdaaW.PrintLast Go.Proofs.YtndbgkcjccejdaaW.PrintMore
attribute [local go_sem] bin_leq bin_gtr bin_geq max2_int min2_int max_two min_two max_three min_three max_four min_four   -- for this text's walks alone
set_option linter.unusedVariables false
set_option linter.unusedSimpArgs false

/-! ### spec_CheapestPumps: function 8 -/
theorem sput {b : Nat} {w W : World} (h : Below b w W) {g : Nat} (hg : b ≤ g) (i : Nat) (u : Value) : Below b w (W.setCell ⟨g, i, none⟩ u) := h.setCell (p := ⟨g, i, none⟩) hg u
/-- Two rows of whole numbers of one's own, apart from each other. -/
def Rows2 (w : World) (base : Nat) (v2 v3 : Value) (bu be : List Int) : Prop :=
  Kd.R (Kd.int .i64) 2 w base (fun k => some k ≠ v3.ownBlock) v2 bu ∧ Kd.R (Kd.int .i64) 2 w base (fun k => some k ≠ v2.ownBlock) v3 be
theorem Rows2.below {w w' : World} {base : Nat} {v2 v3 : Value} {bu be : List Int} (h : Rows2 w base v2 v3 bu be) (hb : Below w.heap.size w w') : Rows2 w' base v2 v3 bu be := ⟨Kd.R_below h.1 hb, Kd.R_below h.2 hb⟩
theorem ne_int {t : Nat} (h : t ≠ 2) : ∀ q, q ∈ 2 :: (Kd.int .i64).E → q ≠ t := fun q hq => by
  rcases List.mem_cons.1 hq with h1 | h1
  · subst h1; exact fun e => h e.symm
  · cases h1
theorem Rows2.set {w : World} {base g t : Nat} {cells : Array Value} {v2 v3 : Value} {bu be : List Int} (h : Rows2 w base v2 v3 bu be) (hb : w.heap[g]? = some (.cells cells t (0, 0))) (ht : t ≠ 2) (j : Nat) (u : Value) : Rows2 (w.setCell ⟨g, j, none⟩ u) base v2 v3 bu be := ⟨Kd.R_set h.1 hb (ne_int ht) j u, Kd.R_set h.2 hb (ne_int ht) j u⟩
theorem Rows2.clone {W w2 : World} {base : Nat} {v2 v3 v : Value} {bu be xs : List Int} (h : Rows2 W base v2 v3 bu be) (hR : Kd.R (Kd.int .i64) 2 w2 W.heap.size (fun _ => True) v xs) (hb : Below W.heap.size W w2) (hs : base ≤ W.heap.size) : Rows2 w2 base v2 v bu xs :=
  ⟨Kd.R_mono (Kd.R_elder' h.1 (fun k hk => Kd.R_base hR k hk) hb) (fun _ hk => hk.2), Kd.R_mono (Kd.R_lower (Kd.R_new' hR (fun k hk => Kd.R_lt h.1 k hk)) hs) (fun _ hk => hk.2)⟩
theorem Rows2.append {W w1 : World} {base : Nat} {v2 v3 v1 : Value} {bu be xs : List Int} (h : Rows2 W base v2 v3 bu be) (hR : Kd.R (Kd.int .i64) 2 w1 base (fun k => some k ≠ v3.ownBlock) v1 xs) (hg : W.grownBy w1 v2.ownBlock) (hat : v1.ownBlock = v2.ownBlock ∨ ∃ b, v1.ownBlock = some b ∧ W.heap.size ≤ b) : Rows2 w1 base v1 v3 xs be :=
  ⟨hR, Kd.R_mono (Kd.R_grown (Kd.R_bound h.2) hg (fun k hk => hk.1)) (fun k hk => by
    rcases hat with e | ⟨b, e, hb⟩
    · rw [e]; exact hk.1
    · rw [e]
      intro e2
      injection e2 with e2
      have := hk.2.2.1
      omega)⟩
theorem Rows2.cut {w : World} {base n c : Nat} {A : Option Addr} {v3 : Value} {bu be : List Int} (h : Rows2 w base (.slice A n c) v3 bu be) {m : Nat} (hm : m ≤ bu.length) : Rows2 w base (.slice A m c) v3 (bu.take m) be := by
  have e : (Value.slice A m c).ownBlock = (Value.slice A n c).ownBlock := by cases A <;> rfl
  refine ⟨Kd.R_take h.1 hm, ?_⟩
  rw [e]
  exact h.2
theorem Rows2.drewN {w : World} {base : Nat} {v2 v3 : Value} {bu be : List Int} (h : Rows2 w base v2 v3 bu be) (n : Nat) : Rows2 (w.drewN n) base v2 v3 bu be := h.below (pw_below_drewN (Below.refl _ _) n)
/-- The search leaves the list as it was. -/
theorem cell_al {W : World} {a : Addr} {v : Value} (h : W.cell? a = some v) (o : Obj) : (W.alloc o).cell? a = some v := pw_cell_below (below_alloc (Below.refl _ _) o) h
theorem Rows2.some {w : World} {base n c : Nat} {A : Option Addr} {v3 : Value} {bu be : List Int} (h : Rows2 w base (.slice A n c) v3 bu be) (hn : 0 < n) : ∃ g, A = Option.some ⟨g, 0, none⟩ := by
  have ho := Kd.own_of_R (enc := Value.int .i64) (h1 := fun _ => rfl) h.1
  rcases ho.2 with ⟨hv, h0⟩ | ⟨g, cap, cur, hv, _⟩
  · injection hv with h1 h2 _; omega
  · injection hv with h1 _ _; exact ⟨g, h1⟩
theorem Rows2.lower {w : World} {base b2 : Nat} {v2 v3 : Value} {bu be : List Int} (h : Rows2 w base v2 v3 bu be) (hb : b2 ≤ base) : Rows2 w b2 v2 v3 bu be := ⟨Kd.R_lower h.1 hb, Kd.R_lower h.2 hb⟩
/-- A third row of whole numbers, that stays: apart from the two. -/
def R1 (w : World) (base : Nat) (v2 v3 v1 : Value) (xs : List Int) : Prop := Kd.R (Kd.int .i64) 2 w base (fun k => some k ≠ v2.ownBlock ∧ some k ≠ v3.ownBlock) v1 xs
theorem R1.below {w w' : World} {base : Nat} {v2 v3 v1 : Value} {xs : List Int} (h : R1 w base v2 v3 v1 xs) (hb : Below w.heap.size w w') : R1 w' base v2 v3 v1 xs := Kd.R_below h hb
theorem R1.drewN {w : World} {base : Nat} {v2 v3 v1 : Value} {xs : List Int} (h : R1 w base v2 v3 v1 xs) (n : Nat) : R1 (w.drewN n) base v2 v3 v1 xs := h.below (pw_below_drewN (Below.refl _ _) n)
theorem R1.set {w : World} {base g t : Nat} {cells : Array Value} {v2 v3 v1 : Value} {xs : List Int} (h : R1 w base v2 v3 v1 xs) (hb : w.heap[g]? = some (.cells cells t (0, 0))) (ht : t ≠ 2) (j : Nat) (u : Value) : R1 (w.setCell ⟨g, j, none⟩ u) base v2 v3 v1 xs := Kd.R_set h hb (ne_int ht) j u
theorem R1.append {W w1 : World} {base : Nat} {v2 v3 v1 v4 : Value} {xs : List Int} (h : R1 W base v2 v3 v1 xs) (hg : W.grownBy w1 v2.ownBlock) (hat : v4.ownBlock = v2.ownBlock ∨ ∃ b, v4.ownBlock = some b ∧ W.heap.size ≤ b) : R1 w1 base v4 v3 v1 xs :=
  Kd.R_mono (Kd.R_grown (Kd.R_bound h) hg (fun k hk => hk.1.1)) (fun k hk => by
    refine ⟨?_, hk.1.2⟩
    rcases hat with e | ⟨b, e, hb⟩
    · rw [e]; exact hk.1.1
    · rw [e]
      intro e2
      injection e2 with e2
      have := hk.2.2.1
      omega)
theorem R1.clone {W w2 : World} {base : Nat} {v2 v3 v1 v : Value} {xs ys : List Int} (h : R1 W base v2 v3 v1 xs) (hR : Kd.R (Kd.int .i64) 2 w2 W.heap.size (fun _ => True) v ys) (hb : Below W.heap.size W w2) : R1 w2 base v2 v v1 xs :=
  Kd.R_mono (Kd.R_elder' h (fun k hk => Kd.R_base hR k hk) hb) (fun _ hk => ⟨hk.1.1, hk.2⟩)
theorem R1.cut {w : World} {base n c m : Nat} {A : Option Addr} {v3 v1 : Value} {xs : List Int} (h : R1 w base (.slice A n c) v3 v1 xs) : R1 w base (.slice A m c) v3 v1 xs := by
  have e : (Value.slice A m c).ownBlock = (Value.slice A n c).ownBlock := by cases A <;> rfl
  unfold R1
  rw [e]
  exact h
theorem R1.reads {w : World} {base n c : Nat} {v2 v3 : Value} {A : Option Addr} {xs : List Int} (h : R1 w base v2 v3 (.slice A n c) xs) : n = xs.length ∧ n ≤ c ∧ Kd.C (Kd.int .i64) w A xs.length xs := Kd.R_reads' h
theorem cells8 {w : World} {p t : Nat} {x0 x1 x2 x3 x4 x5 x6 x7 : Value} (h : w.heap[p]? = some (.cells #[x0, x1, x2, x3, x4, x5, x6, x7] t (0, 0))) :
    w.cell? ⟨p, 0, none⟩ = some x0 ∧ w.cell? ⟨p, 1, none⟩ = some x1 ∧ w.cell? ⟨p, 2, none⟩ = some x2 ∧ w.cell? ⟨p, 3, none⟩ = some x3 ∧ w.cell? ⟨p, 4, none⟩ = some x4 ∧ w.cell? ⟨p, 5, none⟩ = some x5 ∧ w.cell? ⟨p, 6, none⟩ = some x6 ∧ w.cell? ⟨p, 7, none⟩ = some x7 ∧ ∀ i, w.frozen? ⟨p, i, none⟩ = false :=
  ⟨(blk_cell h 0).trans rfl, (blk_cell h 1).trans rfl, (blk_cell h 2).trans rfl, (blk_cell h 3).trans rfl, (blk_cell h 4).trans rfl, (blk_cell h 5).trans rfl, (blk_cell h 6).trans rfl, (blk_cell h 7).trans rfl, fun i => blk_frozen h i⟩
def sets8 (w : World) (g : Nat) (y0 y1 y2 y3 y4 y5 y6 y7 : Value) : World := ((((((((w.setCell ⟨g, 0, none⟩ y0).setCell ⟨g, 1, none⟩ y1).setCell ⟨g, 2, none⟩ y2).setCell ⟨g, 3, none⟩ y3).setCell ⟨g, 4, none⟩ y4).setCell ⟨g, 5, none⟩ y5).setCell ⟨g, 6, none⟩ y6).setCell ⟨g, 7, none⟩ y7)
theorem sets8_blk {w : World} {g t : Nat} {x0 x1 x2 x3 x4 x5 x6 x7 : Value} (hb : w.heap[g]? = some (.cells #[x0, x1, x2, x3, x4, x5, x6, x7] t (0, 0))) (y0 y1 y2 y3 y4 y5 y6 y7 : Value) : (sets8 w g y0 y1 y2 y3 y4 y5 y6 y7).heap[g]? = some (.cells #[y0, y1, y2, y3, y4, y5, y6, y7] t (0, 0)) := by
  have h1 : (w.setCell ⟨g, 0, none⟩ y0).heap[g]? = some (.cells #[y0, x1, x2, x3, x4, x5, x6, x7] t (0, 0)) := blk_set hb 0 y0
  have h2 : ((w.setCell ⟨g, 0, none⟩ y0).setCell ⟨g, 1, none⟩ y1).heap[g]? = some (.cells #[y0, y1, x2, x3, x4, x5, x6, x7] t (0, 0)) := blk_set h1 1 y1
  have h3 : (((w.setCell ⟨g, 0, none⟩ y0).setCell ⟨g, 1, none⟩ y1).setCell ⟨g, 2, none⟩ y2).heap[g]? = some (.cells #[y0, y1, y2, x3, x4, x5, x6, x7] t (0, 0)) := blk_set h2 2 y2
  have h4 : ((((w.setCell ⟨g, 0, none⟩ y0).setCell ⟨g, 1, none⟩ y1).setCell ⟨g, 2, none⟩ y2).setCell ⟨g, 3, none⟩ y3).heap[g]? = some (.cells #[y0, y1, y2, y3, x4, x5, x6, x7] t (0, 0)) := blk_set h3 3 y3
  have h5 : (((((w.setCell ⟨g, 0, none⟩ y0).setCell ⟨g, 1, none⟩ y1).setCell ⟨g, 2, none⟩ y2).setCell ⟨g, 3, none⟩ y3).setCell ⟨g, 4, none⟩ y4).heap[g]? = some (.cells #[y0, y1, y2, y3, y4, x5, x6, x7] t (0, 0)) := blk_set h4 4 y4
  have h6 : ((((((w.setCell ⟨g, 0, none⟩ y0).setCell ⟨g, 1, none⟩ y1).setCell ⟨g, 2, none⟩ y2).setCell ⟨g, 3, none⟩ y3).setCell ⟨g, 4, none⟩ y4).setCell ⟨g, 5, none⟩ y5).heap[g]? = some (.cells #[y0, y1, y2, y3, y4, y5, x6, x7] t (0, 0)) := blk_set h5 5 y5
  have h7 : (((((((w.setCell ⟨g, 0, none⟩ y0).setCell ⟨g, 1, none⟩ y1).setCell ⟨g, 2, none⟩ y2).setCell ⟨g, 3, none⟩ y3).setCell ⟨g, 4, none⟩ y4).setCell ⟨g, 5, none⟩ y5).setCell ⟨g, 6, none⟩ y6).heap[g]? = some (.cells #[y0, y1, y2, y3, y4, y5, y6, x7] t (0, 0)) := blk_set h6 6 y6
  have h8 : ((((((((w.setCell ⟨g, 0, none⟩ y0).setCell ⟨g, 1, none⟩ y1).setCell ⟨g, 2, none⟩ y2).setCell ⟨g, 3, none⟩ y3).setCell ⟨g, 4, none⟩ y4).setCell ⟨g, 5, none⟩ y5).setCell ⟨g, 6, none⟩ y6).setCell ⟨g, 7, none⟩ y7).heap[g]? = some (.cells #[y0, y1, y2, y3, y4, y5, y6, y7] t (0, 0)) := blk_set h7 7 y7
  exact h8
theorem sets8_below {b : Nat} {w W : World} (h : Below b w W) {g : Nat} (hg : b ≤ g) (y0 y1 y2 y3 y4 y5 y6 y7 : Value) : Below b w (sets8 W g y0 y1 y2 y3 y4 y5 y6 y7) := (sput (sput (sput (sput (sput (sput (sput (sput h hg 0 y0) hg 1 y1) hg 2 y2) hg 3 y3) hg 4 y4) hg 5 y5) hg 6 y6) hg 7 y7)
theorem rows2_sets8 {w : World} {base g t : Nat} {x0 x1 x2 x3 x4 x5 x6 x7 v2 v3 : Value} {bu be : List Int} (h : Rows2 w base v2 v3 bu be) (hb : w.heap[g]? = some (.cells #[x0, x1, x2, x3, x4, x5, x6, x7] t (0, 0))) (ht : t ≠ 2) (y0 y1 y2 y3 y4 y5 y6 y7 : Value) : Rows2 (sets8 w g y0 y1 y2 y3 y4 y5 y6 y7) base v2 v3 bu be := by
  have h1 : (w.setCell ⟨g, 0, none⟩ y0).heap[g]? = some (.cells #[y0, x1, x2, x3, x4, x5, x6, x7] t (0, 0)) := blk_set hb 0 y0
  have h2 : ((w.setCell ⟨g, 0, none⟩ y0).setCell ⟨g, 1, none⟩ y1).heap[g]? = some (.cells #[y0, y1, x2, x3, x4, x5, x6, x7] t (0, 0)) := blk_set h1 1 y1
  have h3 : (((w.setCell ⟨g, 0, none⟩ y0).setCell ⟨g, 1, none⟩ y1).setCell ⟨g, 2, none⟩ y2).heap[g]? = some (.cells #[y0, y1, y2, x3, x4, x5, x6, x7] t (0, 0)) := blk_set h2 2 y2
  have h4 : ((((w.setCell ⟨g, 0, none⟩ y0).setCell ⟨g, 1, none⟩ y1).setCell ⟨g, 2, none⟩ y2).setCell ⟨g, 3, none⟩ y3).heap[g]? = some (.cells #[y0, y1, y2, y3, x4, x5, x6, x7] t (0, 0)) := blk_set h3 3 y3
  have h5 : (((((w.setCell ⟨g, 0, none⟩ y0).setCell ⟨g, 1, none⟩ y1).setCell ⟨g, 2, none⟩ y2).setCell ⟨g, 3, none⟩ y3).setCell ⟨g, 4, none⟩ y4).heap[g]? = some (.cells #[y0, y1, y2, y3, y4, x5, x6, x7] t (0, 0)) := blk_set h4 4 y4
  have h6 : ((((((w.setCell ⟨g, 0, none⟩ y0).setCell ⟨g, 1, none⟩ y1).setCell ⟨g, 2, none⟩ y2).setCell ⟨g, 3, none⟩ y3).setCell ⟨g, 4, none⟩ y4).setCell ⟨g, 5, none⟩ y5).heap[g]? = some (.cells #[y0, y1, y2, y3, y4, y5, x6, x7] t (0, 0)) := blk_set h5 5 y5
  have h7 : (((((((w.setCell ⟨g, 0, none⟩ y0).setCell ⟨g, 1, none⟩ y1).setCell ⟨g, 2, none⟩ y2).setCell ⟨g, 3, none⟩ y3).setCell ⟨g, 4, none⟩ y4).setCell ⟨g, 5, none⟩ y5).setCell ⟨g, 6, none⟩ y6).heap[g]? = some (.cells #[y0, y1, y2, y3, y4, y5, y6, x7] t (0, 0)) := blk_set h6 6 y6
  have h8 : ((((((((w.setCell ⟨g, 0, none⟩ y0).setCell ⟨g, 1, none⟩ y1).setCell ⟨g, 2, none⟩ y2).setCell ⟨g, 3, none⟩ y3).setCell ⟨g, 4, none⟩ y4).setCell ⟨g, 5, none⟩ y5).setCell ⟨g, 6, none⟩ y6).setCell ⟨g, 7, none⟩ y7).heap[g]? = some (.cells #[y0, y1, y2, y3, y4, y5, y6, y7] t (0, 0)) := blk_set h7 7 y7
  exact (Rows2.set (Rows2.set (Rows2.set (Rows2.set (Rows2.set (Rows2.set (Rows2.set (Rows2.set h hb ht 0 y0) h1 ht 1 y1) h2 ht 2 y2) h3 ht 3 y3) h4 ht 4 y4) h5 ht 5 y5) h6 ht 6 y6) h7 ht 7 y7)
structure SVW where
  need : Int
  set : List Int
  best : List Int
  least : Int
  nodes : Int
  budget : Int
  full : Bool
def StW (w : World) (base p : Nat) (Aheads : Option Addr) (nheads cheads : Nat) (Lheads : List Int) (s : SVW) : Prop := ∃ A2 c2 A3 c3,
  w.heap[p]? = some (.cells #[.slice Aheads nheads cheads, .int .i64 s.need, .slice A2 s.set.length c2, .slice A3 s.best.length c3, .int .i64 s.least, .int .i64 s.nodes, .int .i64 s.budget, .bool s.full] 85 (0, 0)) ∧ Rows2 w base (.slice A2 s.set.length c2) (.slice A3 s.best.length c3) s.set s.best ∧ R1 w base (.slice A2 s.set.length c2) (.slice A3 s.best.length c3) (.slice Aheads nheads cheads) Lheads
theorem StW.below {w' : World} {w : World} {base p : Nat} {Aheads : Option Addr} {nheads cheads : Nat} {Lheads : List Int} {s : SVW} (h : StW w base p Aheads nheads cheads Lheads s) (hb : Below w.heap.size w w') : StW w' base p Aheads nheads cheads Lheads s := by
  obtain ⟨A2, c2, A3, c3, hP, hR, hR1⟩ := h
  exact ⟨A2, c2, A3, c3, blk_below hP hb, hR.below hb, hR1.below hb⟩
theorem StW.size {w : World} {base p : Nat} {Aheads : Option Addr} {nheads cheads : Nat} {Lheads : List Int} {s : SVW} (h : StW w base p Aheads nheads cheads Lheads s) : p < w.heap.size := by
  obtain ⟨A2, c2, A3, c3, hP, _⟩ := h
  exact blk_lt hP
theorem StW.set_need {w : World} {base p : Nat} {Aheads : Option Addr} {nheads cheads : Nat} {Lheads : List Int} {s : SVW} (h : StW w base p Aheads nheads cheads Lheads s) (x : Int) : StW (w.setCell ⟨p, 1, none⟩ (.int .i64 x)) base p Aheads nheads cheads Lheads ⟨x, s.set, s.best, s.least, s.nodes, s.budget, s.full⟩ := by
  obtain ⟨A2, c2, A3, c3, hP, hR, hR1⟩ := h
  exact ⟨A2, c2, A3, c3, blk_set hP 1 _, hR.set hP (by decide) 1 _, hR1.set hP (by decide) 1 _⟩
theorem StW.put_set {w : World} {base p : Nat} {Aheads : Option Addr} {nheads cheads : Nat} {Lheads : List Int} {s : SVW} {A9 A3 : Option Addr} {n9 c9 c3 : Nat} {u : Value} {xs : List Int} (hP : w.heap[p]? = some (.cells #[.slice Aheads nheads cheads, .int .i64 s.need, u, .slice A3 s.best.length c3, .int .i64 s.least, .int .i64 s.nodes, .int .i64 s.budget, .bool s.full] 85 (0, 0))) (hR : Rows2 w base (.slice A9 n9 c9) (.slice A3 s.best.length c3) xs s.best) (hR1 : R1 w base (.slice A9 n9 c9) (.slice A3 s.best.length c3) (.slice Aheads nheads cheads) Lheads) (hn : n9 = xs.length) : StW (w.setCell ⟨p, 2, none⟩ (.slice A9 n9 c9)) base p Aheads nheads cheads Lheads ⟨s.need, xs, s.best, s.least, s.nodes, s.budget, s.full⟩ := by
  subst hn
  exact ⟨A9, c9, A3, c3, blk_set hP 2 _, hR.set hP (by decide) 2 _, hR1.set hP (by decide) 2 _⟩
theorem StW.put_best {w : World} {base p : Nat} {Aheads : Option Addr} {nheads cheads : Nat} {Lheads : List Int} {s : SVW} {A9 A2 : Option Addr} {n9 c9 c2 : Nat} {u : Value} {xs : List Int} (hP : w.heap[p]? = some (.cells #[.slice Aheads nheads cheads, .int .i64 s.need, .slice A2 s.set.length c2, u, .int .i64 s.least, .int .i64 s.nodes, .int .i64 s.budget, .bool s.full] 85 (0, 0))) (hR : Rows2 w base (.slice A2 s.set.length c2) (.slice A9 n9 c9) s.set xs) (hR1 : R1 w base (.slice A2 s.set.length c2) (.slice A9 n9 c9) (.slice Aheads nheads cheads) Lheads) (hn : n9 = xs.length) : StW (w.setCell ⟨p, 3, none⟩ (.slice A9 n9 c9)) base p Aheads nheads cheads Lheads ⟨s.need, s.set, xs, s.least, s.nodes, s.budget, s.full⟩ := by
  subst hn
  exact ⟨A2, c2, A9, c9, blk_set hP 3 _, hR.set hP (by decide) 3 _, hR1.set hP (by decide) 3 _⟩
theorem StW.set_least {w : World} {base p : Nat} {Aheads : Option Addr} {nheads cheads : Nat} {Lheads : List Int} {s : SVW} (h : StW w base p Aheads nheads cheads Lheads s) (x : Int) : StW (w.setCell ⟨p, 4, none⟩ (.int .i64 x)) base p Aheads nheads cheads Lheads ⟨s.need, s.set, s.best, x, s.nodes, s.budget, s.full⟩ := by
  obtain ⟨A2, c2, A3, c3, hP, hR, hR1⟩ := h
  exact ⟨A2, c2, A3, c3, blk_set hP 4 _, hR.set hP (by decide) 4 _, hR1.set hP (by decide) 4 _⟩
theorem StW.set_nodes {w : World} {base p : Nat} {Aheads : Option Addr} {nheads cheads : Nat} {Lheads : List Int} {s : SVW} (h : StW w base p Aheads nheads cheads Lheads s) (x : Int) : StW (w.setCell ⟨p, 5, none⟩ (.int .i64 x)) base p Aheads nheads cheads Lheads ⟨s.need, s.set, s.best, s.least, x, s.budget, s.full⟩ := by
  obtain ⟨A2, c2, A3, c3, hP, hR, hR1⟩ := h
  exact ⟨A2, c2, A3, c3, blk_set hP 5 _, hR.set hP (by decide) 5 _, hR1.set hP (by decide) 5 _⟩
theorem StW.set_budget {w : World} {base p : Nat} {Aheads : Option Addr} {nheads cheads : Nat} {Lheads : List Int} {s : SVW} (h : StW w base p Aheads nheads cheads Lheads s) (x : Int) : StW (w.setCell ⟨p, 6, none⟩ (.int .i64 x)) base p Aheads nheads cheads Lheads ⟨s.need, s.set, s.best, s.least, s.nodes, x, s.full⟩ := by
  obtain ⟨A2, c2, A3, c3, hP, hR, hR1⟩ := h
  exact ⟨A2, c2, A3, c3, blk_set hP 6 _, hR.set hP (by decide) 6 _, hR1.set hP (by decide) 6 _⟩
theorem StW.set_full {w : World} {base p : Nat} {Aheads : Option Addr} {nheads cheads : Nat} {Lheads : List Int} {s : SVW} (h : StW w base p Aheads nheads cheads Lheads s) (x : Bool) : StW (w.setCell ⟨p, 7, none⟩ (.bool x)) base p Aheads nheads cheads Lheads ⟨s.need, s.set, s.best, s.least, s.nodes, s.budget, x⟩ := by
  obtain ⟨A2, c2, A3, c3, hP, hR, hR1⟩ := h
  exact ⟨A2, c2, A3, c3, blk_set hP 7 _, hR.set hP (by decide) 7 _, hR1.set hP (by decide) 7 _⟩
theorem StW.open {w : World} {base p : Nat} {Aheads : Option Addr} {nheads cheads : Nat} {Lheads : List Int} {s : SVW} (h : StW w base p Aheads nheads cheads Lheads s) : ∃ A2 c2 A3 c3,
    (w.cell? ⟨p, 0, none⟩ = some (.slice Aheads nheads cheads) ∧ w.cell? ⟨p, 1, none⟩ = some (.int .i64 s.need) ∧ w.cell? ⟨p, 2, none⟩ = some (.slice A2 s.set.length c2) ∧ w.cell? ⟨p, 3, none⟩ = some (.slice A3 s.best.length c3) ∧ w.cell? ⟨p, 4, none⟩ = some (.int .i64 s.least) ∧ w.cell? ⟨p, 5, none⟩ = some (.int .i64 s.nodes) ∧ w.cell? ⟨p, 6, none⟩ = some (.int .i64 s.budget) ∧ w.cell? ⟨p, 7, none⟩ = some (.bool s.full) ∧ ∀ i, w.frozen? ⟨p, i, none⟩ = false) ∧
    (s.set.length ≤ c2 ∧ Kd.C (Kd.int .i64) w A2 s.set.length s.set) ∧ (s.best.length ≤ c3 ∧ Kd.C (Kd.int .i64) w A3 s.best.length s.best) ∧
    w.heap[p]? = some (.cells #[.slice Aheads nheads cheads, .int .i64 s.need, .slice A2 s.set.length c2, .slice A3 s.best.length c3, .int .i64 s.least, .int .i64 s.nodes, .int .i64 s.budget, .bool s.full] 85 (0, 0)) ∧ Rows2 w base (.slice A2 s.set.length c2) (.slice A3 s.best.length c3) s.set s.best ∧ R1 w base (.slice A2 s.set.length c2) (.slice A3 s.best.length c3) (.slice Aheads nheads cheads) Lheads := by
  obtain ⟨A2, c2, A3, c3, hP, hR, hR1⟩ := h
  exact ⟨A2, c2, A3, c3, cells8 hP, (Kd.R_reads' hR.1).2, (Kd.R_reads' hR.2).2, hP, hR, hR1⟩
def nodeWB (s : SVW) : Bool := if s.nodes = s.budget then false else !s.full
def nodeWS (s : SVW) : SVW := if s.nodes = s.budget then ⟨s.need, s.set, s.best, s.least, s.nodes, s.budget, true⟩ else if s.full = true then s else ⟨s.need, s.set, s.best, s.least, wrap64 (s.nodes + 1), s.budget, s.full⟩
set_option maxHeartbeats 4000000 in
set_option maxRecDepth 100000 in
theorem nodeW.calls {Ah : Option Addr} {nh ch : Nat} {hd : List Int} {b base p : Nat} {w0 w : World} {s : SVW} (hb : Below b w0 w) (hw : b ≤ w.heap.size) (hp : b ≤ p) (hs : StW w base p Ah nh ch hd s) :
    Calls Try.prog 102 #[.pointer (some ⟨p, 0, none⟩)] w fun e w' => e = .returned (.bool (nodeWB s)) ∧ Below b w0 w' ∧ b ≤ w'.heap.size ∧ StW w' base p Ah nh ch hd (nodeWS s) := by
  obtain ⟨A2, c2, A3, c3, ⟨x0, x1, x2, x3, x4, x5, x6, x7, xf⟩, _, _, _, _, _⟩ := hs.open
  have HS := Aside0.mk hs
  have HB := Aside0.mk hb
  have HW := Aside0.mk hw
  clear hs hb hw
  by_cases q : s.nodes = s.budget
  · have z : (s.nodes == s.budget) = true := by simpa using q
    have e1 : nodeWB s = false := by unfold nodeWB; rw [if_pos q]
    have e2 : nodeWS s = ⟨s.need, s.set, s.best, s.least, s.nodes, s.budget, true⟩ := by unfold nodeWS; rw [if_pos q]
    rw [e1, e2]
    clear e1 e2 q
    go_enter Try.func102, Try.ntmps102
    go_wp2
    go_quiet (fail)
    go_wp2
    go_ret
    exact ⟨rfl, sput (pw_below_drewN HB.out _) hp 7 _, by simp; exact HW.out, StW.set_full (HS.out.below (pw_below_drewN (Below.refl _ _) _)) true⟩
  · have z : (s.nodes == s.budget) = false := by simpa using q
    cases hf : s.full with
    | true =>
      have e1 : nodeWB s = false := by unfold nodeWB; rw [if_neg q, hf]; rfl
      have e2 : nodeWS s = s := by unfold nodeWS; rw [if_neg q, if_pos hf]
      rw [e1, e2]
      rw [hf] at x7
      clear e1 e2 q
      go_enter Try.func102, Try.ntmps102
      go_wp2
      go_quiet (fail)
      go_wp2
      go_ret
      exact ⟨rfl, pw_below_drewN HB.out _, HW.out, HS.out.below (pw_below_drewN (Below.refl _ _) _)⟩
    | false =>
      have e1 : nodeWB s = true := by unfold nodeWB; rw [if_neg q, hf]; rfl
      have e2 : nodeWS s = ⟨s.need, s.set, s.best, s.least, wrap64 (s.nodes + 1), s.budget, s.full⟩ := by unfold nodeWS; rw [if_neg q, if_neg (by rw [hf]; decide)]
      rw [e1, e2]
      rw [hf] at x7
      clear e1 e2 q
      go_enter Try.func102, Try.ntmps102
      go_wp2
      go_quiet (fail)
      go_wp2
      go_ret
      exact ⟨rfl, sput (pw_below_drewN HB.out _) hp 5 _, by simp; exact HW.out, StW.set_nodes (HS.out.below (pw_below_drewN (Below.refl _ _) _)) _⟩
/-- The search, from a place on. -/
def runW (k : Nat) (hd : List Int) : Nat → Int → SVW → Option SVW
  | 0, g, s => if s.need ≤ g then
      (if s.least < 0 then some ⟨s.need, s.set, s.set, g, s.nodes, s.budget, s.full⟩
       else if g < s.least then some ⟨s.need, s.set, s.set, g, s.nodes, s.budget, s.full⟩
       else if g = s.least then (spec_l08Before.f k s.set s.best).bind fun q => if q = true then some ⟨s.need, s.set, s.set, g, s.nodes, s.budget, s.full⟩ else some s
       else some s)
      else some s
  | d + 1, g, s =>
    (if nodeWB s = true then (runW k hd d (wrap64 (g + rd hd ((hd.length - (d + 1) : Nat) : Int))) ⟨(nodeWS s).need, (nodeWS s).set ++ [((hd.length - (d + 1) : Nat) : Int)], (nodeWS s).best, (nodeWS s).least, (nodeWS s).nodes, (nodeWS s).budget, (nodeWS s).full⟩).bind fun s2 => some ⟨s2.need, s2.set.take (s2.set.length - 1), s2.best, s2.least, s2.nodes, s2.budget, s2.full⟩
     else some (nodeWS s)).bind fun s1 => if nodeWB s1 = true then runW k hd d g (nodeWS s1) else some (nodeWS s1)
theorem runW_mono (k : Nat) (hd : List Int) : ∀ d g s, LeO (runW k hd d g s) (runW (k + 1) hd d g s)
  | 0, g, s => by
    unfold runW
    exact LeO.ite (LeO.ite (LeO.refl _) (LeO.ite (LeO.refl _) (LeO.ite (LeO.bind (spec_l08Before.mono _ _ k) (fun _ => LeO.refl _)) (LeO.refl _)))) (LeO.refl _)
  | d + 1, g, s => by
    unfold runW
    exact LeO.bind (LeO.ite (LeO.bind (runW_mono k hd d _ _) (fun _ => LeO.refl _)) (LeO.refl _)) (fun q => LeO.ite (runW_mono k hd d _ _) (LeO.refl _))
theorem nodeWS_set (s : SVW) : (nodeWS s).set = s.set := by unfold nodeWS; split; rfl; split <;> rfl
theorem runW_set (k : Nat) (hd : List Int) : ∀ d g s s', runW k hd d g s = some s' → s'.set = s.set := by
  intro d
  induction d with
  | zero =>
    intro g s s' h
    unfold runW at h
    split at h
    · split at h
      · obtain rfl := Option.some.inj h; rfl
      · split at h
        · obtain rfl := Option.some.inj h; rfl
        · split at h
          · obtain ⟨c, _, h⟩ := Option.bind_eq_some_iff.1 h
            split at h
            · obtain rfl := Option.some.inj h; rfl
            · obtain rfl := Option.some.inj h; rfl
          · obtain rfl := Option.some.inj h; rfl
    · obtain rfl := Option.some.inj h; rfl
  | succ d ih =>
    intro g s s' h
    unfold runW at h
    obtain ⟨q, hq, h⟩ := Option.bind_eq_some_iff.1 h
    have hqb : q.set = s.set := by
      split at hq
      · obtain ⟨s2, h2, hq⟩ := Option.bind_eq_some_iff.1 hq
        obtain rfl := Option.some.inj hq
        have := ih _ _ _ h2
        simp only [this, nodeWS_set, List.length_append, List.length_cons, List.length_nil, Nat.add_sub_cancel]
        simp
      · obtain rfl := Option.some.inj hq; exact nodeWS_set s
    split at h
    · exact (ih _ _ _ h).trans ((nodeWS_set q).trans hqb)
    · obtain rfl := Option.some.inj h; exact (nodeWS_set q).trans hqb
set_option maxHeartbeats 4000000 in
set_option maxRecDepth 100000 in
/-- The search at its end, no pumps being left. -/
theorem runW_0.calls (k : Nat) (b0 : Nat) (w0 : World) (Ah : Option Addr) (ch : Nat) (hd : List Int) (g : Int) (s s' : SVW) (w : World) (p : Nat) (h : runW k hd 0 g s = some s') (hb : Below b0 w0 w) (hbw : b0 ≤ w.heap.size) (hp : b0 ≤ p) (hs : StW w b0 p Ah hd.length ch hd s) (hl : s.set.length ≤ 8) :
    Calls Try.prog 46 #[.pointer (some ⟨p, 0, none⟩), .int .i64 (hd.length : Int), .int .i64 g] w fun e w' => e = .returned (.tuple #[]) ∧ Below b0 w0 w' ∧ b0 ≤ w'.heap.size ∧ StW w' b0 p Ah hd.length ch hd s' := by
  unfold runW at h
  obtain ⟨A2, c2, A3, c3, ⟨x0, x1, x2, x3, x4, x5, x6, x7, xf⟩, ⟨hc2, hC2⟩, ⟨hc3, hC3⟩, hP, hR, hR1⟩ := hs.open
  have HB := Aside0.mk hb
  have HS := Aside0.mk hs
  have HPP := Aside0.mk hp
  have HR := Aside0.mk hR
  have HR1 := Aside0.mk hR1
  have HP := Aside0.mk hP
  have HC2 := Aside0.mk hc2
  have HC3 := Aside0.mk hc3
  have HH := Aside0.mk (⟨hC2, hC3⟩ : Kd.C (Kd.int .i64) w A2 s.set.length s.set ∧ Kd.C (Kd.int .i64) w A3 s.best.length s.best)
  have HBW := Aside0.mk hbw
  have HOWN := Aside0.mk (show spec_l00Own.f s.set = some s.set by unfold spec_l00Own.f; simp only [Option.bind_some, List.length_nil, List.nil_append]; rw [if_pos (by omega)])
  clear hb hs hp hR hR1 hP hc2 hc3 hC2 hC3 hl hbw
  by_cases q1 : s.need ≤ g
  · rw [if_pos q1] at h
    have z1 : decide (s.need ≤ g) = true := decide_eq_true q1
    by_cases q2 : s.least < 0
    · rw [if_pos q2] at h
      have z2 : decide (s.least < 0) = true := decide_eq_true q2
      obtain rfl := Option.some.inj h
      clear h q1 q2
      go_enter Try.func46, Try.ntmps46
      go_wp2
      go_quiet (fail)
      have HRW := Aside0.mk ((HR.out.drewN nq).set HP.out (by decide) 4 (.int .i64 g))
      have HRW1 := Aside0.mk ((HR1.out.drewN nq).set HP.out (by decide) 4 (.int .i64 g))
      have HWW := Aside0.mk (show b0 ≤ ((w.drewN nq).setCell ⟨p, 4, none⟩ (.int .i64 g)).heap.size by simp; exact HBW.out)
      go_wp2_with (go_at_call 101; refine (spec_l00Own.calls A2 c2 s.set s.set _ (Kd.R_reads' HRW.out.1).2.2 HC2.out HOWN.out).mono ?_; rintro e w2 ⟨v, rfl, hRn, hb2⟩; obtain ⟨A9, c9, e9⟩ := Kd.R_slice hRn; subst e9; have hP2 := blk_below (blk_set (show (w.drewN nq).heap[p]? = _ from HP.out) 4 (.int .i64 g)) hb2; obtain ⟨u0, u1, u2, u3, u4, u5, u6, u7, uf⟩ := cells8 hP2; have HRn := Aside0.mk hRn; have HB2 := Aside0.mk hb2; have HP2 := Aside0.mk hP2; clear hRn hb2 hP2)
      ((try simp only [Exit.inBlock, Exit.then]); first | (refine bodyPost_ret (results_none rfl _ _ _) rfl ?_) | (refine bodyPost_end (results_none rfl _ _ _) rfl ?_))
      exact ⟨rfl, sput (below_then (sput (pw_below_drewN HB.out nq) HPP.out 4 (.int .i64 g)) HWW.out HB2.out) HPP.out 3 _, by simp; exact Nat.le_trans HWW.out HB2.out.size, StW.put_best (s := ⟨s.need, s.set, s.best, g, s.nodes, s.budget, s.full⟩) HP2.out (HRW.out.clone HRn.out HB2.out HWW.out) (HRW1.out.clone HRn.out HB2.out) rfl⟩
    · rw [if_neg q2] at h
      have z2 : decide (s.least < 0) = false := decide_eq_false q2
      by_cases q3 : g < s.least
      · rw [if_pos q3] at h
        have z3 : decide (g < s.least) = true := decide_eq_true q3
        obtain rfl := Option.some.inj h
        clear h q1 q2 q3
        go_enter Try.func46, Try.ntmps46
        go_wp2
        go_quiet (fail)
        have HRW := Aside0.mk ((HR.out.drewN nq).set HP.out (by decide) 4 (.int .i64 g))
        have HRW1 := Aside0.mk ((HR1.out.drewN nq).set HP.out (by decide) 4 (.int .i64 g))
        have HWW := Aside0.mk (show b0 ≤ ((w.drewN nq).setCell ⟨p, 4, none⟩ (.int .i64 g)).heap.size by simp; exact HBW.out)
        go_wp2_with (go_at_call 101; refine (spec_l00Own.calls A2 c2 s.set s.set _ (Kd.R_reads' HRW.out.1).2.2 HC2.out HOWN.out).mono ?_; rintro e w2 ⟨v, rfl, hRn, hb2⟩; obtain ⟨A9, c9, e9⟩ := Kd.R_slice hRn; subst e9; have hP2 := blk_below (blk_set (show (w.drewN nq).heap[p]? = _ from HP.out) 4 (.int .i64 g)) hb2; obtain ⟨u0, u1, u2, u3, u4, u5, u6, u7, uf⟩ := cells8 hP2; have HRn := Aside0.mk hRn; have HB2 := Aside0.mk hb2; have HP2 := Aside0.mk hP2; clear hRn hb2 hP2)
        ((try simp only [Exit.inBlock, Exit.then]); first | (refine bodyPost_ret (results_none rfl _ _ _) rfl ?_) | (refine bodyPost_end (results_none rfl _ _ _) rfl ?_))
        exact ⟨rfl, sput (below_then (sput (pw_below_drewN HB.out nq) HPP.out 4 (.int .i64 g)) HWW.out HB2.out) HPP.out 3 _, by simp; exact Nat.le_trans HWW.out HB2.out.size, StW.put_best (s := ⟨s.need, s.set, s.best, g, s.nodes, s.budget, s.full⟩) HP2.out (HRW.out.clone HRn.out HB2.out HWW.out) (HRW1.out.clone HRn.out HB2.out) rfl⟩
      · rw [if_neg q3] at h
        have z3 : decide (g < s.least) = false := decide_eq_false q3
        by_cases q4 : g = s.least
        · rw [if_pos q4] at h
          have z4 : (g == s.least) = true := by simpa using q4
          obtain ⟨c, hcm, h5⟩ := Option.bind_eq_some_iff.1 h
          have HCM := Aside0.mk (fun W (hW : Below w.heap.size w W) => spec_l08Before.calls k A2 c2 s.set A3 c3 s.best c W (Kd.C_below HH.out.1 hW) HC2.out (Kd.C_below HH.out.2 hW) HC3.out hcm)
          clear h hcm q1 q2 q3 q4
          cases c with
          | true =>
            rw [if_pos rfl] at h5
            obtain rfl := Option.some.inj h5
            clear h5
            go_enter Try.func46, Try.ntmps46
            go_wp2
            go_quiet (first | (go_at_call 100; refine (HCM.out _ (pw_below_drewN (Below.refl _ _) _)).mono ?_; rintro e w' ⟨rfl, ⟨⟨nd, rfl⟩⟩⟩; (first | (with_reducible exact ⟨rfl, _, World.drewN_drewN _ _ _⟩) | exact ⟨rfl, _, rfl⟩)))
            have HRW := Aside0.mk ((HR.out.drewN nq).set HP.out (by decide) 4 (.int .i64 g))
            have HRW1 := Aside0.mk ((HR1.out.drewN nq).set HP.out (by decide) 4 (.int .i64 g))
            have HWW := Aside0.mk (show b0 ≤ ((w.drewN nq).setCell ⟨p, 4, none⟩ (.int .i64 g)).heap.size by simp; exact HBW.out)
            go_wp2_with (go_at_call 101; refine (spec_l00Own.calls A2 c2 s.set s.set _ (Kd.R_reads' HRW.out.1).2.2 HC2.out HOWN.out).mono ?_; rintro e w2 ⟨v, rfl, hRn, hb2⟩; obtain ⟨A9, c9, e9⟩ := Kd.R_slice hRn; subst e9; have hP2 := blk_below (blk_set (show (w.drewN nq).heap[p]? = _ from HP.out) 4 (.int .i64 g)) hb2; obtain ⟨u0, u1, u2, u3, u4, u5, u6, u7, uf⟩ := cells8 hP2; have HRn := Aside0.mk hRn; have HB2 := Aside0.mk hb2; have HP2 := Aside0.mk hP2; clear hRn hb2 hP2)
            ((try simp only [Exit.inBlock, Exit.then]); first | (refine bodyPost_ret (results_none rfl _ _ _) rfl ?_) | (refine bodyPost_end (results_none rfl _ _ _) rfl ?_))
            exact ⟨rfl, sput (below_then (sput (pw_below_drewN HB.out nq) HPP.out 4 (.int .i64 g)) HWW.out HB2.out) HPP.out 3 _, by simp; exact Nat.le_trans HWW.out HB2.out.size, StW.put_best (s := ⟨s.need, s.set, s.best, g, s.nodes, s.budget, s.full⟩) HP2.out (HRW.out.clone HRn.out HB2.out HWW.out) (HRW1.out.clone HRn.out HB2.out) rfl⟩
          | false =>
            rw [if_neg (by decide)] at h5
            obtain rfl := Option.some.inj h5
            clear h5
            go_enter Try.func46, Try.ntmps46
            go_wp2
            go_quiet (first | (go_at_call 100; refine (HCM.out _ (pw_below_drewN (Below.refl _ _) _)).mono ?_; rintro e w' ⟨rfl, ⟨⟨nd, rfl⟩⟩⟩; (first | (with_reducible exact ⟨rfl, _, World.drewN_drewN _ _ _⟩) | exact ⟨rfl, _, rfl⟩)))
            go_wp2
            ((try simp only [Exit.inBlock, Exit.then]); first | (refine bodyPost_ret (results_none rfl _ _ _) rfl ?_) | (refine bodyPost_end (results_none rfl _ _ _) rfl ?_))
            exact ⟨rfl, pw_below_drewN HB.out _, HBW.out, HS.out.below (pw_below_drewN (Below.refl _ _) _)⟩
        · rw [if_neg q4] at h
          have z4 : (g == s.least) = false := by simpa using q4
          obtain rfl := Option.some.inj h
          clear h q1 q2 q3 q4
          go_enter Try.func46, Try.ntmps46
          go_wp2
          go_quiet (fail)
          go_wp2
          ((try simp only [Exit.inBlock, Exit.then]); first | (refine bodyPost_ret (results_none rfl _ _ _) rfl ?_) | (refine bodyPost_end (results_none rfl _ _ _) rfl ?_))
          exact ⟨rfl, pw_below_drewN HB.out _, HBW.out, HS.out.below (pw_below_drewN (Below.refl _ _) _)⟩
  · rw [if_neg q1] at h
    have z1 : decide (s.need ≤ g) = false := decide_eq_false q1
    obtain rfl := Option.some.inj h
    clear h q1
    go_enter Try.func46, Try.ntmps46
    go_wp2
    go_quiet (fail)
    go_wp2
    ((try simp only [Exit.inBlock, Exit.then]); first | (refine bodyPost_ret (results_none rfl _ _ _) rfl ?_) | (refine bodyPost_end (results_none rfl _ _ _) rfl ?_))
    exact ⟨rfl, pw_below_drewN HB.out _, HBW.out, HS.out.below (pw_below_drewN (Below.refl _ _) _)⟩
-- @cut
set_option maxHeartbeats 8000000 in
set_option maxRecDepth 100000 in
theorem runW_s.calls (k : Nat) (b0 : Nat) (w0 : World) (Ah : Option Addr) (ch : Nat) (hd : List Int) (h8 : hd.length ≤ 8) (p : Nat) (hp : b0 ≤ p) (d i : Nat) (hi : i + (d + 1) = hd.length)
    (ih : ∀ (g : Int) (s s' : SVW) (w : World), runW k hd d g s = some s' → Below b0 w0 w → b0 ≤ w.heap.size → StW w b0 p Ah hd.length ch hd s → s.set.length + d ≤ hd.length → Calls Try.prog 46 #[.pointer (some ⟨p, 0, none⟩), .int .i64 ((i : Int) + 1), .int .i64 g] w fun e w' => e = .returned (.tuple #[]) ∧ Below b0 w0 w' ∧ b0 ≤ w'.heap.size ∧ StW w' b0 p Ah hd.length ch hd s')
    (g : Int) (s s' : SVW) (w : World) (h : runW k hd (d + 1) g s = some s') (hb : Below b0 w0 w) (hbw : b0 ≤ w.heap.size) (hs : StW w b0 p Ah hd.length ch hd s) (hl : s.set.length + (d + 1) ≤ hd.length) :
    Calls Try.prog 46 #[.pointer (some ⟨p, 0, none⟩), .int .i64 (i : Int), .int .i64 g] w fun e w' => e = .returned (.tuple #[]) ∧ Below b0 w0 w' ∧ b0 ≤ w'.heap.size ∧ StW w' b0 p Ah hd.length ch hd s' := by
  have hset := runW_set k hd
  unfold runW at h
  rw [show hd.length - (d + 1) = i by omega] at h
  have HI0 := Aside0.mk (show (0 : Int) ≤ (i : Int) by omega)
  have HI1 := Aside0.mk (show (i : Int) < (hd.length : Int) by omega)
  obtain ⟨A2, c2, A3, c3, ⟨x0, x1, x2, x3, x4, x5, x6, x7, xf⟩, _, _, hP, hR, hR1⟩ := hs.open
  obtain ⟨adh, eh, hh⟩ := Kd.at_int hR1.reads.2.2 (i : Int) HI0.out HI1.out
  subst eh
  clear hh
  have z0 : ((i : Int) == (hd.length : Int)) = false := by simp; omega
  have z2 := eq_true HI0.out
  have z3 := eq_true HI1.out
  have HB := Aside0.mk hb
  have HS := Aside0.mk hs
  have HPP := Aside0.mk hp
  have HI := Aside0.mk hi
  have H8 := Aside0.mk h8
  have HL := Aside0.mk hl
  have IH := Aside0.mk ih
  have HBW := Aside0.mk hbw
  have HSET := Aside0.mk hset
  have hw1 : IntKind.i64.wrap ((i : Int) + 1) = (i : Int) + 1 := IntWalk.i64_in _ (by omega)
  have hw2 : wrap64 ((i : Int) + 1) = (i : Int) + 1 := by unfold wrap64; omega
  obtain ⟨q, hq, h1⟩ := Option.bind_eq_some_iff.1 h
  clear h hb hs hp hP hR hR1 hi h8 hl ih hbw hset
  cases hN : nodeWB s with
  | true =>
    rw [if_pos hN] at hq
    obtain ⟨s2, hrec, hq2⟩ := Option.bind_eq_some_iff.1 hq
    obtain rfl := Option.some.inj hq2
    have hbu := HSET.out _ _ _ _ hrec
    simp only at hbu
    rw [nodeWS_set] at hbu
    have HLEN2 := Aside0.mk (show s2.set.length = s.set.length + 1 by rw [hbu, List.length_append]; rfl)
    have HREC := Aside0.mk hrec
    have H1 := Aside0.mk h1
    clear hq hq2 hbu hrec h1
    go_enter Try.func46, Try.ntmps46
    go_wp2_with (first | (go_at_call 102; refine (nodeW.calls HB.out HBW.out HPP.out HS.out).mono ?_; rintro e w1 ⟨rfl, hb1, hw1_, hs1⟩; have HB1 := Aside0.mk hb1; have HW1 := Aside0.mk hw1_; have HS1 := Aside0.mk hs1; clear x0 x1 x2 x3 x4 x5 x6 x7 xf; obtain ⟨A4, c4, A5, c5, ⟨y0, y1, y2, y3, y4, y5, y6, y7, yf⟩, ⟨hc4, _⟩, _, hP1, hR1, hR11⟩ := hs1.open; have HP1 := Aside0.mk hP1; have HRa := Aside0.mk hR1; have HRb := Aside0.mk hR11; clear hb1 hw1_ hs1 hP1 hR1 hR11 hc4) | (at_builtin; refine Kd.R_append (Kd.int .i64) (w0 := w0) b0 rfl _ _ 24 2 (.int .i64 0) 8 rfl Try.underlying24 info2 rfl (by decide) (by omega) (.slice A4 (nodeWS s).set.length c4) (nodeWS s).set (i : Int) [.int .i64 (i : Int)] (fun k => some k ≠ (Value.slice A5 (nodeWS s).best.length c5).ownBlock) (fun _ => False) rfl rfl rfl (fun _ hk => hk.elim) (fun k hk e => (by have := Kd.R_lt HRa.out.2 k e.symm; omega)) HRa.out.1 HB1.out HW1.out (by have := HL.out; have := H8.out; rw [nodeWS_set]; omega) ?_; intro v1 w2 ho hb2 hg hat; obtain ⟨A9, c9, e9⟩ := Kd.R_slice ho; rw [List.length_append, List.length_singleton] at e9; subst e9; have hP2 := blk_grown HP1.out hg (Kd.R_ne HRa.out.1 HP1.out (by decide)); have hR2 := HRa.out.append ho hg hat; have hR21 := HRb.out.append hg hat; obtain ⟨u0, u1, u2, u3, u4, u5, u6, u7, uf⟩ := cells8 hP2; have hS3 := StW.put_set (s := nodeWS s) hP2 hR2 hR21 (show (nodeWS s).set.length + 1 = ((nodeWS s).set ++ [(i : Int)]).length by simp); have hB3 := sput hb2 HPP.out 2 (.slice A9 ((nodeWS s).set.length + 1) c9); have hW3 : b0 ≤ (w2.setCell ⟨p, 2, none⟩ (.slice A9 ((nodeWS s).set.length + 1) c9)).heap.size := (by simp; exact Nat.le_trans HW1.out hg.size); have HB3 := Aside0.mk hB3; have HS3 := Aside0.mk hS3; have HW3 := Aside0.mk hW3; obtain ⟨_, _, _, _, ⟨v0, v1_, v2, v3, v4, v5, v6, v7, vf⟩, _, _, _, _, hR31⟩ := hS3.open; obtain ⟨adh2, eh2, hh2⟩ := Kd.at_int hR31.reads.2.2 (i : Int) HI0.out HI1.out; injection eh2 with eh2; subst eh2; rw [Int.toNat_natCast] at hh2; clear ho hb2 hg hat hP2 hR2 hR21 hB3 hS3 hW3 hR31) | (go_at_call 46; (try simp only [Go.IntWalk.i64_left, hw1, hw2]); refine (IH.out (wrap64 (g + rd hd (i : Int))) _ s2 _ HREC.out HB3.out HW3.out HS3.out (by have := HL.out; simp only [List.length_append, List.length_cons, List.length_nil, nodeWS_set]; omega)).mono ?_; rintro e w5 ⟨rfl, hb5, hw5, hs5⟩; obtain ⟨A6, c6, A7, c7, ⟨t0, t1, t2, t3, t4, t5, t6, t7, tf⟩, ⟨hc6, _⟩, _, hP5, hR5, hR51⟩ := hs5.open; have HB5 := Aside0.mk hb5; have HW5 := Aside0.mk hw5; have HS5 := Aside0.mk hs5; have HP5 := Aside0.mk hP5; have HR5 := Aside0.mk hR5; have HR51 := Aside0.mk hR51; have HC6 := Aside0.mk hc6; clear hb5 hw5 hs5 hP5 hR5 hR51 hc6))
    have hk0 : (0 : Int) ≤ (s2.set.length : Int) - 1 := by have := HLEN2.out; omega
    have hk1 : (s2.set.length : Int) - 1 ≤ (s2.set.length : Int) := by omega
    have hk2 : (s2.set.length : Int) - 1 ≤ (c6 : Int) := by have := HC6.out; omega
    obtain ⟨g6, rfl⟩ := HR5.out.some (by have := HLEN2.out; omega)
    have hw3 : IntKind.i64.wrap ((s2.set.length : Int) - 1) = (s2.set.length : Int) - 1 := IntWalk.i64_in _ (by have := HLEN2.out; have := HL.out; have := H8.out; omega)
    clear u0 u1 u2 u3 u4 u5 u6 u7 uf v0 v1_ v2 v3 v4 v5 v6 v7 vf hh2 y0 y1 y2 y3 y4 y5 y6 y7 yf
    go_region
    have hS6 := (StW.put_set (s := s2) HP5.out (HR5.out.cut (m := s2.set.length - 1) (by omega)) (HR51.out.cut) (show s2.set.length - 1 = (s2.set.take (s2.set.length - 1)).length by rw [List.length_take]; omega)).below (below_drew (Below.refl _ _))
    have hB6 := below_drew (sput HB5.out HPP.out 2 (.slice (some ⟨g6, 0, none⟩) (s2.set.length - 1) c6))
    have hW6 : b0 ≤ (w5.setCell ⟨p, 2, none⟩ (.slice (some ⟨g6, 0, none⟩) (s2.set.length - 1) c6)).drew.heap.size := by simp; exact HW5.out
    clear t0 t1 t2 t3 t4 t5 t6 t7 tf
    generalize (w5.setCell ⟨p, 2, none⟩ (.slice (some ⟨g6, 0, none⟩) (s2.set.length - 1) c6)).drew = w8 at hS6 hB6 hW6 ⊢
    have h1 := H1.out
    have hl3 : (⟨s2.need, s2.set.take (s2.set.length - 1), s2.best, s2.least, s2.nodes, s2.budget, s2.full⟩ : SVW).set.length = s.set.length := by have := HLEN2.out; simp only [List.length_take]; omega
    generalize (⟨s2.need, s2.set.take (s2.set.length - 1), s2.best, s2.least, s2.nodes, s2.budget, s2.full⟩ : SVW) = s3 at h1 hS6 hl3
    have HB6 := Aside0.mk hB6
    have HS6 := Aside0.mk hS6
    have HW6 := Aside0.mk hW6
    have HLEN := Aside0.mk (show s3.set.length + (d + 1) ≤ hd.length by have := HL.out; omega)
    clear hB6 hS6 hW6 H1 hl3
    cases hN2 : nodeWB s3 with
    | true =>
      rw [if_pos hN2] at h1
      have H := Aside0.mk h1
      clear h1
      go_wp2_with (first | (go_at_call 102; refine (nodeW.calls HB6.out HW6.out HPP.out HS6.out).mono ?_; rintro e w6 ⟨rfl, hb1, hw1_, hs1⟩; have HB2 := Aside0.mk hb1; have HW2 := Aside0.mk hw1_; have HS2 := Aside0.mk hs1; clear hb1 hw1_ hs1) | (go_at_call 46; (try simp only [Go.IntWalk.i64_left, hw1, hw2]); refine (IH.out g _ s' _ H.out HB2.out HW2.out HS2.out (by have := HL.out; have := HLEN.out; rw [nodeWS_set]; omega)).mono ?_; rintro e w7 ⟨rfl, hb7, hw7, hs7⟩))
      ((try simp only [Exit.inBlock, Exit.then]); first | (refine bodyPost_ret (results_none rfl _ _ _) rfl ?_) | (refine bodyPost_end (results_none rfl _ _ _) rfl ?_))
      exact ⟨rfl, hb7, hw7, hs7⟩
    | false =>
      rw [if_neg (by rw [hN2]; decide)] at h1
      obtain rfl := Option.some.inj h1
      clear h1
      go_wp2_with (first | (go_at_call 102; refine (nodeW.calls HB6.out HW6.out HPP.out HS6.out).mono ?_; rintro e w6 ⟨rfl, hb1, hw1_, hs1⟩; have HB2 := Aside0.mk hb1; have HW2 := Aside0.mk hw1_; have HS2 := Aside0.mk hs1; clear hb1 hw1_ hs1))
      ((try simp only [Exit.inBlock, Exit.then]); first | (refine bodyPost_ret (results_none rfl _ _ _) rfl ?_) | (refine bodyPost_end (results_none rfl _ _ _) rfl ?_))
      exact ⟨rfl, HB2.out, HW2.out, HS2.out⟩
  | false =>
    rw [if_neg (by rw [hN]; decide)] at hq
    obtain rfl := Option.some.inj hq
    clear hq
    have HLEN := Aside0.mk (show (nodeWS s).set.length + (d + 1) ≤ hd.length by rw [nodeWS_set]; exact HL.out)
    cases hN2 : nodeWB (nodeWS s) with
    | true =>
      rw [if_pos hN2] at h1
      have H := Aside0.mk h1
      clear h1
      go_enter Try.func46, Try.ntmps46
      go_wp2_with (first | (go_at_call 102; refine (nodeW.calls HB.out HBW.out HPP.out HS.out).mono ?_; rintro e w1 ⟨rfl, hb1, hw1_, hs1⟩; have HB1 := Aside0.mk hb1; have HW1 := Aside0.mk hw1_; have HS1 := Aside0.mk hs1; clear hb1 hw1_ hs1) | (go_at_call 102; refine (nodeW.calls HB1.out HW1.out HPP.out HS1.out).mono ?_; rintro e w6 ⟨rfl, hb1, hw1_, hs1⟩; have HB2 := Aside0.mk hb1; have HW2 := Aside0.mk hw1_; have HS2 := Aside0.mk hs1; clear hb1 hw1_ hs1) | (go_at_call 46; (try simp only [Go.IntWalk.i64_left, hw1, hw2]); refine (IH.out g _ s' _ H.out HB2.out HW2.out HS2.out (by have := HL.out; have := HLEN.out; rw [nodeWS_set]; omega)).mono ?_; rintro e w7 ⟨rfl, hb7, hw7, hs7⟩))
      ((try simp only [Exit.inBlock, Exit.then]); first | (refine bodyPost_ret (results_none rfl _ _ _) rfl ?_) | (refine bodyPost_end (results_none rfl _ _ _) rfl ?_))
      exact ⟨rfl, hb7, hw7, hs7⟩
    | false =>
      rw [if_neg (by rw [hN2]; decide)] at h1
      obtain rfl := Option.some.inj h1
      clear h1
      go_enter Try.func46, Try.ntmps46
      go_wp2_with (first | (go_at_call 102; refine (nodeW.calls HB.out HBW.out HPP.out HS.out).mono ?_; rintro e w1 ⟨rfl, hb1, hw1_, hs1⟩; have HB1 := Aside0.mk hb1; have HW1 := Aside0.mk hw1_; have HS1 := Aside0.mk hs1; clear hb1 hw1_ hs1) | (go_at_call 102; refine (nodeW.calls HB1.out HW1.out HPP.out HS1.out).mono ?_; rintro e w6 ⟨rfl, hb1, hw1_, hs1⟩; have HB2 := Aside0.mk hb1; have HW2 := Aside0.mk hw1_; have HS2 := Aside0.mk hs1; clear hb1 hw1_ hs1))
      ((try simp only [Exit.inBlock, Exit.then]); first | (refine bodyPost_ret (results_none rfl _ _ _) rfl ?_) | (refine bodyPost_end (results_none rfl _ _ _) rfl ?_))
      exact ⟨rfl, HB2.out, HW2.out, HS2.out⟩
theorem runW.calls (k : Nat) (b0 : Nat) (w0 : World) (Ah : Option Addr) (ch : Nat) (hd : List Int) (h8 : hd.length ≤ 8) (p : Nat) (hp : b0 ≤ p) : ∀ (d i : Nat), i + d = hd.length → ∀ (g : Int) (s s' : SVW) (w : World), runW k hd d g s = some s' → Below b0 w0 w → b0 ≤ w.heap.size → StW w b0 p Ah hd.length ch hd s → s.set.length + d ≤ hd.length → Calls Try.prog 46 #[.pointer (some ⟨p, 0, none⟩), .int .i64 (i : Int), .int .i64 g] w fun e w' => e = .returned (.tuple #[]) ∧ Below b0 w0 w' ∧ b0 ≤ w'.heap.size ∧ StW w' b0 p Ah hd.length ch hd s'
  | 0, i, hi, g, s, s', w, h, hb, hw, hs, hl => by
    have e : i = hd.length := by omega
    subst e
    exact runW_0.calls k b0 w0 Ah ch hd g s s' w p h hb hw hp hs (by omega)
  | d + 1, i, hi, g, s, s', w, h, hb, hw, hs, hl =>
    runW_s.calls k b0 w0 Ah ch hd h8 p hp d i hi (fun g s s' w h hb hw hs hl => by
      have := runW.calls k b0 w0 Ah ch hd h8 p hp d (i + 1) (by omega) g s s' w h hb hw hs hl
      rwa [show ((i + 1 : Nat) : Int) = (i : Int) + 1 by omega] at this) g s s' w h hb hw hs hl
-- @cut
/-- What the pumps lift, from one on. -/
def headsS (k : Nat) (xs : List S38) (a : Int) : Nat → List Int → Option (List Int)
  | 0, acc => some acc
  | d + 1, acc => (spec_l08Head.f k [rd_T38 xs ((xs.length - (d + 1) : Nat) : Int)] a).bind fun h => headsS k xs a d (acc ++ [h])
theorem headsS_mono (k : Nat) (xs : List S38) (a : Int) : ∀ d acc, LeO (headsS k xs a d acc) (headsS (k + 1) xs a d acc)
  | 0, _ => LeO.refl _
  | d + 1, _ => LeO.bind (spec_l08Head.mono _ _ k) (fun _ => headsS_mono k xs a d _)
theorem headsS_len (k : Nat) (xs : List S38) (a : Int) : ∀ d acc r, headsS k xs a d acc = some r → r.length = acc.length + d
  | 0, acc, r, h => by obtain rfl := Option.some.inj h; rfl
  | d + 1, acc, r, h => by
    obtain ⟨y, _, h⟩ := Option.bind_eq_some_iff.1 h
    have := headsS_len k xs a d _ r h
    rw [this]; simp; omega
def spec_CheapestPumps.f (k : Nat) (l0 : List S38) (a1 a2 a3 a4 : Int) : Option (List Int × Int × Int) :=
  (spec_l08List.f k l0).bind fun v => if v = true then
    ((spec_l08System.f a1 a2).bind fun s1 => if s1 = true then
      ((spec_l02Flow.f a3).bind fun f1 => if f1 = true then
        ((spec_l00In.f a4 1 20000).bind fun b1 => if b1 = true then
          ((spec_l08Needs.f a1 a2 a3).bind fun goal => if l0.length ≤ 8 then
            ((headsS k l0 a3 l0.length []).bind fun hd => (runW k hd hd.length 0 ⟨goal, [], [], -1, 0, a4, false⟩).bind fun s =>
              if s.full = true then some ([], 0, 5) else if s.least < 0 then some ([], 0, 3) else some (s.best, s.least, 0))
          else none)
        else some ([], 0, 2))
      else some ([], 0, 2))
    else some ([], 0, 2))
  else some ([], 0, 1)
theorem spec_CheapestPumps.mono : ∀ a0 a1 a2 a3 a4 k, LeO (spec_CheapestPumps.f k a0 a1 a2 a3 a4) (spec_CheapestPumps.f (k + 1) a0 a1 a2 a3 a4) := fun a0 a1 a2 a3 a4 k =>
  LeO.bind (spec_l08List.mono _ k) (fun _ => LeO.ite (LeO.bind (LeO.refl _) (fun _ => LeO.ite (LeO.bind (LeO.refl _) (fun _ => LeO.ite (LeO.bind (LeO.refl _) (fun _ => LeO.ite (LeO.bind (LeO.refl _) (fun _ => LeO.ite (LeO.bind (headsS_mono k _ _ _ _) (fun _ => LeO.bind (runW_mono k _ _ _ _) (fun _ => LeO.refl _))) (LeO.refl _))) (LeO.refl _))) (LeO.refl _))) (LeO.refl _))) (LeO.refl _))
-- @cut
set_option maxHeartbeats 8000000 in
set_option maxRecDepth 100000 in
theorem spec_CheapestPumps.calls (k : Nat) (A0 : Option Addr) (c0 : Nat) (l0 : List (S38)) (a1 : Int) (a2 : Int) (a3 : Int) (a4 : Int) (r1 : List Int) (r2 : Int) (r3 : Int) (w : World) (hr0 : Kd.C k38 w A0 l0.length l0) (hc0 : l0.length ≤ c0) (h : spec_CheapestPumps.f k l0 a1 a2 a3 a4 = some (r1, r2, r3)) :
    Calls Try.prog 8 #[.slice A0 l0.length c0, .int .i64 a1, .int .i64 a2, .int .i64 a3, .int .i64 a4] w fun e w' => ∃ v0_ : Value, e = .returned (.tuple #[v0_, .int .i64 r2, .int .i64 r3]) ∧ Kd.R (Kd.int .i64) 2 w' w.heap.size (fun _ => True) v0_ r1 ∧ Below w.heap.size w w' := by
  unfold spec_CheapestPumps.f at h
  obtain ⟨v, hv, h1⟩ := Option.bind_eq_some_iff.1 h
  clear h
  have HV := Aside0.mk (fun W (hW : Below w.heap.size w W) => (spec_l08List.calls k A0 c0 l0 v W (Kd.C_below hr0 hW) hc0 hv).mono fun e w' he => (⟨he.1, below_then hW hW.size he.2.below⟩ : e = .returned (.bool v) ∧ Below w.heap.size w w'))
  have HR0 := Aside0.mk hr0
  have HC0 := Aside0.mk hc0
  clear hv hr0 hc0
  cases v with
  | false =>
    rw [if_neg (by decide)] at h1
    obtain ⟨rfl, h2⟩ := Prod.mk.inj (Option.some.inj h1)
    obtain ⟨rfl, rfl⟩ := Prod.mk.inj h2
    clear h1 h2
    go_enter Try.func8, Try.ntmps8
    go_wp2_with (first | (go_at_call 40; refine (HV.out _ (Below.refl _ _)).mono ?_; rintro e w2 ⟨rfl, hB⟩; have HB := Aside0.mk hB; clear hB))
    refine bodyPost_ret (results_tmp3 rfl _ _ _) rfl ?_
    exact ⟨_, rfl, Kd.R_nil _ _ _ _ _, HB.out⟩
  | true =>
    rw [if_pos rfl] at h1
    obtain ⟨m1, hm, h1⟩ := Option.bind_eq_some_iff.1 h1
    have HSO := Aside0.mk hm
    clear hm
    cases m1 with
    | false =>
      rw [if_neg (by decide)] at h1
      obtain ⟨rfl, h2⟩ := Prod.mk.inj (Option.some.inj h1)
      obtain ⟨rfl, rfl⟩ := Prod.mk.inj h2
      clear h1 h2
      go_enter Try.func8, Try.ntmps8
      go_wp2_with (first | (go_at_call 40; refine (HV.out _ (Below.refl _ _)).mono ?_; rintro e w2 ⟨rfl, hB⟩; have HB := Aside0.mk hB; clear hB) | (go_at_call 41; refine (spec_l08System.calls _ _ _ _ HSO.out).mono ?_; rintro e w2 ⟨rfl, hD⟩; have HB := Aside0.mk (below_then HB.out HB.out.size hD.below); clear hD))
      refine bodyPost_ret (results_tmp3 rfl _ _ _) rfl ?_
      exact ⟨_, rfl, Kd.R_nil _ _ _ _ _, HB.out⟩
    | true =>
      rw [if_pos rfl] at h1
      obtain ⟨f1, hm, h1⟩ := Option.bind_eq_some_iff.1 h1
      have HFL := Aside0.mk hm
      clear hm
      cases f1 with
      | false =>
        rw [if_neg (by decide)] at h1
        obtain ⟨rfl, h2⟩ := Prod.mk.inj (Option.some.inj h1)
        obtain ⟨rfl, rfl⟩ := Prod.mk.inj h2
        clear h1 h2
        go_enter Try.func8, Try.ntmps8
        go_wp2_with (first | (go_at_call 40; refine (HV.out _ (Below.refl _ _)).mono ?_; rintro e w2 ⟨rfl, hB⟩; have HB := Aside0.mk hB; clear hB) | (go_at_call 41; refine (spec_l08System.calls _ _ _ _ HSO.out).mono ?_; rintro e w2 ⟨rfl, hD⟩; have HB := Aside0.mk (below_then HB.out HB.out.size hD.below); clear hD) | (go_at_call 42; refine (spec_l02Flow.calls _ _ _ HFL.out).mono ?_; rintro e w2 ⟨rfl, hD⟩; have HB := Aside0.mk (below_then HB.out HB.out.size hD.below); clear hD))
        refine bodyPost_ret (results_tmp3 rfl _ _ _) rfl ?_
        exact ⟨_, rfl, Kd.R_nil _ _ _ _ _, HB.out⟩
      | true =>
        rw [if_pos rfl] at h1
        obtain ⟨b1, hm, h1⟩ := Option.bind_eq_some_iff.1 h1
        have HBV := Aside0.mk hm
        clear hm
        cases b1 with
        | false =>
          rw [if_neg (by decide)] at h1
          obtain ⟨rfl, h2⟩ := Prod.mk.inj (Option.some.inj h1)
          obtain ⟨rfl, rfl⟩ := Prod.mk.inj h2
          clear h1 h2
          go_enter Try.func8, Try.ntmps8
          go_wp2_with (first | (go_at_call 40; refine (HV.out _ (Below.refl _ _)).mono ?_; rintro e w2 ⟨rfl, hB⟩; have HB := Aside0.mk hB; clear hB) | (go_at_call 41; refine (spec_l08System.calls _ _ _ _ HSO.out).mono ?_; rintro e w2 ⟨rfl, hD⟩; have HB := Aside0.mk (below_then HB.out HB.out.size hD.below); clear hD) | (go_at_call 42; refine (spec_l02Flow.calls _ _ _ HFL.out).mono ?_; rintro e w2 ⟨rfl, hD⟩; have HB := Aside0.mk (below_then HB.out HB.out.size hD.below); clear hD) | (go_at_call 43; refine (spec_l00In.calls _ _ _ _ _ HBV.out).mono ?_; rintro e w2 ⟨rfl, hD⟩; have HB := Aside0.mk (below_then HB.out HB.out.size hD.below); clear hD))
          refine bodyPost_ret (results_tmp3 rfl _ _ _) rfl ?_
          exact ⟨_, rfl, Kd.R_nil _ _ _ _ _, HB.out⟩
        | true =>
          rw [if_pos rfl] at h1
          obtain ⟨goal, hm, h1⟩ := Option.bind_eq_some_iff.1 h1
          have HSH := Aside0.mk hm
          clear hm
          by_cases h8 : l0.length ≤ 8
          · rw [if_pos h8] at h1
            obtain ⟨hd, hhd, h5⟩ := Option.bind_eq_some_iff.1 h1
            obtain ⟨s1, hvis, h6⟩ := Option.bind_eq_some_iff.1 h5
            clear h1 h5
            have HHD := Aside0.mk hhd
            have HVIS := Aside0.mk hvis
            have H6 := Aside0.mk h6
            have H8 := Aside0.mk h8
            have HDL := Aside0.mk (show hd.length = l0.length by have := headsS_len _ _ _ _ _ _ hhd; simpa using this)
            clear hhd hvis h6 h8
            go_enter Try.func8, Try.ntmps8
            go_wp2_with (first | (go_at_call 40; refine (HV.out _ (Below.refl _ _)).mono ?_; rintro e w2 ⟨rfl, hB⟩; have HB := Aside0.mk hB; clear hB) | (go_at_call 41; refine (spec_l08System.calls _ _ _ _ HSO.out).mono ?_; rintro e w2 ⟨rfl, hD⟩; have HB := Aside0.mk (below_then HB.out HB.out.size hD.below); clear hD) | (go_at_call 42; refine (spec_l02Flow.calls _ _ _ HFL.out).mono ?_; rintro e w2 ⟨rfl, hD⟩; have HB := Aside0.mk (below_then HB.out HB.out.size hD.below); clear hD) | (go_at_call 43; refine (spec_l00In.calls _ _ _ _ _ HBV.out).mono ?_; rintro e w2 ⟨rfl, hD⟩; have HB := Aside0.mk (below_then HB.out HB.out.size hD.below); clear hD) | (go_at_call 44; refine (spec_l08Needs.calls _ _ _ _ _ HSH.out).mono ?_; rintro e w2 ⟨rfl, hD⟩; have HB := Aside0.mk (below_then HB.out HB.out.size hD.below); clear hD))
            have hPn := blk_new w2 (.cells #[.slice none 0 0, .int .i64 goal, .slice none 0 0, .slice none 0 0, .int .i64 (-1), .int .i64 0, .int .i64 a4, .bool false] 85)
            have HPG := Aside0.mk HB.out.size
            have HAT := Aside0.mk (fun W (hW : Below w.heap.size w W) (i : Nat) (hi : i < l0.length) => at_T38 (Kd.C_below HR0.out hW) (i : Int) (Int.natCast_nonneg i) (Int.ofNat_lt.2 hi))
            go_loopg [14] l0.length (fun gg s14 wr => ∃ (kk : Nat) (acc : List Int) (Ah : Option Addr) (ch : Nat), s14 = .int .i64 kk ∧ Aside0 (kk ≤ l0.length) ∧ Aside0 (l0.length - kk ≤ gg) ∧ Aside0 (acc.length = kk) ∧ Aside0 (headsS k l0 a3 (l0.length - kk) acc = some hd) ∧ Aside0 (Below w.heap.size w wr) ∧ Aside0 (wr.heap[w2.heap.size]? = some (.cells #[.slice Ah acc.length ch, .int .i64 goal, .slice none 0 0, .slice none 0 0, .int .i64 (-1), .int .i64 0, .int .i64 a4, .bool false] 85 (0, 0))) ∧ Aside0 (Kd.R (Kd.int .i64) 2 wr w.heap.size (fun _ => True) (.slice Ah acc.length ch) acc))
            case atStart => exact ⟨0, [], none, 0, rfl, ⟨Nat.zero_le _⟩, ⟨by omega⟩, ⟨rfl⟩, ⟨HHD.out⟩, ⟨below_alloc HB.out _⟩, ⟨hPn⟩, ⟨Kd.R_nil _ _ _ _ _⟩⟩
            case round =>
              obtain ⟨kk, acc, Ah, ch, rfl, hkk, hg, hal, hh, hB, hP, hR⟩ := hrel
              clear hPn
              obtain ⟨x0, x1, x2, x3, x4, x5, x6, x7, xf⟩ := cells8 hP.out
              by_cases hlt : kk < l0.length
              · have hltz : decide ((kk : Int) < (l0.length : Int)) = true := decide_eq_true (by omega)
                have z2 := eq_true (show (0 : Int) ≤ (kk : Int) by omega)
                have z3 := eq_true (show (kk : Int) < (l0.length : Int) by omega)
                have hh2 := hh.out
                rw [show l0.length - kk = (l0.length - (kk + 1)) + 1 by omega] at hh2
                unfold headsS at hh2
                rw [show l0.length - (l0.length - (kk + 1) + 1) = kk by omega] at hh2
                obtain ⟨y, hy, hh3⟩ := Option.bind_eq_some_iff.1 hh2
                obtain ⟨ad, A8, c8, e8, hx0, hx1, hl8, hC8⟩ := HAT.out wr hB.out kk hlt
                cases e8
                have HY := Aside0.mk (fun W (hW : Below wr.heap.size wr W) => spec_l08Head.calls k _ [rd_T38 l0 (kk : Int)] a3 y W (Kd.C_below (Kd.C_one (Kd.C_below HR0.out hB.out) _ (kk : Int) (Int.natCast_nonneg kk) (Int.ofNat_lt.2 hlt)) hW) hy)
                have HH3 := Aside0.mk hh3
                have HLT := Aside0.mk hlt
                have Y0 := fun (m : Nat) (o : Obj) => cell_al (pw_cell_below (pw_below_drewN (Below.refl _ _) m) x0) o
                clear hh hh2 hh3 hy hlt hl8 hC8 hx0 hx1
                go_wp2
                go_region_law
                  (first | (refine Kd.R_append_step (Kd.int .i64) (w0 := w) w.heap.size (by rfl) (.tmp 49) (.tmp 55) 24 2 (.int .i64 0) 8 rfl Try.underlying24 info2 rfl (by decide) (by omega) (.slice Ah acc.length ch) acc y [.int .i64 y] (fun _ => True) (fun _ => False) (by rfl) (by rfl) (by rfl) (fun _ hk => hk.elim) (fun _ _ => trivial) (by repeat (first | exact hR.out | apply Kd.R_drew | apply Kd.R_drewN)) (by repeat (first | exact hB.out | apply below_drew | apply pw_below_drewN)) (by exact hB.out.size) (by have := hal.out; have := HLT.out; have := H8.out; omega) ?_; intro v1 w4 ho hb4 hg4 hat; obtain ⟨A9, c9, h9⟩ := Kd.R_slice ho; rw [List.length_append, List.length_singleton] at h9; subst h9; have hP4 := blk_grown (by exact hP.out) hg4 (Kd.R_ne hR.out hP.out (by decide)); have n0 := (blk_cell hP4 0).trans rfl; have n1 := blk_frozen hP4 0) | (go_simp; go_at_call 45; refine (HY.out _ (by repeat (first | exact Below.refl _ _ | apply below_drew | apply pw_below_drewN))).mono ?_; rintro e w3 ⟨rfl, ⟨m3, rfl⟩⟩))
                all_goals go_wp2
                all_goals go_roundg (l0.length - (kk + 1))
                all_goals first
                  | (have := HLT.out; have := hg.out; omega)
                  | (have hlen : (acc ++ [y]).length = acc.length + 1 := (by simp)
                     exact ⟨kk + 1, acc ++ [y], A9, c9, by rw [show wrap64 ((kk : Int) + 1) = ((kk + 1 : Nat) : Int) by (have := HLT.out; have := H8.out; unfold wrap64; omega)], ⟨by have := HLT.out; omega⟩, ⟨by omega⟩, ⟨by rw [hlen, hal.out]⟩, ⟨HH3.out⟩, ⟨sput hb4 HPG.out 0 _⟩, ⟨by rw [hlen]; exact blk_set hP4 0 _⟩, ⟨by rw [hlen]; exact Kd.R_set ho hP4 (ne_int (by decide)) 0 _⟩⟩)
              · have hltz : decide ((kk : Int) < (l0.length : Int)) = false := decide_eq_false (by omega)
                have hk : kk = l0.length := by have := hkk.out; omega
                subst hk
                have hh2 := hh.out
                rw [Nat.sub_self] at hh2
                obtain rfl := Option.some.inj hh2
                have HS := Aside0.mk (⟨none, 0, none, 0, hP.out, ⟨Kd.R_nil _ _ _ _ _, Kd.R_nil _ _ _ _ _⟩, Kd.R_mono hR.out (fun _ _ => ⟨fun e => (by cases e), fun e => (by cases e)⟩)⟩ : StW wr w.heap.size w2.heap.size Ah acc.length ch acc ⟨goal, [], [], -1, 0, a4, false⟩)
                have HD8 := Aside0.mk (show acc.length ≤ 8 by have := HDL.out; have := H8.out; omega)
                have h6 := H6.out
                clear hh hh2 hltz H6
                cases qf : s1.full with
                | true =>
                  rw [if_pos qf] at h6
                  obtain ⟨rfl, h7⟩ := Prod.mk.inj (Option.some.inj h6)
                  obtain ⟨rfl, rfl⟩ := Prod.mk.inj h7
                  clear h6 h7
                  have hltz : decide ((l0.length : Int) < (l0.length : Int)) = false := decide_eq_false (by omega)
                  go_wp2_with (go_at_call 46; refine (runW.calls k w.heap.size w Ah ch acc HD8.out w2.heap.size HPG.out acc.length 0 (Nat.zero_add _) 0 _ s1 _ HVIS.out hB.out hB.out.size HS.out (by simp)).mono ?_; rintro e w5 ⟨rfl, hb5, hw5, hs5⟩; obtain ⟨A2, c2, A3, c3, ⟨t0, t1, t2, t3, t4, t5, t6, t7, tf⟩, _, _, _, hR5, _⟩ := hs5.open; (try rw [qf] at t7); have HB5 := Aside0.mk hb5; have HR5 := Aside0.mk hR5; clear hb5 hw5 hs5 hR5)
                  refine bodyPost_ret (results_tmp3 rfl _ _ _) rfl ?_
                  exact ⟨_, rfl, Kd.R_nil _ _ _ _ _, HB5.out⟩
                | false =>
                  rw [if_neg (by rw [qf]; decide)] at h6
                  have hltz : decide ((l0.length : Int) < (l0.length : Int)) = false := decide_eq_false (by omega)
                  by_cases ql : s1.least < 0
                  · rw [if_pos ql] at h6
                    obtain ⟨rfl, h7⟩ := Prod.mk.inj (Option.some.inj h6)
                    obtain ⟨rfl, rfl⟩ := Prod.mk.inj h7
                    have zl : decide (s1.least < 0) = true := decide_eq_true ql
                    clear h6 h7 ql
                    go_wp2_with (go_at_call 46; refine (runW.calls k w.heap.size w Ah ch acc HD8.out w2.heap.size HPG.out acc.length 0 (Nat.zero_add _) 0 _ s1 _ HVIS.out hB.out hB.out.size HS.out (by simp)).mono ?_; rintro e w5 ⟨rfl, hb5, hw5, hs5⟩; obtain ⟨A2, c2, A3, c3, ⟨t0, t1, t2, t3, t4, t5, t6, t7, tf⟩, _, _, _, hR5, _⟩ := hs5.open; (try rw [qf] at t7); have HB5 := Aside0.mk hb5; have HR5 := Aside0.mk hR5; clear hb5 hw5 hs5 hR5)
                    refine bodyPost_ret (results_tmp3 rfl _ _ _) rfl ?_
                    exact ⟨_, rfl, Kd.R_nil _ _ _ _ _, HB5.out⟩
                  · rw [if_neg ql] at h6
                    obtain ⟨rfl, h7⟩ := Prod.mk.inj (Option.some.inj h6)
                    obtain ⟨rfl, rfl⟩ := Prod.mk.inj h7
                    have zl : decide (s1.least < 0) = false := decide_eq_false ql
                    clear h6 h7 ql
                    go_wp2_with (go_at_call 46; refine (runW.calls k w.heap.size w Ah ch acc HD8.out w2.heap.size HPG.out acc.length 0 (Nat.zero_add _) 0 _ s1 _ HVIS.out hB.out hB.out.size HS.out (by simp)).mono ?_; rintro e w5 ⟨rfl, hb5, hw5, hs5⟩; obtain ⟨A2, c2, A3, c3, ⟨t0, t1, t2, t3, t4, t5, t6, t7, tf⟩, _, _, _, hR5, _⟩ := hs5.open; (try rw [qf] at t7); have HB5 := Aside0.mk hb5; have HR5 := Aside0.mk hR5; clear hb5 hw5 hs5 hR5)
                    go_quiet (fail)
                    go_wp2
                    refine bodyPost_ret (results_tmp3 rfl _ _ _) rfl ?_
                    exact ⟨_, rfl, Kd.R_mono (Kd.R_below HR5.out.2 (pw_below_drewN (Below.refl _ _) _)) (fun _ _ => trivial), pw_below_drewN HB5.out _⟩
          · rw [if_neg h8] at h1; cases h1

/-! ### laws_toInt64S: function 29 -/
def laws_toInt64S.l0 : Nat → List Int → List Int → Int → Option (List Int)
  | 0, _, _, _ => none
  | k + 1, x0, x3, x4 => if x4 < (x0.length : Int) then (if 0 ≤ x4 then (if x4 < (x3.length : Int) then (laws_toInt64S.l0 k x0 (x3.set (x4 : Int).toNat (rd x0 x4)) (wrap64 (x4 + 1))) else (none)) else (none)) else (some x3)
def laws_toInt64S.f (k : Nat) (l0 : List Int) : Option (List Int) := if 0 ≤ (l0.length : Int) then (if ((l0.length : Int) : Int).toNat ≤ 35184372088832 then (laws_toInt64S.l0 k l0 (List.replicate ((l0.length : Int) : Int).toNat 0) 0) else (none)) else (none)
theorem laws_toInt64S.mono_l : ∀ k, (∀ y0 y1 y2, LeO (laws_toInt64S.l0 k y0 y1 y2) (laws_toInt64S.l0 (k + 1) y0 y1 y2))
  | 0 => fun _ _ _ r h => by simp [laws_toInt64S.l0] at h
  | k + 1 => by
    have ih0 := laws_toInt64S.mono_l k
    · intro y0 y1 y2
      unfold laws_toInt64S.l0
      repeat' first
      | (with_reducible exact ih0 _ _ _)
      | (with_reducible exact LeO.refl _)
      | (with_reducible exact LeO.none _)
      | (with_reducible refine LeO.ite ?_ ?_)
      | (with_reducible refine LeO.bind ?_ (fun _ => ?_))
      | exact ih0 _ _ _
      | exact LeO.none _
      | refine LeO.ite ?_ ?_
      | refine LeO.bind ?_ (fun _ => ?_)
theorem laws_toInt64S.mono : ∀ a0 k, LeO (laws_toInt64S.f k a0) (laws_toInt64S.f (k + 1) a0) := by
  intro a0 k
  have ih0 := laws_toInt64S.mono_l k
  unfold laws_toInt64S.f
  repeat' first
      | (with_reducible exact ih0 _ _ _)
      | (with_reducible exact LeO.refl _)
      | (with_reducible exact LeO.none _)
      | (with_reducible refine LeO.ite ?_ ?_)
      | (with_reducible refine LeO.bind ?_ (fun _ => ?_))
      | exact ih0 _ _ _
      | exact LeO.none _
      | refine LeO.ite ?_ ?_
      | refine LeO.bind ?_ (fun _ => ?_)
set_option maxHeartbeats 8000000 in
set_option maxRecDepth 100000 in
theorem laws_toInt64S.calls (k : Nat) (A0 : Option Addr) (c0 : Nat) (l0 : List Int) (r : List Int) (w : World) (hr0 : Kd.C (Kd.int .i64) w A0 l0.length l0) (hc0 : l0.length ≤ c0) (h : laws_toInt64S.f k l0 = some r) :
    Calls Try.prog 29 #[.slice A0 l0.length c0] w fun e w' => ∃ v0_ : Value, e = .returned (v0_) ∧ Kd.R (Kd.int .i64) 2 w' w.heap.size (fun _ => True) v0_ r ∧ Below w.heap.size w w' := by
  have HR0 := Aside0.mk hr0
  have HC0 := Aside0.mk hc0
  clear hr0 hc0
  have HB := Aside0.mk (Below.refl w.heap.size w)
  have H : (if 0 ≤ (l0.length : Int) then (if ((l0.length : Int) : Int).toNat ≤ 35184372088832 then (laws_toInt64S.l0 k l0 (List.replicate ((l0.length : Int) : Int).toNat 0) 0) else (none)) else (none)) = some r := h
  clear h
  by_cases c2 : 0 ≤ (l0.length : Int)
  · rw [if_pos c2] at H
    have c2b0 := eq_true c2
    have c2b1 : decide (0 ≤ (l0.length : Int)) = true := decide_eq_true c2
    clear c2
    by_cases c3 : ((l0.length : Int) : Int).toNat ≤ 35184372088832
    · rw [if_pos c3] at H
      have c3b0 := eq_true c3
      have c3b1 : decide (((l0.length : Int) : Int).toNat ≤ 35184372088832) = true := decide_eq_true c3
      clear c3
      obtain ⟨y171, hy171⟩ : ∃ y_ : List Int, y_ = (List.replicate ((l0.length : Int) : Int).toNat 0) := ⟨_, rfl⟩
      replace H : (laws_toInt64S.l0 k l0 y171 0) = some r := by first | (rw [hy171]; with_reducible exact H) | (have H2_ := (Option.bind_some _ _).symm.trans H; rw [hy171]; with_reducible exact H2_) | (have H2_ := (Option.bind_some _ _).symm.trans H; with_reducible exact H2_) | with_reducible exact H | (rw [hy171]; exact H) | exact H
      have Ny171 := Aside0.mk hy171
      clear hy171
      have H' := Aside0.mk H
      clear H
      go_enter Try.func29, Try.ntmps29
      go_wp2_with (first | ((with_reducible refine gate_dst (N := 7) rfl ?_); refine Kd.R_make (Kd.int .i64) _ 2 rfl (N := 7) rfl 24 _ _ rfl (l0.length : Int) rfl rfl Try.underlying24 (.int .i64 0) 8 info2 rfl (by decide) (by omega) 0 (ok := fun _ => True) (okp := fun _ => True) rfl (fun _ hk => hk) trivial (of_decide_eq_true (by first | (with_reducible assumption) | assumption)) (Nat.le_trans (Nat.mul_le_mul_right _ (of_decide_eq_true (by first | (with_reducible assumption) | assumption) : (l0.length : Int).toNat ≤ 35184372088832)) (by omega)) (Below.refl _ _) (Nat.le_refl _) ?_; intro v172 w4 ho5 hb hg_ hnew_; clear hg_ hnew_; (first | rw [← Ny171.out] at ho5 | (simp only [Int.reduceToNat] at ho5; rw [← Ny171.out] at ho5)); have n0_ := Aside0.mk (Kd.R_lower ho5 (below_size (by repeat (first | (with_reducible first | exact HB.out | apply below_alloc | apply pw_below_drewN | apply below_drew1) | exact HB.out)))); have n1_ := Aside0.mk (below_step (by repeat (first | (with_reducible first | exact HB.out | apply below_alloc | apply pw_below_drewN | apply below_drew1) | exact HB.out)) hb); clear HB; have HO173 := n0_; have HB := n1_; clear n0_ n1_; clear hb ho5))
      go_loopg [4] k (fun kq v4 w' => ∃ (x3_1 : List Int) (x4_1 : Int), v4 = .int .i64 x4_1 ∧ Aside0 (laws_toInt64S.l0 kq l0 x3_1 x4_1 = some r) ∧ Aside0 (kq ≤ k) ∧ Aside0 (Kd.R (Kd.int .i64) 2 w' w.heap.size (fun _ => True) v172 x3_1) ∧ Aside0 (Below w.heap.size w w'))
      case atStart => exact ⟨(y171), (0), (by first | rfl | (simp; done) | (simp [*]; done)), H', ⟨Nat.le_refl _⟩, ⟨by (with_reducible repeat (first | apply Kd.R_alloc | apply Kd.R_drewN | apply Kd.R_drew)); exact HO173.out⟩, ⟨by repeat (first | (with_reducible first | exact HB.out | apply below_alloc | apply pw_below_drewN | apply below_drew1) | exact HB.out)⟩⟩
      case round =>
        clear H'
        try clear c2
        try clear c2b0
        try clear c2b1
        try clear p2
        try clear c3
        try clear c3b0
        try clear c3b1
        obtain ⟨x3_1, x4_1, rfl, HA, HK1, HO_3, HB⟩ := hrel
        cases gk with
        | zero => exact absurd HA.out (by simp [laws_toInt64S.l0])
        | succ k1 =>
          have H := HA.out
          clear HA
          simp only [laws_toInt64S.l0] at H
          by_cases c6 : x4_1 < (l0.length : Int)
          · rw [if_pos c6] at H
            have c6b0 : decide (x4_1 < (l0.length : Int)) = true := decide_eq_true c6
            clear c6
            by_cases c7 : 0 ≤ x4_1
            · rw [if_pos c7] at H
              have c7b0 : decide (0 ≤ x4_1) = true := decide_eq_true c7
              clear c7
              by_cases c8 : x4_1 < (x3_1.length : Int)
              · rw [if_pos c8] at H
                have c8b0 : decide (x4_1 < (x3_1.length : Int)) = true := decide_eq_true c8
                clear c8
                obtain ⟨y175, hy175⟩ : ∃ y_ : List Int, y_ = (x3_1.set (x4_1 : Int).toNat (rd l0 x4_1)) := ⟨_, rfl⟩
                replace H : (laws_toInt64S.l0 k1 l0 y175 (wrap64 (x4_1 + 1))) = some r := by first | (rw [hy175]; with_reducible exact H) | (have H2_ := (Option.bind_some _ _).symm.trans H; rw [hy175]; with_reducible exact H2_) | (have H2_ := (Option.bind_some _ _).symm.trans H; with_reducible exact H2_) | with_reducible exact H | (rw [hy175]; exact H) | exact H
                have Ny175 := Aside0.mk hy175
                clear hy175
                have H' := Aside0.mk H
                clear H
                have p174 : 0 ≤ (x4_1 : Int) := of_decide_eq_true (by first | (with_reducible assumption) | assumption)
                have q174 : x4_1 < (l0.length : Int) := of_decide_eq_true (by first | (with_reducible assumption) | assumption)
                obtain ⟨ad174, e174, hx174_0⟩ := Kd.at_int HR0.out x4_1 p174 q174
                cases e174
                replace hx174_0 := (HB.out.cell (World.block_lt_of_cell? w _ hx174_0)).trans hx174_0
                replace p174 := eq_true p174
                replace q174 := eq_true q174
                have p9 : 0 ≤ (x4_1 : Int) := of_decide_eq_true (by first | (with_reducible assumption) | assumption)
                have q9 : (x4_1 : Int) < ((x3_1.length : Int) : Int) := of_decide_eq_true (by first | (with_reducible assumption) | assumption)
                obtain ⟨go9, co9, eo9, gb9, gl9, cl9, HG9⟩ := Kd.R_form HO_3.out (by omega)
                (first | cases eo9 | (injection eo9 with ea_ en_ ec_; (first | subst ea_ | (injection ea_ with ea_; subst ea_)); subst ec_; clear en_))
                have GB9 := Aside0.mk gb9
                have GG9 := Aside0.mk HG9
                clear gb9 gl9 HG9
                obtain ⟨hx9_0, hf9_0⟩ := Kd.R_celln 0 HO_3.out (x4_1 : Int) p9 q9
                replace p9 := eq_true p9
                replace q9 := eq_true q9
                have HP10 := Kd.R_putg HO_3.out (x4_1 : Int) (rd l0 x4_1)
                go_wp2_with (first | ((with_reducible refine gate_store (t := 2) (p := 20) rfl ?_); refine store_event (t := 2) (p := 20) (v := ?vo_w11) (w1 := (wr.setCell ⟨go9, (x4_1 : Int).toNat, none⟩ (.int .i64 (rd l0 x4_1)))) ?hg ?ho ?hn ?hr ?_; (case ho => rfl); (case hg => rfl); (case hn => rfl); (case hr => first | (go_simp; done) | (go_simp; rfl)); intro w11 hw; have hg : wr.grownBy w11 (some go9) := (by rw [hw]; exact HP10.2); have hp_ : Kd.R (Kd.int .i64) 2 w11 w.heap.size (fun _ => True) (.slice (some ⟨go9, 0, none⟩) x3_1.length co9) y175 := (by rw [hw, Ny175.out]; exact HP10.1); clear HP10; have n0_ := Aside0.mk (hp_); have n1_ := Aside0.mk ((by rw [hw]; exact below_set (HB.out) GB9.out : Below w.heap.size w w11)); clear HO_3; clear HB; have HO_3 := n0_; have HB := n1_; clear n0_ n1_; clear hg hw hp_))
                go_roundg k1
                case measure => have := HK1.out; omega
                case rel => exact ⟨(y175), (wrap64 (x4_1 + 1)), (by first | rfl | (simp; done) | (simp [*]; done)), H', ⟨by have := HK1.out; omega⟩, ⟨by (with_reducible repeat (first | apply Kd.R_alloc | apply Kd.R_drewN | apply Kd.R_drew)); exact HO_3.out⟩, ⟨by repeat (first | (with_reducible first | exact HB.out | apply below_alloc | apply pw_below_drewN | apply below_drew1) | exact HB.out)⟩⟩
              · rw [if_neg c8] at H
                exact absurd H (by simp)
            · rw [if_neg c7] at H
              exact absurd H (by simp)
          · rw [if_neg c6] at H
            have c6b0 : decide (x4_1 < (l0.length : Int)) = false := decide_eq_false c6
            clear c6
            obtain rfl := Option.some.inj H
            go_wp2
            go_ret
            exact ⟨_, by first | rfl | (simp [errW_none, errW_some] <;> rfl) | (simp [*, errW_none, errW_some] <;> rfl), by (with_reducible repeat (first | apply Kd.R_alloc | apply Kd.R_drewN | apply Kd.R_drew)); exact HO_3.out, by repeat (first | (with_reducible first | exact HB.out | apply below_alloc | apply pw_below_drewN | apply below_drew1) | exact HB.out)⟩
    · rw [if_neg c3] at H
      exact absurd H (by simp)
  · rw [if_neg c2] at H
    exact absurd H (by simp)

end Go.Proofs.Ytndbgkcjccejdaa.PFnExactCheapestPumps
