-- written by a program of this session (mkp.py) out of the translation; Lean checks it.
import Derived.Deep.RegionLaw
import Derived.Test.YtndbgkcjccejdaaPFnExactCheapestPumpsx0
import Derived.Test.YtndbgkcjccejdaaPFnExactCheapestPumpsx5
import Derived.Test.YtndbgkcjccejdaaPFnExactCheapestPumpsx8
import Derived.Test.YtndbgkcjccejdaaPFnExactCheapestPumpsx9
import Derived.Test.YtndbgkcjccejdaaPFnExactCheapestPumpsx10
namespace Go.Proofs.Ytndbgkcjccejdaa.PFnExactCheapestPumps
open Go.RowKit Go.Proofs.YtndbgkcjccejdaaW.PrintWords Go.Proofs.YtndbgkcjccejdaaW.PrintLast Go.Proofs.YtndbgkcjccejdaaW.PrintMore
attribute [local go_sem] bin_leq bin_gtr bin_geq max2_int min2_int max_two min_two max_three min_three max_four min_four   -- for this text's walks alone
set_option linter.unusedVariables false
set_option linter.unusedSimpArgs false

/-! ### slices_Compare_int64_int64: function 107 -/
def slices_Compare_int64_int64.l0 : Nat → List Int → List Int → List Int → Int → Int → Option (Int)
  | 0, _, _, _, _, _ => none
  | k + 1, x0, x1, x9, x10, x11 => if x11 < x10 then (if 0 ≤ x11 then (if x11 < (x9.length : Int) then (if x11 ≥ (x1.length : Int) then (some 1) else (if x11 < (x1.length : Int) then ((cmp_Compare_int64.f (rd x9 x11) (rd x1 x11)).bind fun t248 => (if t248 = 0 then (slices_Compare_int64_int64.l0 k x0 x1 x9 x10 (wrap64 (x11 + 1))) else (some t248))) else (none))) else (none)) else (none)) else (if (x0.length : Int) < (x1.length : Int) then (some (-1)) else (some 0))
def slices_Compare_int64_int64.f (k : Nat) (l0 : List Int) (l1 : List Int) : Option (Int) := slices_Compare_int64_int64.l0 k l0 l1 l0 (l0.length : Int) 0
theorem slices_Compare_int64_int64.mono_l : ∀ k, (∀ y0 y1 y2 y3 y4, LeO (slices_Compare_int64_int64.l0 k y0 y1 y2 y3 y4) (slices_Compare_int64_int64.l0 (k + 1) y0 y1 y2 y3 y4))
  | 0 => fun _ _ _ _ _ r h => by simp [slices_Compare_int64_int64.l0] at h
  | k + 1 => by
    have ih0 := slices_Compare_int64_int64.mono_l k
    · intro y0 y1 y2 y3 y4
      unfold slices_Compare_int64_int64.l0
      repeat' first
      | (with_reducible exact ih0 _ _ _ _ _)
      | (with_reducible exact LeO.refl _)
      | (with_reducible exact LeO.none _)
      | (with_reducible refine LeO.ite ?_ ?_)
      | (with_reducible refine LeO.bind ?_ (fun _ => ?_))
      | exact ih0 _ _ _ _ _
      | exact LeO.none _
      | refine LeO.ite ?_ ?_
      | refine LeO.bind ?_ (fun _ => ?_)
theorem slices_Compare_int64_int64.mono : ∀ a0 a1 k, LeO (slices_Compare_int64_int64.f k a0 a1) (slices_Compare_int64_int64.f (k + 1) a0 a1) := by
  intro a0 a1 k
  have ih0 := slices_Compare_int64_int64.mono_l k
  unfold slices_Compare_int64_int64.f
  repeat' first
      | (with_reducible exact ih0 _ _ _ _ _)
      | (with_reducible exact LeO.refl _)
      | (with_reducible exact LeO.none _)
      | (with_reducible refine LeO.ite ?_ ?_)
      | (with_reducible refine LeO.bind ?_ (fun _ => ?_))
      | exact ih0 _ _ _ _ _
      | exact LeO.none _
      | refine LeO.ite ?_ ?_
      | refine LeO.bind ?_ (fun _ => ?_)
set_option maxHeartbeats 8000000 in
set_option maxRecDepth 100000 in
theorem slices_Compare_int64_int64.calls (k : Nat) (A0 : Option Addr) (c0 : Nat) (l0 : List Int) (A1 : Option Addr) (c1 : Nat) (l1 : List Int) (r : Int) (w : World) (hr0 : Kd.C (Kd.int .i64) w A0 l0.length l0) (hc0 : l0.length ≤ c0) (hr1 : Kd.C (Kd.int .i64) w A1 l1.length l1) (hc1 : l1.length ≤ c1) (h : slices_Compare_int64_int64.f k l0 l1 = some r) :
    Calls Try.prog 107 #[.slice A0 l0.length c0, .slice A1 l1.length c1] w fun e w' => e = .returned (.int .i64 r) ∧ Drawn0 w w' := by
  have HR0 := Aside0.mk hr0
  have HC0 := Aside0.mk hc0
  clear hr0 hc0
  have HR1 := Aside0.mk hr1
  have HC1 := Aside0.mk hc1
  clear hr1 hc1
  have H : (slices_Compare_int64_int64.l0 k l0 l1 l0 (l0.length : Int) 0) = some r := h
  clear h
  have H' := Aside0.mk H
  clear H
  go_enter Try.func107, Try.ntmps107
  go_wp2
  go_loopg [11] k (fun kq v11 w' => ∃ (x11_1 : Int), v11 = .int .i64 x11_1 ∧ Aside0 (slices_Compare_int64_int64.l0 kq l0 l1 l0 (l0.length : Int) x11_1 = some r) ∧ Aside0 (kq ≤ k) ∧ Drawn0 w w')
  case atStart => exact ⟨(0), (by first | rfl | (simp; done) | (simp [*]; done)), H', ⟨Nat.le_refl _⟩, by repeat (first | exact Drawn0.refl _ | apply Drawn0.step)⟩
  case round =>
    clear H'
    try clear c1
    try clear p2
    obtain ⟨x11_1, rfl, HA, HK1, ⟨m1, rfl⟩⟩ := hrel
    cases gk with
    | zero => exact absurd HA.out (by simp [slices_Compare_int64_int64.l0])
    | succ k1 =>
      have H := HA.out
      clear HA
      simp only [slices_Compare_int64_int64.l0] at H
      by_cases c3 : x11_1 < (l0.length : Int)
      · rw [if_pos c3] at H
        have c3b0 : decide (x11_1 < (l0.length : Int)) = true := decide_eq_true c3
        clear c3
        by_cases c4 : 0 ≤ x11_1
        · rw [if_pos c4] at H
          have c4b0 : decide (0 ≤ x11_1) = true := decide_eq_true c4
          clear c4
          by_cases c5 : x11_1 < (l0.length : Int)
          · rw [if_pos c5] at H
            have c5b0 : decide (x11_1 < (l0.length : Int)) = true := decide_eq_true c5
            clear c5
            by_cases c6 : x11_1 ≥ (l1.length : Int)
            · rw [if_pos c6] at H
              have c6b0 : decide ((l1.length : Int) ≤ x11_1) = true := decide_eq_true c6
              clear c6
              obtain rfl := Option.some.inj H
              have p246 : 0 ≤ (x11_1 : Int) := of_decide_eq_true (by first | (with_reducible assumption) | assumption)
              have q246 : x11_1 < (l0.length : Int) := of_decide_eq_true (by first | (with_reducible assumption) | assumption)
              obtain ⟨ad246, e246, hx246_0⟩ := Kd.at_int HR0.out x11_1 p246 q246
              cases e246
              replace p246 := eq_true p246
              replace q246 := eq_true q246
              go_wp2
              go_ret
              exact ⟨by first | rfl | (simp; done) | (simp [*]; done), by repeat (first | exact Drawn0.refl _ | apply Drawn0.step)⟩
            · rw [if_neg c6] at H
              have c6b0 : decide ((l1.length : Int) ≤ x11_1) = false := decide_eq_false c6
              clear c6
              by_cases c7 : x11_1 < (l1.length : Int)
              · rw [if_pos c7] at H
                have c7b0 : decide (x11_1 < (l1.length : Int)) = true := decide_eq_true c7
                clear c7
                replace H := Option.bind_eq_some_iff.mp H
                obtain ⟨t248, A80, H⟩ := H
                replace H : (if t248 = 0 then (slices_Compare_int64_int64.l0 k1 l0 l1 l0 (l0.length : Int) (wrap64 (x11_1 + 1))) else (some t248)) = some r := H
                have A8 := Aside0.mk A80
                clear A80
                by_cases c9 : t248 = 0
                · rw [if_pos c9] at H
                  have c9b0 : (t248 == 0) = true := beq_iff_eq.mpr c9
                  have c9b1 : (t248 != 0) = false := bne_eq_false_iff_eq.mpr c9
                  clear c9
                  have H' := Aside0.mk H
                  clear H
                  have p246 : 0 ≤ (x11_1 : Int) := of_decide_eq_true (by first | (with_reducible assumption) | assumption)
                  have q246 : x11_1 < (l0.length : Int) := of_decide_eq_true (by first | (with_reducible assumption) | assumption)
                  obtain ⟨ad246, e246, hx246_0⟩ := Kd.at_int HR0.out x11_1 p246 q246
                  cases e246
                  replace p246 := eq_true p246
                  replace q246 := eq_true q246
                  have p247 : 0 ≤ (x11_1 : Int) := of_decide_eq_true (by first | (with_reducible assumption) | assumption)
                  have q247 : x11_1 < (l1.length : Int) := of_decide_eq_true (by first | (with_reducible assumption) | assumption)
                  obtain ⟨ad247, e247, hx247_0⟩ := Kd.at_int HR1.out x11_1 p247 q247
                  cases e247
                  replace p247 := eq_true p247
                  replace q247 := eq_true q247
                  go_wp2_with (first | ((with_reducible refine gate_callee (f := 95) rfl ?_); refine goesL_ (some 26) rfl rfl Try.func95 (by kernel_rfl) rfl #[.int .i64 (rd l0 x11_1), .int .i64 (rd l1 x11_1)] rfl (by (try simp only [List.map_toArray, List.map_cons, List.map_nil]); first | done | rfl | (simp only [List.length_drop, List.length_take]; rfl)) ?_; (with_reducible refine (cmp_Compare_int64.calls (rd l0 x11_1) (rd l1 x11_1) t248 _ A8.out).mono ?_); rintro e w' ⟨rfl, ⟨nd, rfl⟩⟩; refine ⟨_, rfl, ?_⟩))
                  go_roundg k1
                  case measure => have := HK1.out; omega
                  case rel => exact ⟨(wrap64 (x11_1 + 1)), (by first | rfl | (simp; done) | (simp [*]; done)), H', ⟨by have := HK1.out; omega⟩, by repeat (first | exact Drawn0.refl _ | apply Drawn0.step)⟩
                · rw [if_neg c9] at H
                  have c9b0 : (t248 == 0) = false := beq_eq_false_iff_ne.mpr c9
                  have c9b1 : (t248 != 0) = true := bne_iff_ne.mpr c9
                  obtain rfl := Option.some.inj H
                  have p246 : 0 ≤ (x11_1 : Int) := of_decide_eq_true (by first | (with_reducible assumption) | assumption)
                  have q246 : x11_1 < (l0.length : Int) := of_decide_eq_true (by first | (with_reducible assumption) | assumption)
                  obtain ⟨ad246, e246, hx246_0⟩ := Kd.at_int HR0.out x11_1 p246 q246
                  cases e246
                  replace p246 := eq_true p246
                  replace q246 := eq_true q246
                  have p247 : 0 ≤ (x11_1 : Int) := of_decide_eq_true (by first | (with_reducible assumption) | assumption)
                  have q247 : x11_1 < (l1.length : Int) := of_decide_eq_true (by first | (with_reducible assumption) | assumption)
                  obtain ⟨ad247, e247, hx247_0⟩ := Kd.at_int HR1.out x11_1 p247 q247
                  cases e247
                  replace p247 := eq_true p247
                  replace q247 := eq_true q247
                  go_wp2_with (first | ((with_reducible refine gate_callee (f := 95) rfl ?_); refine goesL_ (some 26) rfl rfl Try.func95 (by kernel_rfl) rfl #[.int .i64 (rd l0 x11_1), .int .i64 (rd l1 x11_1)] rfl (by (try simp only [List.map_toArray, List.map_cons, List.map_nil]); first | done | rfl | (simp only [List.length_drop, List.length_take]; rfl)) ?_; (with_reducible refine (cmp_Compare_int64.calls (rd l0 x11_1) (rd l1 x11_1) t248 _ A8.out).mono ?_); rintro e w' ⟨rfl, ⟨nd, rfl⟩⟩; refine ⟨_, rfl, ?_⟩))
                  go_ret
                  exact ⟨by first | rfl | (simp; done) | (simp [*]; done), by repeat (first | exact Drawn0.refl _ | apply Drawn0.step)⟩
              · rw [if_neg c7] at H
                exact absurd H (by simp)
          · rw [if_neg c5] at H
            exact absurd H (by simp)
        · rw [if_neg c4] at H
          exact absurd H (by simp)
      · rw [if_neg c3] at H
        have c3b0 : decide (x11_1 < (l0.length : Int)) = false := decide_eq_false c3
        clear c3
        by_cases c10 : (l0.length : Int) < (l1.length : Int)
        · rw [if_pos c10] at H
          have c10b0 : decide ((l0.length : Int) < (l1.length : Int)) = true := decide_eq_true c10
          have c10b1 : decide (l0.length < l1.length) = true := decide_eq_true (Int.ofNat_lt.mp c10)
          clear c10
          obtain rfl := Option.some.inj H
          go_wp2
          go_ret
          exact ⟨by first | rfl | (simp; done) | (simp [*]; done), by repeat (first | exact Drawn0.refl _ | apply Drawn0.step)⟩
        · rw [if_neg c10] at H
          have c10b0 : decide ((l0.length : Int) < (l1.length : Int)) = false := decide_eq_false c10
          have c10b1 : decide (l0.length < l1.length) = false := decide_eq_false (fun h => c10 (Int.ofNat_lt.mpr h))
          clear c10
          obtain rfl := Option.some.inj H
          go_wp2
          go_ret
          exact ⟨by first | rfl | (simp; done) | (simp [*]; done), by repeat (first | exact Drawn0.refl _ | apply Drawn0.step)⟩

-- NOT PRINTED: function 53 (impl_pumpSearch_visit)

/-! ### impl_CheapestPumps: function 10 -/
theorem cells6 {w : World} {p t : Nat} {x0 x1 x2 x3 x4 x5 : Value} (h : w.heap[p]? = some (.cells #[x0, x1, x2, x3, x4, x5] t (0, 0))) :
    w.cell? ⟨p, 0, none⟩ = some x0 ∧ w.cell? ⟨p, 1, none⟩ = some x1 ∧ w.cell? ⟨p, 2, none⟩ = some x2 ∧ w.cell? ⟨p, 3, none⟩ = some x3 ∧ w.cell? ⟨p, 4, none⟩ = some x4 ∧ w.cell? ⟨p, 5, none⟩ = some x5 ∧ ∀ i, w.frozen? ⟨p, i, none⟩ = false :=
  ⟨(blk_cell h 0).trans rfl, (blk_cell h 1).trans rfl, (blk_cell h 2).trans rfl, (blk_cell h 3).trans rfl, (blk_cell h 4).trans rfl, (blk_cell h 5).trans rfl, fun i => blk_frozen h i⟩
def sets6 (w : World) (g : Nat) (y0 y1 y2 y3 y4 y5 : Value) : World := ((((((w.setCell ⟨g, 0, none⟩ y0).setCell ⟨g, 1, none⟩ y1).setCell ⟨g, 2, none⟩ y2).setCell ⟨g, 3, none⟩ y3).setCell ⟨g, 4, none⟩ y4).setCell ⟨g, 5, none⟩ y5)
theorem sets6_blk {w : World} {g t : Nat} {x0 x1 x2 x3 x4 x5 : Value} (hb : w.heap[g]? = some (.cells #[x0, x1, x2, x3, x4, x5] t (0, 0))) (y0 y1 y2 y3 y4 y5 : Value) : (sets6 w g y0 y1 y2 y3 y4 y5).heap[g]? = some (.cells #[y0, y1, y2, y3, y4, y5] t (0, 0)) := by
  have h1 : (w.setCell ⟨g, 0, none⟩ y0).heap[g]? = some (.cells #[y0, x1, x2, x3, x4, x5] t (0, 0)) := blk_set hb 0 y0
  have h2 : ((w.setCell ⟨g, 0, none⟩ y0).setCell ⟨g, 1, none⟩ y1).heap[g]? = some (.cells #[y0, y1, x2, x3, x4, x5] t (0, 0)) := blk_set h1 1 y1
  have h3 : (((w.setCell ⟨g, 0, none⟩ y0).setCell ⟨g, 1, none⟩ y1).setCell ⟨g, 2, none⟩ y2).heap[g]? = some (.cells #[y0, y1, y2, x3, x4, x5] t (0, 0)) := blk_set h2 2 y2
  have h4 : ((((w.setCell ⟨g, 0, none⟩ y0).setCell ⟨g, 1, none⟩ y1).setCell ⟨g, 2, none⟩ y2).setCell ⟨g, 3, none⟩ y3).heap[g]? = some (.cells #[y0, y1, y2, y3, x4, x5] t (0, 0)) := blk_set h3 3 y3
  have h5 : (((((w.setCell ⟨g, 0, none⟩ y0).setCell ⟨g, 1, none⟩ y1).setCell ⟨g, 2, none⟩ y2).setCell ⟨g, 3, none⟩ y3).setCell ⟨g, 4, none⟩ y4).heap[g]? = some (.cells #[y0, y1, y2, y3, y4, x5] t (0, 0)) := blk_set h4 4 y4
  have h6 : ((((((w.setCell ⟨g, 0, none⟩ y0).setCell ⟨g, 1, none⟩ y1).setCell ⟨g, 2, none⟩ y2).setCell ⟨g, 3, none⟩ y3).setCell ⟨g, 4, none⟩ y4).setCell ⟨g, 5, none⟩ y5).heap[g]? = some (.cells #[y0, y1, y2, y3, y4, y5] t (0, 0)) := blk_set h5 5 y5
  exact h6
theorem sets6_below {b : Nat} {w W : World} (h : Below b w W) {g : Nat} (hg : b ≤ g) (y0 y1 y2 y3 y4 y5 : Value) : Below b w (sets6 W g y0 y1 y2 y3 y4 y5) := (sput (sput (sput (sput (sput (sput h hg 0 y0) hg 1 y1) hg 2 y2) hg 3 y3) hg 4 y4) hg 5 y5)
theorem rows2_sets6 {w : World} {base g t : Nat} {x0 x1 x2 x3 x4 x5 v2 v3 : Value} {bu be : List Int} (h : Rows2 w base v2 v3 bu be) (hb : w.heap[g]? = some (.cells #[x0, x1, x2, x3, x4, x5] t (0, 0))) (ht : t ≠ 2) (y0 y1 y2 y3 y4 y5 : Value) : Rows2 (sets6 w g y0 y1 y2 y3 y4 y5) base v2 v3 bu be := by
  have h1 : (w.setCell ⟨g, 0, none⟩ y0).heap[g]? = some (.cells #[y0, x1, x2, x3, x4, x5] t (0, 0)) := blk_set hb 0 y0
  have h2 : ((w.setCell ⟨g, 0, none⟩ y0).setCell ⟨g, 1, none⟩ y1).heap[g]? = some (.cells #[y0, y1, x2, x3, x4, x5] t (0, 0)) := blk_set h1 1 y1
  have h3 : (((w.setCell ⟨g, 0, none⟩ y0).setCell ⟨g, 1, none⟩ y1).setCell ⟨g, 2, none⟩ y2).heap[g]? = some (.cells #[y0, y1, y2, x3, x4, x5] t (0, 0)) := blk_set h2 2 y2
  have h4 : ((((w.setCell ⟨g, 0, none⟩ y0).setCell ⟨g, 1, none⟩ y1).setCell ⟨g, 2, none⟩ y2).setCell ⟨g, 3, none⟩ y3).heap[g]? = some (.cells #[y0, y1, y2, y3, x4, x5] t (0, 0)) := blk_set h3 3 y3
  have h5 : (((((w.setCell ⟨g, 0, none⟩ y0).setCell ⟨g, 1, none⟩ y1).setCell ⟨g, 2, none⟩ y2).setCell ⟨g, 3, none⟩ y3).setCell ⟨g, 4, none⟩ y4).heap[g]? = some (.cells #[y0, y1, y2, y3, y4, x5] t (0, 0)) := blk_set h4 4 y4
  have h6 : ((((((w.setCell ⟨g, 0, none⟩ y0).setCell ⟨g, 1, none⟩ y1).setCell ⟨g, 2, none⟩ y2).setCell ⟨g, 3, none⟩ y3).setCell ⟨g, 4, none⟩ y4).setCell ⟨g, 5, none⟩ y5).heap[g]? = some (.cells #[y0, y1, y2, y3, y4, y5] t (0, 0)) := blk_set h5 5 y5
  exact (Rows2.set (Rows2.set (Rows2.set (Rows2.set (Rows2.set (Rows2.set h hb ht 0 y0) h1 ht 1 y1) h2 ht 2 y2) h3 ht 3 y3) h4 ht 4 y4) h5 ht 5 y5)
structure SVP where
  goal : Int
  budget : Int
  some : List Int
  best : List Int
  least : Int
def StP (w : World) (base p : Nat) (Aheads : Option Addr) (nheads cheads : Nat) (Lheads : List Int) (s : SVP) : Prop := ∃ A2 c2 A3 c3,
  w.heap[p]? = some (.cells #[.slice Aheads nheads cheads, .int .i64 s.goal, .int .i64 s.budget, .slice A2 s.some.length c2, .slice A3 s.best.length c3, .int .i64 s.least] 91 (0, 0)) ∧ Rows2 w base (.slice A2 s.some.length c2) (.slice A3 s.best.length c3) s.some s.best ∧ R1 w base (.slice A2 s.some.length c2) (.slice A3 s.best.length c3) (.slice Aheads nheads cheads) Lheads
theorem StP.below {w' : World} {w : World} {base p : Nat} {Aheads : Option Addr} {nheads cheads : Nat} {Lheads : List Int} {s : SVP} (h : StP w base p Aheads nheads cheads Lheads s) (hb : Below w.heap.size w w') : StP w' base p Aheads nheads cheads Lheads s := by
  obtain ⟨A2, c2, A3, c3, hP, hR, hR1⟩ := h
  exact ⟨A2, c2, A3, c3, blk_below hP hb, hR.below hb, hR1.below hb⟩
theorem StP.size {w : World} {base p : Nat} {Aheads : Option Addr} {nheads cheads : Nat} {Lheads : List Int} {s : SVP} (h : StP w base p Aheads nheads cheads Lheads s) : p < w.heap.size := by
  obtain ⟨A2, c2, A3, c3, hP, _⟩ := h
  exact blk_lt hP
theorem StP.set_goal {w : World} {base p : Nat} {Aheads : Option Addr} {nheads cheads : Nat} {Lheads : List Int} {s : SVP} (h : StP w base p Aheads nheads cheads Lheads s) (x : Int) : StP (w.setCell ⟨p, 1, none⟩ (.int .i64 x)) base p Aheads nheads cheads Lheads ⟨x, s.budget, s.some, s.best, s.least⟩ := by
  obtain ⟨A2, c2, A3, c3, hP, hR, hR1⟩ := h
  exact ⟨A2, c2, A3, c3, blk_set hP 1 _, hR.set hP (by decide) 1 _, hR1.set hP (by decide) 1 _⟩
theorem StP.set_budget {w : World} {base p : Nat} {Aheads : Option Addr} {nheads cheads : Nat} {Lheads : List Int} {s : SVP} (h : StP w base p Aheads nheads cheads Lheads s) (x : Int) : StP (w.setCell ⟨p, 2, none⟩ (.int .i64 x)) base p Aheads nheads cheads Lheads ⟨s.goal, x, s.some, s.best, s.least⟩ := by
  obtain ⟨A2, c2, A3, c3, hP, hR, hR1⟩ := h
  exact ⟨A2, c2, A3, c3, blk_set hP 2 _, hR.set hP (by decide) 2 _, hR1.set hP (by decide) 2 _⟩
theorem StP.put_some {w : World} {base p : Nat} {Aheads : Option Addr} {nheads cheads : Nat} {Lheads : List Int} {s : SVP} {A9 A3 : Option Addr} {n9 c9 c3 : Nat} {u : Value} {xs : List Int} (hP : w.heap[p]? = some (.cells #[.slice Aheads nheads cheads, .int .i64 s.goal, .int .i64 s.budget, u, .slice A3 s.best.length c3, .int .i64 s.least] 91 (0, 0))) (hR : Rows2 w base (.slice A9 n9 c9) (.slice A3 s.best.length c3) xs s.best) (hR1 : R1 w base (.slice A9 n9 c9) (.slice A3 s.best.length c3) (.slice Aheads nheads cheads) Lheads) (hn : n9 = xs.length) : StP (w.setCell ⟨p, 3, none⟩ (.slice A9 n9 c9)) base p Aheads nheads cheads Lheads ⟨s.goal, s.budget, xs, s.best, s.least⟩ := by
  subst hn
  exact ⟨A9, c9, A3, c3, blk_set hP 3 _, hR.set hP (by decide) 3 _, hR1.set hP (by decide) 3 _⟩
theorem StP.put_best {w : World} {base p : Nat} {Aheads : Option Addr} {nheads cheads : Nat} {Lheads : List Int} {s : SVP} {A9 A2 : Option Addr} {n9 c9 c2 : Nat} {u : Value} {xs : List Int} (hP : w.heap[p]? = some (.cells #[.slice Aheads nheads cheads, .int .i64 s.goal, .int .i64 s.budget, .slice A2 s.some.length c2, u, .int .i64 s.least] 91 (0, 0))) (hR : Rows2 w base (.slice A2 s.some.length c2) (.slice A9 n9 c9) s.some xs) (hR1 : R1 w base (.slice A2 s.some.length c2) (.slice A9 n9 c9) (.slice Aheads nheads cheads) Lheads) (hn : n9 = xs.length) : StP (w.setCell ⟨p, 4, none⟩ (.slice A9 n9 c9)) base p Aheads nheads cheads Lheads ⟨s.goal, s.budget, s.some, xs, s.least⟩ := by
  subst hn
  exact ⟨A2, c2, A9, c9, blk_set hP 4 _, hR.set hP (by decide) 4 _, hR1.set hP (by decide) 4 _⟩
theorem StP.set_least {w : World} {base p : Nat} {Aheads : Option Addr} {nheads cheads : Nat} {Lheads : List Int} {s : SVP} (h : StP w base p Aheads nheads cheads Lheads s) (x : Int) : StP (w.setCell ⟨p, 5, none⟩ (.int .i64 x)) base p Aheads nheads cheads Lheads ⟨s.goal, s.budget, s.some, s.best, x⟩ := by
  obtain ⟨A2, c2, A3, c3, hP, hR, hR1⟩ := h
  exact ⟨A2, c2, A3, c3, blk_set hP 5 _, hR.set hP (by decide) 5 _, hR1.set hP (by decide) 5 _⟩
theorem StP.open {w : World} {base p : Nat} {Aheads : Option Addr} {nheads cheads : Nat} {Lheads : List Int} {s : SVP} (h : StP w base p Aheads nheads cheads Lheads s) : ∃ A2 c2 A3 c3,
    (w.cell? ⟨p, 0, none⟩ = some (.slice Aheads nheads cheads) ∧ w.cell? ⟨p, 1, none⟩ = some (.int .i64 s.goal) ∧ w.cell? ⟨p, 2, none⟩ = some (.int .i64 s.budget) ∧ w.cell? ⟨p, 3, none⟩ = some (.slice A2 s.some.length c2) ∧ w.cell? ⟨p, 4, none⟩ = some (.slice A3 s.best.length c3) ∧ w.cell? ⟨p, 5, none⟩ = some (.int .i64 s.least) ∧ ∀ i, w.frozen? ⟨p, i, none⟩ = false) ∧
    (s.some.length ≤ c2 ∧ Kd.C (Kd.int .i64) w A2 s.some.length s.some) ∧ (s.best.length ≤ c3 ∧ Kd.C (Kd.int .i64) w A3 s.best.length s.best) ∧
    w.heap[p]? = some (.cells #[.slice Aheads nheads cheads, .int .i64 s.goal, .int .i64 s.budget, .slice A2 s.some.length c2, .slice A3 s.best.length c3, .int .i64 s.least] 91 (0, 0)) ∧ Rows2 w base (.slice A2 s.some.length c2) (.slice A3 s.best.length c3) s.some s.best ∧ R1 w base (.slice A2 s.some.length c2) (.slice A3 s.best.length c3) (.slice Aheads nheads cheads) Lheads := by
  obtain ⟨A2, c2, A3, c3, hP, hR, hR1⟩ := h
  exact ⟨A2, c2, A3, c3, cells6 hP, (Kd.R_reads' hR.1).2, (Kd.R_reads' hR.2).2, hP, hR, hR1⟩
/-- The search for pumps, from a place on. -/
def visitP (k : Nat) (hd : List Int) : Nat → Int → SVP → Option SVP
  | 0, g, s => if s.goal ≤ g then
      (if s.least < 0 then some ⟨s.goal, s.budget, s.some, s.some, g⟩
       else if g < s.least then some ⟨s.goal, s.budget, s.some, s.some, g⟩
       else if g = s.least then (slices_Compare_int64_int64.f k s.some s.best).bind fun c => if c < 0 then some ⟨s.goal, s.budget, s.some, s.some, g⟩ else some s
       else some s)
      else some s
  | d + 1, g, s =>
    if wrap64 (s.budget - 1) < 0 then some ⟨s.goal, wrap64 (s.budget - 1), s.some, s.best, s.least⟩ else
    (visitP k hd d (wrap64 (g + rd hd ((hd.length - (d + 1) : Nat) : Int))) ⟨s.goal, wrap64 (s.budget - 1), s.some ++ [((hd.length - (d + 1) : Nat) : Int)], s.best, s.least⟩).bind fun s2 =>
      if wrap64 (s2.budget - 1) < 0 then some ⟨s2.goal, wrap64 (s2.budget - 1), s2.some.take (s2.some.length - 1), s2.best, s2.least⟩
      else visitP k hd d g ⟨s2.goal, wrap64 (s2.budget - 1), s2.some.take (s2.some.length - 1), s2.best, s2.least⟩
theorem visitP_mono (k : Nat) (hd : List Int) : ∀ d g s, LeO (visitP k hd d g s) (visitP (k + 1) hd d g s)
  | 0, g, s => by
    unfold visitP
    exact LeO.ite (LeO.ite (LeO.refl _) (LeO.ite (LeO.refl _) (LeO.ite (LeO.bind (slices_Compare_int64_int64.mono _ _ k) (fun _ => LeO.refl _)) (LeO.refl _)))) (LeO.refl _)
  | d + 1, g, s => by
    unfold visitP
    exact LeO.ite (LeO.refl _) (LeO.bind (visitP_mono k hd d _ _) (fun _ => LeO.ite (LeO.refl _) (visitP_mono k hd d _ _)))
theorem visitP_some (k : Nat) (hd : List Int) : ∀ d g s s', visitP k hd d g s = Option.some s' → s'.some = s.some := by
  intro d
  induction d with
  | zero =>
    intro g s s' h
    unfold visitP at h
    split at h
    · split at h
      · obtain rfl := Option.some.inj h; rfl
      · split at h
        · obtain rfl := Option.some.inj h; rfl
        · split at h
          · obtain ⟨c, _, h⟩ := Option.bind_eq_some_iff.1 h
            split at h
            · obtain rfl := Option.some.inj h; rfl
            · obtain rfl := Option.some.inj h; rfl
          · obtain rfl := Option.some.inj h; rfl
    · obtain rfl := Option.some.inj h; rfl
  | succ d ih =>
    intro g s s' h
    unfold visitP at h
    split at h
    · obtain rfl := Option.some.inj h; rfl
    · obtain ⟨s2, h2, h⟩ := Option.bind_eq_some_iff.1 h
      have e := ih _ _ _ h2
      have t : s2.some.take (s2.some.length - 1) = s.some := by rw [e]; simp
      split at h
      · obtain rfl := Option.some.inj h; exact t
      · exact (ih _ _ _ h).trans t
set_option maxHeartbeats 4000000 in
set_option maxRecDepth 100000 in
/-- The search at its end, no pumps being left. -/
theorem visitP_0.calls (k : Nat) (b0 : Nat) (w0 : World) (Ah : Option Addr) (ch : Nat) (hd : List Int) (g : Int) (s s' : SVP) (w : World) (p : Nat) (h : visitP k hd 0 g s = some s') (hb : Below b0 w0 w) (hbw : b0 ≤ w.heap.size) (hp : b0 ≤ p) (hs : StP w b0 p Ah hd.length ch hd s) (hl : s.some.length ≤ 8) :
    Calls Try.prog 53 #[.pointer (some ⟨p, 0, none⟩), .int .i64 (hd.length : Int), .int .i64 g] w fun e w' => e = .returned (.tuple #[]) ∧ Below b0 w0 w' ∧ b0 ≤ w'.heap.size ∧ StP w' b0 p Ah hd.length ch hd s' := by
  unfold visitP at h
  obtain ⟨A2, c2, A3, c3, ⟨x0, x1, x2, x3, x4, x5, xf⟩, ⟨hc2, hC2⟩, ⟨hc3, hC3⟩, hP, hR, hR1⟩ := hs.open
  have HB := Aside0.mk hb
  have HS := Aside0.mk hs
  have HPP := Aside0.mk hp
  have HR := Aside0.mk hR
  have HR1 := Aside0.mk hR1
  have HP := Aside0.mk hP
  have HC2 := Aside0.mk hc2
  have HC3 := Aside0.mk hc3
  have HH := Aside0.mk (⟨hC2, hC3⟩ : Kd.C (Kd.int .i64) w A2 s.some.length s.some ∧ Kd.C (Kd.int .i64) w A3 s.best.length s.best)
  have HBW := Aside0.mk hbw
  have HCL := Aside0.mk (show slices_Clone_int64_int64.f s.some = some s.some by unfold slices_Clone_int64_int64.f; rw [if_pos (by omega)])
  clear hb hs hp hR hR1 hP hc2 hc3 hC2 hC3 hl hbw
  by_cases q1 : s.goal ≤ g
  · rw [if_pos q1] at h
    have z1 : decide (s.goal ≤ g) = true := decide_eq_true q1
    by_cases q2 : s.least < 0
    · rw [if_pos q2] at h
      have z2 : decide (s.least < 0) = true := decide_eq_true q2
      obtain rfl := Option.some.inj h
      clear h q1 q2
      go_enter Try.func53, Try.ntmps53
      go_wp2
      go_quiet (fail)
      go_wp2_with (go_at_call 90; refine (slices_Clone_int64_int64.calls A2 c2 s.some s.some _ (Kd.R_reads' (HR.out.drewN _).1).2.2 HC2.out HCL.out).mono ?_; rintro e w2 ⟨v, rfl, hRn, hb2⟩; obtain ⟨A9, c9, e9⟩ := Kd.R_slice hRn; subst e9; have hP2 := blk_below (show (w.drewN nq).heap[p]? = _ from HP.out) hb2; obtain ⟨u0, u1, u2, u3, u4, u5, uf⟩ := cells6 hP2; have HRn := Aside0.mk hRn; have HB2 := Aside0.mk hb2; have HP2 := Aside0.mk hP2; clear hRn hb2 hP2)
      ((try simp only [Exit.inBlock, Exit.then]); first | (refine bodyPost_ret (results_none rfl _ _ _) rfl ?_) | (refine bodyPost_end (results_none rfl _ _ _) rfl ?_))
      exact ⟨rfl, sput (sput (below_then (pw_below_drewN HB.out nq) HBW.out HB2.out) HPP.out 4 _) HPP.out 5 _, by simp; exact Nat.le_trans HBW.out HB2.out.size, StP.set_least (StP.put_best (s := s) HP2.out ((HR.out.drewN nq).clone HRn.out HB2.out HBW.out) ((HR1.out.drewN nq).clone HRn.out HB2.out) rfl) g⟩
    · rw [if_neg q2] at h
      have z2 : decide (s.least < 0) = false := decide_eq_false q2
      by_cases q3 : g < s.least
      · rw [if_pos q3] at h
        have z3 : decide (g < s.least) = true := decide_eq_true q3
        obtain rfl := Option.some.inj h
        clear h q1 q2 q3
        go_enter Try.func53, Try.ntmps53
        go_wp2
        go_quiet (fail)
        go_wp2_with (go_at_call 90; refine (slices_Clone_int64_int64.calls A2 c2 s.some s.some _ (Kd.R_reads' (HR.out.drewN _).1).2.2 HC2.out HCL.out).mono ?_; rintro e w2 ⟨v, rfl, hRn, hb2⟩; obtain ⟨A9, c9, e9⟩ := Kd.R_slice hRn; subst e9; have hP2 := blk_below (show (w.drewN nq).heap[p]? = _ from HP.out) hb2; obtain ⟨u0, u1, u2, u3, u4, u5, uf⟩ := cells6 hP2; have HRn := Aside0.mk hRn; have HB2 := Aside0.mk hb2; have HP2 := Aside0.mk hP2; clear hRn hb2 hP2)
        ((try simp only [Exit.inBlock, Exit.then]); first | (refine bodyPost_ret (results_none rfl _ _ _) rfl ?_) | (refine bodyPost_end (results_none rfl _ _ _) rfl ?_))
        exact ⟨rfl, sput (sput (below_then (pw_below_drewN HB.out nq) HBW.out HB2.out) HPP.out 4 _) HPP.out 5 _, by simp; exact Nat.le_trans HBW.out HB2.out.size, StP.set_least (StP.put_best (s := s) HP2.out ((HR.out.drewN nq).clone HRn.out HB2.out HBW.out) ((HR1.out.drewN nq).clone HRn.out HB2.out) rfl) g⟩
      · rw [if_neg q3] at h
        have z3 : decide (g < s.least) = false := decide_eq_false q3
        by_cases q4 : g = s.least
        · rw [if_pos q4] at h
          have z4 : (g == s.least) = true := by simpa using q4
          obtain ⟨c, hcm, h5⟩ := Option.bind_eq_some_iff.1 h
          have HCM := Aside0.mk (fun W (hW : Below w.heap.size w W) => slices_Compare_int64_int64.calls k A2 c2 s.some A3 c3 s.best c W (Kd.C_below HH.out.1 hW) HC2.out (Kd.C_below HH.out.2 hW) HC3.out hcm)
          clear h hcm q1 q2 q3 q4
          by_cases q5 : c < 0
          · rw [if_pos q5] at h5
            have z5 : decide (c < 0) = true := decide_eq_true q5
            obtain rfl := Option.some.inj h5
            clear h5 q5
            go_enter Try.func53, Try.ntmps53
            go_wp2
            go_quiet (first | (go_at_call 107; refine (HCM.out _ (pw_below_drewN (Below.refl _ _) _)).mono ?_; rintro e w' ⟨rfl, ⟨⟨nd, rfl⟩⟩⟩; (first | (with_reducible exact ⟨rfl, _, World.drewN_drewN _ _ _⟩) | exact ⟨rfl, _, rfl⟩)))
            go_wp2_with (go_at_call 90; refine (slices_Clone_int64_int64.calls A2 c2 s.some s.some _ (Kd.R_reads' (HR.out.drewN _).1).2.2 HC2.out HCL.out).mono ?_; rintro e w2 ⟨v, rfl, hRn, hb2⟩; obtain ⟨A9, c9, e9⟩ := Kd.R_slice hRn; subst e9; have hP2 := blk_below (show (w.drewN nq).heap[p]? = _ from HP.out) hb2; obtain ⟨u0, u1, u2, u3, u4, u5, uf⟩ := cells6 hP2; have HRn := Aside0.mk hRn; have HB2 := Aside0.mk hb2; have HP2 := Aside0.mk hP2; clear hRn hb2 hP2)
            ((try simp only [Exit.inBlock, Exit.then]); first | (refine bodyPost_ret (results_none rfl _ _ _) rfl ?_) | (refine bodyPost_end (results_none rfl _ _ _) rfl ?_))
            exact ⟨rfl, sput (sput (below_then (pw_below_drewN HB.out nq) HBW.out HB2.out) HPP.out 4 _) HPP.out 5 _, by simp; exact Nat.le_trans HBW.out HB2.out.size, StP.set_least (StP.put_best (s := s) HP2.out ((HR.out.drewN nq).clone HRn.out HB2.out HBW.out) ((HR1.out.drewN nq).clone HRn.out HB2.out) rfl) g⟩
          · rw [if_neg q5] at h5
            have z5 : decide (c < 0) = false := decide_eq_false q5
            obtain rfl := Option.some.inj h5
            clear h5 q5
            go_enter Try.func53, Try.ntmps53
            go_wp2
            go_quiet (first | (go_at_call 107; refine (HCM.out _ (pw_below_drewN (Below.refl _ _) _)).mono ?_; rintro e w' ⟨rfl, ⟨⟨nd, rfl⟩⟩⟩; (first | (with_reducible exact ⟨rfl, _, World.drewN_drewN _ _ _⟩) | exact ⟨rfl, _, rfl⟩)))
            go_wp2
            ((try simp only [Exit.inBlock, Exit.then]); first | (refine bodyPost_ret (results_none rfl _ _ _) rfl ?_) | (refine bodyPost_end (results_none rfl _ _ _) rfl ?_))
            exact ⟨rfl, pw_below_drewN HB.out _, HBW.out, HS.out.below (pw_below_drewN (Below.refl _ _) _)⟩
        · rw [if_neg q4] at h
          have z4 : (g == s.least) = false := by simpa using q4
          obtain rfl := Option.some.inj h
          clear h q1 q2 q3 q4
          go_enter Try.func53, Try.ntmps53
          go_wp2
          go_quiet (fail)
          go_wp2
          ((try simp only [Exit.inBlock, Exit.then]); first | (refine bodyPost_ret (results_none rfl _ _ _) rfl ?_) | (refine bodyPost_end (results_none rfl _ _ _) rfl ?_))
          exact ⟨rfl, pw_below_drewN HB.out _, HBW.out, HS.out.below (pw_below_drewN (Below.refl _ _) _)⟩
  · rw [if_neg q1] at h
    have z1 : decide (s.goal ≤ g) = false := decide_eq_false q1
    obtain rfl := Option.some.inj h
    clear h q1
    go_enter Try.func53, Try.ntmps53
    go_wp2
    go_quiet (fail)
    go_wp2
    ((try simp only [Exit.inBlock, Exit.then]); first | (refine bodyPost_ret (results_none rfl _ _ _) rfl ?_) | (refine bodyPost_end (results_none rfl _ _ _) rfl ?_))
    exact ⟨rfl, pw_below_drewN HB.out _, HBW.out, HS.out.below (pw_below_drewN (Below.refl _ _) _)⟩
set_option maxHeartbeats 8000000 in
set_option maxRecDepth 100000 in
/-- The search with pumps left, given what it does with one pump less. -/
theorem visitP_s.calls (k : Nat) (b0 : Nat) (w0 : World) (Ah : Option Addr) (ch : Nat) (hd : List Int) (h8 : hd.length ≤ 8) (p : Nat) (hp : b0 ≤ p) (d i : Nat) (hi : i + (d + 1) = hd.length)
    (ih : ∀ (g : Int) (s s' : SVP) (w : World), visitP k hd d g s = some s' → Below b0 w0 w → b0 ≤ w.heap.size → StP w b0 p Ah hd.length ch hd s → s.some.length + d ≤ hd.length → Calls Try.prog 53 #[.pointer (some ⟨p, 0, none⟩), .int .i64 ((i : Int) + 1), .int .i64 g] w fun e w' => e = .returned (.tuple #[]) ∧ Below b0 w0 w' ∧ b0 ≤ w'.heap.size ∧ StP w' b0 p Ah hd.length ch hd s')
    (g : Int) (s s' : SVP) (w : World) (h : visitP k hd (d + 1) g s = some s') (hb : Below b0 w0 w) (hbw : b0 ≤ w.heap.size) (hs : StP w b0 p Ah hd.length ch hd s) (hl : s.some.length + (d + 1) ≤ hd.length) :
    Calls Try.prog 53 #[.pointer (some ⟨p, 0, none⟩), .int .i64 (i : Int), .int .i64 g] w fun e w' => e = .returned (.tuple #[]) ∧ Below b0 w0 w' ∧ b0 ≤ w'.heap.size ∧ StP w' b0 p Ah hd.length ch hd s' := by
  have hsome := visitP_some k hd
  unfold visitP at h
  rw [show hd.length - (d + 1) = i by omega] at h
  have HI0 := Aside0.mk (show (0 : Int) ≤ (i : Int) by omega)
  have HI1 := Aside0.mk (show (i : Int) < (hd.length : Int) by omega)
  obtain ⟨A2, c2, A3, c3, ⟨x0, x1, x2, x3, x4, x5, xf⟩, _, _, hP, hR, hR1⟩ := hs.open
  obtain ⟨adh, eh, hh⟩ := Kd.at_int hR1.reads.2.2 (i : Int) HI0.out HI1.out
  subst eh
  rw [Int.toNat_natCast] at hh
  have z0 : ((i : Int) == (hd.length : Int)) = false := by simp; omega
  have z2 := eq_true HI0.out
  have z3 := eq_true HI1.out
  have HB := Aside0.mk hb
  have HS := Aside0.mk hs
  have HPP := Aside0.mk hp
  have HP := Aside0.mk hP
  have HR := Aside0.mk hR
  have HR1 := Aside0.mk hR1
  have HI := Aside0.mk hi
  have H8 := Aside0.mk h8
  have HL := Aside0.mk hl
  have IH := Aside0.mk ih
  have HBW := Aside0.mk hbw
  have HSOME := Aside0.mk hsome
  have hw1 : IntKind.i64.wrap ((i : Int) + 1) = (i : Int) + 1 := IntWalk.i64_in _ (by omega)
  have hw2 : wrap64 ((i : Int) + 1) = (i : Int) + 1 := by unfold wrap64; omega
  clear hb hs hp hP hR hR1 hi h8 hl ih hbw hsome
  by_cases qb : wrap64 (s.budget - 1) < 0
  · rw [if_pos qb] at h
    have zb : decide (wrap64 (s.budget - 1) < 0) = true := decide_eq_true qb
    obtain rfl := Option.some.inj h
    clear qb h
    go_enter Try.func53, Try.ntmps53
    go_wp2
    ((try simp only [Exit.inBlock, Exit.then]); first | (refine bodyPost_ret (results_none rfl _ _ _) rfl ?_) | (refine bodyPost_end (results_none rfl _ _ _) rfl ?_))
    exact ⟨rfl, sput HB.out HPP.out 2 _, by simp; exact HBW.out, StP.set_budget HS.out _⟩
  · rw [if_neg qb] at h
    have zb : decide (wrap64 (s.budget - 1) < 0) = false := decide_eq_false qb
    obtain ⟨s2, hrec, h1⟩ := Option.bind_eq_some_iff.1 h
    have hbu := HSOME.out _ _ _ _ hrec
    simp only at hbu
    have HLEN := Aside0.mk (show s2.some.length = s.some.length + 1 by rw [hbu, List.length_append]; rfl)
    have HREC := Aside0.mk hrec
    have H1 := Aside0.mk h1
    have HSZ := Aside0.mk (show w.heap.size = (w.setCell ⟨p, 2, none⟩ (.int .i64 (wrap64 (s.budget - 1)))).heap.size by simp)
    have HP7 := Aside0.mk (blk_set HP.out 2 (.int .i64 (wrap64 (s.budget - 1))))
    have HR7 := Aside0.mk (HR.out.set HP.out (by decide) 2 (.int .i64 (wrap64 (s.budget - 1))))
    have HR71 := Aside0.mk (HR1.out.set HP.out (by decide) 2 (.int .i64 (wrap64 (s.budget - 1))))
    have HB7 := Aside0.mk (sput HB.out HPP.out 2 (.int .i64 (wrap64 (s.budget - 1))))
    have HW7 := Aside0.mk (show b0 ≤ (w.setCell ⟨p, 2, none⟩ (.int .i64 (wrap64 (s.budget - 1)))).heap.size by simp; exact HBW.out)
    clear qb h hrec hbu h1
    go_enter Try.func53, Try.ntmps53
    go_wp2_with (first | (at_builtin; refine Kd.R_append (Kd.int .i64) (w0 := w0) b0 rfl _ _ 24 2 (.int .i64 0) 8 rfl Try.underlying24 info2 rfl (by decide) (by omega) (.slice A2 s.some.length c2) s.some (i : Int) [.int .i64 (i : Int)] (fun k => some k ≠ (Value.slice A3 s.best.length c3).ownBlock) (fun _ => False) rfl (by exact congrArg (fun n => Value.slice (some ⟨n, 0, none⟩) 1 1) HSZ.out) rfl (fun _ hk => hk.elim) (fun k hk e => (by have := Kd.R_lt HR7.out.2 k e.symm; omega)) HR7.out.1 HB7.out HW7.out (by have := HL.out; have := H8.out; omega) ?_; intro v1 w2 ho hb2 hg hat; obtain ⟨A9, c9, e9⟩ := Kd.R_slice ho; rw [List.length_append, List.length_singleton] at e9; subst e9; have hP2 := blk_grown HP7.out hg (Kd.R_ne HR7.out.1 HP7.out (by decide)); have hR2 := HR7.out.append ho hg hat; have hR21 := HR71.out.append hg hat; obtain ⟨u0, u1, u2, u3, u4, u5, uf⟩ := cells6 hP2; have hS3 := StP.put_some (s := ⟨s.goal, wrap64 (s.budget - 1), s.some, s.best, s.least⟩) hP2 hR2 hR21 (show s.some.length + 1 = (s.some ++ [(i : Int)]).length by simp); have hB3 := sput hb2 HPP.out 3 (.slice A9 (s.some.length + 1) c9); have hW3 : b0 ≤ (w2.setCell ⟨p, 3, none⟩ (.slice A9 (s.some.length + 1) c9)).heap.size := (by simp; exact Nat.le_trans HW7.out hg.size); have HB3 := Aside0.mk hB3; have HS3 := Aside0.mk hS3; have HW3 := Aside0.mk hW3; obtain ⟨_, _, _, _, ⟨v0, v1_, v2, v3, v4, v5, vf⟩, _, _, _, _, hR31⟩ := hS3.open; obtain ⟨adh2, eh2, hh2⟩ := Kd.at_int hR31.reads.2.2 (i : Int) HI0.out HI1.out; injection eh2 with eh2; subst eh2; rw [Int.toNat_natCast] at hh2; clear ho hb2 hg hat hP2 hR2 hR21 hB3 hS3 hW3 hR31) | (go_at_call 53; (try simp only [Go.IntWalk.i64_left, hw1, hw2]); refine (IH.out (wrap64 (g + rd hd (i : Int))) _ s2 _ HREC.out HB3.out HW3.out HS3.out (by have := HL.out; simp only [List.length_append, List.length_cons, List.length_nil]; omega)).mono ?_; rintro e w5 ⟨rfl, hb5, hw5, hs5⟩; obtain ⟨A6, c6, A7, c7, ⟨t0, t1, t2, t3, t4, t5, tf⟩, ⟨hc6, _⟩, _, hP5, hR5, hR51⟩ := hs5.open; have HB5 := Aside0.mk hb5; have HW5 := Aside0.mk hw5; have HS5 := Aside0.mk hs5; have HP5 := Aside0.mk hP5; have HR5 := Aside0.mk hR5; have HR51 := Aside0.mk hR51; have HC6 := Aside0.mk hc6; clear hb5 hw5 hs5 hP5 hR5 hR51 hc6))
    have hk0 : (0 : Int) ≤ (s2.some.length : Int) - 1 := by have := HLEN.out; omega
    have hk1 : (s2.some.length : Int) - 1 ≤ (s2.some.length : Int) := by omega
    have hk2 : (s2.some.length : Int) - 1 ≤ (c6 : Int) := by have := HC6.out; omega
    obtain ⟨g6, rfl⟩ := HR5.out.some (by have := HLEN.out; omega)
    have hw3 : IntKind.i64.wrap ((s2.some.length : Int) - 1) = (s2.some.length : Int) - 1 := IntWalk.i64_in _ (by have := HLEN.out; have := HL.out; have := H8.out; omega)
    clear u0 u1 u2 u3 u4 u5 uf v0 v1_ v2 v3 v4 v5 vf hh2
    go_region
    have hS6 := (StP.put_some (s := s2) HP5.out (HR5.out.cut (m := s2.some.length - 1) (by omega)) (HR51.out.cut) (show s2.some.length - 1 = (s2.some.take (s2.some.length - 1)).length by rw [List.length_take]; omega)).below (below_drew (Below.refl _ _))
    have hB6 := below_drew (sput HB5.out HPP.out 3 (.slice (some ⟨g6, 0, none⟩) (s2.some.length - 1) c6))
    have hW6 : b0 ≤ (w5.setCell ⟨p, 3, none⟩ (.slice (some ⟨g6, 0, none⟩) (s2.some.length - 1) c6)).drew.heap.size := by simp; exact HW5.out
    clear t0 t1 t2 t3 t4 t5 tf
    generalize (w5.setCell ⟨p, 3, none⟩ (.slice (some ⟨g6, 0, none⟩) (s2.some.length - 1) c6)).drew = w6 at hS6 hB6 hW6 ⊢
    obtain ⟨_, _, _, _, ⟨u0, u1, u2, u3, u4, u5, uf⟩, _⟩ := hS6.open
    have HB6 := Aside0.mk hB6
    have HS6 := Aside0.mk hS6
    have HW6 := Aside0.mk hW6
    have h1 := H1.out
    clear hB6 hS6 hW6 H1
    by_cases qb2 : wrap64 (s2.budget - 1) < 0
    · rw [if_pos qb2] at h1
      obtain rfl := Option.some.inj h1
      have zb2 : decide (wrap64 (s2.budget - 1) < 0) = true := decide_eq_true qb2
      clear qb2 h1
      go_wp2
      ((try simp only [Exit.inBlock, Exit.then]); first | (refine bodyPost_ret (results_none rfl _ _ _) rfl ?_) | (refine bodyPost_end (results_none rfl _ _ _) rfl ?_))
      exact ⟨rfl, sput HB6.out HPP.out 2 _, by simp; exact HW6.out, StP.set_budget HS6.out _⟩
    · rw [if_neg qb2] at h1
      have H1 := Aside0.mk h1
      have zb2 : decide (wrap64 (s2.budget - 1) < 0) = false := decide_eq_false qb2
      clear qb2 h1
      go_wp2_with (go_at_call 53; (try simp only [Go.IntWalk.i64_left, hw1, hw2]); refine (IH.out g _ s' _ H1.out (sput HB6.out HPP.out 2 _) (by simp; exact HW6.out) (StP.set_budget HS6.out _) (by have := HL.out; have := HLEN.out; simp only [List.length_take]; omega)).mono ?_; rintro e w7 ⟨rfl, hb7, hw7, hs7⟩)
      ((try simp only [Exit.inBlock, Exit.then]); first | (refine bodyPost_ret (results_none rfl _ _ _) rfl ?_) | (refine bodyPost_end (results_none rfl _ _ _) rfl ?_))
      exact ⟨rfl, hb7, hw7, hs7⟩
theorem visitP.calls (k : Nat) (b0 : Nat) (w0 : World) (Ah : Option Addr) (ch : Nat) (hd : List Int) (h8 : hd.length ≤ 8) (p : Nat) (hp : b0 ≤ p) : ∀ (d i : Nat), i + d = hd.length → ∀ (g : Int) (s s' : SVP) (w : World), visitP k hd d g s = some s' → Below b0 w0 w → b0 ≤ w.heap.size → StP w b0 p Ah hd.length ch hd s → s.some.length + d ≤ hd.length → Calls Try.prog 53 #[.pointer (some ⟨p, 0, none⟩), .int .i64 (i : Int), .int .i64 g] w fun e w' => e = .returned (.tuple #[]) ∧ Below b0 w0 w' ∧ b0 ≤ w'.heap.size ∧ StP w' b0 p Ah hd.length ch hd s'
  | 0, i, hi, g, s, s', w, h, hb, hw, hs, hl => by
    have e : i = hd.length := by omega
    subst e
    exact visitP_0.calls k b0 w0 Ah ch hd g s s' w p h hb hw hp hs (by omega)
  | d + 1, i, hi, g, s, s', w, h, hb, hw, hs, hl =>
    visitP_s.calls k b0 w0 Ah ch hd h8 p hp d i hi (fun g s s' w h hb hw hs hl => by
      have := visitP.calls k b0 w0 Ah ch hd h8 p hp d (i + 1) (by omega) g s s' w h hb hw hs hl
      rwa [show ((i + 1 : Nat) : Int) = (i : Int) + 1 by omega] at this) g s s' w h hb hw hs hl
/-- What the pumps lift, from one on. -/
def headsL (k : Nat) (xs : List S38) (a : Int) : Nat → List Int → Option (List Int)
  | 0, acc => some acc
  | d + 1, acc => (impl_Pump_head.f k (rd_T38 xs ((xs.length - (d + 1) : Nat) : Int)).f0 (rd_T38 xs ((xs.length - (d + 1) : Nat) : Int)).f1 a).bind fun h => headsL k xs a d (acc ++ [h])
theorem headsL_mono (k : Nat) (xs : List S38) (a : Int) : ∀ d acc, LeO (headsL k xs a d acc) (headsL (k + 1) xs a d acc)
  | 0, _ => LeO.refl _
  | d + 1, _ => LeO.bind (impl_Pump_head.mono _ _ _ k) (fun _ => headsL_mono k xs a d _)
theorem headsL_len (k : Nat) (xs : List S38) (a : Int) : ∀ d acc r, headsL k xs a d acc = some r → r.length = acc.length + d
  | 0, acc, r, h => by obtain rfl := Option.some.inj h; rfl
  | d + 1, acc, r, h => by
    obtain ⟨y, _, h⟩ := Option.bind_eq_some_iff.1 h
    have := headsL_len k xs a d _ r h
    rw [this]; simp; omega
def impl_CheapestPumps.f (k : Nat) (l0 : List S38) (a1 a2 a3 a4 : Int) : Option (List Int × Int × Int) :=
  (impl_pumpsOk.f k l0).bind fun v => if v = true then
    ((impl_systemOk.f a1 a2 a3).bind fun s1 => if s1 = true then
      ((impl_budgetValid.f a4).bind fun b1 => if b1 = true then
        ((impl_systemHead.f a1 a2 a3).bind fun goal => if l0.length ≤ 8 then
          ((headsL k l0 a3 l0.length []).bind fun hd => (visitP k hd hd.length 0 ⟨goal, a4, [], [], -1⟩).bind fun s =>
            if s.budget < 0 then some ([], 0, 5) else if s.least < 0 then some ([], 0, 3) else some (s.best, s.least, 0))
        else none)
      else some ([], 0, 2))
    else some ([], 0, 2))
  else some ([], 0, 1)
theorem impl_CheapestPumps.mono : ∀ a0 a1 a2 a3 a4 k, LeO (impl_CheapestPumps.f k a0 a1 a2 a3 a4) (impl_CheapestPumps.f (k + 1) a0 a1 a2 a3 a4) := fun a0 a1 a2 a3 a4 k =>
  LeO.bind (impl_pumpsOk.mono _ k) (fun _ => LeO.ite (LeO.bind (LeO.refl _) (fun _ => LeO.ite (LeO.bind (LeO.refl _) (fun _ => LeO.ite (LeO.bind (LeO.refl _) (fun _ => LeO.ite (LeO.bind (headsL_mono k _ _ _ _) (fun _ => LeO.bind (visitP_mono k _ _ _ _) (fun _ => LeO.refl _))) (LeO.refl _))) (LeO.refl _))) (LeO.refl _))) (LeO.refl _))
-- @cut
set_option maxHeartbeats 8000000 in
set_option maxRecDepth 100000 in
theorem impl_CheapestPumps.calls (k : Nat) (A0 : Option Addr) (c0 : Nat) (l0 : List (S38)) (a1 : Int) (a2 : Int) (a3 : Int) (a4 : Int) (r1 : List Int) (r2 : Int) (r3 : Int) (w : World) (hr0 : Kd.C k38 w A0 l0.length l0) (hc0 : l0.length ≤ c0) (h : impl_CheapestPumps.f k l0 a1 a2 a3 a4 = some (r1, r2, r3)) :
    Calls Try.prog 10 #[.slice A0 l0.length c0, .int .i64 a1, .int .i64 a2, .int .i64 a3, .int .i64 a4] w fun e w' => ∃ v0_ : Value, e = .returned (.tuple #[v0_, .int .i64 r2, .int .i64 r3]) ∧ Kd.R (Kd.int .i64) 2 w' w.heap.size (fun _ => True) v0_ r1 ∧ Below w.heap.size w w' := by
  unfold impl_CheapestPumps.f at h
  obtain ⟨v, hv, h1⟩ := Option.bind_eq_some_iff.1 h
  clear h
  have HV := Aside0.mk (fun W (hW : Below w.heap.size w W) => (impl_pumpsOk.calls k A0 c0 l0 v W (Kd.C_below hr0 hW) hc0 hv).mono fun e w' he => (⟨he.1, below_then hW hW.size he.2⟩ : e = .returned (.bool v) ∧ Below w.heap.size w w'))
  have HR0 := Aside0.mk hr0
  have HC0 := Aside0.mk hc0
  clear hv hr0 hc0
  cases v with
  | false =>
    rw [if_neg (by decide)] at h1
    obtain ⟨rfl, h2⟩ := Prod.mk.inj (Option.some.inj h1)
    obtain ⟨rfl, rfl⟩ := Prod.mk.inj h2
    clear h1 h2
    go_enter Try.func10, Try.ntmps10
    go_wp2_with (first | (go_at_call 48; refine (HV.out _ (Below.refl _ _)).mono ?_; rintro e w1 ⟨rfl, hB⟩; have HB := Aside0.mk hB; clear hB))
    refine bodyPost_ret (results_tmp3 rfl _ _ _) rfl ?_
    exact ⟨_, rfl, Kd.R_nil _ _ _ _ _, HB.out⟩
  | true =>
    rw [if_pos rfl] at h1
    obtain ⟨m1, hm, h2⟩ := Option.bind_eq_some_iff.1 h1
    clear h1
    have HSO := Aside0.mk hm
    clear hm
    cases m1 with
    | false =>
      rw [if_neg (by decide)] at h2
      obtain ⟨rfl, h3⟩ := Prod.mk.inj (Option.some.inj h2)
      obtain ⟨rfl, rfl⟩ := Prod.mk.inj h3
      clear h2 h3
      go_enter Try.func10, Try.ntmps10
      go_wp2_with (first | (go_at_call 48; refine (HV.out _ (Below.refl _ _)).mono ?_; rintro e w1 ⟨rfl, hB⟩; have HB := Aside0.mk hB; clear hB) | (go_at_call 49; refine (impl_systemOk.calls _ _ _ _ _ HSO.out).mono ?_; rintro e w2 ⟨rfl, hD⟩; have HB := Aside0.mk (below_then HB.out HB.out.size hD.below); clear hD))
      refine bodyPost_ret (results_tmp3 rfl _ _ _) rfl ?_
      exact ⟨_, rfl, Kd.R_nil _ _ _ _ _, HB.out⟩
    | true =>
      rw [if_pos rfl] at h2
      obtain ⟨b1, hb, h3⟩ := Option.bind_eq_some_iff.1 h2
      clear h2
      have HBV := Aside0.mk hb
      clear hb
      cases b1 with
      | false =>
        rw [if_neg (by decide)] at h3
        obtain ⟨rfl, h4⟩ := Prod.mk.inj (Option.some.inj h3)
        obtain ⟨rfl, rfl⟩ := Prod.mk.inj h4
        clear h3 h4
        go_enter Try.func10, Try.ntmps10
        go_wp2_with (first | (go_at_call 48; refine (HV.out _ (Below.refl _ _)).mono ?_; rintro e w1 ⟨rfl, hB⟩; have HB := Aside0.mk hB; clear hB) | (go_at_call 49; refine (impl_systemOk.calls _ _ _ _ _ HSO.out).mono ?_; rintro e w2 ⟨rfl, hD⟩; have HB := Aside0.mk (below_then HB.out HB.out.size hD.below); clear hD) | (go_at_call 50; refine (impl_budgetValid.calls _ _ _ HBV.out).mono ?_; rintro e w2 ⟨rfl, hD⟩; have HB := Aside0.mk (below_then HB.out HB.out.size hD.below); clear hD))
        refine bodyPost_ret (results_tmp3 rfl _ _ _) rfl ?_
        exact ⟨_, rfl, Kd.R_nil _ _ _ _ _, HB.out⟩
      | true =>
        rw [if_pos rfl] at h3
        obtain ⟨goal, hg, h4⟩ := Option.bind_eq_some_iff.1 h3
        clear h3
        have HSH := Aside0.mk hg
        clear hg
        by_cases h8 : l0.length ≤ 8
        · rw [if_pos h8] at h4
          obtain ⟨hd, hhd, h5⟩ := Option.bind_eq_some_iff.1 h4
          obtain ⟨s1, hvis, h6⟩ := Option.bind_eq_some_iff.1 h5
          clear h4 h5
          have HHD := Aside0.mk hhd
          have HVIS := Aside0.mk hvis
          have H6 := Aside0.mk h6
          have H8 := Aside0.mk h8
          have HDL := Aside0.mk (show hd.length = l0.length by have := headsL_len _ _ _ _ _ _ hhd; simpa using this)
          clear hhd hvis h6 h8
          go_enter Try.func10, Try.ntmps10
          go_wp2_with (first | (go_at_call 48; refine (HV.out _ (Below.refl _ _)).mono ?_; rintro e w1 ⟨rfl, hB⟩; have HB := Aside0.mk hB; clear hB) | (go_at_call 49; refine (impl_systemOk.calls _ _ _ _ _ HSO.out).mono ?_; rintro e w2 ⟨rfl, hD⟩; have HB := Aside0.mk (below_then HB.out HB.out.size hD.below); clear hD) | (go_at_call 50; refine (impl_budgetValid.calls _ _ _ HBV.out).mono ?_; rintro e w2 ⟨rfl, hD⟩; have HB := Aside0.mk (below_then HB.out HB.out.size hD.below); clear hD) | (go_at_call 51; refine (impl_systemHead.calls _ _ _ _ _ HSH.out).mono ?_; rintro e w2 ⟨rfl, hD⟩; have HB := Aside0.mk (below_then HB.out HB.out.size hD); clear hD))
          have hPn := blk_new w2 (.cells #[.slice none 0 0, .int .i64 goal, .int .i64 a4, .slice none 0 0, .slice none 0 0, .int .i64 (-1)] 91)
          have HPG := Aside0.mk HB.out.size
          have HAT := Aside0.mk (fun W (hW : Below w.heap.size w W) (i : Nat) (hi : i < l0.length) => at_T38 (Kd.C_below HR0.out hW) (i : Int) (Int.natCast_nonneg i) (Int.ofNat_lt.2 hi))
          go_loopg [39] l0.length (fun gg s39 wr => ∃ (kk : Nat) (acc : List Int) (Ah : Option Addr) (ch : Nat), s39 = .int .i64 kk ∧ Aside0 (kk ≤ l0.length) ∧ Aside0 (l0.length - kk ≤ gg) ∧ Aside0 (acc.length = kk) ∧ Aside0 (headsL k l0 a3 (l0.length - kk) acc = some hd) ∧ Aside0 (Below w.heap.size w wr) ∧ Aside0 (wr.heap[w2.heap.size]? = some (.cells #[.slice Ah acc.length ch, .int .i64 goal, .int .i64 a4, .slice none 0 0, .slice none 0 0, .int .i64 (-1)] 91 (0, 0))) ∧ Aside0 (Kd.R (Kd.int .i64) 2 wr w.heap.size (fun _ => True) (.slice Ah acc.length ch) acc))
          case atStart => exact ⟨0, [], none, 0, rfl, ⟨Nat.zero_le _⟩, ⟨by omega⟩, ⟨rfl⟩, ⟨HHD.out⟩, ⟨below_alloc HB.out _⟩, ⟨hPn⟩, ⟨Kd.R_nil _ _ _ _ _⟩⟩
          case round =>
            obtain ⟨kk, acc, Ah, ch, rfl, hkk, hg, hal, hh, hB, hP, hR⟩ := hrel
            clear hPn
            obtain ⟨x0, x1, x2, x3, x4, x5, xf⟩ := cells6 hP.out
            by_cases hlt : kk < l0.length
            · have hltz : decide ((kk : Int) < (l0.length : Int)) = true := decide_eq_true (by omega)
              have z2 := eq_true (show (0 : Int) ≤ (kk : Int) by omega)
              have z3 := eq_true (show (kk : Int) < (l0.length : Int) by omega)
              have hh2 := hh.out
              rw [show l0.length - kk = (l0.length - (kk + 1)) + 1 by omega] at hh2
              unfold headsL at hh2
              rw [show l0.length - (l0.length - (kk + 1) + 1) = kk by omega] at hh2
              obtain ⟨y, hy, hh3⟩ := Option.bind_eq_some_iff.1 hh2
              obtain ⟨ad, A8, c8, e8, hx0, hx1, hl8, hC8⟩ := HAT.out wr hB.out kk hlt
              have HY := Aside0.mk (fun W (hW : Below wr.heap.size wr W) => impl_Pump_head.calls k _ A8 c8 _ a3 y W (Kd.C_below hC8 hW) hl8 hy)
              cases e8
              rw [Int.toNat_natCast] at hx0 hx1
              have HH3 := Aside0.mk hh3
              have HLT := Aside0.mk hlt
              clear hh hh2 hh3 hy hlt hl8 hC8
              go_wp2
              have HB1 := Aside0.mk (below_alloc hB.out (.cells #[.string (rd_T38 l0 (kk : Int)).f0, .slice A8 (rd_T38 l0 (kk : Int)).f1.length c8] 38))
              have HW1 := Aside0.mk (below_alloc (Below.refl wr.heap.size wr) (.cells #[.string (rd_T38 l0 (kk : Int)).f0, .slice A8 (rd_T38 l0 (kk : Int)).f1.length c8] 38))
              have HP1 := Aside0.mk (blk_alloc hP.out (.cells #[.string (rd_T38 l0 (kk : Int)).f0, .slice A8 (rd_T38 l0 (kk : Int)).f1.length c8] 38))
              have HR1 := Aside0.mk (Kd.R_alloc hR.out (.cells #[.string (rd_T38 l0 (kk : Int)).f0, .slice A8 (rd_T38 l0 (kk : Int)).f1.length c8] 38))
              have hC := blk_new wr (.cells #[.string (rd_T38 l0 (kk : Int)).f0, .slice A8 (rd_T38 l0 (kk : Int)).f1.length c8] 38)
              have HC1 := Aside0.mk hC
              clear x0 x1 x2 x3 x4 x5 xf hx0 hx1 hC
              generalize wr.alloc (.cells #[.string (rd_T38 l0 (kk : Int)).f0, .slice A8 (rd_T38 l0 (kk : Int)).f1.length c8] 38) = W1 at HB1 HW1 HP1 HR1 HC1 ⊢
              have m0 : W1.cell? ⟨wr.heap.size, 0, none⟩ = some (.string (rd_T38 l0 (kk : Int)).f0) := (blk_cell HC1.out 0).trans rfl
              have m1 : W1.cell? ⟨wr.heap.size, 1, none⟩ = some (.slice A8 (rd_T38 l0 (kk : Int)).f1.length c8) := (blk_cell HC1.out 1).trans rfl
              have y0 : W1.cell? ⟨w2.heap.size, 0, none⟩ = some (.slice Ah acc.length ch) := (blk_cell HP1.out 0).trans rfl
              go_region_law
                (first | (refine Kd.R_append_step (Kd.int .i64) (w0 := w) w.heap.size (by rfl) (.tmp 44) (.tmp 48) 24 2 (.int .i64 0) 8 rfl Try.underlying24 info2 rfl (by decide) (by omega) (.slice Ah acc.length ch) acc y [.int .i64 y] (fun _ => True) (fun _ => False) rfl rfl rfl (fun _ hk => hk.elim) (fun _ _ => trivial) HR3.out HB3.out HB3.out.size (by have := hal.out; have := HLT.out; have := H8.out; omega) ?_; intro v1 w4 ho hb4 hg4 hat; obtain ⟨A9, c9, h9⟩ := Kd.R_slice ho; rw [List.length_append, List.length_singleton] at h9; subst h9; have hP4 := blk_grown HP3.out hg4 (Kd.R_ne HR3.out HP3.out (by decide)); have n0 := (blk_cell hP4 0).trans rfl; have n1 := blk_frozen hP4 0) | (go_simp; go_at_call 52; refine (HY.out _ (by repeat (first | exact HW1.out | apply below_drew | apply pw_below_drewN))).mono ?_; rintro e w3 ⟨rfl, hb3⟩; have HP3 := Aside0.mk (blk_below (show W1.drew.heap[w2.heap.size]? = _ from HP1.out) hb3); have HR3 := Aside0.mk (Kd.R_below (Kd.R_drew HR1.out) hb3); have HB3 := Aside0.mk (below_then (below_drew HB1.out) HB1.out.size hb3); have y3 := (blk_cell HP3.out 0).trans rfl; have Y3 := fun o => cell_al y3 o))
              all_goals go_wp2
              all_goals go_roundg (l0.length - (kk + 1))
              all_goals first
                | (have := HLT.out; have := hg.out; omega)
                | (have hlen : (acc ++ [y]).length = acc.length + 1 := (by simp)
                   exact ⟨kk + 1, acc ++ [y], A9, c9, by rw [show wrap64 ((kk : Int) + 1) = ((kk + 1 : Nat) : Int) by (have := HLT.out; have := H8.out; unfold wrap64; omega)], ⟨by have := HLT.out; omega⟩, ⟨by omega⟩, ⟨by rw [hlen, hal.out]⟩, ⟨HH3.out⟩, ⟨sput hb4 HPG.out 0 _⟩, ⟨by rw [hlen]; exact blk_set hP4 0 _⟩, ⟨by rw [hlen]; exact Kd.R_set ho hP4 (ne_int (by decide)) 0 _⟩⟩)
            · have hltz : decide ((kk : Int) < (l0.length : Int)) = false := decide_eq_false (by omega)
              have hk : kk = l0.length := by have := hkk.out; omega
              subst hk
              have hh2 := hh.out
              rw [Nat.sub_self] at hh2
              obtain rfl := Option.some.inj hh2
              have HS := Aside0.mk (⟨none, 0, none, 0, hP.out, ⟨Kd.R_nil _ _ _ _ _, Kd.R_nil _ _ _ _ _⟩, Kd.R_mono hR.out (fun _ _ => ⟨fun e => (by cases e), fun e => (by cases e)⟩)⟩ : StP wr w.heap.size w2.heap.size Ah acc.length ch acc ⟨goal, a4, [], [], -1⟩)
              have HD8 := Aside0.mk (show acc.length ≤ 8 by have := HDL.out; have := H8.out; omega)
              have h6 := H6.out
              clear hh hh2 hltz H6
              by_cases qb : s1.budget < 0
              · rw [if_pos qb] at h6
                obtain ⟨rfl, h7⟩ := Prod.mk.inj (Option.some.inj h6)
                obtain ⟨rfl, rfl⟩ := Prod.mk.inj h7
                have zb : decide (s1.budget < 0) = true := decide_eq_true qb
                clear h6 h7 qb
                have hltz : decide ((l0.length : Int) < (l0.length : Int)) = false := decide_eq_false (by omega)
                go_wp2_with (go_at_call 53; refine (visitP.calls k w.heap.size w Ah ch acc HD8.out w2.heap.size HPG.out acc.length 0 (Nat.zero_add _) 0 _ s1 _ HVIS.out hB.out hB.out.size HS.out (by simp)).mono ?_; rintro e w5 ⟨rfl, hb5, hw5, hs5⟩; obtain ⟨A2, c2, A3, c3, ⟨t0, t1, t2, t3, t4, t5, tf⟩, _, _, _, hR5, _⟩ := hs5.open; have HB5 := Aside0.mk hb5; have HR5 := Aside0.mk hR5; clear hb5 hw5 hs5 hR5)
                refine bodyPost_ret (results_tmp3 rfl _ _ _) rfl ?_
                exact ⟨_, rfl, Kd.R_nil _ _ _ _ _, HB5.out⟩
              · rw [if_neg qb] at h6
                have zb : decide (s1.budget < 0) = false := decide_eq_false qb
                have hltz : decide ((l0.length : Int) < (l0.length : Int)) = false := decide_eq_false (by omega)
                by_cases ql : s1.least < 0
                · rw [if_pos ql] at h6
                  obtain ⟨rfl, h7⟩ := Prod.mk.inj (Option.some.inj h6)
                  obtain ⟨rfl, rfl⟩ := Prod.mk.inj h7
                  have zl : decide (s1.least < 0) = true := decide_eq_true ql
                  clear h6 h7 qb ql
                  go_wp2_with (go_at_call 53; refine (visitP.calls k w.heap.size w Ah ch acc HD8.out w2.heap.size HPG.out acc.length 0 (Nat.zero_add _) 0 _ s1 _ HVIS.out hB.out hB.out.size HS.out (by simp)).mono ?_; rintro e w5 ⟨rfl, hb5, hw5, hs5⟩; obtain ⟨A2, c2, A3, c3, ⟨t0, t1, t2, t3, t4, t5, tf⟩, _, _, _, hR5, _⟩ := hs5.open; have HB5 := Aside0.mk hb5; have HR5 := Aside0.mk hR5; clear hb5 hw5 hs5 hR5)
                  refine bodyPost_ret (results_tmp3 rfl _ _ _) rfl ?_
                  exact ⟨_, rfl, Kd.R_nil _ _ _ _ _, HB5.out⟩
                · rw [if_neg ql] at h6
                  obtain ⟨rfl, h7⟩ := Prod.mk.inj (Option.some.inj h6)
                  obtain ⟨rfl, rfl⟩ := Prod.mk.inj h7
                  have zl : decide (s1.least < 0) = false := decide_eq_false ql
                  clear h6 h7 qb ql
                  go_wp2_with (go_at_call 53; refine (visitP.calls k w.heap.size w Ah ch acc HD8.out w2.heap.size HPG.out acc.length 0 (Nat.zero_add _) 0 _ s1 _ HVIS.out hB.out hB.out.size HS.out (by simp)).mono ?_; rintro e w5 ⟨rfl, hb5, hw5, hs5⟩; obtain ⟨A2, c2, A3, c3, ⟨t0, t1, t2, t3, t4, t5, tf⟩, _, _, _, hR5, _⟩ := hs5.open; have HB5 := Aside0.mk hb5; have HR5 := Aside0.mk hR5; clear hb5 hw5 hs5 hR5)
                  go_quiet (fail)
                  go_wp2
                  refine bodyPost_ret (results_tmp3 rfl _ _ _) rfl ?_
                  exact ⟨_, rfl, Kd.R_mono (Kd.R_below HR5.out.2 (pw_below_drewN (Below.refl _ _) _)) (fun _ _ => trivial), pw_below_drewN HB5.out _⟩
        · rw [if_neg h8] at h4; cases h4

/-! ### laws_eqInt64S: function 11 -/
def laws_eqInt64S.l0 : Nat → List Int → List Int → Int → Option (Bool)
  | 0, _, _, _ => none
  | k + 1, x0, x1, x5 => if x5 < (x0.length : Int) then (if 0 ≤ x5 then (if x5 < (x1.length : Int) then (if (rd x0 x5) = (rd x1 x5) then (laws_eqInt64S.l0 k x0 x1 (wrap64 (x5 + 1))) else (some false)) else (none)) else (none)) else (some true)
def laws_eqInt64S.f (k : Nat) (l0 : List Int) (l1 : List Int) : Option (Bool) := if (l0.length : Int) = (l1.length : Int) then (laws_eqInt64S.l0 k l0 l1 0) else (some false)
theorem laws_eqInt64S.mono_l : ∀ k, (∀ y0 y1 y2, LeO (laws_eqInt64S.l0 k y0 y1 y2) (laws_eqInt64S.l0 (k + 1) y0 y1 y2))
  | 0 => fun _ _ _ r h => by simp [laws_eqInt64S.l0] at h
  | k + 1 => by
    have ih0 := laws_eqInt64S.mono_l k
    · intro y0 y1 y2
      unfold laws_eqInt64S.l0
      repeat' first
      | (with_reducible exact ih0 _ _ _)
      | (with_reducible exact LeO.refl _)
      | (with_reducible exact LeO.none _)
      | (with_reducible refine LeO.ite ?_ ?_)
      | (with_reducible refine LeO.bind ?_ (fun _ => ?_))
      | exact ih0 _ _ _
      | exact LeO.none _
      | refine LeO.ite ?_ ?_
      | refine LeO.bind ?_ (fun _ => ?_)
theorem laws_eqInt64S.mono : ∀ a0 a1 k, LeO (laws_eqInt64S.f k a0 a1) (laws_eqInt64S.f (k + 1) a0 a1) := by
  intro a0 a1 k
  have ih0 := laws_eqInt64S.mono_l k
  unfold laws_eqInt64S.f
  repeat' first
      | (with_reducible exact ih0 _ _ _)
      | (with_reducible exact LeO.refl _)
      | (with_reducible exact LeO.none _)
      | (with_reducible refine LeO.ite ?_ ?_)
      | (with_reducible refine LeO.bind ?_ (fun _ => ?_))
      | exact ih0 _ _ _
      | exact LeO.none _
      | refine LeO.ite ?_ ?_
      | refine LeO.bind ?_ (fun _ => ?_)
set_option maxHeartbeats 8000000 in
set_option maxRecDepth 100000 in
theorem laws_eqInt64S.calls (k : Nat) (A0 : Option Addr) (c0 : Nat) (l0 : List Int) (A1 : Option Addr) (c1 : Nat) (l1 : List Int) (r : Bool) (w : World) (hr0 : Kd.C (Kd.int .i64) w A0 l0.length l0) (hc0 : l0.length ≤ c0) (hr1 : Kd.C (Kd.int .i64) w A1 l1.length l1) (hc1 : l1.length ≤ c1) (h : laws_eqInt64S.f k l0 l1 = some r) :
    Calls Try.prog 11 #[.slice A0 l0.length c0, .slice A1 l1.length c1] w fun e w' => e = .returned (.bool r) ∧ Drawn0 w w' := by
  have HR0 := Aside0.mk hr0
  have HC0 := Aside0.mk hc0
  clear hr0 hc0
  have HR1 := Aside0.mk hr1
  have HC1 := Aside0.mk hc1
  clear hr1 hc1
  have H : (if (l0.length : Int) = (l1.length : Int) then (laws_eqInt64S.l0 k l0 l1 0) else (some false)) = some r := h
  clear h
  by_cases c3 : (l0.length : Int) = (l1.length : Int)
  · rw [if_pos c3] at H
    have c3b0 : ((l0.length : Int) == (l1.length : Int)) = true := beq_iff_eq.mpr c3
    have c3b1 : ((l0.length : Int) != (l1.length : Int)) = false := bne_eq_false_iff_eq.mpr c3
    have c3b2 : (l0.length == l1.length) = true := by first | simpa using c3 | (simp at c3 ⊢; omega)
    clear c3
    have H' := Aside0.mk H
    clear H
    go_enter Try.func11, Try.ntmps11
    go_wp2
    repeat (go_quiet (fail); try go_wp2)
    go_loopg [5] k (fun kq v5 w' => ∃ (x5_1 : Int), v5 = .int .i64 x5_1 ∧ Aside0 (laws_eqInt64S.l0 kq l0 l1 x5_1 = some r) ∧ Aside0 (kq ≤ k) ∧ Drawn0 w w')
    case atStart => exact ⟨(0), (by first | rfl | (simp; done) | (simp [*]; done)), H', ⟨Nat.le_refl _⟩, by repeat (first | exact Drawn0.refl _ | apply Drawn0.step)⟩
    case round =>
      clear H'
      try clear c1
      try clear p2
      try clear c3
      try clear c3b0
      try clear c3b1
      try clear c3b2
      obtain ⟨x5_1, rfl, HA, HK1, ⟨m1, rfl⟩⟩ := hrel
      cases gk with
      | zero => exact absurd HA.out (by simp [laws_eqInt64S.l0])
      | succ k1 =>
        have H := HA.out
        clear HA
        simp only [laws_eqInt64S.l0] at H
        by_cases c4 : x5_1 < (l0.length : Int)
        · rw [if_pos c4] at H
          have c4b0 : decide (x5_1 < (l0.length : Int)) = true := decide_eq_true c4
          clear c4
          by_cases c5 : 0 ≤ x5_1
          · rw [if_pos c5] at H
            have c5b0 : decide (0 ≤ x5_1) = true := decide_eq_true c5
            clear c5
            by_cases c6 : x5_1 < (l1.length : Int)
            · rw [if_pos c6] at H
              have c6b0 : decide (x5_1 < (l1.length : Int)) = true := decide_eq_true c6
              clear c6
              by_cases c7 : (rd l0 x5_1) = (rd l1 x5_1)
              · rw [if_pos c7] at H
                have c7b0 : ((rd l0 x5_1) == (rd l1 x5_1)) = true := beq_iff_eq.mpr c7
                have c7b1 : ((rd l0 x5_1) != (rd l1 x5_1)) = false := bne_eq_false_iff_eq.mpr c7
                clear c7
                have H' := Aside0.mk H
                clear H
                have p252 : 0 ≤ (x5_1 : Int) := of_decide_eq_true (by first | (with_reducible assumption) | assumption)
                have q252 : x5_1 < (l0.length : Int) := of_decide_eq_true (by first | (with_reducible assumption) | assumption)
                obtain ⟨ad252, e252, hx252_0⟩ := Kd.at_int HR0.out x5_1 p252 q252
                cases e252
                replace p252 := eq_true p252
                replace q252 := eq_true q252
                have p253 : 0 ≤ (x5_1 : Int) := of_decide_eq_true (by first | (with_reducible assumption) | assumption)
                have q253 : x5_1 < (l1.length : Int) := of_decide_eq_true (by first | (with_reducible assumption) | assumption)
                obtain ⟨ad253, e253, hx253_0⟩ := Kd.at_int HR1.out x5_1 p253 q253
                cases e253
                replace p253 := eq_true p253
                replace q253 := eq_true q253
                go_wp2
                repeat (go_quiet (fail); try go_wp2)
                go_roundg k1
                case measure => have := HK1.out; omega
                case rel => exact ⟨(wrap64 (x5_1 + 1)), (by first | rfl | (simp; done) | (simp [*]; done)), H', ⟨by have := HK1.out; omega⟩, by repeat (first | exact Drawn0.refl _ | apply Drawn0.step)⟩
              · rw [if_neg c7] at H
                have c7b0 : ((rd l0 x5_1) == (rd l1 x5_1)) = false := beq_eq_false_iff_ne.mpr c7
                have c7b1 : ((rd l0 x5_1) != (rd l1 x5_1)) = true := bne_iff_ne.mpr c7
                obtain rfl := Option.some.inj H
                have p252 : 0 ≤ (x5_1 : Int) := of_decide_eq_true (by first | (with_reducible assumption) | assumption)
                have q252 : x5_1 < (l0.length : Int) := of_decide_eq_true (by first | (with_reducible assumption) | assumption)
                obtain ⟨ad252, e252, hx252_0⟩ := Kd.at_int HR0.out x5_1 p252 q252
                cases e252
                replace p252 := eq_true p252
                replace q252 := eq_true q252
                have p253 : 0 ≤ (x5_1 : Int) := of_decide_eq_true (by first | (with_reducible assumption) | assumption)
                have q253 : x5_1 < (l1.length : Int) := of_decide_eq_true (by first | (with_reducible assumption) | assumption)
                obtain ⟨ad253, e253, hx253_0⟩ := Kd.at_int HR1.out x5_1 p253 q253
                cases e253
                replace p253 := eq_true p253
                replace q253 := eq_true q253
                go_wp2
                repeat (go_quiet (fail); try go_wp2)
                go_ret
                exact ⟨by first | rfl | (simp; done) | (simp [*]; done), by repeat (first | exact Drawn0.refl _ | apply Drawn0.step)⟩
            · rw [if_neg c6] at H
              exact absurd H (by simp)
          · rw [if_neg c5] at H
            exact absurd H (by simp)
        · rw [if_neg c4] at H
          have c4b0 : decide (x5_1 < (l0.length : Int)) = false := decide_eq_false c4
          clear c4
          obtain rfl := Option.some.inj H
          go_wp2
          repeat (go_quiet (fail); try go_wp2)
          go_ret
          exact ⟨by first | rfl | (simp; done) | (simp [*]; done), by repeat (first | exact Drawn0.refl _ | apply Drawn0.step)⟩
  · rw [if_neg c3] at H
    have c3b0 : ((l0.length : Int) == (l1.length : Int)) = false := beq_eq_false_iff_ne.mpr c3
    have c3b1 : ((l0.length : Int) != (l1.length : Int)) = true := bne_iff_ne.mpr c3
    have c3b2 : (l0.length == l1.length) = false := by first | simpa using c3 | (simp at c3 ⊢; omega)
    obtain rfl := Option.some.inj H
    go_enter Try.func11, Try.ntmps11
    go_wp2
    repeat (go_quiet (fail); try go_wp2)
    go_ret
    exact ⟨by first | rfl | (simp; done) | (simp [*]; done), by repeat (first | exact Drawn0.refl _ | apply Drawn0.step)⟩

end Go.Proofs.Ytndbgkcjccejdaa.PFnExactCheapestPumps
