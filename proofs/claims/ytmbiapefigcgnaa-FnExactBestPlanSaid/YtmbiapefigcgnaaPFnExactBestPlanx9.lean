-- written by a program of this session (mkp.py) out of the translation; Lean checks it. -- slim
import Derived.Deep.RegionHeld3
import Derived.Test.YtmbiapefigcgnaaPFnExactBestPlanx0
import Derived.Test.YtmbiapefigcgnaaPFnExactBestPlanx4
import Derived.Test.YtmbiapefigcgnaaPFnExactBestPlanx6
import Derived.Test.YtmbiapefigcgnaaPFnExactBestPlanx7
import Derived.Test.YtmbiapefigcgnaaPFnExactBestPlanx8
namespace Go.Proofs.Ytmbiapefigcgnaa.PFnExactBestPlan
open Go.RowKit Go.Proofs.YtmbiapefigcgnaaW.PrintWords Go.Proofs.YtmbiapefigcgnaaW.PrintLast Go.Proofs.YtmbiapefigcgnaaW.PrintMore
attribute [local go_sem] bin_leq bin_gtr bin_geq max2_int min2_int max_two min_two max_three min_three max_four min_four   -- for this text's walks alone
set_option linter.unusedVariables false
set_option linter.unusedSimpArgs false

/-! ### spec_l24Years: function 49 -/
def spec_l24Years.l0 : Nat → List (S34) → List Int → Int → List Int → Int → Int → Option (List Int)
 | 0, _, _, _, _, _, _ => none
 | k + 1, x0, x1, x2, x7, x8, x9 => if x9 < (x1.length : Int) then (if 0 ≤ x9 then (if 0 ≤ (rd x1 x9) then (if (rd x1 x9) < (x0.length : Int) then (if x2 = 0 then (none) else (if x7.length < 17592186044416 then (spec_l24Years.l0 k x0 x1 x2 (x7 ++ [wrap64 (Int.tdiv (wrap64 ((wrap64 ((wrap64 (x8 + ((rd_T34 x0 (rd x1 x9)).f1))) + x2)) - 1)) x2)]) (wrap64 (x8 + ((rd_T34 x0 (rd x1 x9)).f1))) (wrap64 (x9 + 1))) else (none))) else (none)) else (none)) else (none)) else (some x7)
def spec_l24Years.f (k : Nat) (l0 : List (S34)) (l1 : List Int) (a2 : Int) : Option (List Int) := spec_l24Years.l0 k l0 l1 a2 (([] : List Int)) 0 0
theorem spec_l24Years.mono_l : ∀ k, (∀ y0 y1 y2 y3 y4 y5, LeO (spec_l24Years.l0 k y0 y1 y2 y3 y4 y5) (spec_l24Years.l0 (k + 1) y0 y1 y2 y3 y4 y5))
 | 0 => fun _ _ _ _ _ _ r h => by simp [spec_l24Years.l0] at h
 | k + 1 => by
  have ih0 := spec_l24Years.mono_l k
  ·
   intro y0 y1 y2 y3 y4 y5
   unfold spec_l24Years.l0
   repeat' first
   | (with_reducible exact ih0 _ _ _ _ _ _)
   | (with_reducible exact LeO.refl _)
   | (with_reducible exact LeO.none _)
   | (with_reducible refine LeO.ite ?_ ?_)
   | (with_reducible refine LeO.bind ?_ (fun _ => ?_))
   | exact ih0 _ _ _ _ _ _
   | exact LeO.none _
   | refine LeO.ite ?_ ?_
   | refine LeO.bind ?_ (fun _ => ?_)
theorem spec_l24Years.mono : ∀ a0 a1 a2 k, LeO (spec_l24Years.f k a0 a1 a2) (spec_l24Years.f (k + 1) a0 a1 a2) := by
 intro a0 a1 a2 k
 have ih0 := spec_l24Years.mono_l k
 unfold spec_l24Years.f
 repeat' first
   | (with_reducible exact ih0 _ _ _ _ _ _)
   | (with_reducible exact LeO.refl _)
   | (with_reducible exact LeO.none _)
   | (with_reducible refine LeO.ite ?_ ?_)
   | (with_reducible refine LeO.bind ?_ (fun _ => ?_))
   | exact ih0 _ _ _ _ _ _
   | exact LeO.none _
   | refine LeO.ite ?_ ?_
   | refine LeO.bind ?_ (fun _ => ?_)
set_option maxHeartbeats 8000000 in
set_option maxRecDepth 100000 in
theorem spec_l24Years.calls (k : Nat) (A0 : Option Addr) (c0 : Nat) (l0 : List (S34)) (A1 : Option Addr) (c1 : Nat) (l1 : List Int) (a2 : Int) (r : List Int) (w : World) (hr0 : Kd.C k34 w A0 l0.length l0) (hc0 : l0.length ≤ c0) (hr1 : Kd.C (Kd.int .i64) w A1 l1.length l1) (hc1 : l1.length ≤ c1) (h : spec_l24Years.f k l0 l1 a2 = some r) :
  Calls Try.prog 49 #[.slice A0 l0.length c0, .slice A1 l1.length c1, .int .i64 a2] w fun e w' => ∃ v0_ : Value, e = .returned (v0_) ∧ Kd.R (Kd.int .i64) 2 w' w.heap.size (fun _ => True) v0_ r ∧ Below w.heap.size w w' := by
 have HR0 := Aside0.mk hr0
 have HC0 := Aside0.mk hc0
 clear hr0 hc0
 have HR1 := Aside0.mk hr1
 have HC1 := Aside0.mk hc1
 clear hr1 hc1
 have HB := Aside0.mk (Below.refl w.heap.size w)
 have H : (spec_l24Years.l0 k l0 l1 a2 (([] : List Int)) 0 0) = some r := h
 clear h
 obtain ⟨y196, hy196⟩ : ∃ y_ : List Int, y_ = (([] : List Int)) := ⟨_, rfl⟩
 replace H : (spec_l24Years.l0 k l0 l1 a2 y196 0 0) = some r := by first | (rw [hy196]; with_reducible exact H) | (have H2_ := (Option.bind_some _ _).symm.trans H; rw [hy196]; with_reducible exact H2_) | (have H2_ := (Option.bind_some _ _).symm.trans H; with_reducible exact H2_) | with_reducible exact H | (rw [hy196]; exact H) | exact H
 have Ny196 := Aside0.mk hy196
 clear hy196
 have H' := Aside0.mk H
 clear H
 go_enter Try.func49, Try.ntmps49
 go_wp2_with (first | ((with_reducible refine gate_dst (N := 10) rfl ?_); refine Kd.R_lit (Kd.int .i64) _ 2 ?hg (N := 10) ?hd (xs := ([] : List Int)) (inner := []) (ok := fun _ => True) (okp := fun _ => True) ?hr ?hp (fun _ hk => hk) trivial (Below.refl _ _) (Nat.le_refl _) (by simp) ?_; (case hd => rfl); (case hg => rfl); (case hr => first | (go_simp; done) | (go_simp; rfl)); (case hp => exact (Reps.none _ _)); intro v197 w4 ho5 hb hg_ hnew_; clear hg_ hnew_; (first | rw [← Ny196.out] at ho5 | (simp only [Int.reduceToNat] at ho5; rw [← Ny196.out] at ho5)); have n0_ := Aside0.mk (Kd.R_lower ho5 (below_size (by repeat (first | (with_reducible first | exact HB.out | apply below_alloc | apply pw_below_drewN | apply below_drew1) | exact HB.out)))); have n1_ := Aside0.mk (below_step (by repeat (first | (with_reducible first | exact HB.out | apply below_alloc | apply pw_below_drewN | apply below_drew1) | exact HB.out)) hb); clear HB; have HO198 := n0_; have HB := n1_; clear n0_ n1_; clear hb ho5))
 go_loopg [7, 8, 9] k (fun kq v7 v8 v9 w' => ∃ (x7_1 : List Int) (x8_1 : Int) (x9_1 : Int), v8 = .int .i64 x8_1 ∧ v9 = .int .i64 x9_1 ∧ Aside0 (spec_l24Years.l0 kq l0 l1 a2 x7_1 x8_1 x9_1 = some r) ∧ Aside0 (kq ≤ k) ∧ Aside0 (Kd.R (Kd.int .i64) 2 w' w.heap.size (fun _ => True) v7 x7_1) ∧ Aside0 (Below w.heap.size w w'))
 case atStart => exact ⟨(y196), (0), (0), (by first | rfl | (simp; done) | (simp [*]; done)), (by first | rfl | (simp; done) | (simp [*]; done)), H', ⟨Nat.le_refl _⟩, ⟨by (with_reducible repeat (first | apply Kd.R_alloc | apply Kd.R_drewN | apply Kd.R_drew)); exact HO198.out⟩, ⟨by repeat (first | (with_reducible first | exact HB.out | apply below_alloc | apply pw_below_drewN | apply below_drew1) | exact HB.out)⟩⟩
 case round =>
  clear H'
  try clear c1
  try clear p2
  try clear c4
  obtain ⟨x7_1, x8_1, x9_1, rfl, rfl, HA, HK1, HO_7, HB⟩ := hrel
  cases gk with
  | zero => exact absurd HA.out (by simp [spec_l24Years.l0])
  | succ k1 =>
   have H := HA.out
   clear HA
   simp only [spec_l24Years.l0] at H
   by_cases c6 : x9_1 < (l1.length : Int)
   ·
    rw [if_pos c6] at H
    have c6b0 : decide (x9_1 < (l1.length : Int)) = true := decide_eq_true c6
    clear c6
    by_cases c7 : 0 ≤ x9_1
    ·
     rw [if_pos c7] at H
     have c7b0 : decide (0 ≤ x9_1) = true := decide_eq_true c7
     clear c7
     by_cases c8 : 0 ≤ (rd l1 x9_1)
     ·
      rw [if_pos c8] at H
      have c8b0 : decide (0 ≤ (rd l1 x9_1)) = true := decide_eq_true c8
      clear c8
      by_cases c9 : (rd l1 x9_1) < (l0.length : Int)
      ·
       rw [if_pos c9] at H
       have c9b0 : decide ((rd l1 x9_1) < (l0.length : Int)) = true := decide_eq_true c9
       clear c9
       by_cases c10 : a2 = 0
       ·
        rw [if_pos c10] at H
        exact absurd H (by simp)
       ·
        rw [if_neg c10] at H
        have c10b0 : (a2 == 0) = false := beq_eq_false_iff_ne.mpr c10
        have c10b1 : (a2 != 0) = true := bne_iff_ne.mpr c10
        by_cases c11 : x7_1.length < 17592186044416
        ·
         rw [if_pos c11] at H
         have LMc11 := Aside0.mk c11
         clear c11
         obtain ⟨y201, hy201⟩ : ∃ y_ : List Int, y_ = (x7_1 ++ [wrap64 (Int.tdiv (wrap64 ((wrap64 ((wrap64 (x8_1 + ((rd_T34 l0 (rd l1 x9_1)).f1))) + a2)) - 1)) a2)]) := ⟨_, rfl⟩
         replace H : (spec_l24Years.l0 k1 l0 l1 a2 y201 (wrap64 (x8_1 + ((rd_T34 l0 (rd l1 x9_1)).f1))) (wrap64 (x9_1 + 1))) = some r := by first | (rw [hy201]; with_reducible exact H) | (have H2_ := (Option.bind_some _ _).symm.trans H; rw [hy201]; with_reducible exact H2_) | (have H2_ := (Option.bind_some _ _).symm.trans H; with_reducible exact H2_) | with_reducible exact H | (rw [hy201]; exact H) | exact H
         have Ny201 := Aside0.mk hy201
         clear hy201
         have H' := Aside0.mk H
         clear H
         have p199 : 0 ≤ (x9_1 : Int) := of_decide_eq_true (by first | (with_reducible assumption) | assumption)
         have q199 : x9_1 < (l1.length : Int) := of_decide_eq_true (by first | (with_reducible assumption) | assumption)
         obtain ⟨ad199, e199, hx199_0⟩ := Kd.at_int HR1.out x9_1 p199 q199
         cases e199
         replace hx199_0 := (HB.out.cell (World.block_lt_of_cell? w _ hx199_0)).trans hx199_0
         replace p199 := eq_true p199
         replace q199 := eq_true q199
         have p200 : 0 ≤ ((rd l1 x9_1) : Int) := of_decide_eq_true (by first | (with_reducible assumption) | assumption)
         have q200 : (rd l1 x9_1) < (l0.length : Int) := of_decide_eq_true (by first | (with_reducible assumption) | assumption)
         obtain ⟨ad200, A200_3, c200_3, e200, hx200_0, hx200_1, hx200_2, hx200_3, hl200_3, hi200_3⟩ := at_T34 HR0.out (rd l1 x9_1) p200 q200
         cases e200
         replace hx200_0 := (HB.out.cell (World.block_lt_of_cell? w _ hx200_0)).trans hx200_0
         replace hx200_1 := (HB.out.cell (World.block_lt_of_cell? w _ hx200_1)).trans hx200_1
         replace hx200_2 := (HB.out.cell (World.block_lt_of_cell? w _ hx200_2)).trans hx200_2
         replace hx200_3 := (HB.out.cell (World.block_lt_of_cell? w _ hx200_3)).trans hx200_3
         have HR200_3 := Aside0.mk hi200_3
         have HC200_3 := Aside0.mk hl200_3
         clear hi200_3 hl200_3
         replace p200 := eq_true p200
         replace q200 := eq_true q200
         go_wp2_with (first | ((with_reducible refine gate_builtin (b := .append) (xs := #[.tmp 27, .tmp 34]) rfl ?_); at_builtin; refine Kd.R_append (Kd.int .i64) (w0 := w) w.heap.size rfl (.tmp 27) (.tmp 34) 27 2 (.int .i64 0) 8 rfl Try.underlying27 info2 rfl (by decide) (by omega) u7 x7_1 (wrap64 (Int.tdiv (wrap64 ((wrap64 ((wrap64 (x8_1 + ((rd_T34 l0 (rd l1 x9_1)).f1))) + a2)) - 1)) a2)) [.int .i64 (wrap64 (Int.tdiv (wrap64 ((wrap64 ((wrap64 (x8_1 + ((rd_T34 l0 (rd l1 x9_1)).f1))) + a2)) - 1)) a2))] (fun _ => True) (fun _ => False) rfl rfl ?aP (fun _ hk => hk.elim) ?aF ?aO ?aB ?aS ?aL ?_; (case aP => exact rfl); (case aB => exact (by repeat (first | (with_reducible first | exact HB.out | apply below_alloc | apply pw_below_drewN | apply below_drew1) | exact HB.out))); (case aF => exact (fun _ _ => trivial)); (case aO => exact (by (with_reducible repeat (first | apply Kd.R_alloc | apply Kd.R_drewN | apply Kd.R_drew)); exact HO_7.out)); (case aS => exact (below_size (by repeat (first | (with_reducible first | exact HB.out | apply below_alloc | apply pw_below_drewN | apply below_drew1) | exact HB.out)))); (case aL => have := LMc11.out; omega); intro v202 w12 ho hb hg hat; rw [← Ny201.out] at ho; have n0_ := Aside0.mk (hb); have n1_ := Aside0.mk (ho); clear HB; clear HO_7; have HB := n0_; have HO203 := n1_; clear n0_ n1_; clear ho hb hg hat))
         go_roundg k1
         case measure => have := HK1.out; omega
         case rel => exact ⟨(y201), (wrap64 (x8_1 + ((rd_T34 l0 (rd l1 x9_1)).f1))), (wrap64 (x9_1 + 1)), (by first | rfl | (simp; done) | (simp [*]; done)), (by first | rfl | (simp; done) | (simp [*]; done)), H', ⟨by have := HK1.out; omega⟩, ⟨by (with_reducible repeat (first | apply Kd.R_alloc | apply Kd.R_drewN | apply Kd.R_drew)); exact HO203.out⟩, ⟨by repeat (first | (with_reducible first | exact HB.out | apply below_alloc | apply pw_below_drewN | apply below_drew1) | exact HB.out)⟩⟩
        ·
         rw [if_neg c11] at H
         exact absurd H (by simp)
      ·
       rw [if_neg c9] at H
       exact absurd H (by simp)
     ·
      rw [if_neg c8] at H
      exact absurd H (by simp)
    ·
     rw [if_neg c7] at H
     exact absurd H (by simp)
   ·
    rw [if_neg c6] at H
    have c6b0 : decide (x9_1 < (l1.length : Int)) = false := decide_eq_false c6
    clear c6
    obtain rfl := Option.some.inj H
    go_wp2
    go_ret
    exact ⟨_, by first | rfl | (simp [errW_none, errW_some] <;> rfl) | (simp [*, errW_none, errW_some] <;> rfl), by (with_reducible repeat (first | apply Kd.R_alloc | apply Kd.R_drewN | apply Kd.R_drew)); exact HO_7.out, by repeat (first | (with_reducible first | exact HB.out | apply below_alloc | apply pw_below_drewN | apply below_drew1) | exact HB.out)⟩

/-! ### spec_l00Max: function 90 -/
def spec_l00Max.f (a0 : Int) (a1 : Int) : Option (Int) := if a0 > a1 then (some a0) else (some a1)
set_option maxHeartbeats 8000000 in
set_option maxRecDepth 100000 in
theorem spec_l00Max.calls (a0 : Int) (a1 : Int) (r : Int) (w : World) (h : spec_l00Max.f a0 a1 = some r) :
  Calls Try.prog 90 #[.int .i64 a0, .int .i64 a1] w fun e w' => e = .returned (.int .i64 r) ∧ Drawn0 w w' := by
 have H : (if a0 > a1 then (some a0) else (some a1)) = some r := h
 clear h
 by_cases c3 : a0 > a1
 ·
  rw [if_pos c3] at H
  have c3b0 : decide (a1 < a0) = true := decide_eq_true c3
  clear c3
  obtain rfl := Option.some.inj H
  go_enter Try.func90, Try.ntmps90
  go_wp2
  go_ret
  exact ⟨by first | rfl | (simp; done) | (simp [*]; done), by repeat (first | exact Drawn0.refl _ | apply Drawn0.step)⟩
 ·
  rw [if_neg c3] at H
  have c3b0 : decide (a1 < a0) = false := decide_eq_false c3
  clear c3
  obtain rfl := Option.some.inj H
  go_enter Try.func90, Try.ntmps90
  go_wp2
  go_ret
  exact ⟨by first | rfl | (simp; done) | (simp [*]; done), by repeat (first | exact Drawn0.refl _ | apply Drawn0.step)⟩

/-! ### spec_l24Worth: function 56 -/
def spec_l24Worth.l0 : Nat → List (S34) → List Int → List Int → Int → Int → Int → Option (Int)
 | 0, _, _, _, _, _, _ => none
 | k + 1, x0, x1, x2, x3, x9, x10 => if x10 < (x1.length : Int) then (if 0 ≤ x10 then (if 0 ≤ (rd x1 x10) then (if (rd x1 x10) < (x0.length : Int) then (if x10 < (x2.length : Int) then ((spec_l00Max.f 0 (wrap64 (x3 - (rd x2 x10)))).bind fun t207 => (spec_l24Worth.l0 k x0 x1 x2 x3 (wrap64 (x9 + (wrap64 (((rd_T34 x0 (rd x1 x10)).f2) * t207)))) (wrap64 (x10 + 1)))) else (none)) else (none)) else (none)) else (none)) else (some x9)
def spec_l24Worth.f (k : Nat) (l0 : List (S34)) (l1 : List Int) (l2 : List Int) (a3 : Int) : Option (Int) := spec_l24Worth.l0 k l0 l1 l2 a3 0 0
theorem spec_l24Worth.mono_l : ∀ k, (∀ y0 y1 y2 y3 y4 y5, LeO (spec_l24Worth.l0 k y0 y1 y2 y3 y4 y5) (spec_l24Worth.l0 (k + 1) y0 y1 y2 y3 y4 y5))
 | 0 => fun _ _ _ _ _ _ r h => by simp [spec_l24Worth.l0] at h
 | k + 1 => by
  have ih0 := spec_l24Worth.mono_l k
  ·
   intro y0 y1 y2 y3 y4 y5
   unfold spec_l24Worth.l0
   repeat' first
   | (with_reducible exact ih0 _ _ _ _ _ _)
   | (with_reducible exact LeO.refl _)
   | (with_reducible exact LeO.none _)
   | (with_reducible refine LeO.ite ?_ ?_)
   | (with_reducible refine LeO.bind ?_ (fun _ => ?_))
   | exact ih0 _ _ _ _ _ _
   | exact LeO.none _
   | refine LeO.ite ?_ ?_
   | refine LeO.bind ?_ (fun _ => ?_)
theorem spec_l24Worth.mono : ∀ a0 a1 a2 a3 k, LeO (spec_l24Worth.f k a0 a1 a2 a3) (spec_l24Worth.f (k + 1) a0 a1 a2 a3) := by
 intro a0 a1 a2 a3 k
 have ih0 := spec_l24Worth.mono_l k
 unfold spec_l24Worth.f
 repeat' first
   | (with_reducible exact ih0 _ _ _ _ _ _)
   | (with_reducible exact LeO.refl _)
   | (with_reducible exact LeO.none _)
   | (with_reducible refine LeO.ite ?_ ?_)
   | (with_reducible refine LeO.bind ?_ (fun _ => ?_))
   | exact ih0 _ _ _ _ _ _
   | exact LeO.none _
   | refine LeO.ite ?_ ?_
   | refine LeO.bind ?_ (fun _ => ?_)
set_option maxHeartbeats 8000000 in
set_option maxRecDepth 100000 in
theorem spec_l24Worth.calls (k : Nat) (A0 : Option Addr) (c0 : Nat) (l0 : List (S34)) (A1 : Option Addr) (c1 : Nat) (l1 : List Int) (A2 : Option Addr) (c2 : Nat) (l2 : List Int) (a3 : Int) (r : Int) (w : World) (hr0 : Kd.C k34 w A0 l0.length l0) (hc0 : l0.length ≤ c0) (hr1 : Kd.C (Kd.int .i64) w A1 l1.length l1) (hc1 : l1.length ≤ c1) (hr2 : Kd.C (Kd.int .i64) w A2 l2.length l2) (hc2 : l2.length ≤ c2) (h : spec_l24Worth.f k l0 l1 l2 a3 = some r) :
  Calls Try.prog 56 #[.slice A0 l0.length c0, .slice A1 l1.length c1, .slice A2 l2.length c2, .int .i64 a3] w fun e w' => e = .returned (.int .i64 r) ∧ Drawn0 w w' := by
 have HR0 := Aside0.mk hr0
 have HC0 := Aside0.mk hc0
 clear hr0 hc0
 have HR1 := Aside0.mk hr1
 have HC1 := Aside0.mk hc1
 clear hr1 hc1
 have HR2 := Aside0.mk hr2
 have HC2 := Aside0.mk hc2
 clear hr2 hc2
 have H : (spec_l24Worth.l0 k l0 l1 l2 a3 0 0) = some r := h
 clear h
 have H' := Aside0.mk H
 clear H
 go_enter Try.func56, Try.ntmps56
 go_wp2
 repeat (go_quiet (fail); try go_wp2)
 go_loopg [9, 10] k (fun kq v9 v10 w' => ∃ (x9_1 : Int) (x10_1 : Int), v9 = .int .i64 x9_1 ∧ v10 = .int .i64 x10_1 ∧ Aside0 (spec_l24Worth.l0 kq l0 l1 l2 a3 x9_1 x10_1 = some r) ∧ Aside0 (kq ≤ k) ∧ Drawn0 w w')
 case atStart => exact ⟨(0), (0), (by first | rfl | (simp; done) | (simp [*]; done)), (by first | rfl | (simp; done) | (simp [*]; done)), H', ⟨Nat.le_refl _⟩, by repeat (first | exact Drawn0.refl _ | apply Drawn0.step)⟩
 case round =>
  clear H'
  try clear c1
  try clear c2
  try clear p2
  obtain ⟨x9_1, x10_1, rfl, rfl, HA, HK1, ⟨m1, rfl⟩⟩ := hrel
  cases gk with
  | zero => exact absurd HA.out (by simp [spec_l24Worth.l0])
  | succ k1 =>
   have H := HA.out
   clear HA
   simp only [spec_l24Worth.l0] at H
   by_cases c5 : x10_1 < (l1.length : Int)
   ·
    rw [if_pos c5] at H
    have c5b0 : decide (x10_1 < (l1.length : Int)) = true := decide_eq_true c5
    clear c5
    by_cases c6 : 0 ≤ x10_1
    ·
     rw [if_pos c6] at H
     have c6b0 : decide (0 ≤ x10_1) = true := decide_eq_true c6
     clear c6
     by_cases c7 : 0 ≤ (rd l1 x10_1)
     ·
      rw [if_pos c7] at H
      have c7b0 : decide (0 ≤ (rd l1 x10_1)) = true := decide_eq_true c7
      clear c7
      by_cases c8 : (rd l1 x10_1) < (l0.length : Int)
      ·
       rw [if_pos c8] at H
       have c8b0 : decide ((rd l1 x10_1) < (l0.length : Int)) = true := decide_eq_true c8
       clear c8
       by_cases c9 : x10_1 < (l2.length : Int)
       ·
        rw [if_pos c9] at H
        have c9b0 : decide (x10_1 < (l2.length : Int)) = true := decide_eq_true c9
        clear c9
        replace H := Option.bind_eq_some_iff.mp H
        obtain ⟨t207, A100, H⟩ := H
        replace H : (spec_l24Worth.l0 k1 l0 l1 l2 a3 (wrap64 (x9_1 + (wrap64 (((rd_T34 l0 (rd l1 x10_1)).f2) * t207)))) (wrap64 (x10_1 + 1))) = some r := H
        have A10 := Aside0.mk A100
        clear A100
        have H' := Aside0.mk H
        clear H
        have p204 : 0 ≤ (x10_1 : Int) := of_decide_eq_true (by first | (with_reducible assumption) | assumption)
        have q204 : x10_1 < (l1.length : Int) := of_decide_eq_true (by first | (with_reducible assumption) | assumption)
        obtain ⟨ad204, e204, hx204_0⟩ := Kd.at_int HR1.out x10_1 p204 q204
        cases e204
        replace p204 := eq_true p204
        replace q204 := eq_true q204
        have p205 : 0 ≤ ((rd l1 x10_1) : Int) := of_decide_eq_true (by first | (with_reducible assumption) | assumption)
        have q205 : (rd l1 x10_1) < (l0.length : Int) := of_decide_eq_true (by first | (with_reducible assumption) | assumption)
        obtain ⟨ad205, A205_3, c205_3, e205, hx205_0, hx205_1, hx205_2, hx205_3, hl205_3, hi205_3⟩ := at_T34 HR0.out (rd l1 x10_1) p205 q205
        cases e205
        have HR205_3 := Aside0.mk hi205_3
        have HC205_3 := Aside0.mk hl205_3
        clear hi205_3 hl205_3
        replace p205 := eq_true p205
        replace q205 := eq_true q205
        have p206 : 0 ≤ (x10_1 : Int) := of_decide_eq_true (by first | (with_reducible assumption) | assumption)
        have q206 : x10_1 < (l2.length : Int) := of_decide_eq_true (by first | (with_reducible assumption) | assumption)
        obtain ⟨ad206, e206, hx206_0⟩ := Kd.at_int HR2.out x10_1 p206 q206
        cases e206
        replace p206 := eq_true p206
        replace q206 := eq_true q206
        go_wp2_with (first | (go_at_call 90; (try simp only [Go.IntWalk.i64_left]); (with_reducible refine (spec_l00Max.calls 0 (wrap64 (a3 - (rd l2 x10_1))) t207 _ A10.out).mono ?_); rintro e w' ⟨rfl, ⟨nd, rfl⟩⟩; (try first | exact ⟨rfl, _, World.drewN_drewN _ _ _⟩ | exact ⟨rfl, _, Eq.trans (World.drewN_drewN _ _ _) (congrArg (World.drewN _) (Nat.add_assoc _ _ _))⟩)))
        repeat (go_quiet (first | (go_at_call 90; (try simp only [Go.IntWalk.i64_left]); (with_reducible refine (spec_l00Max.calls 0 (wrap64 (a3 - (rd l2 x10_1))) t207 _ A10.out).mono ?_); rintro e w' ⟨rfl, ⟨nd, rfl⟩⟩; (try first | exact ⟨rfl, _, World.drewN_drewN _ _ _⟩ | exact ⟨rfl, _, Eq.trans (World.drewN_drewN _ _ _) (congrArg (World.drewN _) (Nat.add_assoc _ _ _))⟩))); try go_wp2_with (first | (go_at_call 90; (try simp only [Go.IntWalk.i64_left]); (with_reducible refine (spec_l00Max.calls 0 (wrap64 (a3 - (rd l2 x10_1))) t207 _ A10.out).mono ?_); rintro e w' ⟨rfl, ⟨nd, rfl⟩⟩; (try first | exact ⟨rfl, _, World.drewN_drewN _ _ _⟩ | exact ⟨rfl, _, Eq.trans (World.drewN_drewN _ _ _) (congrArg (World.drewN _) (Nat.add_assoc _ _ _))⟩))))
        go_roundg k1
        case measure => have := HK1.out; omega
        case rel => exact ⟨(wrap64 (x9_1 + (wrap64 (((rd_T34 l0 (rd l1 x10_1)).f2) * t207)))), (wrap64 (x10_1 + 1)), (by first | rfl | (simp; done) | (simp [*]; done)), (by first | rfl | (simp; done) | (simp [*]; done)), H', ⟨by have := HK1.out; omega⟩, by repeat (first | exact Drawn0.refl _ | apply Drawn0.step)⟩
       ·
        rw [if_neg c9] at H
        exact absurd H (by simp)
      ·
       rw [if_neg c8] at H
       exact absurd H (by simp)
     ·
      rw [if_neg c7] at H
      exact absurd H (by simp)
    ·
     rw [if_neg c6] at H
     exact absurd H (by simp)
   ·
    rw [if_neg c5] at H
    have c5b0 : decide (x10_1 < (l1.length : Int)) = false := decide_eq_false c5
    clear c5
    obtain rfl := Option.some.inj H
    go_wp2
    repeat (go_quiet (fail); try go_wp2)
    go_ret
    exact ⟨by first | rfl | (simp; done) | (simp [*]; done), by repeat (first | exact Drawn0.refl _ | apply Drawn0.step)⟩

/-! ### spec_l00Own: function 100 -/
def spec_l00Own.f (l0 : List Int) : Option (List Int) := (some (([] : List Int) : List Int)).bind fun y208 => (if y208.length + l0.length < 17592186044416 then (some (y208 ++ l0)) else (none))
set_option maxHeartbeats 8000000 in
set_option maxRecDepth 100000 in
theorem spec_l00Own.calls (A0 : Option Addr) (c0 : Nat) (l0 : List Int) (r : List Int) (w : World) (hr0 : Kd.C (Kd.int .i64) w A0 l0.length l0) (hc0 : l0.length ≤ c0) (h : spec_l00Own.f l0 = some r) :
  Calls Try.prog 100 #[.slice A0 l0.length c0] w fun e w' => ∃ v0_ : Value, e = .returned (v0_) ∧ Kd.R (Kd.int .i64) 2 w' w.heap.size (fun _ => True) v0_ r ∧ Below w.heap.size w w' := by
 have HR0 := Aside0.mk hr0
 have HC0 := Aside0.mk hc0
 clear hr0 hc0
 have HB := Aside0.mk (Below.refl w.heap.size w)
 have H : ((some (([] : List Int) : List Int)).bind fun y208 => (if y208.length + l0.length < 17592186044416 then (some (y208 ++ l0)) else (none))) = some r := h
 clear h
 obtain ⟨y208, hy208⟩ : ∃ y_ : List Int, y_ = (([] : List Int)) := ⟨_, rfl⟩
 replace H : (if y208.length + l0.length < 17592186044416 then (some (y208 ++ l0)) else (none)) = some r := by first | (rw [hy208]; with_reducible exact H) | (have H2_ := (Option.bind_some _ _).symm.trans H; rw [hy208]; with_reducible exact H2_) | (have H2_ := (Option.bind_some _ _).symm.trans H; with_reducible exact H2_) | with_reducible exact H | (rw [hy208]; exact H) | exact H
 have Ny208 := Aside0.mk hy208
 clear hy208
 by_cases c2 : y208.length + l0.length < 17592186044416
 ·
  rw [if_pos c2] at H
  have LMc2 := Aside0.mk c2
  clear c2
  obtain ⟨y211, hy211⟩ : ∃ y_ : List Int, y_ = (y208 ++ l0) := ⟨_, rfl⟩
  replace H : (some y211) = some r := by first | (rw [hy211]; with_reducible exact H) | (have H2_ := (Option.bind_some _ _).symm.trans H; rw [hy211]; with_reducible exact H2_) | (have H2_ := (Option.bind_some _ _).symm.trans H; with_reducible exact H2_) | with_reducible exact H | (rw [hy211]; exact H) | exact H
  have Ny211 := Aside0.mk hy211
  clear hy211
  obtain rfl := Option.some.inj H
  go_enter Try.func100, Try.ntmps100
  go_wp2_with (first | ((with_reducible refine gate_dst (N := 3) rfl ?_); refine Kd.R_lit (Kd.int .i64) _ 2 ?hg (N := 3) ?hd (xs := ([] : List Int)) (inner := []) (ok := fun _ => True) (okp := fun _ => True) ?hr ?hp (fun _ hk => hk) trivial (Below.refl _ _) (Nat.le_refl _) (by simp) ?_; (case hd => rfl); (case hg => rfl); (case hr => first | (go_simp; done) | (go_simp; rfl)); (case hp => exact (Reps.none _ _)); intro v209 w3 ho4 hb hg_ hnew_; clear hg_ hnew_; (first | rw [← Ny208.out] at ho4 | (simp only [Int.reduceToNat] at ho4; rw [← Ny208.out] at ho4)); have n0_ := Aside0.mk (Kd.R_lower ho4 (below_size (by repeat (first | (with_reducible first | exact HB.out | apply below_alloc | apply pw_below_drewN | apply below_drew1) | exact HB.out)))); have n1_ := Aside0.mk (below_step (by repeat (first | (with_reducible first | exact HB.out | apply below_alloc | apply pw_below_drewN | apply below_drew1) | exact HB.out)) hb); clear HB; have HO210 := n0_; have HB := n1_; clear n0_ n1_; clear hb ho4) | ((with_reducible refine gate_builtin (b := .append) (xs := #[.tmp 3, .tmp 4]) rfl ?_); at_builtin; refine Kd.R_append_rows (Kd.int .i64) (w0 := w) w.heap.size rfl (.tmp 3) (.tmp 4) 27 2 (.int .i64 0) 8 rfl Try.underlying27 info2 rfl (by decide) (by omega) v209 y208 l0 _ _ _ (fun _ => True) (fun _ => False) rfl rfl ?aO ?aR (fun _ _ h => h) (fun _ h => h.elim) ?aF ?aB ?aS ?aL ?_; (case aR => repeat (first | exact (Kd.C_below HR0.out HB.out) | (with_reducible refine Kd.C_alloc ?_ _) | (with_reducible refine Kd.C_drewN ?_ _) | (with_reducible refine Kd.C_drew ?_))); (case aB => exact (by repeat (first | (with_reducible first | exact HB.out | apply below_alloc | apply pw_below_drewN | apply below_drew1) | exact HB.out))); (case aF => exact (fun _ _ => trivial)); (case aO => exact (by (with_reducible repeat (first | apply Kd.R_alloc | apply Kd.R_drewN | apply Kd.R_drew)); exact HO210.out)); (case aS => exact (below_size (by repeat (first | (with_reducible first | exact HB.out | apply below_alloc | apply pw_below_drewN | apply below_drew1) | exact HB.out)))); (case aL => have := LMc2.out; omega); intro v212 w5 ho hb hg hat; rw [← Ny211.out] at ho; have n0_ := Aside0.mk (hb); have n1_ := Aside0.mk (ho); clear HB; clear HO210; have HB := n0_; have HO213 := n1_; clear n0_ n1_; clear ho hb hg hat))
  go_ret
  exact ⟨_, by first | rfl | (simp [errW_none, errW_some] <;> rfl) | (simp [*, errW_none, errW_some] <;> rfl), by (with_reducible repeat (first | apply Kd.R_alloc | apply Kd.R_drewN | apply Kd.R_drew)); exact HO213.out, by repeat (first | (with_reducible first | exact HB.out | apply below_alloc | apply pw_below_drewN | apply below_drew1) | exact HB.out)⟩
 ·
  rw [if_neg c2] at H
  exact absurd H (by simp)

-- NOT PRINTED: function 63 (spec_l24Plans_run)

/-! ### spec_BestPlan: function 24 -/
theorem cells9 {w : World} {p t : Nat} {x0 x1 x2 x3 x4 x5 x6 x7 x8 : Value} (h : w.heap[p]? = some (.cells #[x0, x1, x2, x3, x4, x5, x6, x7, x8] t (0, 0))) :
  w.cell? ⟨p, 0, none⟩ = some x0 ∧ w.cell? ⟨p, 1, none⟩ = some x1 ∧ w.cell? ⟨p, 2, none⟩ = some x2 ∧ w.cell? ⟨p, 3, none⟩ = some x3 ∧ w.cell? ⟨p, 4, none⟩ = some x4 ∧ w.cell? ⟨p, 5, none⟩ = some x5 ∧ w.cell? ⟨p, 6, none⟩ = some x6 ∧ w.cell? ⟨p, 7, none⟩ = some x7 ∧ w.cell? ⟨p, 8, none⟩ = some x8 ∧ ∀ i, w.frozen? ⟨p, i, none⟩ = false :=
 ⟨(blk_cell h 0).trans rfl, (blk_cell h 1).trans rfl, (blk_cell h 2).trans rfl, (blk_cell h 3).trans rfl, (blk_cell h 4).trans rfl, (blk_cell h 5).trans rfl, (blk_cell h 6).trans rfl, (blk_cell h 7).trans rfl, (blk_cell h 8).trans rfl, fun i => blk_frozen h i⟩
def sets9 (w : World) (g : Nat) (y0 y1 y2 y3 y4 y5 y6 y7 y8 : Value) : World := (((((((((w.setCell ⟨g, 0, none⟩ y0).setCell ⟨g, 1, none⟩ y1).setCell ⟨g, 2, none⟩ y2).setCell ⟨g, 3, none⟩ y3).setCell ⟨g, 4, none⟩ y4).setCell ⟨g, 5, none⟩ y5).setCell ⟨g, 6, none⟩ y6).setCell ⟨g, 7, none⟩ y7).setCell ⟨g, 8, none⟩ y8)
theorem sets9_blk {w : World} {g t : Nat} {x0 x1 x2 x3 x4 x5 x6 x7 x8 : Value} (hb : w.heap[g]? = some (.cells #[x0, x1, x2, x3, x4, x5, x6, x7, x8] t (0, 0))) (y0 y1 y2 y3 y4 y5 y6 y7 y8 : Value) : (sets9 w g y0 y1 y2 y3 y4 y5 y6 y7 y8).heap[g]? = some (.cells #[y0, y1, y2, y3, y4, y5, y6, y7, y8] t (0, 0)) := by
 have h1 : (w.setCell ⟨g, 0, none⟩ y0).heap[g]? = some (.cells #[y0, x1, x2, x3, x4, x5, x6, x7, x8] t (0, 0)) := blk_set hb 0 y0
 have h2 : ((w.setCell ⟨g, 0, none⟩ y0).setCell ⟨g, 1, none⟩ y1).heap[g]? = some (.cells #[y0, y1, x2, x3, x4, x5, x6, x7, x8] t (0, 0)) := blk_set h1 1 y1
 have h3 : (((w.setCell ⟨g, 0, none⟩ y0).setCell ⟨g, 1, none⟩ y1).setCell ⟨g, 2, none⟩ y2).heap[g]? = some (.cells #[y0, y1, y2, x3, x4, x5, x6, x7, x8] t (0, 0)) := blk_set h2 2 y2
 have h4 : ((((w.setCell ⟨g, 0, none⟩ y0).setCell ⟨g, 1, none⟩ y1).setCell ⟨g, 2, none⟩ y2).setCell ⟨g, 3, none⟩ y3).heap[g]? = some (.cells #[y0, y1, y2, y3, x4, x5, x6, x7, x8] t (0, 0)) := blk_set h3 3 y3
 have h5 : (((((w.setCell ⟨g, 0, none⟩ y0).setCell ⟨g, 1, none⟩ y1).setCell ⟨g, 2, none⟩ y2).setCell ⟨g, 3, none⟩ y3).setCell ⟨g, 4, none⟩ y4).heap[g]? = some (.cells #[y0, y1, y2, y3, y4, x5, x6, x7, x8] t (0, 0)) := blk_set h4 4 y4
 have h6 : ((((((w.setCell ⟨g, 0, none⟩ y0).setCell ⟨g, 1, none⟩ y1).setCell ⟨g, 2, none⟩ y2).setCell ⟨g, 3, none⟩ y3).setCell ⟨g, 4, none⟩ y4).setCell ⟨g, 5, none⟩ y5).heap[g]? = some (.cells #[y0, y1, y2, y3, y4, y5, x6, x7, x8] t (0, 0)) := blk_set h5 5 y5
 have h7 : (((((((w.setCell ⟨g, 0, none⟩ y0).setCell ⟨g, 1, none⟩ y1).setCell ⟨g, 2, none⟩ y2).setCell ⟨g, 3, none⟩ y3).setCell ⟨g, 4, none⟩ y4).setCell ⟨g, 5, none⟩ y5).setCell ⟨g, 6, none⟩ y6).heap[g]? = some (.cells #[y0, y1, y2, y3, y4, y5, y6, x7, x8] t (0, 0)) := blk_set h6 6 y6
 have h8 : ((((((((w.setCell ⟨g, 0, none⟩ y0).setCell ⟨g, 1, none⟩ y1).setCell ⟨g, 2, none⟩ y2).setCell ⟨g, 3, none⟩ y3).setCell ⟨g, 4, none⟩ y4).setCell ⟨g, 5, none⟩ y5).setCell ⟨g, 6, none⟩ y6).setCell ⟨g, 7, none⟩ y7).heap[g]? = some (.cells #[y0, y1, y2, y3, y4, y5, y6, y7, x8] t (0, 0)) := blk_set h7 7 y7
 have h9 : (((((((((w.setCell ⟨g, 0, none⟩ y0).setCell ⟨g, 1, none⟩ y1).setCell ⟨g, 2, none⟩ y2).setCell ⟨g, 3, none⟩ y3).setCell ⟨g, 4, none⟩ y4).setCell ⟨g, 5, none⟩ y5).setCell ⟨g, 6, none⟩ y6).setCell ⟨g, 7, none⟩ y7).setCell ⟨g, 8, none⟩ y8).heap[g]? = some (.cells #[y0, y1, y2, y3, y4, y5, y6, y7, y8] t (0, 0)) := blk_set h8 8 y8
 exact h9
theorem sets9_below {b : Nat} {w W : World} (h : Below b w W) {g : Nat} (hg : b ≤ g) (y0 y1 y2 y3 y4 y5 y6 y7 y8 : Value) : Below b w (sets9 W g y0 y1 y2 y3 y4 y5 y6 y7 y8) := (sput (sput (sput (sput (sput (sput (sput (sput (sput h hg 0 y0) hg 1 y1) hg 2 y2) hg 3 y3) hg 4 y4) hg 5 y5) hg 6 y6) hg 7 y7) hg 8 y8)
theorem rows2_sets9 {w : World} {base g t : Nat} {x0 x1 x2 x3 x4 x5 x6 x7 x8 v2 v3 : Value} {bu be : List Int} (h : Rows2 w base v2 v3 bu be) (hb : w.heap[g]? = some (.cells #[x0, x1, x2, x3, x4, x5, x6, x7, x8] t (0, 0))) (ht : t ≠ 2) (y0 y1 y2 y3 y4 y5 y6 y7 y8 : Value) : Rows2 (sets9 w g y0 y1 y2 y3 y4 y5 y6 y7 y8) base v2 v3 bu be := by
 have h1 : (w.setCell ⟨g, 0, none⟩ y0).heap[g]? = some (.cells #[y0, x1, x2, x3, x4, x5, x6, x7, x8] t (0, 0)) := blk_set hb 0 y0
 have h2 : ((w.setCell ⟨g, 0, none⟩ y0).setCell ⟨g, 1, none⟩ y1).heap[g]? = some (.cells #[y0, y1, x2, x3, x4, x5, x6, x7, x8] t (0, 0)) := blk_set h1 1 y1
 have h3 : (((w.setCell ⟨g, 0, none⟩ y0).setCell ⟨g, 1, none⟩ y1).setCell ⟨g, 2, none⟩ y2).heap[g]? = some (.cells #[y0, y1, y2, x3, x4, x5, x6, x7, x8] t (0, 0)) := blk_set h2 2 y2
 have h4 : ((((w.setCell ⟨g, 0, none⟩ y0).setCell ⟨g, 1, none⟩ y1).setCell ⟨g, 2, none⟩ y2).setCell ⟨g, 3, none⟩ y3).heap[g]? = some (.cells #[y0, y1, y2, y3, x4, x5, x6, x7, x8] t (0, 0)) := blk_set h3 3 y3
 have h5 : (((((w.setCell ⟨g, 0, none⟩ y0).setCell ⟨g, 1, none⟩ y1).setCell ⟨g, 2, none⟩ y2).setCell ⟨g, 3, none⟩ y3).setCell ⟨g, 4, none⟩ y4).heap[g]? = some (.cells #[y0, y1, y2, y3, y4, x5, x6, x7, x8] t (0, 0)) := blk_set h4 4 y4
 have h6 : ((((((w.setCell ⟨g, 0, none⟩ y0).setCell ⟨g, 1, none⟩ y1).setCell ⟨g, 2, none⟩ y2).setCell ⟨g, 3, none⟩ y3).setCell ⟨g, 4, none⟩ y4).setCell ⟨g, 5, none⟩ y5).heap[g]? = some (.cells #[y0, y1, y2, y3, y4, y5, x6, x7, x8] t (0, 0)) := blk_set h5 5 y5
 have h7 : (((((((w.setCell ⟨g, 0, none⟩ y0).setCell ⟨g, 1, none⟩ y1).setCell ⟨g, 2, none⟩ y2).setCell ⟨g, 3, none⟩ y3).setCell ⟨g, 4, none⟩ y4).setCell ⟨g, 5, none⟩ y5).setCell ⟨g, 6, none⟩ y6).heap[g]? = some (.cells #[y0, y1, y2, y3, y4, y5, y6, x7, x8] t (0, 0)) := blk_set h6 6 y6
 have h8 : ((((((((w.setCell ⟨g, 0, none⟩ y0).setCell ⟨g, 1, none⟩ y1).setCell ⟨g, 2, none⟩ y2).setCell ⟨g, 3, none⟩ y3).setCell ⟨g, 4, none⟩ y4).setCell ⟨g, 5, none⟩ y5).setCell ⟨g, 6, none⟩ y6).setCell ⟨g, 7, none⟩ y7).heap[g]? = some (.cells #[y0, y1, y2, y3, y4, y5, y6, y7, x8] t (0, 0)) := blk_set h7 7 y7
 have h9 : (((((((((w.setCell ⟨g, 0, none⟩ y0).setCell ⟨g, 1, none⟩ y1).setCell ⟨g, 2, none⟩ y2).setCell ⟨g, 3, none⟩ y3).setCell ⟨g, 4, none⟩ y4).setCell ⟨g, 5, none⟩ y5).setCell ⟨g, 6, none⟩ y6).setCell ⟨g, 7, none⟩ y7).setCell ⟨g, 8, none⟩ y8).heap[g]? = some (.cells #[y0, y1, y2, y3, y4, y5, y6, y7, y8] t (0, 0)) := blk_set h8 8 y8
 exact (Rows2.set (Rows2.set (Rows2.set (Rows2.set (Rows2.set (Rows2.set (Rows2.set (Rows2.set (Rows2.set h hb ht 0 y0) h1 ht 1 y1) h2 ht 2 y2) h3 ht 3 y3) h4 ht 4 y4) h5 ht 5 y5) h6 ht 6 y6) h7 ht 7 y7) h8 ht 8 y8)
structure SVL where
 yearly : Int
 years : Int
 order : List Int
 best : List Int
 most : Int
 nodes : Int
 budget : Int
 full : Bool
/-- A row of whole numbers of one's own. -/
def RowI (w : World) (base : Nat) (v : Value) (xs : List Int) : Prop := Kd.R (Kd.int .i64) 2 w base (fun _ => True) v xs
theorem RowI.below {w w' : World} {base : Nat} {v : Value} {xs : List Int} (h : RowI w base v xs) (hb : Below w.heap.size w w') : RowI w' base v xs := Kd.R_below h hb
theorem RowI.set {w : World} {base p t : Nat} {cs : Array Value} {v : Value} {xs : List Int} (h : RowI w base v xs) (hP : w.heap[p]? = some (.cells cs t (0, 0))) (ht : t ≠ 2) (i : Nat) (u : Value) : RowI (w.setCell ⟨p, i, none⟩ u) base v xs := Kd.R_set h hP (ne_int ht) i u
/-- One block alone is written; new ones are made. -/
structure OnlyP (p : Nat) (w w' : World) : Prop where
 os : w'.os = w.os
 tape : w'.tape = w.tape
 output : w'.output = w.output
 size : w.heap.size ≤ w'.heap.size
 blk : ∀ k, k < w.heap.size → k ≠ p → w'.heap[k]? = w.heap[k]?
theorem OnlyP.refl (p : Nat) (w : World) : OnlyP p w w := ⟨rfl, rfl, rfl, Nat.le_refl _, fun _ _ _ => rfl⟩
theorem OnlyP.trans {p : Nat} {w w1 w2 : World} (h : OnlyP p w w1) (k : OnlyP p w1 w2) : OnlyP p w w2 := ⟨k.os.trans h.os, k.tape.trans h.tape, k.output.trans h.output, Nat.le_trans h.size k.size, fun i hi hn => (k.blk i (Nat.lt_of_lt_of_le hi h.size) hn).trans (h.blk i hi hn)⟩
theorem OnlyP.of_below {p : Nat} {w w' : World} (h : Below w.heap.size w w') : OnlyP p w w' := ⟨h.os, h.tape, h.output, h.size, fun k hk _ => h.block k hk⟩
theorem OnlyP.set (p : Nat) (w : World) (i : Nat) (u : Value) : OnlyP p w (w.setCell ⟨p, i, none⟩ u) := ⟨rfl, rfl, rfl, by simp [World.setCell], fun k _ hn => Below.heap_setCell w ⟨p, i, none⟩ u k hn⟩
theorem OnlyP.below {p b : Nat} {w0 w w' : World} (h : OnlyP p w w') (hb : Below b w0 w) (hs : b ≤ w.heap.size) (hp : b ≤ p) : Below b w0 w' := ⟨h.os.trans hb.os, h.tape.trans hb.tape, h.output.trans hb.output, Nat.le_trans hb.size h.size, fun i hi => (h.blk i (Nat.lt_of_lt_of_le hi hs) (by omega)).trans (hb.block i hi)⟩
theorem RowI.only {w w' : World} {base p t : Nat} {cs : Array Value} {v : Value} {xs : List Int} (h : RowI w base v xs) (hP : w.heap[p]? = some (.cells cs t (0, 0))) (ht : t ≠ 2) (ho : OnlyP p w w') : RowI w' base v xs :=
 Kd.R_mono (Kd.R_move (Kd.R_bound h) (fun k hk => by
  obtain ⟨_, _, hlt, q, hq, cells, hc⟩ := hk
  refine ho.blk k hlt ?_
  rintro rfl
  rw [hP] at hc
  injection hc with hc
  injection hc with _ e
  exact ne_int ht q hq e.symm)) (fun _ _ => trivial)
def StL (w : World) (base p : Nat) (Al : Option Addr) (nl cl : Nat) (s : SVL) : Prop := ∃ A2 c2 A3 c3, w.heap[p]? = some (.cells #[.slice Al nl cl, .int .i64 s.yearly, .int .i64 s.years, .slice A2 s.order.length c2, .slice A3 s.best.length c3, .int .i64 s.most, .int .i64 s.nodes, .int .i64 s.budget, .bool s.full] 95 (0, 0)) ∧ RowI w base (.slice A2 s.order.length c2) s.order ∧ RowI w base (.slice A3 s.best.length c3) s.best
theorem StL.below {w w' : World} {base p : Nat} {Al : Option Addr} {nl cl : Nat} {s : SVL} (h : StL w base p Al nl cl s) (hb : Below w.heap.size w w') : StL w' base p Al nl cl s := by
 obtain ⟨A2, c2, A3, c3, hP, h2, h3⟩ := h
 exact ⟨A2, c2, A3, c3, blk_below hP hb, h2.below hb, h3.below hb⟩
theorem StL.set {w : World} {base p : Nat} {Al A2 A3 : Option Addr} {nl cl c2 c3 n2 n3 : Nat} {cs : Array Value} {s : SVL} (hP : w.heap[p]? = some (.cells cs 95 (0, 0))) (h2 : RowI w base (.slice A2 n2 c2) s.order) (h3 : RowI w base (.slice A3 n3 c3) s.best) (e2 : n2 = s.order.length) (e3 : n3 = s.best.length) (i : Nat) (u : Value) (he : cs.setIfInBounds i u = #[.slice Al nl cl, .int .i64 s.yearly, .int .i64 s.years, .slice A2 s.order.length c2, .slice A3 s.best.length c3, .int .i64 s.most, .int .i64 s.nodes, .int .i64 s.budget, .bool s.full]) : StL (w.setCell ⟨p, i, none⟩ u) base p Al nl cl s := by
 subst e2
 subst e3
 exact ⟨A2, c2, A3, c3, by rw [← he]; exact blk_set hP i u, h2.set hP (by decide) i u, h3.set hP (by decide) i u⟩
/-- The stages from one on, tried behind an order. -/
def loopL (rec : SVL → Option SVL) (k : Nat) (xs : List S34) : Nat → SVL → Option SVL
 | 0, s => some s
 | d + 1, s => if s.full = true then some s else
  (spec_l00Has.f k s.order ((xs.length - (d + 1) : Nat) : Int)).bind fun c => if c = true then loopL rec k xs d s else
  (spec_l24Ready.f k xs s.order ((xs.length - (d + 1) : Nat) : Int)).bind fun h => if h = true then
   (spec_l24Years.f k xs (s.order ++ [((xs.length - (d + 1) : Nat) : Int)]) s.yearly).bind fun ys => if 0 < ys.length ∧ ys.length ≤ 1001 then
    if s.years < rd ys ((ys.length : Int) - 1) then loopL rec k xs d s else
    if s.nodes = s.budget then some ⟨s.yearly, s.years, s.order, s.best, s.most, s.nodes, s.budget, true⟩ else
    (rec ⟨s.yearly, s.years, s.order ++ [((xs.length - (d + 1) : Nat) : Int)], s.best, s.most, wrap64 (s.nodes + 1), s.budget, s.full⟩).bind fun s2 =>
     loopL rec k xs d ⟨s2.yearly, s2.years, s.order, s2.best, s2.most, s2.nodes, s2.budget, s2.full⟩
   else none
  else loopL rec k xs d s
def firstL (worth : Int) (s : SVL) : SVL := if s.most < worth then ⟨s.yearly, s.years, s.order, s.order, worth, s.nodes, s.budget, s.full⟩ else s
def runL (xs : List S34) : Nat → SVL → Option SVL
 | 0, _ => none
 | k + 1, s => if s.order.length ≤ 1000 then (spec_l24Years.f k xs s.order s.yearly).bind fun ys => (spec_l24Worth.f k xs s.order ys s.years).bind fun wo => loopL (runL xs k) k xs xs.length (firstL wo s) else none
theorem loopL_mono (rec rec2 : SVL → Option SVL) (hrec : ∀ s, LeO (rec s) (rec2 s)) (k : Nat) (xs : List S34) : ∀ d s, LeO (loopL rec k xs d s) (loopL rec2 (k + 1) xs d s)
 | 0, s => LeO.refl _
 | d + 1, s => by
  unfold loopL
  exact LeO.ite (LeO.refl _) (LeO.bind (spec_l00Has.mono _ _ k) (fun _ => LeO.ite (loopL_mono rec rec2 hrec k xs d s) (LeO.bind (spec_l24Ready.mono _ _ _ k) (fun _ => LeO.ite (LeO.bind (spec_l24Years.mono _ _ _ k) (fun _ => LeO.ite (LeO.ite (loopL_mono rec rec2 hrec k xs d s) (LeO.ite (LeO.refl _) (LeO.bind (hrec _) (fun _ => loopL_mono rec rec2 hrec k xs d _)))) (LeO.refl _))) (loopL_mono rec rec2 hrec k xs d s)))))
theorem runL_mono (xs : List S34) : ∀ k s, LeO (runL xs k s) (runL xs (k + 1) s)
 | 0, s => LeO.none _
 | k + 1, s => by
  show LeO (if s.order.length ≤ 1000 then (spec_l24Years.f k xs s.order s.yearly).bind fun ys => (spec_l24Worth.f k xs s.order ys s.years).bind fun wo => loopL (runL xs k) k xs xs.length (firstL wo s) else none) (if s.order.length ≤ 1000 then (spec_l24Years.f (k + 1) xs s.order s.yearly).bind fun ys => (spec_l24Worth.f (k + 1) xs s.order ys s.years).bind fun wo => loopL (runL xs (k + 1)) (k + 1) xs xs.length (firstL wo s) else none)
  exact LeO.ite (LeO.bind (spec_l24Years.mono _ _ _ k) (fun _ => LeO.bind (spec_l24Worth.mono _ _ _ _ k) (fun _ => loopL_mono (runL xs k) (runL xs (k + 1)) (fun s => runL_mono xs k s) k xs xs.length _))) (LeO.refl _)
-- @cut
set_option maxHeartbeats 16000000 in
set_option maxRecDepth 100000 in
theorem runL_s.calls (xs : List S34) (hxl : xs.length ≤ 1000) (b0 : Nat) (w0 : World) (Al : Option Addr) (cl : Nat) (hcl : xs.length ≤ cl) (hrd : ∀ W, Below b0 w0 W → b0 ≤ W.heap.size → Kd.C k34 W Al xs.length xs) (p : Nat) (hp : b0 ≤ p) (k : Nat)
  (ih : ∀ (s s' : SVL) (w : World), runL xs k s = some s' → Below b0 w0 w → b0 ≤ w.heap.size → StL w b0 p Al xs.length cl s → Calls Try.prog 63 #[.pointer (some ⟨p, 0, none⟩)] w fun e w' => e = .returned (.tuple #[]) ∧ OnlyP p w w' ∧ StL w' b0 p Al xs.length cl s')
  (s0 s' : SVL) (w : World) (h : runL xs (k + 1) s0 = some s') (hb : Below b0 w0 w) (hbw : b0 ≤ w.heap.size) (hs : StL w b0 p Al xs.length cl s0) :
  Calls Try.prog 63 #[.pointer (some ⟨p, 0, none⟩)] w fun e w' => e = .returned (.tuple #[]) ∧ OnlyP p w w' ∧ StL w' b0 p Al xs.length cl s' := by
 unfold runL at h
 by_cases hol : s0.order.length ≤ 1000
 ·
  rw [if_pos hol] at h
  obtain ⟨ys, hys, h⟩ := Option.bind_eq_some_iff.1 h
  obtain ⟨wo, hwo, h⟩ := Option.bind_eq_some_iff.1 h
  have HS := Aside0.mk hs
  obtain ⟨A2, c2, A3, c3, hP, hR2, hR3⟩ := hs
  obtain ⟨x0, x1, x2, x3, x4, x5, x6, x7, x8, xf⟩ := cells9 hP
  obtain ⟨_, hc2, hC2⟩ := Kd.R_reads' hR2
  have HY := Aside0.mk (fun W (hW : Below w.heap.size w W) => (spec_l24Years.calls k Al cl xs A2 c2 s0.order s0.yearly ys W (hrd W (below_then hb hbw hW) (Nat.le_trans hbw hW.size)) hcl (Kd.C_below hC2 hW) hc2 hys).mono fun e w' he => (by obtain ⟨v, e1, e2, e3⟩ := he; exact ⟨v, e1, Kd.R_lower e2 hW.size, below_then hW hW.size e3⟩ : ∃ v, e = .returned v ∧ RowI w' w.heap.size v ys ∧ Below w.heap.size w w'))
  have HWO := Aside0.mk (fun W (hW : Below w.heap.size w W) A9 c9 (hr : Kd.C (Kd.int .i64) W A9 ys.length ys) (hc9 : ys.length ≤ c9) => spec_l24Worth.calls k Al cl xs A2 c2 s0.order A9 c9 ys s0.years wo W (hrd W (below_then hb hbw hW) (Nat.le_trans hbw hW.size)) hcl (Kd.C_below hC2 hW) hc2 hr hc9 hwo)
  have HH := Aside0.mk h
  have HXL := Aside0.mk hxl
  have HCL := Aside0.mk hcl
  have HRD := Aside0.mk hrd
  have HPP := Aside0.mk hp
  have IH := Aside0.mk ih
  have HB := Aside0.mk hb
  have HBW := Aside0.mk hbw
  have HOL := Aside0.mk hol
  clear h hys hwo hxl hcl hrd hp ih hb hbw hol hP hR2 hR3 hc2 hC2
  go_enter Try.func63, Try.ntmps63
  go_wp2
  go_region_held3 (fun W_ => W_.cell? ⟨p, 0, none⟩ = some (.slice Al xs.length cl) ∧ W_.cell? ⟨p, 1, none⟩ = some (.int .i64 s0.yearly) ∧ W_.cell? ⟨p, 2, none⟩ = some (.int .i64 s0.years) ∧ W_.cell? ⟨p, 3, none⟩ = some (.slice A2 s0.order.length c2)) (first | (exact ⟨y0, y1, y2, y3⟩) | go_keep) (first | (go_at_call 49; refine (HY.out _ (by repeat (first | exact Below.refl _ _ | apply pw_below_drewN | apply below_drew))).mono ?_; rintro e w1 ⟨v, rfl, hRy, hb1⟩; obtain ⟨A9, c9, e9⟩ := Kd.R_slice hRy; subst e9; have y0 := pw_cell_below hb1 x0; have y1 := pw_cell_below hb1 x1; have y2 := pw_cell_below hb1 x2; have y3 := pw_cell_below hb1 x3; have HB1 := Aside0.mk hb1; have HRY := Aside0.mk hRy; clear hb1 hRy) | (go_at_call 56; refine (HWO.out _ (by repeat (first | exact HB1.out | apply pw_below_drewN | apply below_drew)) A9 c9 (by repeat (first | exact (Kd.R_reads' HRY.out).2.2 | refine Kd.C_drewN ?_ _ | refine Kd.C_drew ?_)) (Kd.R_reads' HRY.out).2.1).mono ?_; rintro e w' ⟨rfl, ⟨⟨nd, rfl⟩⟩⟩))
  rename_i hH_
  have hSn := (HS.out.below HB1.out).below (pw_below_drewN (Below.refl _ _) nd)
  have hOn : OnlyP p w (w1.drewN nd) := OnlyP.of_below (pw_below_drewN HB1.out nd)
  clear hH_ x0 x1 x2 x3 x4 x5 x6 x7 x8 xf y0 y1 y2 y3
  generalize w1.drewN nd = W1 at hSn hOn ⊢
  have HSn := Aside0.mk hSn
  have HOn := Aside0.mk hOn
  obtain ⟨A4, c4, A5, c5, hPn, hR2n, hR3n⟩ := hSn
  obtain ⟨x0, x1, x2, x3, x4, x5, x6, x7, x8, xf⟩ := cells9 hPn
  have HPn := Aside0.mk hPn
  have HR2n := Aside0.mk hR2n
  clear hOn hPn hR2n hR3n
  go_upto_if 38 with fail
  go_cut [] (fun wx => Aside0 (OnlyP p w wx) ∧ Aside0 (StL wx b0 p Al xs.length cl (firstL wo s0)))
  case first =>
   by_cases q : s0.most < wo
   ·
    have z : decide (s0.most < wo) = true := decide_eq_true q
    have e1 : firstL wo s0 = ⟨s0.yearly, s0.years, s0.order, s0.order, wo, s0.nodes, s0.budget, s0.full⟩ := by unfold firstL; rw [if_pos q]
    have E1 := Aside0.mk e1
    clear q e1
    rw [z]
    have HOWN := Aside0.mk (show spec_l00Own.f s0.order = some s0.order by unfold spec_l00Own.f; simp only [Option.bind_some, List.length_nil, List.nil_append]; rw [if_pos (by have := HOL.out; omega)])
    have HPm := Aside0.mk (blk_set HPn.out 5 (.int .i64 wo))
    have HRm := Aside0.mk (HR2n.out.set HPn.out (by decide) 5 (.int .i64 wo))
    go_wp2_with (go_at_call 100; refine (spec_l00Own.calls A4 c4 s0.order s0.order _ (Kd.R_reads' HRm.out).2.2 (Kd.R_reads' HRm.out).2.1 HOWN.out).mono ?_; rintro e w2 ⟨v, rfl, hRn, hb2⟩; obtain ⟨A9, c9, e9⟩ := Kd.R_slice hRn; subst e9; have hP2 := blk_below HPm.out hb2; obtain ⟨u0, u1, u2, u3, u4, u5, u6, u7, u8, uf⟩ := cells9 hP2; have HRn := Aside0.mk hRn; have HB2 := Aside0.mk hb2; have HP2 := Aside0.mk hP2; clear hRn hb2 hP2)
    go_meet
    case rel =>
     rw [E1.out]
     exact ⟨⟨HOn.out.trans ((OnlyP.set p _ 5 _).trans ((OnlyP.of_below HB2.out).trans (OnlyP.set p _ 4 _)))⟩, ⟨StL.set (s := ⟨s0.yearly, s0.years, s0.order, s0.order, wo, s0.nodes, s0.budget, s0.full⟩) HP2.out (HRm.out.below HB2.out) (Kd.R_lower HRn.out (by simp; exact Nat.le_trans HBW.out HOn.out.size)) rfl rfl 4 _ rfl⟩⟩
   ·
    have z : decide (s0.most < wo) = false := decide_eq_false q
    have e1 : firstL wo s0 = s0 := by unfold firstL; rw [if_neg q]
    have E1 := Aside0.mk e1
    clear q e1
    rw [z]
    go_wp2
    go_meet
    case rel =>
     rw [E1.out]
     exact ⟨HOn, HSn⟩
  case rest =>
   obtain ⟨HOc, HSc⟩ := hcut
   have hol1 : (firstL wo s0).order.length ≤ 1000 := by have := HOL.out; unfold firstL; split <;> exact this
   clear HS HB1 HRY HSn HOn HPn HR2n x0 x1 x2 x3 x4 x5 x6 x7 x8 xf HOL HY HWO
   have hh := HH.out
   clear HH
   generalize firstL wo s0 = s1 at HSc hh hol1
   have HOLc := Aside0.mk hol1
   clear hol1
   have HH := Aside0.mk hh
   clear hh
   go_wp2
   go_loopg [3] xs.length (fun gg s3 wr => ∃ (kk : Nat) (s : SVL), s3 = .int .i64 kk ∧ Aside0 (kk ≤ xs.length) ∧ Aside0 (xs.length - kk ≤ gg) ∧ Aside0 (loopL (runL xs k) k xs (xs.length - kk) s = some s') ∧ Aside0 (OnlyP p w wr) ∧ Aside0 (StL wr b0 p Al xs.length cl s) ∧ Aside0 (s.order.length ≤ 1000))
   case atStart => exact ⟨0, s1, rfl, ⟨Nat.zero_le _⟩, ⟨by omega⟩, HH, HOc, HSc, HOLc⟩
   case round =>
    obtain ⟨kk, s, rfl, hkk, hg, hq, hO, hS, hOL⟩ := hrel
    clear HH HOc HSc HOLc
    have HBr := Aside0.mk (hO.out.below HB.out HBW.out HPP.out)
    have HWr := Aside0.mk (Nat.le_trans HBW.out hO.out.size)
    obtain ⟨A2, c2, A3, c3, hP, hR2, hR3⟩ := hS.out
    obtain ⟨x0, x1, x2, x3, x4, x5, x6, x7, x8, xf⟩ := cells9 hP
    by_cases hlt : kk < xs.length
    ·
     have hltz : decide ((kk : Int) < (xs.length : Int)) = true := decide_eq_true (by omega)
     have hltn := eq_true hlt
     have h2 := hq.out
     rw [show xs.length - kk = (xs.length - (kk + 1)) + 1 by omega] at h2
     unfold loopL at h2
     rw [show xs.length - (xs.length - (kk + 1) + 1) = kk by omega] at h2
     cases hfull : s.full with
     | true =>
      rw [if_pos hfull] at h2
      obtain rfl := Option.some.inj h2
      rw [hfull] at x8
      clear hq h2
      go_wp2
      ((try simp only [Exit.inBlock, Exit.then]); first | (refine bodyPost_ret (results_none rfl _ _ _) rfl ?_) | (refine bodyPost_end (results_none rfl _ _ _) rfl ?_))
      exact ⟨rfl, hO.out, hS.out⟩
     | false =>
      rw [if_neg (by rw [hfull]; decide)] at h2
      rw [hfull] at x8
      obtain ⟨con, hcon, h2⟩ := Option.bind_eq_some_iff.1 h2
      obtain ⟨_, hc2, hC2⟩ := Kd.R_reads' hR2
      have HCO := Aside0.mk (fun W (hW : Below wr.heap.size wr W) => spec_l00Has.calls k A2 c2 s.order (kk : Int) con W (Kd.C_below hC2 hW) hc2 hcon)
      have HLT := Aside0.mk hlt
      have HC2 := Aside0.mk (⟨hc2, hC2⟩ : s.order.length ≤ c2 ∧ Kd.C (Kd.int .i64) wr A2 s.order.length s.order)
      have HP := Aside0.mk hP
      have HR2 := Aside0.mk hR2
      have HR3 := Aside0.mk hR3
      clear hq hlt hcon hc2 hC2 hP hR2 hR3
      cases con with
      | true =>
       rw [if_pos rfl] at h2
       have HREST := Aside0.mk h2
       clear h2
       go_wp2
       go_quiet ((go_at_call 99; refine (HCO.out _ (by repeat (first | exact Below.refl _ _ | apply pw_below_drewN | apply below_drew))).mono ?_; rintro e w' ⟨rfl, ⟨⟨nd, rfl⟩⟩⟩; (first | (with_reducible exact ⟨rfl, _, World.drewN_drewN _ _ _⟩) | exact ⟨rfl, _, rfl⟩)))
       go_wp2
       go_roundg (xs.length - (kk + 1))
       all_goals first
        | (have := HLT.out; have := hg.out; omega)
        | (exact ⟨kk + 1, s, by rw [show wrap64 ((kk : Int) + 1) = ((kk + 1 : Nat) : Int) by (have := HLT.out; have := HXL.out; unfold wrap64; omega)], ⟨by have := HLT.out; omega⟩, ⟨by omega⟩, ⟨HREST.out⟩, ⟨hO.out.trans (OnlyP.of_below (pw_below_drewN (Below.refl _ _) _))⟩, ⟨hS.out.below (pw_below_drewN (Below.refl _ _) _)⟩, hOL⟩)
      | false =>
       rw [if_neg (by decide)] at h2
       obtain ⟨rdy, hrdy, h3⟩ := Option.bind_eq_some_iff.1 h2
       have HRY := Aside0.mk (fun W (hW : Below wr.heap.size wr W) => spec_l24Ready.calls k Al cl xs A2 c2 s.order (kk : Int) rdy W (HRD.out W (below_then HBr.out HWr.out hW) (Nat.le_trans HWr.out hW.size)) HCL.out (Kd.C_below HC2.out.2 hW) HC2.out.1 hrdy)
       clear h2 hrdy
       cases rdy with
       | false =>
        rw [if_neg (by decide)] at h3
        have HREST := Aside0.mk h3
        clear h3
        go_wp2
        go_quiet (first | (go_at_call 99; refine (HCO.out _ (by repeat (first | exact Below.refl _ _ | apply pw_below_drewN | apply below_drew))).mono ?_; rintro e w' ⟨rfl, ⟨⟨nd, rfl⟩⟩⟩; (first | (with_reducible exact ⟨rfl, _, World.drewN_drewN _ _ _⟩) | exact ⟨rfl, _, rfl⟩)) | (go_at_call 87; refine (HRY.out _ (by repeat (first | exact Below.refl _ _ | apply pw_below_drewN | apply below_drew))).mono ?_; rintro e w' ⟨rfl, ⟨⟨nd, rfl⟩⟩⟩; (first | (with_reducible exact ⟨rfl, _, World.drewN_drewN _ _ _⟩) | exact ⟨rfl, _, rfl⟩)))
        go_wp2
        go_roundg (xs.length - (kk + 1))
        all_goals first
         | (have := HLT.out; have := hg.out; omega)
         | (exact ⟨kk + 1, s, by rw [show wrap64 ((kk : Int) + 1) = ((kk + 1 : Nat) : Int) by (have := HLT.out; have := HXL.out; unfold wrap64; omega)], ⟨by have := HLT.out; omega⟩, ⟨by omega⟩, ⟨HREST.out⟩, ⟨hO.out.trans (OnlyP.of_below (pw_below_drewN (Below.refl _ _) _))⟩, ⟨hS.out.below (pw_below_drewN (Below.refl _ _) _)⟩, hOL⟩)
       | true =>
        rw [if_pos rfl] at h3
        go_wp2
        go_quiet (first | (go_at_call 99; refine (HCO.out _ (by repeat (first | exact Below.refl _ _ | apply pw_below_drewN | apply below_drew))).mono ?_; rintro e w' ⟨rfl, ⟨⟨nd, rfl⟩⟩⟩; (first | (with_reducible exact ⟨rfl, _, World.drewN_drewN _ _ _⟩) | exact ⟨rfl, _, rfl⟩)) | (go_at_call 87; refine (HRY.out _ (by repeat (first | exact Below.refl _ _ | apply pw_below_drewN | apply below_drew))).mono ?_; rintro e w' ⟨rfl, ⟨⟨nd, rfl⟩⟩⟩; (first | (with_reducible exact ⟨rfl, _, World.drewN_drewN _ _ _⟩) | exact ⟨rfl, _, rfl⟩)))
        have HOWN := Aside0.mk (show spec_l00Own.f s.order = some s.order by unfold spec_l00Own.f; simp only [Option.bind_some, List.length_nil, List.nil_append]; rw [if_pos (by have := hOL.out; omega)])
        obtain ⟨ys, hys, h4⟩ := Option.bind_eq_some_iff.1 h3
        clear h3
        by_cases hyl : 0 < ys.length ∧ ys.length ≤ 1001
        ·
         rw [if_pos hyl] at h4
         go_wp2_with (first | (go_at_call 100; refine (spec_l00Own.calls A2 c2 s.order s.order _ (Kd.C_drewN HC2.out.2 nq) HC2.out.1 HOWN.out).mono ?_; rintro e w2 ⟨v, rfl, hRn, hb2⟩; obtain ⟨A4, c4, e4⟩ := Kd.R_slice hRn; subst e4; have HRn := Aside0.mk hRn; have HB2 := Aside0.mk hb2; clear hRn hb2) | (at_builtin; refine Kd.R_append (Kd.int .i64) (w0 := wr.drewN nq) (wr.drewN nq).heap.size rfl _ _ 27 2 (.int .i64 0) 8 rfl Try.underlying27 info2 rfl (by decide) (by omega) (.slice A4 s.order.length c4) s.order (kk : Int) [.int .i64 (kk : Int)] (fun _ => True) (fun _ => False) rfl rfl rfl (fun _ hk => hk.elim) (fun _ _ => trivial) HRn.out HB2.out HB2.out.size (by have := hOL.out; omega) ?_; intro v1 w3 ho hb3 hg3 hat; obtain ⟨A9, c9, e9⟩ := Kd.R_slice ho; rw [List.length_append, List.length_singleton] at e9; subst e9; have HO3 := Aside0.mk ho; have HB3 := Aside0.mk hb3; clear ho hb3 hg3 hat))
         have hlen9 : (s.order ++ [(kk : Int)]).length = s.order.length + 1 := by simp
         have hS3 := (hS.out.below (pw_below_drewN (Below.refl _ _) nq)).below HB3.out
         have hO3 := (hO.out.trans (OnlyP.of_below (pw_below_drewN (Below.refl wr.heap.size wr) nq))).trans (OnlyP.of_below HB3.out)
         have hN3 : RowI w3 b0 (.slice A9 (s.order.length + 1) c9) (s.order ++ [(kk : Int)]) := Kd.R_lower HO3.out HWr.out
         have hBw3 := hO3.below HB.out HBW.out HPP.out
         have hW3 := Nat.le_trans HBW.out hO3.size
         have HY2 := Aside0.mk (fun W (hW : Below w3.heap.size w3 W) => (by have h_ := (spec_l24Years.calls k Al cl xs A9 c9 (s.order ++ [(kk : Int)]) s.yearly ys W (HRD.out W (below_then hBw3 hW3 hW) (Nat.le_trans hW3 hW.size)) HCL.out (Kd.C_below (Kd.R_reads' HO3.out).2.2 hW) (by rw [hlen9]; exact (Kd.R_reads' HO3.out).2.1) hys).mono (fun e w' he => (by obtain ⟨v, e1, e2, e3⟩ := he; exact ⟨v, e1, Kd.R_lower e2 hW.size, below_then hW hW.size e3⟩ : ∃ v, e = .returned v ∧ RowI w' w3.heap.size v ys ∧ Below w3.heap.size w3 w')); rw [hlen9] at h_; exact h_ : Calls Try.prog 49 #[.slice Al xs.length cl, .slice A9 (s.order.length + 1) c9, .int .i64 s.yearly] W fun e w' => ∃ v, e = .returned v ∧ RowI w' w3.heap.size v ys ∧ Below w3.heap.size w3 w'))
         have HYL := Aside0.mk hyl
         have HS3 := Aside0.mk hS3
         have HO3_ := Aside0.mk hO3
         have HN3 := Aside0.mk hN3
         have H4 := Aside0.mk h4
         have HL9 := Aside0.mk hlen9
         obtain ⟨B2, d2, B3, d3, hP3, _, _⟩ := hS3
         clear x0 x1 x2 x3 x4 x5 x6 x7 x8 xf h4 hyl hys hO3 hN3 hBw3 hW3 hlen9
         obtain ⟨x0, x1, x2, x3, x4, x5, x6, x7, x8, xf⟩ := cells9 hP3
         clear hP3
         go_region_held3 (fun W_ => W_.cell? ⟨p, 0, none⟩ = some (.slice Al xs.length cl) ∧ W_.cell? ⟨p, 1, none⟩ = some (.int .i64 s.yearly)) (first | (exact ⟨y0, y1⟩) | go_keep) (first | (go_at_call 49; refine (HY2.out _ (by repeat (first | exact Below.refl _ _ | apply pw_below_drewN | apply below_drew))).mono ?_; rintro e w4 ⟨v, rfl, hRy, hb4⟩; obtain ⟨A8, c8, e8⟩ := Kd.R_slice hRy; subst e8; have y0 := pw_cell_below hb4 x0; have y1 := pw_cell_below hb4 x1; have HB4 := Aside0.mk hb4; have HRY4 := Aside0.mk hRy; clear hb4 hRy))
         have hw3 : wrap64 ((ys.length : Int) - 1) = (ys.length : Int) - 1 := by have := HYL.out.1; have := HYL.out.2; unfold wrap64; omega
         have hk0 : (0 : Int) ≤ wrap64 ((ys.length : Int) - 1) := by rw [hw3]; have := HYL.out.1; omega
         have hk1 : wrap64 ((ys.length : Int) - 1) < (ys.length : Int) := by rw [hw3]; omega
         obtain ⟨ady, ey, hy⟩ := Kd.at_int (Kd.R_reads' HRY4.out).2.2 (wrap64 ((ys.length : Int) - 1)) hk0 hk1
         subst ey
         have hS4 := HS3.out.below HB4.out
         have hO4 := HO3_.out.trans (OnlyP.of_below HB4.out)
         have hN4 := HN3.out.below HB4.out
         obtain ⟨C2, f2, C3, f3, hP4, _, _⟩ := hS4
         clear x0 x1 x2 x3 x4 x5 x6 x7 x8 xf y0 y1
         obtain ⟨x0, x1, x2, x3, x4, x5, x6, x7, x8, xf⟩ := cells9 hP4
         have HS4 := Aside0.mk (HS3.out.below HB4.out)
         have HO4 := Aside0.mk hO4
         have HN4 := Aside0.mk hN4
         clear hP4 hO4 hN4
         have p0 := eq_true hk0
         have p1 := eq_true hk1
         by_cases qy : s.years < rd ys ((ys.length : Int) - 1)
         ·
          have qz : decide (s.years < rd ys (wrap64 ((ys.length : Int) - 1))) = true := decide_eq_true (by rw [hw3]; exact qy)
          have h5 := H4.out
          rw [if_pos qy] at h5
          have HREST := Aside0.mk h5
          clear h5 qy hk0 hk1 hw3
          go_wp2
          go_quiet (fail)
          go_wp2
          go_roundg (xs.length - (kk + 1))
          all_goals first
           | (have := HLT.out; have := hg.out; omega)
           | (exact ⟨kk + 1, s, by rw [show wrap64 ((kk : Int) + 1) = ((kk + 1 : Nat) : Int) by (have := HLT.out; have := HXL.out; unfold wrap64; omega)], ⟨by have := HLT.out; omega⟩, ⟨by omega⟩, ⟨HREST.out⟩, ⟨HO4.out.trans (OnlyP.of_below (pw_below_drewN (Below.refl _ _) _))⟩, ⟨HS4.out.below (pw_below_drewN (Below.refl _ _) _)⟩, hOL⟩)
         ·
          have qz : decide (s.years < rd ys (wrap64 ((ys.length : Int) - 1))) = false := decide_eq_false (by rw [hw3]; exact qy)
          have h5 := H4.out
          rw [if_neg qy] at h5
          clear qy hk0 hk1 hw3
          have H5 := Aside0.mk h5
          clear h5
          go_wp2
          go_quiet (fail)
          have hS5 := HS4.out.below (pw_below_drewN (Below.refl _ _) nq)
          have hO5 := HO4.out.trans (OnlyP.of_below (pw_below_drewN (Below.refl _ _) nq))
          have hN5 := HN4.out.below (pw_below_drewN (Below.refl _ _) nq)
          clear x0 x1 x2 x3 x4 x5 x6 x7 x8 xf hy
          generalize w4.drewN nq = w5 at hS5 hO5 hN5 ⊢
          have HS5 := Aside0.mk hS5
          have HO5 := Aside0.mk hO5
          have HN5 := Aside0.mk hN5
          clear hO5 hN5
          obtain ⟨D2, e2, D3, e3, hP5, hR52, hR53⟩ := hS5
          obtain ⟨x0, x1, x2, x3, x4, x5, x6, x7, x8, xf⟩ := cells9 hP5
          have HP5 := Aside0.mk hP5
          have HR52 := Aside0.mk hR52
          have HR53 := Aside0.mk hR53
          clear hP5 hR52 hR53
          have h5 := H5.out
          clear H5
          by_cases qn : s.nodes = s.budget
          ·
           have zn : (s.nodes == s.budget) = true := by simpa using qn
           rw [if_pos qn] at h5
           obtain rfl := Option.some.inj h5
           clear qn h5
           go_wp2
           go_quiet (fail)
           go_wp2
           ((try simp only [Exit.inBlock, Exit.then]); first | (refine bodyPost_ret (results_none rfl _ _ _) rfl ?_) | (refine bodyPost_end (results_none rfl _ _ _) rfl ?_))
           exact ⟨rfl, HO5.out.trans ((OnlyP.of_below (pw_below_drewN (Below.refl _ _) _)).trans (OnlyP.set p _ 8 _)), StL.set (s := ⟨s.yearly, s.years, s.order, s.best, s.most, s.nodes, s.budget, true⟩) (show (w5.drewN nq).heap[p]? = _ from HP5.out) (HR52.out.below (pw_below_drewN (Below.refl _ _) _)) (HR53.out.below (pw_below_drewN (Below.refl _ _) _)) rfl rfl 8 _ rfl⟩
          ·
           have zn : (s.nodes == s.budget) = false := by simpa using qn
           rw [if_neg qn] at h5
           obtain ⟨s2, hrec, h6⟩ := Option.bind_eq_some_iff.1 h5
           have HREC := Aside0.mk hrec
           have HREST := Aside0.mk h6
           clear qn h5 hrec h6
           go_wp2
           go_quiet (fail)
           have hS6 := HS5.out.below (pw_below_drewN (Below.refl _ _) nq)
           have hO6 := HO5.out.trans (OnlyP.of_below (pw_below_drewN (Below.refl _ _) nq))
           have hN6 := HN5.out.below (pw_below_drewN (Below.refl _ _) nq)
           clear x0 x1 x2 x3 x4 x5 x6 x7 x8 xf
           generalize w5.drewN nq = w6 at hS6 hO6 hN6 ⊢
           obtain ⟨E2, g2, E3, g3, hP6, hR62, hR63⟩ := hS6
           obtain ⟨x0, x1, x2, x3, x4, x5, x6, x7, x8, xf⟩ := cells9 hP6
           have hP61 := blk_set hP6 6 (.int .i64 (wrap64 (s.nodes + 1)))
           have hR61 := hR62.set hP6 (by decide) 6 (.int .i64 (wrap64 (s.nodes + 1)))
           have hR64 := hR63.set hP6 (by decide) 6 (.int .i64 (wrap64 (s.nodes + 1)))
           have hN61 := hN6.set hP6 (by decide) 6 (.int .i64 (wrap64 (s.nodes + 1)))
           have HS7 := Aside0.mk (StL.set (s := ⟨s.yearly, s.years, s.order ++ [(kk : Int)], s.best, s.most, wrap64 (s.nodes + 1), s.budget, s.full⟩) (Al := Al) (nl := xs.length) (cl := cl) hP61 hN61 hR64 (by simp) rfl 3 (.slice A9 (s.order.length + 1) c9) (by (try simp only [HL9.out]); first | rfl | done))
           have hO7 := hO6.trans ((OnlyP.set p w6 6 (.int .i64 (wrap64 (s.nodes + 1)))).trans (OnlyP.set p _ 3 (.slice A9 (s.order.length + 1) c9)))
           have HP7 := Aside0.mk (blk_set hP61 3 (.slice A9 (s.order.length + 1) c9))
           have HR7 := Aside0.mk (hR61.set hP61 (by decide) 3 (.slice A9 (s.order.length + 1) c9))
           have HB7 := Aside0.mk (hO7.below HB.out HBW.out HPP.out)
           have HW7 := Aside0.mk (Nat.le_trans HBW.out hO7.size)
           have HO7 := Aside0.mk hO7
           clear hO6 hN6 hP6 hR62 hR63 hP61 hR61 hR64 hN61 hO7
           go_wp2_with (first | (go_at_call 63; refine (IH.out _ s2 _ HREC.out HB7.out HW7.out HS7.out).mono ?_; rintro e w8 ⟨rfl, hO8, hS8⟩; obtain ⟨B2, d2, B3, d3, hP8, hR82, hR83⟩ := hS8; obtain ⟨u0, u1, u2, u3, u4, u5, u6, u7, u8, uf⟩ := cells9 hP8; have HO8 := Aside0.mk hO8; have HP8 := Aside0.mk hP8; have HR83 := Aside0.mk hR83; clear hO8 hP8 hR82 hR83))
           go_roundg (xs.length - (kk + 1))
           all_goals first
            | (have := HLT.out; have := hg.out; omega)
            | (exact ⟨kk + 1, _, by rw [show wrap64 ((kk : Int) + 1) = ((kk + 1 : Nat) : Int) by (have := HLT.out; have := HXL.out; unfold wrap64; omega)], ⟨by have := HLT.out; omega⟩, ⟨by omega⟩, ⟨HREST.out⟩, ⟨HO7.out.trans (HO8.out.trans (OnlyP.set p _ 3 _))⟩, ⟨StL.set (s := ⟨s2.yearly, s2.years, s.order, s2.best, s2.most, s2.nodes, s2.budget, s2.full⟩) HP8.out (HR7.out.only HP7.out (by decide) HO8.out) HR83.out rfl rfl 3 _ rfl⟩, hOL⟩)
        ·
         rw [if_neg hyl] at h4; cases h4
    ·
     have hltz : decide ((kk : Int) < (xs.length : Int)) = false := decide_eq_false (by omega)
     have hk : kk = xs.length := by have := hkk.out; omega
     subst hk
     have h2 := hq.out
     rw [Nat.sub_self] at h2
     obtain rfl := Option.some.inj h2
     clear hq h2
     go_wp2
     ((try simp only [Exit.inBlock, Exit.then]); first | (refine bodyPost_ret (results_none rfl _ _ _) rfl ?_) | (refine bodyPost_end (results_none rfl _ _ _) rfl ?_))
     exact ⟨rfl, hO.out, hS.out⟩
 ·
  rw [if_neg hol] at h; cases h
-- @cut
theorem runL.calls (xs : List S34) (hxl : xs.length ≤ 1000) (b0 : Nat) (w0 : World) (Al : Option Addr) (cl : Nat) (hcl : xs.length ≤ cl) (hrd : ∀ W, Below b0 w0 W → b0 ≤ W.heap.size → Kd.C k34 W Al xs.length xs) (p : Nat) (hp : b0 ≤ p) : ∀ (k : Nat) (s s' : SVL) (w : World), runL xs k s = some s' → Below b0 w0 w → b0 ≤ w.heap.size → StL w b0 p Al xs.length cl s → Calls Try.prog 63 #[.pointer (some ⟨p, 0, none⟩)] w fun e w' => e = .returned (.tuple #[]) ∧ OnlyP p w w' ∧ StL w' b0 p Al xs.length cl s'
 | 0, _, _, _, h, _, _, _ => by cases h
 | k + 1, s, s', w, h, hb, hbw, hs => runL_s.calls xs hxl b0 w0 Al cl hcl hrd p hp k (runL.calls xs hxl b0 w0 Al cl hcl hrd p hp k) s s' w h hb hbw hs
theorem below_allocL {b : Nat} {w W : World} (h : Below b w W) (hs : b ≤ W.heap.size) (o : Obj) : Below b w (W.alloc o) := h.alloc hs o
def spec_BestPlan.f (k : Nat) (l0 : List S34) (a1 a2 a3 : Int) : Option (List Int × Int × Int) :=
 (spec_l24Ok.f k l0).bind fun v => if v = true then
  ((spec_l00In.f a1 1 1000000).bind fun m1 => if m1 = true then
   ((spec_l00In.f a2 1 10).bind fun n1 => if n1 = true then
    ((spec_l00In.f a3 1 20000).bind fun b1 => if b1 = true then
     (if l0.length ≤ 1000 then ((runL l0 k ⟨a1, a2, [], [], -1, 0, a3, false⟩).bind fun s => if s.full = true then some ([], 0, 5) else some (s.best, s.most, 0)) else none)
    else some ([], 0, 2))
   else some ([], 0, 2))
  else some ([], 0, 2))
 else some ([], 0, 1)
theorem spec_BestPlan.mono : ∀ a0 a1 a2 a3 k, LeO (spec_BestPlan.f k a0 a1 a2 a3) (spec_BestPlan.f (k + 1) a0 a1 a2 a3) := fun a0 a1 a2 a3 k =>
 LeO.bind (spec_l24Ok.mono _ k) (fun _ => LeO.ite (LeO.bind (LeO.refl _) (fun _ => LeO.ite (LeO.bind (LeO.refl _) (fun _ => LeO.ite (LeO.bind (LeO.refl _) (fun _ => LeO.ite (LeO.ite (LeO.bind (runL_mono _ k _) (fun _ => LeO.refl _)) (LeO.refl _)) (LeO.refl _))) (LeO.refl _))) (LeO.refl _))) (LeO.refl _))
-- @cut
set_option maxHeartbeats 8000000 in
set_option maxRecDepth 100000 in
theorem spec_BestPlan.calls (k : Nat) (A0 : Option Addr) (c0 : Nat) (l0 : List (S34)) (a1 : Int) (a2 : Int) (a3 : Int) (r1 : List Int) (r2 : Int) (r3 : Int) (w : World) (hr0 : Kd.C k34 w A0 l0.length l0) (hc0 : l0.length ≤ c0) (h : spec_BestPlan.f k l0 a1 a2 a3 = some (r1, r2, r3)) :
  Calls Try.prog 24 #[.slice A0 l0.length c0, .int .i64 a1, .int .i64 a2, .int .i64 a3] w fun e w' => ∃ v0_ : Value, e = .returned (.tuple #[v0_, .int .i64 r2, .int .i64 r3]) ∧ Kd.R (Kd.int .i64) 2 w' w.heap.size (fun _ => True) v0_ r1 ∧ Below w.heap.size w w' := by
 unfold spec_BestPlan.f at h
 obtain ⟨v, hv, h1⟩ := Option.bind_eq_some_iff.1 h
 clear h
 have HV := Aside0.mk (fun W (hW : Below w.heap.size w W) => (spec_l24Ok.calls k A0 c0 l0 v W (Kd.C_below hr0 hW) hc0 hv).mono fun e w' he => (⟨he.1, below_then hW hW.size he.2⟩ : e = .returned (.bool v) ∧ Below w.heap.size w w'))
 have HR0 := Aside0.mk hr0
 have HC0 := Aside0.mk hc0
 clear hv hr0 hc0
 cases v with
 | false =>
  rw [if_neg (by decide)] at h1
  obtain ⟨rfl, h2⟩ := Prod.mk.inj (Option.some.inj h1)
  obtain ⟨rfl, rfl⟩ := Prod.mk.inj h2
  clear h1 h2
  go_enter Try.func24, Try.ntmps24
  go_wp2_with (first | (go_at_call 61; refine (HV.out _ (Below.refl _ _)).mono ?_; rintro e w2 ⟨rfl, hB⟩; have HB := Aside0.mk hB; clear hB))
  refine bodyPost_ret (results_tmp3 rfl _ _ _) rfl ?_
  exact ⟨_, rfl, Kd.R_nil _ _ _ _ _, HB.out⟩
 | true =>
  rw [if_pos rfl] at h1
  obtain ⟨m1, hm, h1⟩ := Option.bind_eq_some_iff.1 h1
  have HI1 := Aside0.mk hm
  clear hm
  cases m1 with
  | false =>
   rw [if_neg (by decide)] at h1
   obtain ⟨rfl, h2⟩ := Prod.mk.inj (Option.some.inj h1)
   obtain ⟨rfl, rfl⟩ := Prod.mk.inj h2
   clear h1 h2
   go_enter Try.func24, Try.ntmps24
   go_wp2_with (first | (go_at_call 61; refine (HV.out _ (Below.refl _ _)).mono ?_; rintro e w2 ⟨rfl, hB⟩; have HB := Aside0.mk hB; clear hB) | (go_at_call 62; refine (spec_l00In.calls _ _ _ _ _ (by first | with_reducible exact HI1.out | with_reducible exact HI2.out | with_reducible exact HI3.out)).mono ?_; rintro e w2 ⟨rfl, hD⟩; have HB := Aside0.mk (below_then HB.out HB.out.size hD.below); clear hD))
   refine bodyPost_ret (results_tmp3 rfl _ _ _) rfl ?_
   exact ⟨_, rfl, Kd.R_nil _ _ _ _ _, HB.out⟩
  | true =>
   rw [if_pos rfl] at h1
   obtain ⟨n1, hm, h1⟩ := Option.bind_eq_some_iff.1 h1
   have HI2 := Aside0.mk hm
   clear hm
   cases n1 with
   | false =>
    rw [if_neg (by decide)] at h1
    obtain ⟨rfl, h2⟩ := Prod.mk.inj (Option.some.inj h1)
    obtain ⟨rfl, rfl⟩ := Prod.mk.inj h2
    clear h1 h2
    go_enter Try.func24, Try.ntmps24
    go_wp2_with (first | (go_at_call 61; refine (HV.out _ (Below.refl _ _)).mono ?_; rintro e w2 ⟨rfl, hB⟩; have HB := Aside0.mk hB; clear hB) | (go_at_call 62; refine (spec_l00In.calls _ _ _ _ _ (by first | with_reducible exact HI1.out | with_reducible exact HI2.out | with_reducible exact HI3.out)).mono ?_; rintro e w2 ⟨rfl, hD⟩; have HB := Aside0.mk (below_then HB.out HB.out.size hD.below); clear hD))
    refine bodyPost_ret (results_tmp3 rfl _ _ _) rfl ?_
    exact ⟨_, rfl, Kd.R_nil _ _ _ _ _, HB.out⟩
   | true =>
    rw [if_pos rfl] at h1
    obtain ⟨b1, hm, h1⟩ := Option.bind_eq_some_iff.1 h1
    have HI3 := Aside0.mk hm
    clear hm
    cases b1 with
    | false =>
     rw [if_neg (by decide)] at h1
     obtain ⟨rfl, h2⟩ := Prod.mk.inj (Option.some.inj h1)
     obtain ⟨rfl, rfl⟩ := Prod.mk.inj h2
     clear h1 h2
     go_enter Try.func24, Try.ntmps24
     go_wp2_with (first | (go_at_call 61; refine (HV.out _ (Below.refl _ _)).mono ?_; rintro e w2 ⟨rfl, hB⟩; have HB := Aside0.mk hB; clear hB) | (go_at_call 62; refine (spec_l00In.calls _ _ _ _ _ (by first | with_reducible exact HI1.out | with_reducible exact HI2.out | with_reducible exact HI3.out)).mono ?_; rintro e w2 ⟨rfl, hD⟩; have HB := Aside0.mk (below_then HB.out HB.out.size hD.below); clear hD))
     refine bodyPost_ret (results_tmp3 rfl _ _ _) rfl ?_
     exact ⟨_, rfl, Kd.R_nil _ _ _ _ _, HB.out⟩
    | true =>
     rw [if_pos rfl] at h1
     by_cases h8 : l0.length ≤ 1000
     ·
      rw [if_pos h8] at h1
      obtain ⟨s1, hvis, h6⟩ := Option.bind_eq_some_iff.1 h1
      clear h1
      have HVIS := Aside0.mk hvis
      have H8 := Aside0.mk h8
      clear hvis h8
      cases qb : s1.full with
      | true =>
       rw [if_pos qb] at h6
       obtain ⟨rfl, h7⟩ := Prod.mk.inj (Option.some.inj h6)
       obtain ⟨rfl, rfl⟩ := Prod.mk.inj h7
       clear h6 h7
       go_enter Try.func24, Try.ntmps24
       go_wp2_with (first | (go_at_call 61; refine (HV.out _ (Below.refl _ _)).mono ?_; rintro e w2 ⟨rfl, hB⟩; have HB := Aside0.mk hB; clear hB) | (go_at_call 62; refine (spec_l00In.calls _ _ _ _ _ (by first | with_reducible exact HI1.out | with_reducible exact HI2.out | with_reducible exact HI3.out)).mono ?_; rintro e w2 ⟨rfl, hD⟩; have HB := Aside0.mk (below_then HB.out HB.out.size hD.below); clear hD) | ((go_at_call 63; refine (runL.calls l0 H8.out w.heap.size w A0 c0 HC0.out (fun W hW _ => Kd.C_below HR0.out hW) w2.heap.size HB.out.size k _ s1 _ HVIS.out (below_allocL HB.out HB.out.size _) (by simp; exact Nat.le_succ_of_le HB.out.size) (⟨none, 0, none, 0, blk_new w2 (.cells #[.slice A0 l0.length c0, .int .i64 a1, .int .i64 a2, .slice none 0 0, .slice none 0 0, .int .i64 (-1), .int .i64 0, .int .i64 a3, .bool false] 95), Kd.R_nil _ _ _ _ _, Kd.R_nil _ _ _ _ _⟩ : StL (w2.alloc (.cells #[.slice A0 l0.length c0, .int .i64 a1, .int .i64 a2, .slice none 0 0, .slice none 0 0, .int .i64 (-1), .int .i64 0, .int .i64 a3, .bool false] 95)) w.heap.size w2.heap.size A0 l0.length c0 ⟨a1, a2, [], [], -1, 0, a3, false⟩)).mono ?_; rintro e w5 ⟨rfl, hO5, hs5⟩; obtain ⟨A2, c2, A3, c3, hP5, _, hR5⟩ := hs5; obtain ⟨t0, t1, t2, t3, t4, t5, t6, t7, t8, tf⟩ := cells9 hP5; have HB5 := Aside0.mk (hO5.below (below_allocL HB.out HB.out.size _) (by simp; exact Nat.le_succ_of_le HB.out.size) HB.out.size); have HR5 := Aside0.mk hR5; clear hO5 hP5 hR5); rw [qb] at t8))
       refine bodyPost_ret (results_tmp3 rfl _ _ _) rfl ?_
       exact ⟨_, rfl, Kd.R_nil _ _ _ _ _, HB5.out⟩
      | false =>
       rw [if_neg (by rw [qb]; decide)] at h6
       obtain ⟨rfl, h7⟩ := Prod.mk.inj (Option.some.inj h6)
       obtain ⟨rfl, rfl⟩ := Prod.mk.inj h7
       clear h6 h7
       go_enter Try.func24, Try.ntmps24
       go_wp2_with (first | (go_at_call 61; refine (HV.out _ (Below.refl _ _)).mono ?_; rintro e w2 ⟨rfl, hB⟩; have HB := Aside0.mk hB; clear hB) | (go_at_call 62; refine (spec_l00In.calls _ _ _ _ _ (by first | with_reducible exact HI1.out | with_reducible exact HI2.out | with_reducible exact HI3.out)).mono ?_; rintro e w2 ⟨rfl, hD⟩; have HB := Aside0.mk (below_then HB.out HB.out.size hD.below); clear hD) | ((go_at_call 63; refine (runL.calls l0 H8.out w.heap.size w A0 c0 HC0.out (fun W hW _ => Kd.C_below HR0.out hW) w2.heap.size HB.out.size k _ s1 _ HVIS.out (below_allocL HB.out HB.out.size _) (by simp; exact Nat.le_succ_of_le HB.out.size) (⟨none, 0, none, 0, blk_new w2 (.cells #[.slice A0 l0.length c0, .int .i64 a1, .int .i64 a2, .slice none 0 0, .slice none 0 0, .int .i64 (-1), .int .i64 0, .int .i64 a3, .bool false] 95), Kd.R_nil _ _ _ _ _, Kd.R_nil _ _ _ _ _⟩ : StL (w2.alloc (.cells #[.slice A0 l0.length c0, .int .i64 a1, .int .i64 a2, .slice none 0 0, .slice none 0 0, .int .i64 (-1), .int .i64 0, .int .i64 a3, .bool false] 95)) w.heap.size w2.heap.size A0 l0.length c0 ⟨a1, a2, [], [], -1, 0, a3, false⟩)).mono ?_; rintro e w5 ⟨rfl, hO5, hs5⟩; obtain ⟨A2, c2, A3, c3, hP5, _, hR5⟩ := hs5; obtain ⟨t0, t1, t2, t3, t4, t5, t6, t7, t8, tf⟩ := cells9 hP5; have HB5 := Aside0.mk (hO5.below (below_allocL HB.out HB.out.size _) (by simp; exact Nat.le_succ_of_le HB.out.size) HB.out.size); have HR5 := Aside0.mk hR5; clear hO5 hP5 hR5); rw [qb] at t8))
       go_quiet (fail)
       go_wp2
       refine bodyPost_ret (results_tmp3 rfl _ _ _) rfl ?_
       exact ⟨_, rfl, Kd.R_mono (Kd.R_below HR5.out (pw_below_drewN (Below.refl _ _) _)) (fun _ _ => trivial), pw_below_drewN HB5.out _⟩
     ·
      rw [if_neg h8] at h1; cases h1

end Go.Proofs.Ytmbiapefigcgnaa.PFnExactBestPlan
