-- written by a program of this session (mkp.py) out of the translation; Lean checks it. -- squeezed
import Derived.Test.YtmbiapefigcgnaaPFnPlansx0
import Derived.Test.YtmbiapefigcgnaaPFnPlansx1
import Derived.Test.YtmbiapefigcgnaaPFnPlansx4
import Derived.Test.YtmbiapefigcgnaaPFnPlansx7
import Derived.Test.YtmbiapefigcgnaaPFnPlansx8
import Derived.Test.YtmbiapefigcgnaaPFnPlansx11
import Derived.Test.YtmbiapefigcgnaaPFnPlansx12
namespace Go.Proofs.Ytmbiapefigcgnaa.PFnPlans
open Go.RowKit Go.Proofs.YtmbiapefigcgnaaW.PrintWords Go.Proofs.YtmbiapefigcgnaaW.PrintLast Go.Proofs.YtmbiapefigcgnaaW.PrintMore
attribute [local go_sem] bin_leq bin_gtr bin_geq max2_int min2_int max_two min_two max_three min_three max_four min_four   -- for this text's walks alone
set_option linter.unusedVariables false
set_option linter.unusedSimpArgs false

/-! ### laws_FnPlans: function 3 -/
mutual
def laws_FnPlans.j0 : Nat → List Int → List Int → Bool → Option (Bool)
 | 0, _, _, _ => none
 | k + 1, x0, x1, x35 => if x35 = true then (some true) else ((spec_DrawBestPlan.f k x0).bind fun bt404 => ((impl_BestPlan.f k bt404.1 bt404.2.1 bt404.2.2.1 bt404.2.2.2).bind fun bt410 => (if bt410.2.2 = 0 then ((impl_YearsOf.f k bt404.1 bt410.1 bt404.2.1).bind fun bt415 => (if bt415.2 = 0 then (laws_FnPlans.j1 k x1 bt404.1 bt404.2.1 bt404.2.2.1 bt410.1 bt410.2.1 bt415.1 ((bt415.1.length : Int) != (bt410.1.length : Int))) else (laws_FnPlans.j1 k x1 bt404.1 bt404.2.1 bt404.2.2.1 bt410.1 bt410.2.1 bt415.1 true))) else (laws_FnPlans.j4 k x1))))
def laws_FnPlans.j4 : Nat → List Int → Option (Bool)
 | 0, _ => none
 | k + 1, x1 => (spec_DrawPayBackYear.f k x1).bind fun bt441 => ((impl_PayBackYear.f k bt441.1 bt441.2.1 bt441.2.2).bind fun bt448 => (if bt448.2 = 0 then ((spec_YearsOf.f k bt441.1 bt441.2.1 bt441.2.2).bind fun bt450 => (if bt450.2 = 0 then (laws_FnPlans.l2 k bt441.1 bt441.2.1 bt448.1 bt450.1 0 0 0 0) else (some false))) else (some (bt448.1 == 0))))
def laws_FnPlans.l2 : Nat → List (S34) → List Int → Int → List Int → Int → Int → Int → Int → Option (Bool)
 | 0, _, _, _, _, _, _, _, _ => none
 | k + 1, x19, x20, x22, x24, x26, x27, x28, x29 => if x29 < (x20.length : Int) then (if 0 ≤ x29 then (if 0 ≤ (rd x20 x29) then (if (rd x20 x29) < (x19.length : Int) then (if x29 < (x24.length : Int) then (laws_FnPlans.l2 k x19 x20 x22 x24 (wrap64 (x26 + ((rd_T34 x19 (rd x20 x29)).f1))) (wrap64 (x27 + (wrap64 (((rd_T34 x19 (rd x20 x29)).f2) * (mx 0 (wrap64 (x22 - (rd x24 x29)))))))) (wrap64 (x28 + (wrap64 (((rd_T34 x19 (rd x20 x29)).f2) * (mx 0 (wrap64 ((wrap64 (x22 - 1)) - (rd x24 x29)))))))) (wrap64 (x29 + 1))) else (none)) else (none)) else (none)) else (none)) else (if x27 ≥ x26 then (if x22 = 1 then (some true) else (some (decide (x28 < x26)))) else (some false))
def laws_FnPlans.j1 : Nat → List Int → List (S34) → Int → Int → List Int → Int → List Int → Bool → Option (Bool)
 | 0, _, _, _, _, _, _, _, _ => none
 | k + 1, x1, x5, x6, x7, x9, x10, x12, x69 => if x69 = true then (some false) else (laws_FnPlans.l0 k x1 x5 x6 x7 x9 x10 x12 0 0)
def laws_FnPlans.l0 : Nat → List Int → List (S34) → Int → Int → List Int → Int → List Int → Int → Int → Option (Bool)
 | 0, _, _, _, _, _, _, _, _, _ => none
 | k + 1, x1, x5, x6, x7, x9, x10, x12, x14, x15 => if x15 < (x9.length : Int) then (if 0 ≤ x15 then (if (rd x9 x15) < 0 then (some false) else (if (rd x9 x15) ≥ (x5.length : Int) then (some false) else (if x15 < (x12.length : Int) then (if (rd x12 x15) > x7 then (some false) else (if (rd x12 x15) < 1 then (some false) else (if x15 > 0 then (if 0 ≤ (wrap64 (x15 - 1)) then (if (wrap64 (x15 - 1)) < (x12.length : Int) then (if (rd x12 x15) < (rd x12 (wrap64 (x15 - 1))) then (some false) else (if 0 ≤ (rd x9 x15) then (if (rd x9 x15) < (x5.length : Int) then (laws_FnPlans.l0 k x1 x5 x6 x7 x9 x10 x12 (wrap64 (x14 + (wrap64 (((rd_T34 x5 (rd x9 x15)).f2) * (wrap64 (x7 - (rd x12 x15))))))) (wrap64 (x15 + 1))) else (none)) else (none))) else (none)) else (none)) else (if 0 ≤ (rd x9 x15) then (if (rd x9 x15) < (x5.length : Int) then (laws_FnPlans.l0 k x1 x5 x6 x7 x9 x10 x12 (wrap64 (x14 + (wrap64 (((rd_T34 x5 (rd x9 x15)).f2) * (wrap64 (x7 - (rd x12 x15))))))) (wrap64 (x15 + 1))) else (none)) else (none))))) else (none)))) else (none)) else (if x14 = x10 then (laws_FnPlans.l1 k x1 x5 x6 x7 x10 0) else (some false))
def laws_FnPlans.l1 : Nat → List Int → List (S34) → Int → Int → Int → Int → Option (Bool)
 | 0, _, _, _, _, _, _ => none
 | k + 1, x1, x5, x6, x7, x10, x16 => if x16 < (x5.length : Int) then ((spec_YearsOf.f k x5 (([x16] : List Int)) x6).bind fun bt434 => (if bt434.2 = 0 then (if (bt434.1.length : Int) = 1 then (if 0 < (bt434.1.length : Int) then (if (rd bt434.1 0) ≤ x7 then (if 0 ≤ x16 then (if (wrap64 (((rd_T34 x5 x16).f2) * (wrap64 (x7 - (rd bt434.1 0))))) > x10 then (some false) else (laws_FnPlans.l1 k x1 x5 x6 x7 x10 (wrap64 (x16 + 1)))) else (none)) else (laws_FnPlans.l1 k x1 x5 x6 x7 x10 (wrap64 (x16 + 1)))) else (none)) else (laws_FnPlans.l1 k x1 x5 x6 x7 x10 (wrap64 (x16 + 1)))) else (laws_FnPlans.l1 k x1 x5 x6 x7 x10 (wrap64 (x16 + 1))))) else (laws_FnPlans.j4 k x1)
end
def laws_FnPlans.f (k : Nat) (l0 : List Int) (l1 : List Int) : Option (Bool) := (laws_b10Long.f l0).bind fun t402 => (if t402 = true then (laws_FnPlans.j0 k l0 l1 true) else ((laws_b10Long.f l1).bind fun t403 => (laws_FnPlans.j0 k l0 l1 t403)))
theorem laws_FnPlans.mono_l : ∀ k, (∀ y0 y1 y2, LeO (laws_FnPlans.j0 k y0 y1 y2) (laws_FnPlans.j0 (k + 1) y0 y1 y2)) ∧ (∀ y0, LeO (laws_FnPlans.j4 k y0) (laws_FnPlans.j4 (k + 1) y0)) ∧ (∀ y0 y1 y2 y3 y4 y5 y6 y7, LeO (laws_FnPlans.l2 k y0 y1 y2 y3 y4 y5 y6 y7) (laws_FnPlans.l2 (k + 1) y0 y1 y2 y3 y4 y5 y6 y7)) ∧ (∀ y0 y1 y2 y3 y4 y5 y6 y7, LeO (laws_FnPlans.j1 k y0 y1 y2 y3 y4 y5 y6 y7) (laws_FnPlans.j1 (k + 1) y0 y1 y2 y3 y4 y5 y6 y7)) ∧ (∀ y0 y1 y2 y3 y4 y5 y6 y7 y8, LeO (laws_FnPlans.l0 k y0 y1 y2 y3 y4 y5 y6 y7 y8) (laws_FnPlans.l0 (k + 1) y0 y1 y2 y3 y4 y5 y6 y7 y8)) ∧ (∀ y0 y1 y2 y3 y4 y5, LeO (laws_FnPlans.l1 k y0 y1 y2 y3 y4 y5) (laws_FnPlans.l1 (k + 1) y0 y1 y2 y3 y4 y5))
 | 0 => ⟨fun _ _ _ r h => by simp [laws_FnPlans.j0] at h, fun _ r h => by simp [laws_FnPlans.j4] at h, fun _ _ _ _ _ _ _ _ r h => by simp [laws_FnPlans.l2] at h, fun _ _ _ _ _ _ _ _ r h => by simp [laws_FnPlans.j1] at h, fun _ _ _ _ _ _ _ _ _ r h => by simp [laws_FnPlans.l0] at h, fun _ _ _ _ _ _ r h => by simp [laws_FnPlans.l1] at h⟩
 | k + 1 => by
  obtain ⟨ih0, ih1, ih2, ih3, ih4, ih5⟩ := laws_FnPlans.mono_l k
  refine ⟨?_, ?_, ?_, ?_, ?_, ?_⟩
  ·
   intro y0 y1 y2
   unfold laws_FnPlans.j0
   repeat' first
   | (with_reducible exact ih0 _ _ _)
   | (with_reducible exact ih1 _)
   | (with_reducible exact ih2 _ _ _ _ _ _ _ _)
   | (with_reducible exact ih3 _ _ _ _ _ _ _ _)
   | (with_reducible exact ih4 _ _ _ _ _ _ _ _ _)
   | (with_reducible exact ih5 _ _ _ _ _ _)
   | (with_reducible exact impl_BestPlan.mono _ _ _ _ _)
   | (with_reducible exact impl_PayBackYear.mono _ _ _ _)
   | (with_reducible exact impl_YearsOf.mono _ _ _ _)
   | (with_reducible exact spec_DrawBestPlan.mono _ _)
   | (with_reducible exact spec_DrawPayBackYear.mono _ _)
   | (with_reducible exact spec_YearsOf.mono _ _ _ _)
   | (with_reducible exact LeO.refl _)
   | (with_reducible exact LeO.none _)
   | (with_reducible refine LeO.ite ?_ ?_)
   | (with_reducible refine LeO.bind ?_ (fun _ => ?_))
   | exact ih0 _ _ _
   | exact ih1 _
   | exact ih2 _ _ _ _ _ _ _ _
   | exact ih3 _ _ _ _ _ _ _ _
   | exact ih4 _ _ _ _ _ _ _ _ _
   | exact ih5 _ _ _ _ _ _
   | exact impl_BestPlan.mono _ _ _ _ _
   | exact impl_PayBackYear.mono _ _ _ _
   | exact impl_YearsOf.mono _ _ _ _
   | exact spec_DrawBestPlan.mono _ _
   | exact spec_DrawPayBackYear.mono _ _
   | exact spec_YearsOf.mono _ _ _ _
   | exact LeO.none _
   | refine LeO.ite ?_ ?_
   | refine LeO.bind ?_ (fun _ => ?_)
  ·
   intro y0
   unfold laws_FnPlans.j4
   repeat' first
   | (with_reducible exact ih0 _ _ _)
   | (with_reducible exact ih1 _)
   | (with_reducible exact ih2 _ _ _ _ _ _ _ _)
   | (with_reducible exact ih3 _ _ _ _ _ _ _ _)
   | (with_reducible exact ih4 _ _ _ _ _ _ _ _ _)
   | (with_reducible exact ih5 _ _ _ _ _ _)
   | (with_reducible exact impl_BestPlan.mono _ _ _ _ _)
   | (with_reducible exact impl_PayBackYear.mono _ _ _ _)
   | (with_reducible exact impl_YearsOf.mono _ _ _ _)
   | (with_reducible exact spec_DrawBestPlan.mono _ _)
   | (with_reducible exact spec_DrawPayBackYear.mono _ _)
   | (with_reducible exact spec_YearsOf.mono _ _ _ _)
   | (with_reducible exact LeO.refl _)
   | (with_reducible exact LeO.none _)
   | (with_reducible refine LeO.ite ?_ ?_)
   | (with_reducible refine LeO.bind ?_ (fun _ => ?_))
   | exact ih0 _ _ _
   | exact ih1 _
   | exact ih2 _ _ _ _ _ _ _ _
   | exact ih3 _ _ _ _ _ _ _ _
   | exact ih4 _ _ _ _ _ _ _ _ _
   | exact ih5 _ _ _ _ _ _
   | exact impl_BestPlan.mono _ _ _ _ _
   | exact impl_PayBackYear.mono _ _ _ _
   | exact impl_YearsOf.mono _ _ _ _
   | exact spec_DrawBestPlan.mono _ _
   | exact spec_DrawPayBackYear.mono _ _
   | exact spec_YearsOf.mono _ _ _ _
   | exact LeO.none _
   | refine LeO.ite ?_ ?_
   | refine LeO.bind ?_ (fun _ => ?_)
  ·
   intro y0 y1 y2 y3 y4 y5 y6 y7
   unfold laws_FnPlans.l2
   repeat' first
   | (with_reducible exact ih0 _ _ _)
   | (with_reducible exact ih1 _)
   | (with_reducible exact ih2 _ _ _ _ _ _ _ _)
   | (with_reducible exact ih3 _ _ _ _ _ _ _ _)
   | (with_reducible exact ih4 _ _ _ _ _ _ _ _ _)
   | (with_reducible exact ih5 _ _ _ _ _ _)
   | (with_reducible exact impl_BestPlan.mono _ _ _ _ _)
   | (with_reducible exact impl_PayBackYear.mono _ _ _ _)
   | (with_reducible exact impl_YearsOf.mono _ _ _ _)
   | (with_reducible exact spec_DrawBestPlan.mono _ _)
   | (with_reducible exact spec_DrawPayBackYear.mono _ _)
   | (with_reducible exact spec_YearsOf.mono _ _ _ _)
   | (with_reducible exact LeO.refl _)
   | (with_reducible exact LeO.none _)
   | (with_reducible refine LeO.ite ?_ ?_)
   | (with_reducible refine LeO.bind ?_ (fun _ => ?_))
   | exact ih0 _ _ _
   | exact ih1 _
   | exact ih2 _ _ _ _ _ _ _ _
   | exact ih3 _ _ _ _ _ _ _ _
   | exact ih4 _ _ _ _ _ _ _ _ _
   | exact ih5 _ _ _ _ _ _
   | exact impl_BestPlan.mono _ _ _ _ _
   | exact impl_PayBackYear.mono _ _ _ _
   | exact impl_YearsOf.mono _ _ _ _
   | exact spec_DrawBestPlan.mono _ _
   | exact spec_DrawPayBackYear.mono _ _
   | exact spec_YearsOf.mono _ _ _ _
   | exact LeO.none _
   | refine LeO.ite ?_ ?_
   | refine LeO.bind ?_ (fun _ => ?_)
  ·
   intro y0 y1 y2 y3 y4 y5 y6 y7
   unfold laws_FnPlans.j1
   repeat' first
   | (with_reducible exact ih0 _ _ _)
   | (with_reducible exact ih1 _)
   | (with_reducible exact ih2 _ _ _ _ _ _ _ _)
   | (with_reducible exact ih3 _ _ _ _ _ _ _ _)
   | (with_reducible exact ih4 _ _ _ _ _ _ _ _ _)
   | (with_reducible exact ih5 _ _ _ _ _ _)
   | (with_reducible exact impl_BestPlan.mono _ _ _ _ _)
   | (with_reducible exact impl_PayBackYear.mono _ _ _ _)
   | (with_reducible exact impl_YearsOf.mono _ _ _ _)
   | (with_reducible exact spec_DrawBestPlan.mono _ _)
   | (with_reducible exact spec_DrawPayBackYear.mono _ _)
   | (with_reducible exact spec_YearsOf.mono _ _ _ _)
   | (with_reducible exact LeO.refl _)
   | (with_reducible exact LeO.none _)
   | (with_reducible refine LeO.ite ?_ ?_)
   | (with_reducible refine LeO.bind ?_ (fun _ => ?_))
   | exact ih0 _ _ _
   | exact ih1 _
   | exact ih2 _ _ _ _ _ _ _ _
   | exact ih3 _ _ _ _ _ _ _ _
   | exact ih4 _ _ _ _ _ _ _ _ _
   | exact ih5 _ _ _ _ _ _
   | exact impl_BestPlan.mono _ _ _ _ _
   | exact impl_PayBackYear.mono _ _ _ _
   | exact impl_YearsOf.mono _ _ _ _
   | exact spec_DrawBestPlan.mono _ _
   | exact spec_DrawPayBackYear.mono _ _
   | exact spec_YearsOf.mono _ _ _ _
   | exact LeO.none _
   | refine LeO.ite ?_ ?_
   | refine LeO.bind ?_ (fun _ => ?_)
  ·
   intro y0 y1 y2 y3 y4 y5 y6 y7 y8
   unfold laws_FnPlans.l0
   repeat' first
   | (with_reducible exact ih0 _ _ _)
   | (with_reducible exact ih1 _)
   | (with_reducible exact ih2 _ _ _ _ _ _ _ _)
   | (with_reducible exact ih3 _ _ _ _ _ _ _ _)
   | (with_reducible exact ih4 _ _ _ _ _ _ _ _ _)
   | (with_reducible exact ih5 _ _ _ _ _ _)
   | (with_reducible exact impl_BestPlan.mono _ _ _ _ _)
   | (with_reducible exact impl_PayBackYear.mono _ _ _ _)
   | (with_reducible exact impl_YearsOf.mono _ _ _ _)
   | (with_reducible exact spec_DrawBestPlan.mono _ _)
   | (with_reducible exact spec_DrawPayBackYear.mono _ _)
   | (with_reducible exact spec_YearsOf.mono _ _ _ _)
   | (with_reducible exact LeO.refl _)
   | (with_reducible exact LeO.none _)
   | (with_reducible refine LeO.ite ?_ ?_)
   | (with_reducible refine LeO.bind ?_ (fun _ => ?_))
   | exact ih0 _ _ _
   | exact ih1 _
   | exact ih2 _ _ _ _ _ _ _ _
   | exact ih3 _ _ _ _ _ _ _ _
   | exact ih4 _ _ _ _ _ _ _ _ _
   | exact ih5 _ _ _ _ _ _
   | exact impl_BestPlan.mono _ _ _ _ _
   | exact impl_PayBackYear.mono _ _ _ _
   | exact impl_YearsOf.mono _ _ _ _
   | exact spec_DrawBestPlan.mono _ _
   | exact spec_DrawPayBackYear.mono _ _
   | exact spec_YearsOf.mono _ _ _ _
   | exact LeO.none _
   | refine LeO.ite ?_ ?_
   | refine LeO.bind ?_ (fun _ => ?_)
  ·
   intro y0 y1 y2 y3 y4 y5
   unfold laws_FnPlans.l1
   repeat' first
   | (with_reducible exact ih0 _ _ _)
   | (with_reducible exact ih1 _)
   | (with_reducible exact ih2 _ _ _ _ _ _ _ _)
   | (with_reducible exact ih3 _ _ _ _ _ _ _ _)
   | (with_reducible exact ih4 _ _ _ _ _ _ _ _ _)
   | (with_reducible exact ih5 _ _ _ _ _ _)
   | (with_reducible exact impl_BestPlan.mono _ _ _ _ _)
   | (with_reducible exact impl_PayBackYear.mono _ _ _ _)
   | (with_reducible exact impl_YearsOf.mono _ _ _ _)
   | (with_reducible exact spec_DrawBestPlan.mono _ _)
   | (with_reducible exact spec_DrawPayBackYear.mono _ _)
   | (with_reducible exact spec_YearsOf.mono _ _ _ _)
   | (with_reducible exact LeO.refl _)
   | (with_reducible exact LeO.none _)
   | (with_reducible refine LeO.ite ?_ ?_)
   | (with_reducible refine LeO.bind ?_ (fun _ => ?_))
   | exact ih0 _ _ _
   | exact ih1 _
   | exact ih2 _ _ _ _ _ _ _ _
   | exact ih3 _ _ _ _ _ _ _ _
   | exact ih4 _ _ _ _ _ _ _ _ _
   | exact ih5 _ _ _ _ _ _
   | exact impl_BestPlan.mono _ _ _ _ _
   | exact impl_PayBackYear.mono _ _ _ _
   | exact impl_YearsOf.mono _ _ _ _
   | exact spec_DrawBestPlan.mono _ _
   | exact spec_DrawPayBackYear.mono _ _
   | exact spec_YearsOf.mono _ _ _ _
   | exact LeO.none _
   | refine LeO.ite ?_ ?_
   | refine LeO.bind ?_ (fun _ => ?_)
theorem laws_FnPlans.mono : ∀ a0 a1 k, LeO (laws_FnPlans.f k a0 a1) (laws_FnPlans.f (k + 1) a0 a1) := by
 intro a0 a1 k
 obtain ⟨ih0, ih1, ih2, ih3, ih4, ih5⟩ := laws_FnPlans.mono_l k
 unfold laws_FnPlans.f
 repeat' first
  | (with_reducible exact ih0 _ _ _)
  | (with_reducible exact ih1 _)
  | (with_reducible exact ih2 _ _ _ _ _ _ _ _)
  | (with_reducible exact ih3 _ _ _ _ _ _ _ _)
  | (with_reducible exact ih4 _ _ _ _ _ _ _ _ _)
  | (with_reducible exact ih5 _ _ _ _ _ _)
  | (with_reducible exact impl_BestPlan.mono _ _ _ _ _)
  | (with_reducible exact impl_PayBackYear.mono _ _ _ _)
  | (with_reducible exact impl_YearsOf.mono _ _ _ _)
  | (with_reducible exact spec_DrawBestPlan.mono _ _)
  | (with_reducible exact spec_DrawPayBackYear.mono _ _)
  | (with_reducible exact spec_YearsOf.mono _ _ _ _)
  | (with_reducible exact LeO.refl _)
  | (with_reducible exact LeO.none _)
  | (with_reducible refine LeO.ite ?_ ?_)
  | (with_reducible refine LeO.bind ?_ (fun _ => ?_))
  | exact ih0 _ _ _
  | exact ih1 _
  | exact ih2 _ _ _ _ _ _ _ _
  | exact ih3 _ _ _ _ _ _ _ _
  | exact ih4 _ _ _ _ _ _ _ _ _
  | exact ih5 _ _ _ _ _ _
  | exact impl_BestPlan.mono _ _ _ _ _
  | exact impl_PayBackYear.mono _ _ _ _
  | exact impl_YearsOf.mono _ _ _ _
  | exact spec_DrawBestPlan.mono _ _
  | exact spec_DrawPayBackYear.mono _ _
  | exact spec_YearsOf.mono _ _ _ _
  | exact LeO.none _
  | refine LeO.ite ?_ ?_
  | refine LeO.bind ?_ (fun _ => ?_)
set_option maxHeartbeats 8000000 in
set_option maxRecDepth 100000 in
theorem laws_FnPlans.calls (k : Nat) (A0 : Option Addr) (c0 : Nat) (l0 : List Int) (A1 : Option Addr) (c1 : Nat) (l1 : List Int) (r : Bool) (w : World) (hr0 : Kd.C (Kd.int .u8) w A0 l0.length l0) (hc0 : l0.length ≤ c0) (hr1 : Kd.C (Kd.int .u8) w A1 l1.length l1) (hc1 : l1.length ≤ c1) (h : laws_FnPlans.f k l0 l1 = some r) :
  Calls Try.prog 3 #[.slice A0 l0.length c0, .slice A1 l1.length c1] w fun e w' => e = .returned (.bool r) ∧ Below w.heap.size w w' := by
 have HR0 := Aside0.mk hr0
 have HC0 := Aside0.mk hc0
 clear hr0 hc0
 have HR1 := Aside0.mk hr1
 have HC1 := Aside0.mk hc1
 clear hr1 hc1
 have HB := Aside0.mk (Below.refl w.heap.size w)
 have H : ((laws_b10Long.f l0).bind fun t402 => (if t402 = true then (laws_FnPlans.j0 k l0 l1 true) else ((laws_b10Long.f l1).bind fun t403 => (laws_FnPlans.j0 k l0 l1 t403)))) = some r := h
 clear h
 have HC3 := Aside0.mk H
 clear H
 go_enter Try.func3, Try.ntmps3
 go_upto_region 1 with (fail)
 repeat (go_quiet (fail); go_upto_region 1 with (fail))
 go_cut [35] (fun v35 wc => ∃ (kq : Nat) (x35_2 : Bool), v35 = .bool x35_2 ∧ Aside0 (laws_FnPlans.j0 kq l0 l1 x35_2 = some r) ∧ Aside0 (kq ≤ k) ∧ Aside0 (Below w.heap.size w wc))
 case first =>
  as_aux_lemma =>
  have H := HC3.out
  clear HC3
  replace H := Option.bind_eq_some_iff.mp H
  obtain ⟨t402, A40, H⟩ := H
  replace H : (if t402 = true then (laws_FnPlans.j0 k l0 l1 true) else ((laws_b10Long.f l1).bind fun t403 => (laws_FnPlans.j0 k l0 l1 t403))) = some r := H
  have A4 := Aside0.mk A40
  clear A40
  by_cases c5 : t402 = true
  ·
   subst c5
   have H1 : (laws_FnPlans.j0 k l0 l1 true) = some r := by rw [if_pos rfl] at H; exact H
   clear H
   have H := H1
   clear H1
   have H' := Aside0.mk H
   clear H
   go_wp2_with (first | (go_at_call 9; (with_reducible refine (laws_b10Long.calls _ _ l0 true _ ?side1 ?side2 A4.out).mono ?_); (case side1 => exact mvC (Kd.C_below HR0.out HB.out)); (case side2 => exact HC0.out); rintro e w' ⟨rfl, ⟨nd, rfl⟩⟩; (try first | exact ⟨rfl, _, World.drewN_drewN _ _ _⟩ | exact ⟨rfl, _, Eq.trans (World.drewN_drewN _ _ _) (congrArg (World.drewN _) (Nat.add_assoc _ _ _))⟩)))
   repeat (go_quiet (first | (go_at_call 9; (with_reducible refine (laws_b10Long.calls _ _ l0 true _ ?side1 ?side2 A4.out).mono ?_); (case side1 => exact mvC (Kd.C_below HR0.out HB.out)); (case side2 => exact HC0.out); rintro e w' ⟨rfl, ⟨nd, rfl⟩⟩; (try first | exact ⟨rfl, _, World.drewN_drewN _ _ _⟩ | exact ⟨rfl, _, Eq.trans (World.drewN_drewN _ _ _) (congrArg (World.drewN _) (Nat.add_assoc _ _ _))⟩))); try go_wp2_with (first | (go_at_call 9; (with_reducible refine (laws_b10Long.calls _ _ l0 true _ ?side1 ?side2 A4.out).mono ?_); (case side1 => exact mvC (Kd.C_below HR0.out HB.out)); (case side2 => exact HC0.out); rintro e w' ⟨rfl, ⟨nd, rfl⟩⟩; (try first | exact ⟨rfl, _, World.drewN_drewN _ _ _⟩ | exact ⟨rfl, _, Eq.trans (World.drewN_drewN _ _ _) (congrArg (World.drewN _) (Nat.add_assoc _ _ _))⟩))))
   go_meet
   case rel => exact ⟨_, (true), rs, H', ⟨by first | omega | exact Nat.le_refl _⟩, ⟨mvB HB.out⟩⟩
  ·
   replace c5 := Bool.eq_false_iff.mpr c5
   subst c5
   have H1 : ((laws_b10Long.f l1).bind fun t403 => (laws_FnPlans.j0 k l0 l1 t403)) = some r := by rw [if_neg (show ¬ (false = true) by decide)] at H; exact H
   clear H
   have H := H1
   clear H1
   replace H := Option.bind_eq_some_iff.mp H
   obtain ⟨t403, A60, H⟩ := H
   replace H : (laws_FnPlans.j0 k l0 l1 t403) = some r := H
   have A6 := Aside0.mk A60
   clear A60
   have H' := Aside0.mk H
   clear H
   go_wp2_with (first | (go_at_call 9; (with_reducible refine (laws_b10Long.calls _ _ l0 false _ ?side1 ?side2 A4.out).mono ?_); (case side1 => exact mvC (Kd.C_below HR0.out HB.out)); (case side2 => exact HC0.out); rintro e w' ⟨rfl, ⟨nd, rfl⟩⟩; (try first | exact ⟨rfl, _, World.drewN_drewN _ _ _⟩ | exact ⟨rfl, _, Eq.trans (World.drewN_drewN _ _ _) (congrArg (World.drewN _) (Nat.add_assoc _ _ _))⟩)) | (go_at_call 9; (with_reducible refine (laws_b10Long.calls _ _ l1 t403 _ ?side1 ?side2 A6.out).mono ?_); (case side1 => exact mvC (Kd.C_below HR1.out (mvB HB.out))); (case side2 => exact HC1.out); rintro e w' ⟨rfl, ⟨nd, rfl⟩⟩; (try first | exact ⟨rfl, _, World.drewN_drewN _ _ _⟩ | exact ⟨rfl, _, Eq.trans (World.drewN_drewN _ _ _) (congrArg (World.drewN _) (Nat.add_assoc _ _ _))⟩)))
   repeat (go_quiet (first | (go_at_call 9; (with_reducible refine (laws_b10Long.calls _ _ l0 false _ ?side1 ?side2 A4.out).mono ?_); (case side1 => exact mvC (Kd.C_below HR0.out HB.out)); (case side2 => exact HC0.out); rintro e w' ⟨rfl, ⟨nd, rfl⟩⟩; (try first | exact ⟨rfl, _, World.drewN_drewN _ _ _⟩ | exact ⟨rfl, _, Eq.trans (World.drewN_drewN _ _ _) (congrArg (World.drewN _) (Nat.add_assoc _ _ _))⟩)) | (go_at_call 9; (with_reducible refine (laws_b10Long.calls _ _ l1 t403 _ ?side1 ?side2 A6.out).mono ?_); (case side1 => exact mvC (Kd.C_below HR1.out (mvB HB.out))); (case side2 => exact HC1.out); rintro e w' ⟨rfl, ⟨nd, rfl⟩⟩; (try first | exact ⟨rfl, _, World.drewN_drewN _ _ _⟩ | exact ⟨rfl, _, Eq.trans (World.drewN_drewN _ _ _) (congrArg (World.drewN _) (Nat.add_assoc _ _ _))⟩))); try go_wp2_with (first | (go_at_call 9; (with_reducible refine (laws_b10Long.calls _ _ l0 false _ ?side1 ?side2 A4.out).mono ?_); (case side1 => exact mvC (Kd.C_below HR0.out HB.out)); (case side2 => exact HC0.out); rintro e w' ⟨rfl, ⟨nd, rfl⟩⟩; (try first | exact ⟨rfl, _, World.drewN_drewN _ _ _⟩ | exact ⟨rfl, _, Eq.trans (World.drewN_drewN _ _ _) (congrArg (World.drewN _) (Nat.add_assoc _ _ _))⟩)) | (go_at_call 9; (with_reducible refine (laws_b10Long.calls _ _ l1 t403 _ ?side1 ?side2 A6.out).mono ?_); (case side1 => exact mvC (Kd.C_below HR1.out (mvB HB.out))); (case side2 => exact HC1.out); rintro e w' ⟨rfl, ⟨nd, rfl⟩⟩; (try first | exact ⟨rfl, _, World.drewN_drewN _ _ _⟩ | exact ⟨rfl, _, Eq.trans (World.drewN_drewN _ _ _) (congrArg (World.drewN _) (Nat.add_assoc _ _ _))⟩))))
   go_meet
   case rel => exact ⟨_, (t403), rs, H', ⟨by first | omega | exact Nat.le_refl _⟩, ⟨mvB HB.out⟩⟩
 case rest =>
  as_aux_lemma =>
  clear HC3
  obtain ⟨kq, x35_2, rfl, HA, HJ2, HB⟩ := hcut
  cases kq with
  | zero => exact absurd HA.out (by simp [laws_FnPlans.j0])
  | succ kj2 =>
   have H := HA.out
   clear HA
   simp only [laws_FnPlans.j0] at H
   by_cases c7 : x35_2 = true
   ·
    subst c7
    have H1 : (some true) = some r := by rw [if_pos rfl] at H; exact H
    clear H
    have H := H1
    clear H1
    obtain rfl := Option.some.inj H
    go_wp2
    repeat (go_quiet (fail); try go_wp2)
    go_ret
    exact ⟨by first | rfl | (simp [errW_none, errW_some] <;> rfl) | (simp [*, errW_none, errW_some] <;> rfl), mvB HB.out⟩
   ·
    replace c7 := Bool.eq_false_iff.mpr c7
    subst c7
    have H1 : ((spec_DrawBestPlan.f kj2 l0).bind fun bt404 => ((impl_BestPlan.f kj2 bt404.1 bt404.2.1 bt404.2.2.1 bt404.2.2.2).bind fun bt410 => (if bt410.2.2 = 0 then ((impl_YearsOf.f kj2 bt404.1 bt410.1 bt404.2.1).bind fun bt415 => (if bt415.2 = 0 then (laws_FnPlans.j1 kj2 l1 bt404.1 bt404.2.1 bt404.2.2.1 bt410.1 bt410.2.1 bt415.1 ((bt415.1.length : Int) != (bt410.1.length : Int))) else (laws_FnPlans.j1 kj2 l1 bt404.1 bt404.2.1 bt404.2.2.1 bt410.1 bt410.2.1 bt415.1 true))) else (laws_FnPlans.j4 kj2 l1)))) = some r := by rw [if_neg (show ¬ (false = true) by decide)] at H; exact H
    clear H
    have H := H1
    clear H1
    replace H := Option.bind_eq_some_iff.mp H
    obtain ⟨⟨t404, t405, t406, t407⟩, A80, H⟩ := H
    replace H : ((impl_BestPlan.f kj2 t404 t405 t406 t407).bind fun bt410 => (if bt410.2.2 = 0 then ((impl_YearsOf.f kj2 t404 bt410.1 t405).bind fun bt415 => (if bt415.2 = 0 then (laws_FnPlans.j1 kj2 l1 t404 t405 t406 bt410.1 bt410.2.1 bt415.1 ((bt415.1.length : Int) != (bt410.1.length : Int))) else (laws_FnPlans.j1 kj2 l1 t404 t405 t406 bt410.1 bt410.2.1 bt415.1 true))) else (laws_FnPlans.j4 kj2 l1))) = some r := H
    have A8 := Aside0.mk A80
    clear A80
    replace H := Option.bind_eq_some_iff.mp H
    obtain ⟨⟨t410, t411, t412⟩, A90, H⟩ := H
    replace H : (if t412 = 0 then ((impl_YearsOf.f kj2 t404 t410 t405).bind fun bt415 => (if bt415.2 = 0 then (laws_FnPlans.j1 kj2 l1 t404 t405 t406 t410 t411 bt415.1 ((bt415.1.length : Int) != (t410.length : Int))) else (laws_FnPlans.j1 kj2 l1 t404 t405 t406 t410 t411 bt415.1 true))) else (laws_FnPlans.j4 kj2 l1)) = some r := H
    have A9 := Aside0.mk A90
    clear A90
    have HC10 := Aside0.mk H
    clear H
    go_upto_if 53 with (first | (go_at_call 10; (with_reducible refine (spec_DrawBestPlan.calls kj2 _ _ l0 t404 t405 t406 t407 _ ?side1 ?side2 A8.out).mono ?_); (case side1 => exact mvC (Kd.C_below HR0.out HB.out)); (case side2 => exact HC0.out); rintro e w11 ⟨v408, rfl, ho0, hb⟩; have n0_ := Aside0.mk (Kd.S_lower ho0 (below_size (mvB HB.out))); have n1_ := Aside0.mk (below_step (mvB HB.out) hb); clear HB; revert n0_ n1_; intro HO409 HB; (try clear hb); (try clear ho0); obtain ⟨Ao12, co12, eo12⟩ := Kd.S_slice HO409.out; subst eo12) | (go_at_call 11; (with_reducible refine (impl_BestPlan.calls kj2 _ _ t404 t405 t406 t407 t410 t411 t412 _ ?side1 ?side2 A9.out).mono ?_); (case side1 => exact mvC (Kd.S_reads' HO409.out).2.2); (case side2 => exact (Kd.S_reads' HO409.out).2.1); rintro e w13 ⟨v413, rfl, ho0, hb⟩; have n0_ := Aside0.mk (Kd.S_below (mv HO409.out) hb); have n1_ := Aside0.mk (Kd.R_lower ho0 (below_size (mvB HB.out))); have n2_ := Aside0.mk (below_step (mvB HB.out) hb); clear HO409 HB; revert n0_ n1_ n2_; intro HO409 HO414 HB; (try clear hb); (try clear ho0)))
    repeat (go_quiet (first | (go_at_call 10; (with_reducible refine (spec_DrawBestPlan.calls kj2 _ _ l0 t404 t405 t406 t407 _ ?side1 ?side2 A8.out).mono ?_); (case side1 => exact mvC (Kd.C_below HR0.out HB.out)); (case side2 => exact HC0.out); rintro e w11 ⟨v408, rfl, ho0, hb⟩; have n0_ := Aside0.mk (Kd.S_lower ho0 (below_size (mvB HB.out))); have n1_ := Aside0.mk (below_step (mvB HB.out) hb); clear HB; revert n0_ n1_; intro HO409 HB; (try clear hb); (try clear ho0); obtain ⟨Ao12, co12, eo12⟩ := Kd.S_slice HO409.out; subst eo12) | (go_at_call 11; (with_reducible refine (impl_BestPlan.calls kj2 _ _ t404 t405 t406 t407 t410 t411 t412 _ ?side1 ?side2 A9.out).mono ?_); (case side1 => exact mvC (Kd.S_reads' HO409.out).2.2); (case side2 => exact (Kd.S_reads' HO409.out).2.1); rintro e w13 ⟨v413, rfl, ho0, hb⟩; have n0_ := Aside0.mk (Kd.S_below (mv HO409.out) hb); have n1_ := Aside0.mk (Kd.R_lower ho0 (below_size (mvB HB.out))); have n2_ := Aside0.mk (below_step (mvB HB.out) hb); clear HO409 HB; revert n0_ n1_ n2_; intro HO409 HO414 HB; (try clear hb); (try clear ho0))); go_upto_if 53 with (first | (go_at_call 10; (with_reducible refine (spec_DrawBestPlan.calls kj2 _ _ l0 t404 t405 t406 t407 _ ?side1 ?side2 A8.out).mono ?_); (case side1 => exact mvC (Kd.C_below HR0.out HB.out)); (case side2 => exact HC0.out); rintro e w11 ⟨v408, rfl, ho0, hb⟩; have n0_ := Aside0.mk (Kd.S_lower ho0 (below_size (mvB HB.out))); have n1_ := Aside0.mk (below_step (mvB HB.out) hb); clear HB; revert n0_ n1_; intro HO409 HB; (try clear hb); (try clear ho0); obtain ⟨Ao12, co12, eo12⟩ := Kd.S_slice HO409.out; subst eo12) | (go_at_call 11; (with_reducible refine (impl_BestPlan.calls kj2 _ _ t404 t405 t406 t407 t410 t411 t412 _ ?side1 ?side2 A9.out).mono ?_); (case side1 => exact mvC (Kd.S_reads' HO409.out).2.2); (case side2 => exact (Kd.S_reads' HO409.out).2.1); rintro e w13 ⟨v413, rfl, ho0, hb⟩; have n0_ := Aside0.mk (Kd.S_below (mv HO409.out) hb); have n1_ := Aside0.mk (Kd.R_lower ho0 (below_size (mvB HB.out))); have n2_ := Aside0.mk (below_step (mvB HB.out) hb); clear HO409 HB; revert n0_ n1_ n2_; intro HO409 HO414 HB; (try clear hb); (try clear ho0))))
    (try simp only [Act.put, List.setIfInBounds_toArray, List.set_cons_zero, List.set_cons_succ])
    go_cut [] (fun wc => ∃ (kq : Nat), Aside0 (laws_FnPlans.j4 kq l1 = some r) ∧ Aside0 (kq ≤ kj2) ∧ Aside0 (Below w.heap.size w wc))
    case first =>
     as_aux_lemma =>
     have H := HC10.out
     clear HC10
     by_cases c14 : t412 = 0
     ·
      rw [if_pos c14] at H
      have c14b0 : (t412 == 0) = true := beq_iff_eq.mpr c14
      have c14b1 : (t412 != 0) = false := bne_eq_false_iff_eq.mpr c14
      clear c14
      (first | rw [c14b0] | (simp only [i64_w, i32_w]; rw [c14b0]) | skip)
      replace H := Option.bind_eq_some_iff.mp H
      obtain ⟨⟨t415, t416⟩, A150, H⟩ := H
      replace H : (if t416 = 0 then (laws_FnPlans.j1 kj2 l1 t404 t405 t406 t410 t411 t415 ((t415.length : Int) != (t410.length : Int))) else (laws_FnPlans.j1 kj2 l1 t404 t405 t406 t410 t411 t415 true)) = some r := H
      have A15 := Aside0.mk A150
      clear A150
      have HC16 := Aside0.mk H
      clear H
      obtain ⟨Ao17, co17, eo17⟩ := Kd.R_slice HO414.out
      subst eo17
      go_upto_region 7 with (first | (go_at_call 12; (with_reducible refine (impl_YearsOf.calls kj2 _ _ t404 _ _ t410 t405 t415 t416 _ ?side1 ?side2 ?side3 ?side4 A15.out).mono ?_); (case side1 => exact mvC (Kd.S_reads' HO409.out).2.2); (case side2 => exact (Kd.S_reads' HO409.out).2.1); (case side3 => exact mvC (Kd.R_reads' HO414.out).2.2); (case side4 => exact (Kd.R_reads' HO414.out).2.1); rintro e w18 ⟨v417, rfl, ho0, hb⟩; have n0_ := Aside0.mk (Kd.S_below (mv HO409.out) hb); have n1_ := Aside0.mk (Kd.R_elder' (mv HO414.out) (Kd.R_base ho0) hb); have n2_ := Aside0.mk (Kd.R_lower (Kd.R_new' ho0 (Kd.R_lt (mv HO414.out))) (below_size (mvB HB.out))); have n3_ := Aside0.mk (below_step (mvB HB.out) hb); clear HO409 HO414 HB; revert n0_ n1_ n2_ n3_; intro HO409 HO414 HO418 HB; (try clear hb); (try clear ho0)))
      repeat (go_quiet (first | (go_at_call 12; (with_reducible refine (impl_YearsOf.calls kj2 _ _ t404 _ _ t410 t405 t415 t416 _ ?side1 ?side2 ?side3 ?side4 A15.out).mono ?_); (case side1 => exact mvC (Kd.S_reads' HO409.out).2.2); (case side2 => exact (Kd.S_reads' HO409.out).2.1); (case side3 => exact mvC (Kd.R_reads' HO414.out).2.2); (case side4 => exact (Kd.R_reads' HO414.out).2.1); rintro e w18 ⟨v417, rfl, ho0, hb⟩; have n0_ := Aside0.mk (Kd.S_below (mv HO409.out) hb); have n1_ := Aside0.mk (Kd.R_elder' (mv HO414.out) (Kd.R_base ho0) hb); have n2_ := Aside0.mk (Kd.R_lower (Kd.R_new' ho0 (Kd.R_lt (mv HO414.out))) (below_size (mvB HB.out))); have n3_ := Aside0.mk (below_step (mvB HB.out) hb); clear HO409 HO414 HB; revert n0_ n1_ n2_ n3_; intro HO409 HO414 HO418 HB; (try clear hb); (try clear ho0))); go_upto_region 7 with (first | (go_at_call 12; (with_reducible refine (impl_YearsOf.calls kj2 _ _ t404 _ _ t410 t405 t415 t416 _ ?side1 ?side2 ?side3 ?side4 A15.out).mono ?_); (case side1 => exact mvC (Kd.S_reads' HO409.out).2.2); (case side2 => exact (Kd.S_reads' HO409.out).2.1); (case side3 => exact mvC (Kd.R_reads' HO414.out).2.2); (case side4 => exact (Kd.R_reads' HO414.out).2.1); rintro e w18 ⟨v417, rfl, ho0, hb⟩; have n0_ := Aside0.mk (Kd.S_below (mv HO409.out) hb); have n1_ := Aside0.mk (Kd.R_elder' (mv HO414.out) (Kd.R_base ho0) hb); have n2_ := Aside0.mk (Kd.R_lower (Kd.R_new' ho0 (Kd.R_lt (mv HO414.out))) (below_size (mvB HB.out))); have n3_ := Aside0.mk (below_step (mvB HB.out) hb); clear HO409 HO414 HB; revert n0_ n1_ n2_ n3_; intro HO409 HO414 HO418 HB; (try clear hb); (try clear ho0))))
      (try simp only [Act.put, List.setIfInBounds_toArray, List.set_cons_zero, List.set_cons_succ])
      go_cut [69] (fun v69 wc => ∃ (kq : Nat) (x69_15 : Bool), v69 = .bool x69_15 ∧ Aside0 (laws_FnPlans.j1 kq l1 t404 t405 t406 t410 t411 t415 x69_15 = some r) ∧ Aside0 (kq ≤ kj2) ∧ Aside0 (Kd.S k34 34 wc w.heap.size (fun _ => True) (.slice Ao12 t404.length co12) t404) ∧ Aside0 (Kd.R (Kd.int .i64) 2 wc w.heap.size (fun k_ => some k_ ≠ (v417 : Value).ownBlock) (.slice Ao17 t410.length co17) t410) ∧ Aside0 (Kd.R (Kd.int .i64) 2 wc w.heap.size (fun k_ => some k_ ≠ ((.slice Ao17 t410.length co17) : Value).ownBlock) v417 t415) ∧ Aside0 (Below w.heap.size w wc))
      case first =>
       as_aux_lemma =>
       have H := HC16.out
       clear HC16
       by_cases c19 : t416 = 0
       ·
        rw [if_pos c19] at H
        have c19b0 : (t416 == 0) = true := beq_iff_eq.mpr c19
        have c19b1 : (t416 != 0) = false := bne_eq_false_iff_eq.mpr c19
        clear c19
        (first | rw [c19b0] | (simp only [i64_w, i32_w]; rw [c19b0]) | skip)
        have H' := Aside0.mk H
        clear H
        obtain ⟨Ao20, co20, eo20⟩ := Kd.R_slice HO418.out
        subst eo20
        go_wp2
        repeat (go_quiet (fail); try go_wp2)
        go_meet
        case rel => exact ⟨_, (((t415.length : Int) != (t410.length : Int))), rs, H', ⟨by have := HJ2.out; first | omega | exact Nat.le_refl _⟩, ⟨mv HO409.out⟩, ⟨by (with_reducible repeat (first | apply Kd.R_alloc | apply Kd.R_drewN | apply Kd.R_drew)); exact Kd.R_mono HO414.out (fun _ hk => hk.2)⟩, ⟨by (with_reducible repeat (first | apply Kd.R_alloc | apply Kd.R_drewN | apply Kd.R_drew)); exact Kd.R_mono HO418.out (fun _ hk => hk.2)⟩, ⟨mvB HB.out⟩⟩
       ·
        rw [if_neg c19] at H
        have c19b0 : (t416 == 0) = false := beq_eq_false_iff_ne.mpr c19
        have c19b1 : (t416 != 0) = true := bne_iff_ne.mpr c19
        (first | rw [c19b0] | (simp only [i64_w, i32_w]; rw [c19b0]) | skip)
        have H' := Aside0.mk H
        clear H
        go_wp2
        repeat (go_quiet (fail); try go_wp2)
        go_meet
        case rel => exact ⟨_, (true), rs, H', ⟨by have := HJ2.out; first | omega | exact Nat.le_refl _⟩, ⟨mv HO409.out⟩, ⟨by (with_reducible repeat (first | apply Kd.R_alloc | apply Kd.R_drewN | apply Kd.R_drew)); exact Kd.R_mono HO414.out (fun _ hk => hk.2)⟩, ⟨by (with_reducible repeat (first | apply Kd.R_alloc | apply Kd.R_drewN | apply Kd.R_drew)); exact Kd.R_mono HO418.out (fun _ hk => hk.2)⟩, ⟨mvB HB.out⟩⟩
      case rest =>
       as_aux_lemma =>
       clear HC16
       try clear c7
       try clear c14b0
       try clear c14b1
       obtain ⟨kq, x69_15, rfl, HA, HJ15, HO_5, HO_9, HO_12, HB⟩ := hcut
       cases kq with
       | zero => exact absurd HA.out (by simp [laws_FnPlans.j1])
       | succ kj15 =>
        have H := HA.out
        clear HA
        simp only [laws_FnPlans.j1] at H
        by_cases c21 : x69_15 = true
        ·
         subst c21
         have H1 : (some false) = some r := by rw [if_pos rfl] at H; exact H
         clear H
         have H := H1
         clear H1
         obtain rfl := Option.some.inj H
         go_wp2
         repeat (go_quiet (fail); try go_wp2)
         go_ret
         exact ⟨by first | rfl | (simp [errW_none, errW_some] <;> rfl) | (simp [*, errW_none, errW_some] <;> rfl), mvB HB.out⟩
        ·
         replace c21 := Bool.eq_false_iff.mpr c21
         subst c21
         have H1 : (laws_FnPlans.l0 kj15 l1 t404 t405 t406 t410 t411 t415 0 0) = some r := by rw [if_neg (show ¬ (false = true) by decide)] at H; exact H
         clear H
         have H := H1
         clear H1
         have H' := Aside0.mk H
         clear H
         go_wp2
         repeat (go_quiet (fail); try go_wp2)
         go_loopg [14, 15] kj15 (fun kq v14 v15 w' => ∃ (x14_3 : Int) (x15_3 : Int), v14 = .int .i64 x14_3 ∧ v15 = .int .i64 x15_3 ∧ Aside0 (laws_FnPlans.l0 kq l1 t404 t405 t406 t410 t411 t415 x14_3 x15_3 = some r) ∧ Aside0 (kq ≤ kj15) ∧ Aside0 (Kd.S k34 34 w' w.heap.size (fun _ => True) (.slice Ao12 t404.length co12) t404) ∧ Aside0 (Kd.R (Kd.int .i64) 2 w' w.heap.size (fun k_ => some k_ ≠ (v417 : Value).ownBlock) (.slice Ao17 t410.length co17) t410) ∧ Aside0 (Kd.R (Kd.int .i64) 2 w' w.heap.size (fun k_ => some k_ ≠ ((.slice Ao17 t410.length co17) : Value).ownBlock) v417 t415) ∧ Aside0 (Below w.heap.size w w'))
         case atStart => exact ⟨(0), (0), rs, rs, H', ⟨Nat.le_refl _⟩, ⟨mv HO_5.out⟩, ⟨mv HO_9.out⟩, ⟨mv HO_12.out⟩, ⟨mvB HB.out⟩⟩
         case round =>
          clear H'
          try clear c7
          try clear c14b0
          try clear c14b1
          try clear c21
          obtain ⟨x14_3, x15_3, rfl, rfl, HA, HK3, HO_5, HO_9, HO_12, HB⟩ := hrel
          cases gk with
          | zero => exact absurd HA.out (by simp [laws_FnPlans.l0])
          | succ k3 =>
           have H := HA.out
           clear HA
           simp only [laws_FnPlans.l0] at H
           by_cases c22 : x15_3 < (t410.length : Int)
           ·
            rw [if_pos c22] at H
            have c22b0 : decide (x15_3 < (t410.length : Int)) = true := decide_eq_true c22
            clear c22
            by_cases c23 : 0 ≤ x15_3
            ·
             rw [if_pos c23] at H
             have c23b0 : decide (0 ≤ x15_3) = true := decide_eq_true c23
             clear c23
             by_cases c24 : (rd t410 x15_3) < 0
             ·
              rw [if_pos c24] at H
              have c24b0 : decide ((rd t410 x15_3) < 0) = true := decide_eq_true c24
              clear c24
              obtain rfl := Option.some.inj H
              have p419 : 0 ≤ (x15_3 : Int) := od
              have q419 : x15_3 < (t410.length : Int) := od
              obtain ⟨ad419, e419, hx419_0⟩ := Kd.at_int (Kd.R_reads' HO_9.out).2.2 x15_3 p419 q419
              cases e419
              replace p419 := eq_true p419
              replace q419 := eq_true q419
              go_wp2
              repeat (go_quiet (fail); try go_wp2)
              go_ret
              exact ⟨by first | rfl | (simp [errW_none, errW_some] <;> rfl) | (simp [*, errW_none, errW_some] <;> rfl), mvB HB.out⟩
             ·
              rw [if_neg c24] at H
              have c24b0 : decide ((rd t410 x15_3) < 0) = false := decide_eq_false c24
              clear c24
              by_cases c25 : (rd t410 x15_3) ≥ (t404.length : Int)
              ·
               rw [if_pos c25] at H
               have c25b0 : decide ((t404.length : Int) ≤ (rd t410 x15_3)) = true := decide_eq_true c25
               clear c25
               obtain rfl := Option.some.inj H
               have p419 : 0 ≤ (x15_3 : Int) := od
               have q419 : x15_3 < (t410.length : Int) := od
               obtain ⟨ad419, e419, hx419_0⟩ := Kd.at_int (Kd.R_reads' HO_9.out).2.2 x15_3 p419 q419
               cases e419
               replace p419 := eq_true p419
               replace q419 := eq_true q419
               have p420 : 0 ≤ (x15_3 : Int) := od
               have q420 : x15_3 < (t410.length : Int) := od
               obtain ⟨ad420, e420, hx420_0⟩ := Kd.at_int (Kd.R_reads' HO_9.out).2.2 x15_3 p420 q420
               obtain rfl : ad419 = ad420 := (by injection e420)
               replace p420 := eq_true p420
               replace q420 := eq_true q420
               go_wp2
               repeat (go_quiet (fail); try go_wp2)
               go_ret
               exact ⟨by first | rfl | (simp [errW_none, errW_some] <;> rfl) | (simp [*, errW_none, errW_some] <;> rfl), mvB HB.out⟩
              ·
               rw [if_neg c25] at H
               have c25b0 : decide ((t404.length : Int) ≤ (rd t410 x15_3)) = false := decide_eq_false c25
               clear c25
               by_cases c26 : x15_3 < (t415.length : Int)
               ·
                rw [if_pos c26] at H
                have c26b0 : decide (x15_3 < (t415.length : Int)) = true := decide_eq_true c26
                clear c26
                by_cases c27 : (rd t415 x15_3) > t406
                ·
                 rw [if_pos c27] at H
                 have c27b0 : decide (t406 < (rd t415 x15_3)) = true := decide_eq_true c27
                 clear c27
                 obtain rfl := Option.some.inj H
                 have p419 : 0 ≤ (x15_3 : Int) := od
                 have q419 : x15_3 < (t410.length : Int) := od
                 obtain ⟨ad419, e419, hx419_0⟩ := Kd.at_int (Kd.R_reads' HO_9.out).2.2 x15_3 p419 q419
                 cases e419
                 replace p419 := eq_true p419
                 replace q419 := eq_true q419
                 have p420 : 0 ≤ (x15_3 : Int) := od
                 have q420 : x15_3 < (t410.length : Int) := od
                 obtain ⟨ad420, e420, hx420_0⟩ := Kd.at_int (Kd.R_reads' HO_9.out).2.2 x15_3 p420 q420
                 obtain rfl : ad419 = ad420 := (by injection e420)
                 replace p420 := eq_true p420
                 replace q420 := eq_true q420
                 obtain ⟨Ao28, co28, eo28⟩ := Kd.R_slice HO_12.out
                 subst eo28
                 have p421 : 0 ≤ (x15_3 : Int) := od
                 have q421 : x15_3 < (t415.length : Int) := od
                 obtain ⟨ad421, e421, hx421_0⟩ := Kd.at_int (Kd.R_reads' HO_12.out).2.2 x15_3 p421 q421
                 cases e421
                 replace p421 := eq_true p421
                 replace q421 := eq_true q421
                 go_wp2
                 repeat (go_quiet (fail); try go_wp2)
                 go_ret
                 exact ⟨by first | rfl | (simp [errW_none, errW_some] <;> rfl) | (simp [*, errW_none, errW_some] <;> rfl), mvB HB.out⟩
                ·
                 rw [if_neg c27] at H
                 have c27b0 : decide (t406 < (rd t415 x15_3)) = false := decide_eq_false c27
                 clear c27
                 by_cases c29 : (rd t415 x15_3) < 1
                 ·
                  rw [if_pos c29] at H
                  have c29b0 : decide ((rd t415 x15_3) < 1) = true := decide_eq_true c29
                  clear c29
                  obtain rfl := Option.some.inj H
                  have p419 : 0 ≤ (x15_3 : Int) := od
                  have q419 : x15_3 < (t410.length : Int) := od
                  obtain ⟨ad419, e419, hx419_0⟩ := Kd.at_int (Kd.R_reads' HO_9.out).2.2 x15_3 p419 q419
                  cases e419
                  replace p419 := eq_true p419
                  replace q419 := eq_true q419
                  have p420 : 0 ≤ (x15_3 : Int) := od
                  have q420 : x15_3 < (t410.length : Int) := od
                  obtain ⟨ad420, e420, hx420_0⟩ := Kd.at_int (Kd.R_reads' HO_9.out).2.2 x15_3 p420 q420
                  obtain rfl : ad419 = ad420 := (by injection e420)
                  replace p420 := eq_true p420
                  replace q420 := eq_true q420
                  obtain ⟨Ao30, co30, eo30⟩ := Kd.R_slice HO_12.out
                  subst eo30
                  have p421 : 0 ≤ (x15_3 : Int) := od
                  have q421 : x15_3 < (t415.length : Int) := od
                  obtain ⟨ad421, e421, hx421_0⟩ := Kd.at_int (Kd.R_reads' HO_12.out).2.2 x15_3 p421 q421
                  cases e421
                  replace p421 := eq_true p421
                  replace q421 := eq_true q421
                  have p422 : 0 ≤ (x15_3 : Int) := od
                  have q422 : x15_3 < (t415.length : Int) := od
                  obtain ⟨ad422, e422, hx422_0⟩ := Kd.at_int (Kd.R_reads' HO_12.out).2.2 x15_3 p422 q422
                  obtain rfl : ad421 = ad422 := (by injection e422)
                  replace p422 := eq_true p422
                  replace q422 := eq_true q422
                  go_wp2
                  repeat (go_quiet (fail); try go_wp2)
                  go_ret
                  exact ⟨by first | rfl | (simp [errW_none, errW_some] <;> rfl) | (simp [*, errW_none, errW_some] <;> rfl), mvB HB.out⟩
                 ·
                  rw [if_neg c29] at H
                  have c29b0 : decide ((rd t415 x15_3) < 1) = false := decide_eq_false c29
                  clear c29
                  by_cases c31 : x15_3 > 0
                  ·
                   rw [if_pos c31] at H
                   have c31b0 : decide (0 < x15_3) = true := decide_eq_true c31
                   clear c31
                   obtain ⟨ji32, hji32⟩ : ∃ j_ : Int, (wrap64 (x15_3 - 1)) = j_ := ⟨_, rfl⟩
                   replace H : (if 0 ≤ (ji32) then (if (ji32) < (t415.length : Int) then (if (rd t415 x15_3) < (rd t415 (ji32)) then (some false) else (if 0 ≤ (rd t410 x15_3) then (if (rd t410 x15_3) < (t404.length : Int) then (laws_FnPlans.l0 k3 l1 t404 t405 t406 t410 t411 t415 (wrap64 (x14_3 + (wrap64 (((rd_T34 t404 (rd t410 x15_3)).f2) * (wrap64 (t406 - (rd t415 x15_3))))))) (wrap64 (x15_3 + 1))) else (none)) else (none))) else (none)) else (none)) = some r := by first | (rw [hji32] at H; exact H) | (simp only [hji32] at H ⊢; exact H)
                   have hji32w : (IntKind.i64.wrap (x15_3 - 1)) = ji32 := (i64_w _).trans hji32
                   by_cases c33 : 0 ≤ (ji32)
                   ·
                    rw [if_pos c33] at H
                    have c33b0 : decide (0 ≤ (ji32)) = true := decide_eq_true c33
                    clear c33
                    by_cases c34 : (ji32) < (t415.length : Int)
                    ·
                     rw [if_pos c34] at H
                     have c34b0 : decide ((ji32) < (t415.length : Int)) = true := decide_eq_true c34
                     clear c34
                     by_cases c35 : (rd t415 x15_3) < (rd t415 (ji32))
                     ·
                      rw [if_pos c35] at H
                      have c35b0 : decide ((rd t415 x15_3) < (rd t415 (ji32))) = true := decide_eq_true c35
                      clear c35
                      obtain rfl := Option.some.inj H
                      have p419 : 0 ≤ (x15_3 : Int) := od
                      have q419 : x15_3 < (t410.length : Int) := od
                      obtain ⟨ad419, e419, hx419_0⟩ := Kd.at_int (Kd.R_reads' HO_9.out).2.2 x15_3 p419 q419
                      cases e419
                      replace p419 := eq_true p419
                      replace q419 := eq_true q419
                      have p420 : 0 ≤ (x15_3 : Int) := od
                      have q420 : x15_3 < (t410.length : Int) := od
                      obtain ⟨ad420, e420, hx420_0⟩ := Kd.at_int (Kd.R_reads' HO_9.out).2.2 x15_3 p420 q420
                      obtain rfl : ad419 = ad420 := (by injection e420)
                      replace p420 := eq_true p420
                      replace q420 := eq_true q420
                      obtain ⟨Ao36, co36, eo36⟩ := Kd.R_slice HO_12.out
                      subst eo36
                      have p421 : 0 ≤ (x15_3 : Int) := od
                      have q421 : x15_3 < (t415.length : Int) := od
                      obtain ⟨ad421, e421, hx421_0⟩ := Kd.at_int (Kd.R_reads' HO_12.out).2.2 x15_3 p421 q421
                      cases e421
                      replace p421 := eq_true p421
                      replace q421 := eq_true q421
                      have p422 : 0 ≤ (x15_3 : Int) := od
                      have q422 : x15_3 < (t415.length : Int) := od
                      obtain ⟨ad422, e422, hx422_0⟩ := Kd.at_int (Kd.R_reads' HO_12.out).2.2 x15_3 p422 q422
                      obtain rfl : ad421 = ad422 := (by injection e422)
                      replace p422 := eq_true p422
                      replace q422 := eq_true q422
                      have p423 : 0 ≤ (x15_3 : Int) := od
                      have q423 : x15_3 < (t415.length : Int) := od
                      obtain ⟨ad423, e423, hx423_0⟩ := Kd.at_int (Kd.R_reads' HO_12.out).2.2 x15_3 p423 q423
                      obtain rfl : ad421 = ad423 := (by injection e423)
                      replace p423 := eq_true p423
                      replace q423 := eq_true q423
                      have p424 : 0 ≤ ((ji32) : Int) := od
                      have q424 : (ji32) < (t415.length : Int) := od
                      obtain ⟨ad424, e424, hx424_0⟩ := Kd.at_int (Kd.R_reads' HO_12.out).2.2 (ji32) p424 q424
                      obtain rfl : ad421 = ad424 := (by injection e424)
                      replace p424 := eq_true p424
                      replace q424 := eq_true q424
                      go_wp2
                      repeat (go_quiet (fail); try go_wp2)
                      go_ret
                      exact ⟨by first | rfl | (simp [errW_none, errW_some] <;> rfl) | (simp only [← hji32]; first | rfl | (simp [errW_none, errW_some] <;> rfl)) | (simp [*, errW_none, errW_some] <;> rfl), mvB HB.out⟩
                     ·
                      rw [if_neg c35] at H
                      have c35b0 : decide ((rd t415 x15_3) < (rd t415 (ji32))) = false := decide_eq_false c35
                      clear c35
                      by_cases c37 : 0 ≤ (rd t410 x15_3)
                      ·
                       rw [if_pos c37] at H
                       have c37b0 : decide (0 ≤ (rd t410 x15_3)) = true := decide_eq_true c37
                       clear c37
                       by_cases c38 : (rd t410 x15_3) < (t404.length : Int)
                       ·
                        rw [if_pos c38] at H
                        have c38b0 : decide ((rd t410 x15_3) < (t404.length : Int)) = true := decide_eq_true c38
                        clear c38
                        have H' := Aside0.mk H
                        clear H
                        have p419 : 0 ≤ (x15_3 : Int) := od
                        have q419 : x15_3 < (t410.length : Int) := od
                        obtain ⟨ad419, e419, hx419_0⟩ := Kd.at_int (Kd.R_reads' HO_9.out).2.2 x15_3 p419 q419
                        cases e419
                        replace p419 := eq_true p419
                        replace q419 := eq_true q419
                        have p420 : 0 ≤ (x15_3 : Int) := od
                        have q420 : x15_3 < (t410.length : Int) := od
                        obtain ⟨ad420, e420, hx420_0⟩ := Kd.at_int (Kd.R_reads' HO_9.out).2.2 x15_3 p420 q420
                        obtain rfl : ad419 = ad420 := (by injection e420)
                        replace p420 := eq_true p420
                        replace q420 := eq_true q420
                        obtain ⟨Ao39, co39, eo39⟩ := Kd.R_slice HO_12.out
                        subst eo39
                        have p421 : 0 ≤ (x15_3 : Int) := od
                        have q421 : x15_3 < (t415.length : Int) := od
                        obtain ⟨ad421, e421, hx421_0⟩ := Kd.at_int (Kd.R_reads' HO_12.out).2.2 x15_3 p421 q421
                        cases e421
                        replace p421 := eq_true p421
                        replace q421 := eq_true q421
                        have p422 : 0 ≤ (x15_3 : Int) := od
                        have q422 : x15_3 < (t415.length : Int) := od
                        obtain ⟨ad422, e422, hx422_0⟩ := Kd.at_int (Kd.R_reads' HO_12.out).2.2 x15_3 p422 q422
                        obtain rfl : ad421 = ad422 := (by injection e422)
                        replace p422 := eq_true p422
                        replace q422 := eq_true q422
                        have p423 : 0 ≤ (x15_3 : Int) := od
                        have q423 : x15_3 < (t415.length : Int) := od
                        obtain ⟨ad423, e423, hx423_0⟩ := Kd.at_int (Kd.R_reads' HO_12.out).2.2 x15_3 p423 q423
                        obtain rfl : ad421 = ad423 := (by injection e423)
                        replace p423 := eq_true p423
                        replace q423 := eq_true q423
                        have p424 : 0 ≤ ((ji32) : Int) := od
                        have q424 : (ji32) < (t415.length : Int) := od
                        obtain ⟨ad424, e424, hx424_0⟩ := Kd.at_int (Kd.R_reads' HO_12.out).2.2 (ji32) p424 q424
                        obtain rfl : ad421 = ad424 := (by injection e424)
                        replace p424 := eq_true p424
                        replace q424 := eq_true q424
                        have p425 : 0 ≤ (x15_3 : Int) := od
                        have q425 : x15_3 < (t410.length : Int) := od
                        obtain ⟨ad425, e425, hx425_0⟩ := Kd.at_int (Kd.R_reads' HO_9.out).2.2 x15_3 p425 q425
                        obtain rfl : ad419 = ad425 := (by injection e425)
                        replace p425 := eq_true p425
                        replace q425 := eq_true q425
                        have p426 : 0 ≤ ((rd t410 x15_3) : Int) := od
                        have q426 : (rd t410 x15_3) < (t404.length : Int) := od
                        obtain ⟨ad426, A426_3, c426_3, e426, hx426_0, hx426_1, hx426_2, hx426_3, hl426_3, hi426_3⟩ := at_T34 (Kd.S_reads' HO_5.out).2.2 (rd t410 x15_3) p426 q426
                        cases e426
                        obtain ⟨ce426, hce426, hMe426, hcc426⟩ := Kd.S_get HO_5.out z34 (rd t410 x15_3) p426 (by first | exact q426 | exact od | (have e_ := (Kd.S_reads' HO_5.out).1; omega))
                        obtain ⟨ve426_3, rfl, ge426_3⟩ := k34_openM hMe426
                        have hv426_3 := hcc426 3 _ rfl
                        rw [add_field _ _ 3 (by omega)] at hv426_3
                        replace hv426_3 := Option.some.inj (hv426_3.symm.trans hx426_3)
                        rw [hv426_3] at ge426_3
                        have HL426_3 := Aside0.mk (show Kd.R Kd.string 9 _ _ _ _ ((rd_T34 t404 (rd t410 x15_3)).f3) from ge426_3)
                        clear hv426_3 ge426_3 hcc426 hce426
                        have HR426_3 := Aside0.mk hi426_3
                        have HC426_3 := Aside0.mk hl426_3
                        clear hi426_3 hl426_3
                        replace p426 := eq_true p426
                        replace q426 := eq_true q426
                        have p427 : 0 ≤ (x15_3 : Int) := od
                        have q427 : x15_3 < (t415.length : Int) := od
                        obtain ⟨ad427, e427, hx427_0⟩ := Kd.at_int (Kd.R_reads' HO_12.out).2.2 x15_3 p427 q427
                        obtain rfl : ad421 = ad427 := (by injection e427)
                        replace p427 := eq_true p427
                        replace q427 := eq_true q427
                        go_wp2
                        repeat (go_quiet (fail); try go_wp2)
                        go_roundg k3
                        case measure => have := HJ2.out; have := HJ15.out; have := HK3.out; omega
                        case rel => exact ⟨(wrap64 (x14_3 + (wrap64 (((rd_T34 t404 (rd t410 x15_3)).f2) * (wrap64 (t406 - (rd t415 x15_3))))))), (wrap64 (x15_3 + 1)), rs, rs, H', ⟨by have := HJ2.out; have := HJ15.out; have := HK3.out; omega⟩, ⟨mv HO_5.out⟩, ⟨mv HO_9.out⟩, ⟨mv HO_12.out⟩, ⟨mvB HB.out⟩⟩
                       ·
                        rw [if_neg c38] at H
                        exact absurd H (by simp)
                      ·
                       rw [if_neg c37] at H
                       exact absurd H (by simp)
                    ·
                     rw [if_neg c34] at H
                     exact absurd H (by simp)
                   ·
                    rw [if_neg c33] at H
                    exact absurd H (by simp)
                  ·
                   rw [if_neg c31] at H
                   have c31b0 : decide (0 < x15_3) = false := decide_eq_false c31
                   clear c31
                   by_cases c40 : 0 ≤ (rd t410 x15_3)
                   ·
                    rw [if_pos c40] at H
                    have c40b0 : decide (0 ≤ (rd t410 x15_3)) = true := decide_eq_true c40
                    clear c40
                    by_cases c41 : (rd t410 x15_3) < (t404.length : Int)
                    ·
                     rw [if_pos c41] at H
                     have c41b0 : decide ((rd t410 x15_3) < (t404.length : Int)) = true := decide_eq_true c41
                     clear c41
                     have H' := Aside0.mk H
                     clear H
                     have p419 : 0 ≤ (x15_3 : Int) := od
                     have q419 : x15_3 < (t410.length : Int) := od
                     obtain ⟨ad419, e419, hx419_0⟩ := Kd.at_int (Kd.R_reads' HO_9.out).2.2 x15_3 p419 q419
                     cases e419
                     replace p419 := eq_true p419
                     replace q419 := eq_true q419
                     have p420 : 0 ≤ (x15_3 : Int) := od
                     have q420 : x15_3 < (t410.length : Int) := od
                     obtain ⟨ad420, e420, hx420_0⟩ := Kd.at_int (Kd.R_reads' HO_9.out).2.2 x15_3 p420 q420
                     obtain rfl : ad419 = ad420 := (by injection e420)
                     replace p420 := eq_true p420
                     replace q420 := eq_true q420
                     obtain ⟨Ao42, co42, eo42⟩ := Kd.R_slice HO_12.out
                     subst eo42
                     have p421 : 0 ≤ (x15_3 : Int) := od
                     have q421 : x15_3 < (t415.length : Int) := od
                     obtain ⟨ad421, e421, hx421_0⟩ := Kd.at_int (Kd.R_reads' HO_12.out).2.2 x15_3 p421 q421
                     cases e421
                     replace p421 := eq_true p421
                     replace q421 := eq_true q421
                     have p422 : 0 ≤ (x15_3 : Int) := od
                     have q422 : x15_3 < (t415.length : Int) := od
                     obtain ⟨ad422, e422, hx422_0⟩ := Kd.at_int (Kd.R_reads' HO_12.out).2.2 x15_3 p422 q422
                     obtain rfl : ad421 = ad422 := (by injection e422)
                     replace p422 := eq_true p422
                     replace q422 := eq_true q422
                     have p428 : 0 ≤ (x15_3 : Int) := od
                     have q428 : x15_3 < (t410.length : Int) := od
                     obtain ⟨ad428, e428, hx428_0⟩ := Kd.at_int (Kd.R_reads' HO_9.out).2.2 x15_3 p428 q428
                     obtain rfl : ad419 = ad428 := (by injection e428)
                     replace p428 := eq_true p428
                     replace q428 := eq_true q428
                     have p429 : 0 ≤ ((rd t410 x15_3) : Int) := od
                     have q429 : (rd t410 x15_3) < (t404.length : Int) := od
                     obtain ⟨ad429, A429_3, c429_3, e429, hx429_0, hx429_1, hx429_2, hx429_3, hl429_3, hi429_3⟩ := at_T34 (Kd.S_reads' HO_5.out).2.2 (rd t410 x15_3) p429 q429
                     cases e429
                     obtain ⟨ce429, hce429, hMe429, hcc429⟩ := Kd.S_get HO_5.out z34 (rd t410 x15_3) p429 (by first | exact q429 | exact od | (have e_ := (Kd.S_reads' HO_5.out).1; omega))
                     obtain ⟨ve429_3, rfl, ge429_3⟩ := k34_openM hMe429
                     have hv429_3 := hcc429 3 _ rfl
                     rw [add_field _ _ 3 (by omega)] at hv429_3
                     replace hv429_3 := Option.some.inj (hv429_3.symm.trans hx429_3)
                     rw [hv429_3] at ge429_3
                     have HL429_3 := Aside0.mk (show Kd.R Kd.string 9 _ _ _ _ ((rd_T34 t404 (rd t410 x15_3)).f3) from ge429_3)
                     clear hv429_3 ge429_3 hcc429 hce429
                     have HR429_3 := Aside0.mk hi429_3
                     have HC429_3 := Aside0.mk hl429_3
                     clear hi429_3 hl429_3
                     replace p429 := eq_true p429
                     replace q429 := eq_true q429
                     have p430 : 0 ≤ (x15_3 : Int) := od
                     have q430 : x15_3 < (t415.length : Int) := od
                     obtain ⟨ad430, e430, hx430_0⟩ := Kd.at_int (Kd.R_reads' HO_12.out).2.2 x15_3 p430 q430
                     obtain rfl : ad421 = ad430 := (by injection e430)
                     replace p430 := eq_true p430
                     replace q430 := eq_true q430
                     go_wp2
                     repeat (go_quiet (fail); try go_wp2)
                     go_roundg k3
                     case measure => have := HJ2.out; have := HJ15.out; have := HK3.out; omega
                     case rel => exact ⟨(wrap64 (x14_3 + (wrap64 (((rd_T34 t404 (rd t410 x15_3)).f2) * (wrap64 (t406 - (rd t415 x15_3))))))), (wrap64 (x15_3 + 1)), rs, rs, H', ⟨by have := HJ2.out; have := HJ15.out; have := HK3.out; omega⟩, ⟨mv HO_5.out⟩, ⟨mv HO_9.out⟩, ⟨mv HO_12.out⟩, ⟨mvB HB.out⟩⟩
                    ·
                     rw [if_neg c41] at H
                     exact absurd H (by simp)
                   ·
                    rw [if_neg c40] at H
                    exact absurd H (by simp)
               ·
                rw [if_neg c26] at H
                exact absurd H (by simp)
            ·
             rw [if_neg c23] at H
             exact absurd H (by simp)
           ·
            rw [if_neg c22] at H
            have c22b0 : decide (x15_3 < (t410.length : Int)) = false := decide_eq_false c22
            clear c22
            by_cases c43 : x14_3 = t411
            ·
             rw [if_pos c43] at H
             have c43b0 : (x14_3 == t411) = true := beq_iff_eq.mpr c43
             have c43b1 : (x14_3 != t411) = false := bne_eq_false_iff_eq.mpr c43
             clear c43
             have H' := Aside0.mk H
             clear H
             go_wp2
             repeat (go_quiet (fail); try go_wp2)
             go_loopg [16] k3 (fun kq v16 w' => ∃ (x16_4 : Int), v16 = .int .i64 x16_4 ∧ Aside0 (laws_FnPlans.l1 kq l1 t404 t405 t406 t411 x16_4 = some r) ∧ Aside0 (kq ≤ k3) ∧ Aside0 (Kd.S k34 34 w' w.heap.size (fun _ => True) (.slice Ao12 t404.length co12) t404) ∧ Aside0 (Below w.heap.size w w'))
             case atStart => exact ⟨(0), rs, H', ⟨Nat.le_refl _⟩, ⟨mv HO_5.out⟩, ⟨mvB HB.out⟩⟩
             case round =>
              clear H'
              try clear c7
              try clear c14b0
              try clear c14b1
              try clear c21
              try clear c22b0
              try clear c43b0
              try clear c43b1
              obtain ⟨x16_4, rfl, HA, HK4, HO_5, HB⟩ := hrel
              cases gk with
              | zero => exact absurd HA.out (by simp [laws_FnPlans.l1])
              | succ k4 =>
               have H := HA.out
               clear HA
               simp only [laws_FnPlans.l1] at H
               by_cases c44 : x16_4 < (t404.length : Int)
               ·
                rw [if_pos c44] at H
                have c44b0 : decide (x16_4 < (t404.length : Int)) = true := decide_eq_true c44
                clear c44
                obtain ⟨y431, hy431⟩ : ∃ y_ : List Int, y_ = (([x16_4] : List Int)) := ⟨_, rfl⟩
                replace H : ((spec_YearsOf.f k4 t404 y431 t405).bind fun bt434 => (if bt434.2 = 0 then (if (bt434.1.length : Int) = 1 then (if 0 < (bt434.1.length : Int) then (if (rd bt434.1 0) ≤ t406 then (if 0 ≤ x16_4 then (if (wrap64 (((rd_T34 t404 x16_4).f2) * (wrap64 (t406 - (rd bt434.1 0))))) > t411 then (some false) else (laws_FnPlans.l1 k4 l1 t404 t405 t406 t411 (wrap64 (x16_4 + 1)))) else (none)) else (laws_FnPlans.l1 k4 l1 t404 t405 t406 t411 (wrap64 (x16_4 + 1)))) else (none)) else (laws_FnPlans.l1 k4 l1 t404 t405 t406 t411 (wrap64 (x16_4 + 1)))) else (laws_FnPlans.l1 k4 l1 t404 t405 t406 t411 (wrap64 (x16_4 + 1))))) = some r := by first | (rw [hy431]; with_reducible exact H) | (have H2_ := (Option.bind_some _ _).symm.trans H; rw [hy431]; with_reducible exact H2_) | (have H2_ := (Option.bind_some _ _).symm.trans H; with_reducible exact H2_) | with_reducible exact H | (rw [hy431]; exact H) | exact H
                have Ny431 := Aside0.mk hy431
                clear hy431
                replace H := Option.bind_eq_some_iff.mp H
                obtain ⟨⟨t434, t435⟩, A450, H⟩ := H
                replace H : (if t435 = 0 then (if (t434.length : Int) = 1 then (if 0 < (t434.length : Int) then (if (rd t434 0) ≤ t406 then (if 0 ≤ x16_4 then (if (wrap64 (((rd_T34 t404 x16_4).f2) * (wrap64 (t406 - (rd t434 0))))) > t411 then (some false) else (laws_FnPlans.l1 k4 l1 t404 t405 t406 t411 (wrap64 (x16_4 + 1)))) else (none)) else (laws_FnPlans.l1 k4 l1 t404 t405 t406 t411 (wrap64 (x16_4 + 1)))) else (none)) else (laws_FnPlans.l1 k4 l1 t404 t405 t406 t411 (wrap64 (x16_4 + 1)))) else (laws_FnPlans.l1 k4 l1 t404 t405 t406 t411 (wrap64 (x16_4 + 1)))) = some r := H
                have A45 := Aside0.mk A450
                clear A450
                by_cases c46 : t435 = 0
                ·
                 rw [if_pos c46] at H
                 have c46b0 : (t435 == 0) = true := beq_iff_eq.mpr c46
                 have c46b1 : (t435 != 0) = false := bne_eq_false_iff_eq.mpr c46
                 clear c46
                 by_cases c47 : (t434.length : Int) = 1
                 ·
                  rw [if_pos c47] at H
                  have c47b0 : ((t434.length : Int) == 1) = true := beq_iff_eq.mpr c47
                  have c47b1 : ((t434.length : Int) != 1) = false := bne_eq_false_iff_eq.mpr c47
                  clear c47
                  by_cases c48 : 0 < (t434.length : Int)
                  ·
                   rw [if_pos c48] at H
                   have c48b0 : decide (0 < (t434.length : Int)) = true := decide_eq_true c48
                   have c48b1 : decide (0 < t434.length) = true := decide_eq_true (by omega)
                   clear c48
                   by_cases c49 : (rd t434 0) ≤ t406
                   ·
                    rw [if_pos c49] at H
                    have c49b0 : decide ((rd t434 0) ≤ t406) = true := decide_eq_true c49
                    clear c49
                    by_cases c50 : 0 ≤ x16_4
                    ·
                     rw [if_pos c50] at H
                     have c50b0 : decide (0 ≤ x16_4) = true := decide_eq_true c50
                     clear c50
                     by_cases c51 : (wrap64 (((rd_T34 t404 x16_4).f2) * (wrap64 (t406 - (rd t434 0))))) > t411
                     ·
                      rw [if_pos c51] at H
                      have c51b0 : decide (t411 < (wrap64 (((rd_T34 t404 x16_4).f2) * (wrap64 (t406 - (rd t434 0)))))) = true := decide_eq_true c51
                      clear c51
                      obtain rfl := Option.some.inj H
                      go_wp2_with (first | ((with_reducible refine gate_dst (N := 150) rfl ?_); (try (refine gate_guard (by rfl) ?_; dsimp only)); refine Kd.R_lit (Kd.int .i64) _ 2 ?hg (N := 150) ?hd (xs := ([x16_4] : List Int)) (inner := [.int .i64 x16_4]) (ok := fun _ => True) (okp := fun _ => True) ?hr ?hp (fun _ hk => hk) trivial (Below.refl _ _) (Nat.le_refl _) (by simp) ?_; (case hd => rfl); (case hg => rfl); (case hr => first | (go_simp; done) | (go_simp; rfl)); (case hp => exact (Reps.one (show Kd.M (Kd.int .i64) _ _ _ x16_4 [.int .i64 x16_4] from rfl) (Reps.none _ _))); intro v432 w52 ho53 hb hg_ hnew_; clear hg_ hnew_; (first | rw [← Ny431.out] at ho53 | (simp only [Int.reduceToNat] at ho53; rw [← Ny431.out] at ho53)); have n0_ := Aside0.mk (Kd.S_below (mv HO_5.out) hb); have n1_ := Aside0.mk (Kd.R_lower ho53 (below_size (mvB HB.out))); have n2_ := Aside0.mk (below_step (mvB HB.out) hb); clear HO_5 HB; revert n0_ n1_ n2_; intro HO_5 HO433 HB; clear hb ho53; obtain ⟨Ao54, co54, eo54⟩ := Kd.R_slice HO433.out; subst eo54) | (go_at_call 13; (with_reducible refine (spec_YearsOf.calls k4 _ _ t404 _ _ y431 t405 t434 t435 _ ?side1 ?side2 ?side3 ?side4 A45.out).mono ?_); (case side1 => exact mvC (Kd.S_reads' HO_5.out).2.2); (case side2 => exact (Kd.S_reads' HO_5.out).2.1); (case side3 => exact mvC (Kd.R_reads' HO433.out).2.2); (case side4 => exact (Kd.R_reads' HO433.out).2.1); rintro e w55 ⟨v436, rfl, ho0, hb⟩; have n0_ := Aside0.mk (Kd.S_below (mv HO_5.out) hb); have n1_ := Aside0.mk (Kd.R_elder' (mv HO433.out) (Kd.R_base ho0) hb); have n2_ := Aside0.mk (Kd.R_lower (Kd.R_new' ho0 (Kd.R_lt (mv HO433.out))) (below_size (mvB HB.out))); have n3_ := Aside0.mk (below_step (mvB HB.out) hb); clear HO_5 HO433 HB; revert n0_ n1_ n2_ n3_; intro HO_5 HO433 HO437 HB; (try clear hb); (try clear hk); (try clear ho0); obtain ⟨Ao56, co56, eo56⟩ := Kd.R_slice HO437.out; subst eo56; have p438 : 0 ≤ (0 : Int) := (by omega); have q438 : 0 < (t434.length : Int) := od; obtain ⟨ad438, e438, hx438_0⟩ := Kd.at_int (Kd.R_reads' HO437.out).2.2 0 p438 q438; cases e438; have qi438 : (0 < t434.length) = True := eq_true (by omega); (try rw [show ((0 : Int)).toNat = 0 from rfl] at hx438_0); (try rw [Addr.add_zero'] at hx438_0); replace p438 := eq_true p438; replace q438 := eq_true q438; have p439 : 0 ≤ (x16_4 : Int) := od; have q439 : x16_4 < (t404.length : Int) := od; obtain ⟨ad439, A439_3, c439_3, e439, hx439_0, hx439_1, hx439_2, hx439_3, hl439_3, hi439_3⟩ := at_T34 (Kd.S_reads' HO_5.out).2.2 x16_4 p439 q439; cases e439; obtain ⟨ce439, hce439, hMe439, hcc439⟩ := Kd.S_get HO_5.out z34 x16_4 p439 (by first | exact q439 | exact od | (have e_ := (Kd.S_reads' HO_5.out).1; omega)); obtain ⟨ve439_3, rfl, ge439_3⟩ := k34_openM hMe439; have hv439_3 := hcc439 3 _ rfl; rw [add_field _ _ 3 (by omega)] at hv439_3; replace hv439_3 := Option.some.inj (hv439_3.symm.trans hx439_3); rw [hv439_3] at ge439_3; have HL439_3 := Aside0.mk (show Kd.R Kd.string 9 _ _ _ _ ((rd_T34 t404 x16_4).f3) from ge439_3); clear hv439_3 ge439_3; clear hcc439 hce439; have HR439_3 := Aside0.mk hi439_3; have HC439_3 := Aside0.mk hl439_3; clear hi439_3 hl439_3; replace p439 := eq_true p439; replace q439 := eq_true q439; have p440 : 0 ≤ (0 : Int) := (by omega); have q440 : 0 < (t434.length : Int) := od; obtain ⟨ad440, e440, hx440_0⟩ := Kd.at_int (Kd.R_reads' HO437.out).2.2 0 p440 q440; obtain rfl : ad438 = ad440 := (by injection e440); have qi440 : (0 < t434.length) = True := eq_true (by omega); (try rw [show ((0 : Int)).toNat = 0 from rfl] at hx440_0); (try rw [Addr.add_zero'] at hx440_0); replace p440 := eq_true p440; replace q440 := eq_true q440))
                      repeat (go_quiet (first | ((with_reducible refine gate_dst (N := 150) rfl ?_); (try (refine gate_guard (by rfl) ?_; dsimp only)); refine Kd.R_lit (Kd.int .i64) _ 2 ?hg (N := 150) ?hd (xs := ([x16_4] : List Int)) (inner := [.int .i64 x16_4]) (ok := fun _ => True) (okp := fun _ => True) ?hr ?hp (fun _ hk => hk) trivial (Below.refl _ _) (Nat.le_refl _) (by simp) ?_; (case hd => rfl); (case hg => rfl); (case hr => first | (go_simp; done) | (go_simp; rfl)); (case hp => exact (Reps.one (show Kd.M (Kd.int .i64) _ _ _ x16_4 [.int .i64 x16_4] from rfl) (Reps.none _ _))); intro v432 w52 ho53 hb hg_ hnew_; clear hg_ hnew_; (first | rw [← Ny431.out] at ho53 | (simp only [Int.reduceToNat] at ho53; rw [← Ny431.out] at ho53)); have n0_ := Aside0.mk (Kd.S_below (mv HO_5.out) hb); have n1_ := Aside0.mk (Kd.R_lower ho53 (below_size (mvB HB.out))); have n2_ := Aside0.mk (below_step (mvB HB.out) hb); clear HO_5 HB; revert n0_ n1_ n2_; intro HO_5 HO433 HB; clear hb ho53; obtain ⟨Ao54, co54, eo54⟩ := Kd.R_slice HO433.out; subst eo54) | (go_at_call 13; (with_reducible refine (spec_YearsOf.calls k4 _ _ t404 _ _ y431 t405 t434 t435 _ ?side1 ?side2 ?side3 ?side4 A45.out).mono ?_); (case side1 => exact mvC (Kd.S_reads' HO_5.out).2.2); (case side2 => exact (Kd.S_reads' HO_5.out).2.1); (case side3 => exact mvC (Kd.R_reads' HO433.out).2.2); (case side4 => exact (Kd.R_reads' HO433.out).2.1); rintro e w55 ⟨v436, rfl, ho0, hb⟩; have n0_ := Aside0.mk (Kd.S_below (mv HO_5.out) hb); have n1_ := Aside0.mk (Kd.R_elder' (mv HO433.out) (Kd.R_base ho0) hb); have n2_ := Aside0.mk (Kd.R_lower (Kd.R_new' ho0 (Kd.R_lt (mv HO433.out))) (below_size (mvB HB.out))); have n3_ := Aside0.mk (below_step (mvB HB.out) hb); clear HO_5 HO433 HB; revert n0_ n1_ n2_ n3_; intro HO_5 HO433 HO437 HB; (try clear hb); (try clear hk); (try clear ho0); obtain ⟨Ao56, co56, eo56⟩ := Kd.R_slice HO437.out; subst eo56; have p438 : 0 ≤ (0 : Int) := (by omega); have q438 : 0 < (t434.length : Int) := od; obtain ⟨ad438, e438, hx438_0⟩ := Kd.at_int (Kd.R_reads' HO437.out).2.2 0 p438 q438; cases e438; have qi438 : (0 < t434.length) = True := eq_true (by omega); (try rw [show ((0 : Int)).toNat = 0 from rfl] at hx438_0); (try rw [Addr.add_zero'] at hx438_0); replace p438 := eq_true p438; replace q438 := eq_true q438; have p439 : 0 ≤ (x16_4 : Int) := od; have q439 : x16_4 < (t404.length : Int) := od; obtain ⟨ad439, A439_3, c439_3, e439, hx439_0, hx439_1, hx439_2, hx439_3, hl439_3, hi439_3⟩ := at_T34 (Kd.S_reads' HO_5.out).2.2 x16_4 p439 q439; cases e439; obtain ⟨ce439, hce439, hMe439, hcc439⟩ := Kd.S_get HO_5.out z34 x16_4 p439 (by first | exact q439 | exact od | (have e_ := (Kd.S_reads' HO_5.out).1; omega)); obtain ⟨ve439_3, rfl, ge439_3⟩ := k34_openM hMe439; have hv439_3 := hcc439 3 _ rfl; rw [add_field _ _ 3 (by omega)] at hv439_3; replace hv439_3 := Option.some.inj (hv439_3.symm.trans hx439_3); rw [hv439_3] at ge439_3; have HL439_3 := Aside0.mk (show Kd.R Kd.string 9 _ _ _ _ ((rd_T34 t404 x16_4).f3) from ge439_3); clear hv439_3 ge439_3; clear hcc439 hce439; have HR439_3 := Aside0.mk hi439_3; have HC439_3 := Aside0.mk hl439_3; clear hi439_3 hl439_3; replace p439 := eq_true p439; replace q439 := eq_true q439; have p440 : 0 ≤ (0 : Int) := (by omega); have q440 : 0 < (t434.length : Int) := od; obtain ⟨ad440, e440, hx440_0⟩ := Kd.at_int (Kd.R_reads' HO437.out).2.2 0 p440 q440; obtain rfl : ad438 = ad440 := (by injection e440); have qi440 : (0 < t434.length) = True := eq_true (by omega); (try rw [show ((0 : Int)).toNat = 0 from rfl] at hx440_0); (try rw [Addr.add_zero'] at hx440_0); replace p440 := eq_true p440; replace q440 := eq_true q440)); try go_wp2_with (first | ((with_reducible refine gate_dst (N := 150) rfl ?_); (try (refine gate_guard (by rfl) ?_; dsimp only)); refine Kd.R_lit (Kd.int .i64) _ 2 ?hg (N := 150) ?hd (xs := ([x16_4] : List Int)) (inner := [.int .i64 x16_4]) (ok := fun _ => True) (okp := fun _ => True) ?hr ?hp (fun _ hk => hk) trivial (Below.refl _ _) (Nat.le_refl _) (by simp) ?_; (case hd => rfl); (case hg => rfl); (case hr => first | (go_simp; done) | (go_simp; rfl)); (case hp => exact (Reps.one (show Kd.M (Kd.int .i64) _ _ _ x16_4 [.int .i64 x16_4] from rfl) (Reps.none _ _))); intro v432 w52 ho53 hb hg_ hnew_; clear hg_ hnew_; (first | rw [← Ny431.out] at ho53 | (simp only [Int.reduceToNat] at ho53; rw [← Ny431.out] at ho53)); have n0_ := Aside0.mk (Kd.S_below (mv HO_5.out) hb); have n1_ := Aside0.mk (Kd.R_lower ho53 (below_size (mvB HB.out))); have n2_ := Aside0.mk (below_step (mvB HB.out) hb); clear HO_5 HB; revert n0_ n1_ n2_; intro HO_5 HO433 HB; clear hb ho53; obtain ⟨Ao54, co54, eo54⟩ := Kd.R_slice HO433.out; subst eo54) | (go_at_call 13; (with_reducible refine (spec_YearsOf.calls k4 _ _ t404 _ _ y431 t405 t434 t435 _ ?side1 ?side2 ?side3 ?side4 A45.out).mono ?_); (case side1 => exact mvC (Kd.S_reads' HO_5.out).2.2); (case side2 => exact (Kd.S_reads' HO_5.out).2.1); (case side3 => exact mvC (Kd.R_reads' HO433.out).2.2); (case side4 => exact (Kd.R_reads' HO433.out).2.1); rintro e w55 ⟨v436, rfl, ho0, hb⟩; have n0_ := Aside0.mk (Kd.S_below (mv HO_5.out) hb); have n1_ := Aside0.mk (Kd.R_elder' (mv HO433.out) (Kd.R_base ho0) hb); have n2_ := Aside0.mk (Kd.R_lower (Kd.R_new' ho0 (Kd.R_lt (mv HO433.out))) (below_size (mvB HB.out))); have n3_ := Aside0.mk (below_step (mvB HB.out) hb); clear HO_5 HO433 HB; revert n0_ n1_ n2_ n3_; intro HO_5 HO433 HO437 HB; (try clear hb); (try clear hk); (try clear ho0); obtain ⟨Ao56, co56, eo56⟩ := Kd.R_slice HO437.out; subst eo56; have p438 : 0 ≤ (0 : Int) := (by omega); have q438 : 0 < (t434.length : Int) := od; obtain ⟨ad438, e438, hx438_0⟩ := Kd.at_int (Kd.R_reads' HO437.out).2.2 0 p438 q438; cases e438; have qi438 : (0 < t434.length) = True := eq_true (by omega); (try rw [show ((0 : Int)).toNat = 0 from rfl] at hx438_0); (try rw [Addr.add_zero'] at hx438_0); replace p438 := eq_true p438; replace q438 := eq_true q438; have p439 : 0 ≤ (x16_4 : Int) := od; have q439 : x16_4 < (t404.length : Int) := od; obtain ⟨ad439, A439_3, c439_3, e439, hx439_0, hx439_1, hx439_2, hx439_3, hl439_3, hi439_3⟩ := at_T34 (Kd.S_reads' HO_5.out).2.2 x16_4 p439 q439; cases e439; obtain ⟨ce439, hce439, hMe439, hcc439⟩ := Kd.S_get HO_5.out z34 x16_4 p439 (by first | exact q439 | exact od | (have e_ := (Kd.S_reads' HO_5.out).1; omega)); obtain ⟨ve439_3, rfl, ge439_3⟩ := k34_openM hMe439; have hv439_3 := hcc439 3 _ rfl; rw [add_field _ _ 3 (by omega)] at hv439_3; replace hv439_3 := Option.some.inj (hv439_3.symm.trans hx439_3); rw [hv439_3] at ge439_3; have HL439_3 := Aside0.mk (show Kd.R Kd.string 9 _ _ _ _ ((rd_T34 t404 x16_4).f3) from ge439_3); clear hv439_3 ge439_3; clear hcc439 hce439; have HR439_3 := Aside0.mk hi439_3; have HC439_3 := Aside0.mk hl439_3; clear hi439_3 hl439_3; replace p439 := eq_true p439; replace q439 := eq_true q439; have p440 : 0 ≤ (0 : Int) := (by omega); have q440 : 0 < (t434.length : Int) := od; obtain ⟨ad440, e440, hx440_0⟩ := Kd.at_int (Kd.R_reads' HO437.out).2.2 0 p440 q440; obtain rfl : ad438 = ad440 := (by injection e440); have qi440 : (0 < t434.length) = True := eq_true (by omega); (try rw [show ((0 : Int)).toNat = 0 from rfl] at hx440_0); (try rw [Addr.add_zero'] at hx440_0); replace p440 := eq_true p440; replace q440 := eq_true q440)))
                      go_ret
                      exact ⟨by first | rfl | (simp [errW_none, errW_some] <;> rfl) | (simp [*, errW_none, errW_some] <;> rfl), mvB HB.out⟩
                     ·
                      rw [if_neg c51] at H
                      have c51b0 : decide (t411 < (wrap64 (((rd_T34 t404 x16_4).f2) * (wrap64 (t406 - (rd t434 0)))))) = false := decide_eq_false c51
                      clear c51
                      have H' := Aside0.mk H
                      clear H
                      go_wp2_with (first | ((with_reducible refine gate_dst (N := 150) rfl ?_); (try (refine gate_guard (by rfl) ?_; dsimp only)); refine Kd.R_lit (Kd.int .i64) _ 2 ?hg (N := 150) ?hd (xs := ([x16_4] : List Int)) (inner := [.int .i64 x16_4]) (ok := fun _ => True) (okp := fun _ => True) ?hr ?hp (fun _ hk => hk) trivial (Below.refl _ _) (Nat.le_refl _) (by simp) ?_; (case hd => rfl); (case hg => rfl); (case hr => first | (go_simp; done) | (go_simp; rfl)); (case hp => exact (Reps.one (show Kd.M (Kd.int .i64) _ _ _ x16_4 [.int .i64 x16_4] from rfl) (Reps.none _ _))); intro v432 w57 ho58 hb hg_ hnew_; clear hg_ hnew_; (first | rw [← Ny431.out] at ho58 | (simp only [Int.reduceToNat] at ho58; rw [← Ny431.out] at ho58)); have n0_ := Aside0.mk (Kd.S_below (mv HO_5.out) hb); have n1_ := Aside0.mk (Kd.R_lower ho58 (below_size (mvB HB.out))); have n2_ := Aside0.mk (below_step (mvB HB.out) hb); clear HO_5 HB; revert n0_ n1_ n2_; intro HO_5 HO433 HB; clear hb ho58; obtain ⟨Ao59, co59, eo59⟩ := Kd.R_slice HO433.out; subst eo59) | (go_at_call 13; (with_reducible refine (spec_YearsOf.calls k4 _ _ t404 _ _ y431 t405 t434 t435 _ ?side1 ?side2 ?side3 ?side4 A45.out).mono ?_); (case side1 => exact mvC (Kd.S_reads' HO_5.out).2.2); (case side2 => exact (Kd.S_reads' HO_5.out).2.1); (case side3 => exact mvC (Kd.R_reads' HO433.out).2.2); (case side4 => exact (Kd.R_reads' HO433.out).2.1); rintro e w60 ⟨v436, rfl, ho0, hb⟩; have n0_ := Aside0.mk (Kd.S_below (mv HO_5.out) hb); have n1_ := Aside0.mk (Kd.R_elder' (mv HO433.out) (Kd.R_base ho0) hb); have n2_ := Aside0.mk (Kd.R_lower (Kd.R_new' ho0 (Kd.R_lt (mv HO433.out))) (below_size (mvB HB.out))); have n3_ := Aside0.mk (below_step (mvB HB.out) hb); clear HO_5 HO433 HB; revert n0_ n1_ n2_ n3_; intro HO_5 HO433 HO437 HB; (try clear hb); (try clear hk); (try clear ho0); obtain ⟨Ao61, co61, eo61⟩ := Kd.R_slice HO437.out; subst eo61; have p438 : 0 ≤ (0 : Int) := (by omega); have q438 : 0 < (t434.length : Int) := od; obtain ⟨ad438, e438, hx438_0⟩ := Kd.at_int (Kd.R_reads' HO437.out).2.2 0 p438 q438; cases e438; have qi438 : (0 < t434.length) = True := eq_true (by omega); (try rw [show ((0 : Int)).toNat = 0 from rfl] at hx438_0); (try rw [Addr.add_zero'] at hx438_0); replace p438 := eq_true p438; replace q438 := eq_true q438; have p439 : 0 ≤ (x16_4 : Int) := od; have q439 : x16_4 < (t404.length : Int) := od; obtain ⟨ad439, A439_3, c439_3, e439, hx439_0, hx439_1, hx439_2, hx439_3, hl439_3, hi439_3⟩ := at_T34 (Kd.S_reads' HO_5.out).2.2 x16_4 p439 q439; cases e439; obtain ⟨ce439, hce439, hMe439, hcc439⟩ := Kd.S_get HO_5.out z34 x16_4 p439 (by first | exact q439 | exact od | (have e_ := (Kd.S_reads' HO_5.out).1; omega)); obtain ⟨ve439_3, rfl, ge439_3⟩ := k34_openM hMe439; have hv439_3 := hcc439 3 _ rfl; rw [add_field _ _ 3 (by omega)] at hv439_3; replace hv439_3 := Option.some.inj (hv439_3.symm.trans hx439_3); rw [hv439_3] at ge439_3; have HL439_3 := Aside0.mk (show Kd.R Kd.string 9 _ _ _ _ ((rd_T34 t404 x16_4).f3) from ge439_3); clear hv439_3 ge439_3; clear hcc439 hce439; have HR439_3 := Aside0.mk hi439_3; have HC439_3 := Aside0.mk hl439_3; clear hi439_3 hl439_3; replace p439 := eq_true p439; replace q439 := eq_true q439; have p440 : 0 ≤ (0 : Int) := (by omega); have q440 : 0 < (t434.length : Int) := od; obtain ⟨ad440, e440, hx440_0⟩ := Kd.at_int (Kd.R_reads' HO437.out).2.2 0 p440 q440; obtain rfl : ad438 = ad440 := (by injection e440); have qi440 : (0 < t434.length) = True := eq_true (by omega); (try rw [show ((0 : Int)).toNat = 0 from rfl] at hx440_0); (try rw [Addr.add_zero'] at hx440_0); replace p440 := eq_true p440; replace q440 := eq_true q440))
                      repeat (go_quiet (first | ((with_reducible refine gate_dst (N := 150) rfl ?_); (try (refine gate_guard (by rfl) ?_; dsimp only)); refine Kd.R_lit (Kd.int .i64) _ 2 ?hg (N := 150) ?hd (xs := ([x16_4] : List Int)) (inner := [.int .i64 x16_4]) (ok := fun _ => True) (okp := fun _ => True) ?hr ?hp (fun _ hk => hk) trivial (Below.refl _ _) (Nat.le_refl _) (by simp) ?_; (case hd => rfl); (case hg => rfl); (case hr => first | (go_simp; done) | (go_simp; rfl)); (case hp => exact (Reps.one (show Kd.M (Kd.int .i64) _ _ _ x16_4 [.int .i64 x16_4] from rfl) (Reps.none _ _))); intro v432 w57 ho58 hb hg_ hnew_; clear hg_ hnew_; (first | rw [← Ny431.out] at ho58 | (simp only [Int.reduceToNat] at ho58; rw [← Ny431.out] at ho58)); have n0_ := Aside0.mk (Kd.S_below (mv HO_5.out) hb); have n1_ := Aside0.mk (Kd.R_lower ho58 (below_size (mvB HB.out))); have n2_ := Aside0.mk (below_step (mvB HB.out) hb); clear HO_5 HB; revert n0_ n1_ n2_; intro HO_5 HO433 HB; clear hb ho58; obtain ⟨Ao59, co59, eo59⟩ := Kd.R_slice HO433.out; subst eo59) | (go_at_call 13; (with_reducible refine (spec_YearsOf.calls k4 _ _ t404 _ _ y431 t405 t434 t435 _ ?side1 ?side2 ?side3 ?side4 A45.out).mono ?_); (case side1 => exact mvC (Kd.S_reads' HO_5.out).2.2); (case side2 => exact (Kd.S_reads' HO_5.out).2.1); (case side3 => exact mvC (Kd.R_reads' HO433.out).2.2); (case side4 => exact (Kd.R_reads' HO433.out).2.1); rintro e w60 ⟨v436, rfl, ho0, hb⟩; have n0_ := Aside0.mk (Kd.S_below (mv HO_5.out) hb); have n1_ := Aside0.mk (Kd.R_elder' (mv HO433.out) (Kd.R_base ho0) hb); have n2_ := Aside0.mk (Kd.R_lower (Kd.R_new' ho0 (Kd.R_lt (mv HO433.out))) (below_size (mvB HB.out))); have n3_ := Aside0.mk (below_step (mvB HB.out) hb); clear HO_5 HO433 HB; revert n0_ n1_ n2_ n3_; intro HO_5 HO433 HO437 HB; (try clear hb); (try clear hk); (try clear ho0); obtain ⟨Ao61, co61, eo61⟩ := Kd.R_slice HO437.out; subst eo61; have p438 : 0 ≤ (0 : Int) := (by omega); have q438 : 0 < (t434.length : Int) := od; obtain ⟨ad438, e438, hx438_0⟩ := Kd.at_int (Kd.R_reads' HO437.out).2.2 0 p438 q438; cases e438; have qi438 : (0 < t434.length) = True := eq_true (by omega); (try rw [show ((0 : Int)).toNat = 0 from rfl] at hx438_0); (try rw [Addr.add_zero'] at hx438_0); replace p438 := eq_true p438; replace q438 := eq_true q438; have p439 : 0 ≤ (x16_4 : Int) := od; have q439 : x16_4 < (t404.length : Int) := od; obtain ⟨ad439, A439_3, c439_3, e439, hx439_0, hx439_1, hx439_2, hx439_3, hl439_3, hi439_3⟩ := at_T34 (Kd.S_reads' HO_5.out).2.2 x16_4 p439 q439; cases e439; obtain ⟨ce439, hce439, hMe439, hcc439⟩ := Kd.S_get HO_5.out z34 x16_4 p439 (by first | exact q439 | exact od | (have e_ := (Kd.S_reads' HO_5.out).1; omega)); obtain ⟨ve439_3, rfl, ge439_3⟩ := k34_openM hMe439; have hv439_3 := hcc439 3 _ rfl; rw [add_field _ _ 3 (by omega)] at hv439_3; replace hv439_3 := Option.some.inj (hv439_3.symm.trans hx439_3); rw [hv439_3] at ge439_3; have HL439_3 := Aside0.mk (show Kd.R Kd.string 9 _ _ _ _ ((rd_T34 t404 x16_4).f3) from ge439_3); clear hv439_3 ge439_3; clear hcc439 hce439; have HR439_3 := Aside0.mk hi439_3; have HC439_3 := Aside0.mk hl439_3; clear hi439_3 hl439_3; replace p439 := eq_true p439; replace q439 := eq_true q439; have p440 : 0 ≤ (0 : Int) := (by omega); have q440 : 0 < (t434.length : Int) := od; obtain ⟨ad440, e440, hx440_0⟩ := Kd.at_int (Kd.R_reads' HO437.out).2.2 0 p440 q440; obtain rfl : ad438 = ad440 := (by injection e440); have qi440 : (0 < t434.length) = True := eq_true (by omega); (try rw [show ((0 : Int)).toNat = 0 from rfl] at hx440_0); (try rw [Addr.add_zero'] at hx440_0); replace p440 := eq_true p440; replace q440 := eq_true q440)); try go_wp2_with (first | ((with_reducible refine gate_dst (N := 150) rfl ?_); (try (refine gate_guard (by rfl) ?_; dsimp only)); refine Kd.R_lit (Kd.int .i64) _ 2 ?hg (N := 150) ?hd (xs := ([x16_4] : List Int)) (inner := [.int .i64 x16_4]) (ok := fun _ => True) (okp := fun _ => True) ?hr ?hp (fun _ hk => hk) trivial (Below.refl _ _) (Nat.le_refl _) (by simp) ?_; (case hd => rfl); (case hg => rfl); (case hr => first | (go_simp; done) | (go_simp; rfl)); (case hp => exact (Reps.one (show Kd.M (Kd.int .i64) _ _ _ x16_4 [.int .i64 x16_4] from rfl) (Reps.none _ _))); intro v432 w57 ho58 hb hg_ hnew_; clear hg_ hnew_; (first | rw [← Ny431.out] at ho58 | (simp only [Int.reduceToNat] at ho58; rw [← Ny431.out] at ho58)); have n0_ := Aside0.mk (Kd.S_below (mv HO_5.out) hb); have n1_ := Aside0.mk (Kd.R_lower ho58 (below_size (mvB HB.out))); have n2_ := Aside0.mk (below_step (mvB HB.out) hb); clear HO_5 HB; revert n0_ n1_ n2_; intro HO_5 HO433 HB; clear hb ho58; obtain ⟨Ao59, co59, eo59⟩ := Kd.R_slice HO433.out; subst eo59) | (go_at_call 13; (with_reducible refine (spec_YearsOf.calls k4 _ _ t404 _ _ y431 t405 t434 t435 _ ?side1 ?side2 ?side3 ?side4 A45.out).mono ?_); (case side1 => exact mvC (Kd.S_reads' HO_5.out).2.2); (case side2 => exact (Kd.S_reads' HO_5.out).2.1); (case side3 => exact mvC (Kd.R_reads' HO433.out).2.2); (case side4 => exact (Kd.R_reads' HO433.out).2.1); rintro e w60 ⟨v436, rfl, ho0, hb⟩; have n0_ := Aside0.mk (Kd.S_below (mv HO_5.out) hb); have n1_ := Aside0.mk (Kd.R_elder' (mv HO433.out) (Kd.R_base ho0) hb); have n2_ := Aside0.mk (Kd.R_lower (Kd.R_new' ho0 (Kd.R_lt (mv HO433.out))) (below_size (mvB HB.out))); have n3_ := Aside0.mk (below_step (mvB HB.out) hb); clear HO_5 HO433 HB; revert n0_ n1_ n2_ n3_; intro HO_5 HO433 HO437 HB; (try clear hb); (try clear hk); (try clear ho0); obtain ⟨Ao61, co61, eo61⟩ := Kd.R_slice HO437.out; subst eo61; have p438 : 0 ≤ (0 : Int) := (by omega); have q438 : 0 < (t434.length : Int) := od; obtain ⟨ad438, e438, hx438_0⟩ := Kd.at_int (Kd.R_reads' HO437.out).2.2 0 p438 q438; cases e438; have qi438 : (0 < t434.length) = True := eq_true (by omega); (try rw [show ((0 : Int)).toNat = 0 from rfl] at hx438_0); (try rw [Addr.add_zero'] at hx438_0); replace p438 := eq_true p438; replace q438 := eq_true q438; have p439 : 0 ≤ (x16_4 : Int) := od; have q439 : x16_4 < (t404.length : Int) := od; obtain ⟨ad439, A439_3, c439_3, e439, hx439_0, hx439_1, hx439_2, hx439_3, hl439_3, hi439_3⟩ := at_T34 (Kd.S_reads' HO_5.out).2.2 x16_4 p439 q439; cases e439; obtain ⟨ce439, hce439, hMe439, hcc439⟩ := Kd.S_get HO_5.out z34 x16_4 p439 (by first | exact q439 | exact od | (have e_ := (Kd.S_reads' HO_5.out).1; omega)); obtain ⟨ve439_3, rfl, ge439_3⟩ := k34_openM hMe439; have hv439_3 := hcc439 3 _ rfl; rw [add_field _ _ 3 (by omega)] at hv439_3; replace hv439_3 := Option.some.inj (hv439_3.symm.trans hx439_3); rw [hv439_3] at ge439_3; have HL439_3 := Aside0.mk (show Kd.R Kd.string 9 _ _ _ _ ((rd_T34 t404 x16_4).f3) from ge439_3); clear hv439_3 ge439_3; clear hcc439 hce439; have HR439_3 := Aside0.mk hi439_3; have HC439_3 := Aside0.mk hl439_3; clear hi439_3 hl439_3; replace p439 := eq_true p439; replace q439 := eq_true q439; have p440 : 0 ≤ (0 : Int) := (by omega); have q440 : 0 < (t434.length : Int) := od; obtain ⟨ad440, e440, hx440_0⟩ := Kd.at_int (Kd.R_reads' HO437.out).2.2 0 p440 q440; obtain rfl : ad438 = ad440 := (by injection e440); have qi440 : (0 < t434.length) = True := eq_true (by omega); (try rw [show ((0 : Int)).toNat = 0 from rfl] at hx440_0); (try rw [Addr.add_zero'] at hx440_0); replace p440 := eq_true p440; replace q440 := eq_true q440)))
                      go_roundg k4
                      case measure => have := HJ2.out; have := HJ15.out; have := HK3.out; have := HK4.out; omega
                      case rel => exact ⟨(wrap64 (x16_4 + 1)), rs, H', ⟨by have := HJ2.out; have := HJ15.out; have := HK3.out; have := HK4.out; omega⟩, ⟨mv HO_5.out⟩, ⟨mvB HB.out⟩⟩
                    ·
                     rw [if_neg c50] at H
                     exact absurd H (by simp)
                   ·
                    rw [if_neg c49] at H
                    have c49b0 : decide ((rd t434 0) ≤ t406) = false := decide_eq_false c49
                    clear c49
                    have H' := Aside0.mk H
                    clear H
                    go_wp2_with (first | ((with_reducible refine gate_dst (N := 150) rfl ?_); (try (refine gate_guard (by rfl) ?_; dsimp only)); refine Kd.R_lit (Kd.int .i64) _ 2 ?hg (N := 150) ?hd (xs := ([x16_4] : List Int)) (inner := [.int .i64 x16_4]) (ok := fun _ => True) (okp := fun _ => True) ?hr ?hp (fun _ hk => hk) trivial (Below.refl _ _) (Nat.le_refl _) (by simp) ?_; (case hd => rfl); (case hg => rfl); (case hr => first | (go_simp; done) | (go_simp; rfl)); (case hp => exact (Reps.one (show Kd.M (Kd.int .i64) _ _ _ x16_4 [.int .i64 x16_4] from rfl) (Reps.none _ _))); intro v432 w62 ho63 hb hg_ hnew_; clear hg_ hnew_; (first | rw [← Ny431.out] at ho63 | (simp only [Int.reduceToNat] at ho63; rw [← Ny431.out] at ho63)); have n0_ := Aside0.mk (Kd.S_below (mv HO_5.out) hb); have n1_ := Aside0.mk (Kd.R_lower ho63 (below_size (mvB HB.out))); have n2_ := Aside0.mk (below_step (mvB HB.out) hb); clear HO_5 HB; revert n0_ n1_ n2_; intro HO_5 HO433 HB; clear hb ho63; obtain ⟨Ao64, co64, eo64⟩ := Kd.R_slice HO433.out; subst eo64) | (go_at_call 13; (with_reducible refine (spec_YearsOf.calls k4 _ _ t404 _ _ y431 t405 t434 t435 _ ?side1 ?side2 ?side3 ?side4 A45.out).mono ?_); (case side1 => exact mvC (Kd.S_reads' HO_5.out).2.2); (case side2 => exact (Kd.S_reads' HO_5.out).2.1); (case side3 => exact mvC (Kd.R_reads' HO433.out).2.2); (case side4 => exact (Kd.R_reads' HO433.out).2.1); rintro e w65 ⟨v436, rfl, ho0, hb⟩; have n0_ := Aside0.mk (Kd.S_below (mv HO_5.out) hb); have n1_ := Aside0.mk (Kd.R_elder' (mv HO433.out) (Kd.R_base ho0) hb); have n2_ := Aside0.mk (Kd.R_lower (Kd.R_new' ho0 (Kd.R_lt (mv HO433.out))) (below_size (mvB HB.out))); have n3_ := Aside0.mk (below_step (mvB HB.out) hb); clear HO_5 HO433 HB; revert n0_ n1_ n2_ n3_; intro HO_5 HO433 HO437 HB; (try clear hb); (try clear hk); (try clear ho0); obtain ⟨Ao66, co66, eo66⟩ := Kd.R_slice HO437.out; subst eo66; have p438 : 0 ≤ (0 : Int) := (by omega); have q438 : 0 < (t434.length : Int) := od; obtain ⟨ad438, e438, hx438_0⟩ := Kd.at_int (Kd.R_reads' HO437.out).2.2 0 p438 q438; cases e438; have qi438 : (0 < t434.length) = True := eq_true (by omega); (try rw [show ((0 : Int)).toNat = 0 from rfl] at hx438_0); (try rw [Addr.add_zero'] at hx438_0); replace p438 := eq_true p438; replace q438 := eq_true q438))
                    repeat (go_quiet (first | ((with_reducible refine gate_dst (N := 150) rfl ?_); (try (refine gate_guard (by rfl) ?_; dsimp only)); refine Kd.R_lit (Kd.int .i64) _ 2 ?hg (N := 150) ?hd (xs := ([x16_4] : List Int)) (inner := [.int .i64 x16_4]) (ok := fun _ => True) (okp := fun _ => True) ?hr ?hp (fun _ hk => hk) trivial (Below.refl _ _) (Nat.le_refl _) (by simp) ?_; (case hd => rfl); (case hg => rfl); (case hr => first | (go_simp; done) | (go_simp; rfl)); (case hp => exact (Reps.one (show Kd.M (Kd.int .i64) _ _ _ x16_4 [.int .i64 x16_4] from rfl) (Reps.none _ _))); intro v432 w62 ho63 hb hg_ hnew_; clear hg_ hnew_; (first | rw [← Ny431.out] at ho63 | (simp only [Int.reduceToNat] at ho63; rw [← Ny431.out] at ho63)); have n0_ := Aside0.mk (Kd.S_below (mv HO_5.out) hb); have n1_ := Aside0.mk (Kd.R_lower ho63 (below_size (mvB HB.out))); have n2_ := Aside0.mk (below_step (mvB HB.out) hb); clear HO_5 HB; revert n0_ n1_ n2_; intro HO_5 HO433 HB; clear hb ho63; obtain ⟨Ao64, co64, eo64⟩ := Kd.R_slice HO433.out; subst eo64) | (go_at_call 13; (with_reducible refine (spec_YearsOf.calls k4 _ _ t404 _ _ y431 t405 t434 t435 _ ?side1 ?side2 ?side3 ?side4 A45.out).mono ?_); (case side1 => exact mvC (Kd.S_reads' HO_5.out).2.2); (case side2 => exact (Kd.S_reads' HO_5.out).2.1); (case side3 => exact mvC (Kd.R_reads' HO433.out).2.2); (case side4 => exact (Kd.R_reads' HO433.out).2.1); rintro e w65 ⟨v436, rfl, ho0, hb⟩; have n0_ := Aside0.mk (Kd.S_below (mv HO_5.out) hb); have n1_ := Aside0.mk (Kd.R_elder' (mv HO433.out) (Kd.R_base ho0) hb); have n2_ := Aside0.mk (Kd.R_lower (Kd.R_new' ho0 (Kd.R_lt (mv HO433.out))) (below_size (mvB HB.out))); have n3_ := Aside0.mk (below_step (mvB HB.out) hb); clear HO_5 HO433 HB; revert n0_ n1_ n2_ n3_; intro HO_5 HO433 HO437 HB; (try clear hb); (try clear hk); (try clear ho0); obtain ⟨Ao66, co66, eo66⟩ := Kd.R_slice HO437.out; subst eo66; have p438 : 0 ≤ (0 : Int) := (by omega); have q438 : 0 < (t434.length : Int) := od; obtain ⟨ad438, e438, hx438_0⟩ := Kd.at_int (Kd.R_reads' HO437.out).2.2 0 p438 q438; cases e438; have qi438 : (0 < t434.length) = True := eq_true (by omega); (try rw [show ((0 : Int)).toNat = 0 from rfl] at hx438_0); (try rw [Addr.add_zero'] at hx438_0); replace p438 := eq_true p438; replace q438 := eq_true q438)); try go_wp2_with (first | ((with_reducible refine gate_dst (N := 150) rfl ?_); (try (refine gate_guard (by rfl) ?_; dsimp only)); refine Kd.R_lit (Kd.int .i64) _ 2 ?hg (N := 150) ?hd (xs := ([x16_4] : List Int)) (inner := [.int .i64 x16_4]) (ok := fun _ => True) (okp := fun _ => True) ?hr ?hp (fun _ hk => hk) trivial (Below.refl _ _) (Nat.le_refl _) (by simp) ?_; (case hd => rfl); (case hg => rfl); (case hr => first | (go_simp; done) | (go_simp; rfl)); (case hp => exact (Reps.one (show Kd.M (Kd.int .i64) _ _ _ x16_4 [.int .i64 x16_4] from rfl) (Reps.none _ _))); intro v432 w62 ho63 hb hg_ hnew_; clear hg_ hnew_; (first | rw [← Ny431.out] at ho63 | (simp only [Int.reduceToNat] at ho63; rw [← Ny431.out] at ho63)); have n0_ := Aside0.mk (Kd.S_below (mv HO_5.out) hb); have n1_ := Aside0.mk (Kd.R_lower ho63 (below_size (mvB HB.out))); have n2_ := Aside0.mk (below_step (mvB HB.out) hb); clear HO_5 HB; revert n0_ n1_ n2_; intro HO_5 HO433 HB; clear hb ho63; obtain ⟨Ao64, co64, eo64⟩ := Kd.R_slice HO433.out; subst eo64) | (go_at_call 13; (with_reducible refine (spec_YearsOf.calls k4 _ _ t404 _ _ y431 t405 t434 t435 _ ?side1 ?side2 ?side3 ?side4 A45.out).mono ?_); (case side1 => exact mvC (Kd.S_reads' HO_5.out).2.2); (case side2 => exact (Kd.S_reads' HO_5.out).2.1); (case side3 => exact mvC (Kd.R_reads' HO433.out).2.2); (case side4 => exact (Kd.R_reads' HO433.out).2.1); rintro e w65 ⟨v436, rfl, ho0, hb⟩; have n0_ := Aside0.mk (Kd.S_below (mv HO_5.out) hb); have n1_ := Aside0.mk (Kd.R_elder' (mv HO433.out) (Kd.R_base ho0) hb); have n2_ := Aside0.mk (Kd.R_lower (Kd.R_new' ho0 (Kd.R_lt (mv HO433.out))) (below_size (mvB HB.out))); have n3_ := Aside0.mk (below_step (mvB HB.out) hb); clear HO_5 HO433 HB; revert n0_ n1_ n2_ n3_; intro HO_5 HO433 HO437 HB; (try clear hb); (try clear hk); (try clear ho0); obtain ⟨Ao66, co66, eo66⟩ := Kd.R_slice HO437.out; subst eo66; have p438 : 0 ≤ (0 : Int) := (by omega); have q438 : 0 < (t434.length : Int) := od; obtain ⟨ad438, e438, hx438_0⟩ := Kd.at_int (Kd.R_reads' HO437.out).2.2 0 p438 q438; cases e438; have qi438 : (0 < t434.length) = True := eq_true (by omega); (try rw [show ((0 : Int)).toNat = 0 from rfl] at hx438_0); (try rw [Addr.add_zero'] at hx438_0); replace p438 := eq_true p438; replace q438 := eq_true q438)))
                    go_roundg k4
                    case measure => have := HJ2.out; have := HJ15.out; have := HK3.out; have := HK4.out; omega
                    case rel => exact ⟨(wrap64 (x16_4 + 1)), rs, H', ⟨by have := HJ2.out; have := HJ15.out; have := HK3.out; have := HK4.out; omega⟩, ⟨mv HO_5.out⟩, ⟨mvB HB.out⟩⟩
                  ·
                   rw [if_neg c48] at H
                   exact absurd H (by simp)
                 ·
                  rw [if_neg c47] at H
                  have c47b0 : ((t434.length : Int) == 1) = false := beq_eq_false_iff_ne.mpr c47
                  have c47b1 : ((t434.length : Int) != 1) = true := bne_iff_ne.mpr c47
                  have H' := Aside0.mk H
                  clear H
                  go_wp2_with (first | ((with_reducible refine gate_dst (N := 150) rfl ?_); (try (refine gate_guard (by rfl) ?_; dsimp only)); refine Kd.R_lit (Kd.int .i64) _ 2 ?hg (N := 150) ?hd (xs := ([x16_4] : List Int)) (inner := [.int .i64 x16_4]) (ok := fun _ => True) (okp := fun _ => True) ?hr ?hp (fun _ hk => hk) trivial (Below.refl _ _) (Nat.le_refl _) (by simp) ?_; (case hd => rfl); (case hg => rfl); (case hr => first | (go_simp; done) | (go_simp; rfl)); (case hp => exact (Reps.one (show Kd.M (Kd.int .i64) _ _ _ x16_4 [.int .i64 x16_4] from rfl) (Reps.none _ _))); intro v432 w67 ho68 hb hg_ hnew_; clear hg_ hnew_; (first | rw [← Ny431.out] at ho68 | (simp only [Int.reduceToNat] at ho68; rw [← Ny431.out] at ho68)); have n0_ := Aside0.mk (Kd.S_below (mv HO_5.out) hb); have n1_ := Aside0.mk (Kd.R_lower ho68 (below_size (mvB HB.out))); have n2_ := Aside0.mk (below_step (mvB HB.out) hb); clear HO_5 HB; revert n0_ n1_ n2_; intro HO_5 HO433 HB; clear hb ho68; obtain ⟨Ao69, co69, eo69⟩ := Kd.R_slice HO433.out; subst eo69) | (go_at_call 13; (with_reducible refine (spec_YearsOf.calls k4 _ _ t404 _ _ y431 t405 t434 t435 _ ?side1 ?side2 ?side3 ?side4 A45.out).mono ?_); (case side1 => exact mvC (Kd.S_reads' HO_5.out).2.2); (case side2 => exact (Kd.S_reads' HO_5.out).2.1); (case side3 => exact mvC (Kd.R_reads' HO433.out).2.2); (case side4 => exact (Kd.R_reads' HO433.out).2.1); rintro e w70 ⟨v436, rfl, ho0, hb⟩; have n0_ := Aside0.mk (Kd.S_below (mv HO_5.out) hb); have n1_ := Aside0.mk (Kd.R_elder' (mv HO433.out) (Kd.R_base ho0) hb); have n2_ := Aside0.mk (Kd.R_lower (Kd.R_new' ho0 (Kd.R_lt (mv HO433.out))) (below_size (mvB HB.out))); have n3_ := Aside0.mk (below_step (mvB HB.out) hb); clear HO_5 HO433 HB; revert n0_ n1_ n2_ n3_; intro HO_5 HO433 HO437 HB; (try clear hb); (try clear hk); (try clear ho0); obtain ⟨Ao71, co71, eo71⟩ := Kd.R_slice HO437.out; subst eo71))
                  repeat (go_quiet (first | ((with_reducible refine gate_dst (N := 150) rfl ?_); (try (refine gate_guard (by rfl) ?_; dsimp only)); refine Kd.R_lit (Kd.int .i64) _ 2 ?hg (N := 150) ?hd (xs := ([x16_4] : List Int)) (inner := [.int .i64 x16_4]) (ok := fun _ => True) (okp := fun _ => True) ?hr ?hp (fun _ hk => hk) trivial (Below.refl _ _) (Nat.le_refl _) (by simp) ?_; (case hd => rfl); (case hg => rfl); (case hr => first | (go_simp; done) | (go_simp; rfl)); (case hp => exact (Reps.one (show Kd.M (Kd.int .i64) _ _ _ x16_4 [.int .i64 x16_4] from rfl) (Reps.none _ _))); intro v432 w67 ho68 hb hg_ hnew_; clear hg_ hnew_; (first | rw [← Ny431.out] at ho68 | (simp only [Int.reduceToNat] at ho68; rw [← Ny431.out] at ho68)); have n0_ := Aside0.mk (Kd.S_below (mv HO_5.out) hb); have n1_ := Aside0.mk (Kd.R_lower ho68 (below_size (mvB HB.out))); have n2_ := Aside0.mk (below_step (mvB HB.out) hb); clear HO_5 HB; revert n0_ n1_ n2_; intro HO_5 HO433 HB; clear hb ho68; obtain ⟨Ao69, co69, eo69⟩ := Kd.R_slice HO433.out; subst eo69) | (go_at_call 13; (with_reducible refine (spec_YearsOf.calls k4 _ _ t404 _ _ y431 t405 t434 t435 _ ?side1 ?side2 ?side3 ?side4 A45.out).mono ?_); (case side1 => exact mvC (Kd.S_reads' HO_5.out).2.2); (case side2 => exact (Kd.S_reads' HO_5.out).2.1); (case side3 => exact mvC (Kd.R_reads' HO433.out).2.2); (case side4 => exact (Kd.R_reads' HO433.out).2.1); rintro e w70 ⟨v436, rfl, ho0, hb⟩; have n0_ := Aside0.mk (Kd.S_below (mv HO_5.out) hb); have n1_ := Aside0.mk (Kd.R_elder' (mv HO433.out) (Kd.R_base ho0) hb); have n2_ := Aside0.mk (Kd.R_lower (Kd.R_new' ho0 (Kd.R_lt (mv HO433.out))) (below_size (mvB HB.out))); have n3_ := Aside0.mk (below_step (mvB HB.out) hb); clear HO_5 HO433 HB; revert n0_ n1_ n2_ n3_; intro HO_5 HO433 HO437 HB; (try clear hb); (try clear hk); (try clear ho0); obtain ⟨Ao71, co71, eo71⟩ := Kd.R_slice HO437.out; subst eo71)); try go_wp2_with (first | ((with_reducible refine gate_dst (N := 150) rfl ?_); (try (refine gate_guard (by rfl) ?_; dsimp only)); refine Kd.R_lit (Kd.int .i64) _ 2 ?hg (N := 150) ?hd (xs := ([x16_4] : List Int)) (inner := [.int .i64 x16_4]) (ok := fun _ => True) (okp := fun _ => True) ?hr ?hp (fun _ hk => hk) trivial (Below.refl _ _) (Nat.le_refl _) (by simp) ?_; (case hd => rfl); (case hg => rfl); (case hr => first | (go_simp; done) | (go_simp; rfl)); (case hp => exact (Reps.one (show Kd.M (Kd.int .i64) _ _ _ x16_4 [.int .i64 x16_4] from rfl) (Reps.none _ _))); intro v432 w67 ho68 hb hg_ hnew_; clear hg_ hnew_; (first | rw [← Ny431.out] at ho68 | (simp only [Int.reduceToNat] at ho68; rw [← Ny431.out] at ho68)); have n0_ := Aside0.mk (Kd.S_below (mv HO_5.out) hb); have n1_ := Aside0.mk (Kd.R_lower ho68 (below_size (mvB HB.out))); have n2_ := Aside0.mk (below_step (mvB HB.out) hb); clear HO_5 HB; revert n0_ n1_ n2_; intro HO_5 HO433 HB; clear hb ho68; obtain ⟨Ao69, co69, eo69⟩ := Kd.R_slice HO433.out; subst eo69) | (go_at_call 13; (with_reducible refine (spec_YearsOf.calls k4 _ _ t404 _ _ y431 t405 t434 t435 _ ?side1 ?side2 ?side3 ?side4 A45.out).mono ?_); (case side1 => exact mvC (Kd.S_reads' HO_5.out).2.2); (case side2 => exact (Kd.S_reads' HO_5.out).2.1); (case side3 => exact mvC (Kd.R_reads' HO433.out).2.2); (case side4 => exact (Kd.R_reads' HO433.out).2.1); rintro e w70 ⟨v436, rfl, ho0, hb⟩; have n0_ := Aside0.mk (Kd.S_below (mv HO_5.out) hb); have n1_ := Aside0.mk (Kd.R_elder' (mv HO433.out) (Kd.R_base ho0) hb); have n2_ := Aside0.mk (Kd.R_lower (Kd.R_new' ho0 (Kd.R_lt (mv HO433.out))) (below_size (mvB HB.out))); have n3_ := Aside0.mk (below_step (mvB HB.out) hb); clear HO_5 HO433 HB; revert n0_ n1_ n2_ n3_; intro HO_5 HO433 HO437 HB; (try clear hb); (try clear hk); (try clear ho0); obtain ⟨Ao71, co71, eo71⟩ := Kd.R_slice HO437.out; subst eo71)))
                  go_roundg k4
                  case measure => have := HJ2.out; have := HJ15.out; have := HK3.out; have := HK4.out; omega
                  case rel => exact ⟨(wrap64 (x16_4 + 1)), rs, H', ⟨by have := HJ2.out; have := HJ15.out; have := HK3.out; have := HK4.out; omega⟩, ⟨mv HO_5.out⟩, ⟨mvB HB.out⟩⟩
                ·
                 rw [if_neg c46] at H
                 have c46b0 : (t435 == 0) = false := beq_eq_false_iff_ne.mpr c46
                 have c46b1 : (t435 != 0) = true := bne_iff_ne.mpr c46
                 have H' := Aside0.mk H
                 clear H
                 go_wp2_with (first | ((with_reducible refine gate_dst (N := 150) rfl ?_); (try (refine gate_guard (by rfl) ?_; dsimp only)); refine Kd.R_lit (Kd.int .i64) _ 2 ?hg (N := 150) ?hd (xs := ([x16_4] : List Int)) (inner := [.int .i64 x16_4]) (ok := fun _ => True) (okp := fun _ => True) ?hr ?hp (fun _ hk => hk) trivial (Below.refl _ _) (Nat.le_refl _) (by simp) ?_; (case hd => rfl); (case hg => rfl); (case hr => first | (go_simp; done) | (go_simp; rfl)); (case hp => exact (Reps.one (show Kd.M (Kd.int .i64) _ _ _ x16_4 [.int .i64 x16_4] from rfl) (Reps.none _ _))); intro v432 w72 ho73 hb hg_ hnew_; clear hg_ hnew_; (first | rw [← Ny431.out] at ho73 | (simp only [Int.reduceToNat] at ho73; rw [← Ny431.out] at ho73)); have n0_ := Aside0.mk (Kd.S_below (mv HO_5.out) hb); have n1_ := Aside0.mk (Kd.R_lower ho73 (below_size (mvB HB.out))); have n2_ := Aside0.mk (below_step (mvB HB.out) hb); clear HO_5 HB; revert n0_ n1_ n2_; intro HO_5 HO433 HB; clear hb ho73; obtain ⟨Ao74, co74, eo74⟩ := Kd.R_slice HO433.out; subst eo74) | (go_at_call 13; (with_reducible refine (spec_YearsOf.calls k4 _ _ t404 _ _ y431 t405 t434 t435 _ ?side1 ?side2 ?side3 ?side4 A45.out).mono ?_); (case side1 => exact mvC (Kd.S_reads' HO_5.out).2.2); (case side2 => exact (Kd.S_reads' HO_5.out).2.1); (case side3 => exact mvC (Kd.R_reads' HO433.out).2.2); (case side4 => exact (Kd.R_reads' HO433.out).2.1); rintro e w75 ⟨v436, rfl, ho0, hb⟩; have n0_ := Aside0.mk (Kd.S_below (mv HO_5.out) hb); have n1_ := Aside0.mk (Kd.R_elder' (mv HO433.out) (Kd.R_base ho0) hb); have n2_ := Aside0.mk (Kd.R_lower (Kd.R_new' ho0 (Kd.R_lt (mv HO433.out))) (below_size (mvB HB.out))); have n3_ := Aside0.mk (below_step (mvB HB.out) hb); clear HO_5 HO433 HB; revert n0_ n1_ n2_ n3_; intro HO_5 HO433 HO437 HB; (try clear hb); (try clear hk); (try clear ho0)))
                 repeat (go_quiet (first | ((with_reducible refine gate_dst (N := 150) rfl ?_); (try (refine gate_guard (by rfl) ?_; dsimp only)); refine Kd.R_lit (Kd.int .i64) _ 2 ?hg (N := 150) ?hd (xs := ([x16_4] : List Int)) (inner := [.int .i64 x16_4]) (ok := fun _ => True) (okp := fun _ => True) ?hr ?hp (fun _ hk => hk) trivial (Below.refl _ _) (Nat.le_refl _) (by simp) ?_; (case hd => rfl); (case hg => rfl); (case hr => first | (go_simp; done) | (go_simp; rfl)); (case hp => exact (Reps.one (show Kd.M (Kd.int .i64) _ _ _ x16_4 [.int .i64 x16_4] from rfl) (Reps.none _ _))); intro v432 w72 ho73 hb hg_ hnew_; clear hg_ hnew_; (first | rw [← Ny431.out] at ho73 | (simp only [Int.reduceToNat] at ho73; rw [← Ny431.out] at ho73)); have n0_ := Aside0.mk (Kd.S_below (mv HO_5.out) hb); have n1_ := Aside0.mk (Kd.R_lower ho73 (below_size (mvB HB.out))); have n2_ := Aside0.mk (below_step (mvB HB.out) hb); clear HO_5 HB; revert n0_ n1_ n2_; intro HO_5 HO433 HB; clear hb ho73; obtain ⟨Ao74, co74, eo74⟩ := Kd.R_slice HO433.out; subst eo74) | (go_at_call 13; (with_reducible refine (spec_YearsOf.calls k4 _ _ t404 _ _ y431 t405 t434 t435 _ ?side1 ?side2 ?side3 ?side4 A45.out).mono ?_); (case side1 => exact mvC (Kd.S_reads' HO_5.out).2.2); (case side2 => exact (Kd.S_reads' HO_5.out).2.1); (case side3 => exact mvC (Kd.R_reads' HO433.out).2.2); (case side4 => exact (Kd.R_reads' HO433.out).2.1); rintro e w75 ⟨v436, rfl, ho0, hb⟩; have n0_ := Aside0.mk (Kd.S_below (mv HO_5.out) hb); have n1_ := Aside0.mk (Kd.R_elder' (mv HO433.out) (Kd.R_base ho0) hb); have n2_ := Aside0.mk (Kd.R_lower (Kd.R_new' ho0 (Kd.R_lt (mv HO433.out))) (below_size (mvB HB.out))); have n3_ := Aside0.mk (below_step (mvB HB.out) hb); clear HO_5 HO433 HB; revert n0_ n1_ n2_ n3_; intro HO_5 HO433 HO437 HB; (try clear hb); (try clear hk); (try clear ho0))); try go_wp2_with (first | ((with_reducible refine gate_dst (N := 150) rfl ?_); (try (refine gate_guard (by rfl) ?_; dsimp only)); refine Kd.R_lit (Kd.int .i64) _ 2 ?hg (N := 150) ?hd (xs := ([x16_4] : List Int)) (inner := [.int .i64 x16_4]) (ok := fun _ => True) (okp := fun _ => True) ?hr ?hp (fun _ hk => hk) trivial (Below.refl _ _) (Nat.le_refl _) (by simp) ?_; (case hd => rfl); (case hg => rfl); (case hr => first | (go_simp; done) | (go_simp; rfl)); (case hp => exact (Reps.one (show Kd.M (Kd.int .i64) _ _ _ x16_4 [.int .i64 x16_4] from rfl) (Reps.none _ _))); intro v432 w72 ho73 hb hg_ hnew_; clear hg_ hnew_; (first | rw [← Ny431.out] at ho73 | (simp only [Int.reduceToNat] at ho73; rw [← Ny431.out] at ho73)); have n0_ := Aside0.mk (Kd.S_below (mv HO_5.out) hb); have n1_ := Aside0.mk (Kd.R_lower ho73 (below_size (mvB HB.out))); have n2_ := Aside0.mk (below_step (mvB HB.out) hb); clear HO_5 HB; revert n0_ n1_ n2_; intro HO_5 HO433 HB; clear hb ho73; obtain ⟨Ao74, co74, eo74⟩ := Kd.R_slice HO433.out; subst eo74) | (go_at_call 13; (with_reducible refine (spec_YearsOf.calls k4 _ _ t404 _ _ y431 t405 t434 t435 _ ?side1 ?side2 ?side3 ?side4 A45.out).mono ?_); (case side1 => exact mvC (Kd.S_reads' HO_5.out).2.2); (case side2 => exact (Kd.S_reads' HO_5.out).2.1); (case side3 => exact mvC (Kd.R_reads' HO433.out).2.2); (case side4 => exact (Kd.R_reads' HO433.out).2.1); rintro e w75 ⟨v436, rfl, ho0, hb⟩; have n0_ := Aside0.mk (Kd.S_below (mv HO_5.out) hb); have n1_ := Aside0.mk (Kd.R_elder' (mv HO433.out) (Kd.R_base ho0) hb); have n2_ := Aside0.mk (Kd.R_lower (Kd.R_new' ho0 (Kd.R_lt (mv HO433.out))) (below_size (mvB HB.out))); have n3_ := Aside0.mk (below_step (mvB HB.out) hb); clear HO_5 HO433 HB; revert n0_ n1_ n2_ n3_; intro HO_5 HO433 HO437 HB; (try clear hb); (try clear hk); (try clear ho0))))
                 go_roundg k4
                 case measure => have := HJ2.out; have := HJ15.out; have := HK3.out; have := HK4.out; omega
                 case rel => exact ⟨(wrap64 (x16_4 + 1)), rs, H', ⟨by have := HJ2.out; have := HJ15.out; have := HK3.out; have := HK4.out; omega⟩, ⟨mv HO_5.out⟩, ⟨mvB HB.out⟩⟩
               ·
                rw [if_neg c44] at H
                have c44b0 : decide (x16_4 < (t404.length : Int)) = false := decide_eq_false c44
                clear c44
                have H' := Aside0.mk H
                clear H
                go_wp2
                repeat (go_quiet (fail); try go_wp2)
                go_meet
                case rel => exact ⟨_, H', ⟨by have := HJ2.out; have := HJ15.out; have := HK3.out; have := HK4.out; first | omega | exact Nat.le_refl _⟩, ⟨mvB HB.out⟩⟩
            ·
             rw [if_neg c43] at H
             have c43b0 : (x14_3 == t411) = false := beq_eq_false_iff_ne.mpr c43
             have c43b1 : (x14_3 != t411) = true := bne_iff_ne.mpr c43
             obtain rfl := Option.some.inj H
             go_wp2
             repeat (go_quiet (fail); try go_wp2)
             go_ret
             exact ⟨by first | rfl | (simp [errW_none, errW_some] <;> rfl) | (simp [*, errW_none, errW_some] <;> rfl), mvB HB.out⟩
     ·
      rw [if_neg c14] at H
      have c14b0 : (t412 == 0) = false := beq_eq_false_iff_ne.mpr c14
      have c14b1 : (t412 != 0) = true := bne_iff_ne.mpr c14
      (first | rw [c14b0] | (simp only [i64_w, i32_w]; rw [c14b0]) | skip)
      have H' := Aside0.mk H
      clear H
      go_wp2
      repeat (go_quiet (fail); try go_wp2)
      go_meet
      case rel => exact ⟨_, H', ⟨by have := HJ2.out; first | omega | exact Nat.le_refl _⟩, ⟨mvB HB.out⟩⟩
    case rest =>
     as_aux_lemma =>
     clear HC10
     try clear c7
     obtain ⟨kq, HA, HJ9, HB⟩ := hcut
     cases kq with
     | zero => exact absurd HA.out (by simp [laws_FnPlans.j4])
     | succ kj9 =>
      have H := HA.out
      clear HA
      simp only [laws_FnPlans.j4] at H
      replace H := Option.bind_eq_some_iff.mp H
      obtain ⟨⟨t441, t442, t443⟩, A760, H⟩ := H
      replace H : ((impl_PayBackYear.f kj9 t441 t442 t443).bind fun bt448 => (if bt448.2 = 0 then ((spec_YearsOf.f kj9 t441 t442 t443).bind fun bt450 => (if bt450.2 = 0 then (laws_FnPlans.l2 kj9 t441 t442 bt448.1 bt450.1 0 0 0 0) else (some false))) else (some (bt448.1 == 0)))) = some r := H
      have A76 := Aside0.mk A760
      clear A760
      replace H := Option.bind_eq_some_iff.mp H
      obtain ⟨⟨t448, t449⟩, A770, H⟩ := H
      replace H : (if t449 = 0 then ((spec_YearsOf.f kj9 t441 t442 t443).bind fun bt450 => (if bt450.2 = 0 then (laws_FnPlans.l2 kj9 t441 t442 t448 bt450.1 0 0 0 0) else (some false))) else (some (t448 == 0))) = some r := H
      have A77 := Aside0.mk A770
      clear A770
      by_cases c78 : t449 = 0
      ·
       rw [if_pos c78] at H
       have c78b0 : (t449 == 0) = true := beq_iff_eq.mpr c78
       have c78b1 : (t449 != 0) = false := bne_eq_false_iff_eq.mpr c78
       clear c78
       replace H := Option.bind_eq_some_iff.mp H
       obtain ⟨⟨t450, t451⟩, A790, H⟩ := H
       replace H : (if t451 = 0 then (laws_FnPlans.l2 kj9 t441 t442 t448 t450 0 0 0 0) else (some false)) = some r := H
       have A79 := Aside0.mk A790
       clear A790
       by_cases c80 : t451 = 0
       ·
        rw [if_pos c80] at H
        have c80b0 : (t451 == 0) = true := beq_iff_eq.mpr c80
        have c80b1 : (t451 != 0) = false := bne_eq_false_iff_eq.mpr c80
        clear c80
        have H' := Aside0.mk H
        clear H
        go_wp2_with (first | (go_at_call 14; (with_reducible refine (spec_DrawPayBackYear.calls kj9 _ _ l1 t441 t442 t443 _ ?side1 ?side2 A76.out).mono ?_); (case side1 => exact mvC (Kd.C_below HR1.out HB.out)); (case side2 => exact HC1.out); rintro e w81 ⟨v444, v446, rfl, ho0, ho1, hb⟩; have n0_ := Aside0.mk (Kd.S_lower ho0 (below_size (mvB HB.out))); have n1_ := Aside0.mk (Kd.R_lower ho1 (below_size (mvB HB.out))); have n2_ := Aside0.mk (below_step (mvB HB.out) hb); clear HB; revert n0_ n1_ n2_; intro HO445 HO447 HB; (try clear hb); (try clear ho0); (try clear ho1); obtain ⟨Ao82, co82, eo82⟩ := Kd.S_slice HO445.out; subst eo82; obtain ⟨Ao83, co83, eo83⟩ := Kd.R_slice HO447.out; subst eo83) | (go_at_call 15; (with_reducible refine (impl_PayBackYear.calls kj9 _ _ t441 _ _ t442 t443 t448 t449 _ ?side1 ?side2 ?side3 ?side4 A77.out).mono ?_); (case side1 => exact mvC (Kd.S_reads' HO445.out).2.2); (case side2 => exact (Kd.S_reads' HO445.out).2.1); (case side3 => exact mvC (Kd.R_reads' HO447.out).2.2); (case side4 => exact (Kd.R_reads' HO447.out).2.1); rintro e w84 ⟨rfl, hb⟩; have n0_ := Aside0.mk (Kd.S_below (mv HO445.out) hb); have n1_ := Aside0.mk (Kd.R_below (mv HO447.out) hb); have n2_ := Aside0.mk (below_step (mvB HB.out) hb); clear HO445 HO447 HB; revert n0_ n1_ n2_; intro HO445 HO447 HB; (try clear hb)) | (go_at_call 13; (with_reducible refine (spec_YearsOf.calls kj9 _ _ t441 _ _ t442 t443 t450 t451 _ ?side1 ?side2 ?side3 ?side4 A79.out).mono ?_); (case side1 => exact mvC (Kd.S_reads' HO445.out).2.2); (case side2 => exact (Kd.S_reads' HO445.out).2.1); (case side3 => exact mvC (Kd.R_reads' HO447.out).2.2); (case side4 => exact (Kd.R_reads' HO447.out).2.1); rintro e w85 ⟨v452, rfl, ho0, hb⟩; have n0_ := Aside0.mk (Kd.S_below (mv HO445.out) hb); have n1_ := Aside0.mk (Kd.R_elder' (mv HO447.out) (Kd.R_base ho0) hb); have n2_ := Aside0.mk (Kd.R_lower (Kd.R_new' ho0 (Kd.R_lt (mv HO447.out))) (below_size (mvB HB.out))); have n3_ := Aside0.mk (below_step (mvB HB.out) hb); clear HO445 HO447 HB; revert n0_ n1_ n2_ n3_; intro HO445 HO447 HO453 HB; (try clear hb); (try clear ho0)))
        repeat (go_quiet (first | (go_at_call 14; (with_reducible refine (spec_DrawPayBackYear.calls kj9 _ _ l1 t441 t442 t443 _ ?side1 ?side2 A76.out).mono ?_); (case side1 => exact mvC (Kd.C_below HR1.out HB.out)); (case side2 => exact HC1.out); rintro e w81 ⟨v444, v446, rfl, ho0, ho1, hb⟩; have n0_ := Aside0.mk (Kd.S_lower ho0 (below_size (mvB HB.out))); have n1_ := Aside0.mk (Kd.R_lower ho1 (below_size (mvB HB.out))); have n2_ := Aside0.mk (below_step (mvB HB.out) hb); clear HB; revert n0_ n1_ n2_; intro HO445 HO447 HB; (try clear hb); (try clear ho0); (try clear ho1); obtain ⟨Ao82, co82, eo82⟩ := Kd.S_slice HO445.out; subst eo82; obtain ⟨Ao83, co83, eo83⟩ := Kd.R_slice HO447.out; subst eo83) | (go_at_call 15; (with_reducible refine (impl_PayBackYear.calls kj9 _ _ t441 _ _ t442 t443 t448 t449 _ ?side1 ?side2 ?side3 ?side4 A77.out).mono ?_); (case side1 => exact mvC (Kd.S_reads' HO445.out).2.2); (case side2 => exact (Kd.S_reads' HO445.out).2.1); (case side3 => exact mvC (Kd.R_reads' HO447.out).2.2); (case side4 => exact (Kd.R_reads' HO447.out).2.1); rintro e w84 ⟨rfl, hb⟩; have n0_ := Aside0.mk (Kd.S_below (mv HO445.out) hb); have n1_ := Aside0.mk (Kd.R_below (mv HO447.out) hb); have n2_ := Aside0.mk (below_step (mvB HB.out) hb); clear HO445 HO447 HB; revert n0_ n1_ n2_; intro HO445 HO447 HB; (try clear hb)) | (go_at_call 13; (with_reducible refine (spec_YearsOf.calls kj9 _ _ t441 _ _ t442 t443 t450 t451 _ ?side1 ?side2 ?side3 ?side4 A79.out).mono ?_); (case side1 => exact mvC (Kd.S_reads' HO445.out).2.2); (case side2 => exact (Kd.S_reads' HO445.out).2.1); (case side3 => exact mvC (Kd.R_reads' HO447.out).2.2); (case side4 => exact (Kd.R_reads' HO447.out).2.1); rintro e w85 ⟨v452, rfl, ho0, hb⟩; have n0_ := Aside0.mk (Kd.S_below (mv HO445.out) hb); have n1_ := Aside0.mk (Kd.R_elder' (mv HO447.out) (Kd.R_base ho0) hb); have n2_ := Aside0.mk (Kd.R_lower (Kd.R_new' ho0 (Kd.R_lt (mv HO447.out))) (below_size (mvB HB.out))); have n3_ := Aside0.mk (below_step (mvB HB.out) hb); clear HO445 HO447 HB; revert n0_ n1_ n2_ n3_; intro HO445 HO447 HO453 HB; (try clear hb); (try clear ho0))); try go_wp2_with (first | (go_at_call 14; (with_reducible refine (spec_DrawPayBackYear.calls kj9 _ _ l1 t441 t442 t443 _ ?side1 ?side2 A76.out).mono ?_); (case side1 => exact mvC (Kd.C_below HR1.out HB.out)); (case side2 => exact HC1.out); rintro e w81 ⟨v444, v446, rfl, ho0, ho1, hb⟩; have n0_ := Aside0.mk (Kd.S_lower ho0 (below_size (mvB HB.out))); have n1_ := Aside0.mk (Kd.R_lower ho1 (below_size (mvB HB.out))); have n2_ := Aside0.mk (below_step (mvB HB.out) hb); clear HB; revert n0_ n1_ n2_; intro HO445 HO447 HB; (try clear hb); (try clear ho0); (try clear ho1); obtain ⟨Ao82, co82, eo82⟩ := Kd.S_slice HO445.out; subst eo82; obtain ⟨Ao83, co83, eo83⟩ := Kd.R_slice HO447.out; subst eo83) | (go_at_call 15; (with_reducible refine (impl_PayBackYear.calls kj9 _ _ t441 _ _ t442 t443 t448 t449 _ ?side1 ?side2 ?side3 ?side4 A77.out).mono ?_); (case side1 => exact mvC (Kd.S_reads' HO445.out).2.2); (case side2 => exact (Kd.S_reads' HO445.out).2.1); (case side3 => exact mvC (Kd.R_reads' HO447.out).2.2); (case side4 => exact (Kd.R_reads' HO447.out).2.1); rintro e w84 ⟨rfl, hb⟩; have n0_ := Aside0.mk (Kd.S_below (mv HO445.out) hb); have n1_ := Aside0.mk (Kd.R_below (mv HO447.out) hb); have n2_ := Aside0.mk (below_step (mvB HB.out) hb); clear HO445 HO447 HB; revert n0_ n1_ n2_; intro HO445 HO447 HB; (try clear hb)) | (go_at_call 13; (with_reducible refine (spec_YearsOf.calls kj9 _ _ t441 _ _ t442 t443 t450 t451 _ ?side1 ?side2 ?side3 ?side4 A79.out).mono ?_); (case side1 => exact mvC (Kd.S_reads' HO445.out).2.2); (case side2 => exact (Kd.S_reads' HO445.out).2.1); (case side3 => exact mvC (Kd.R_reads' HO447.out).2.2); (case side4 => exact (Kd.R_reads' HO447.out).2.1); rintro e w85 ⟨v452, rfl, ho0, hb⟩; have n0_ := Aside0.mk (Kd.S_below (mv HO445.out) hb); have n1_ := Aside0.mk (Kd.R_elder' (mv HO447.out) (Kd.R_base ho0) hb); have n2_ := Aside0.mk (Kd.R_lower (Kd.R_new' ho0 (Kd.R_lt (mv HO447.out))) (below_size (mvB HB.out))); have n3_ := Aside0.mk (below_step (mvB HB.out) hb); clear HO445 HO447 HB; revert n0_ n1_ n2_ n3_; intro HO445 HO447 HO453 HB; (try clear hb); (try clear ho0))))
        go_loopg [26, 27, 28, 29] kj9 (fun kq v26 v27 v28 v29 w' => ∃ (x26_3 : Int) (x27_3 : Int) (x28_3 : Int) (x29_3 : Int), v26 = .int .i64 x26_3 ∧ v27 = .int .i64 x27_3 ∧ v28 = .int .i64 x28_3 ∧ v29 = .int .i64 x29_3 ∧ Aside0 (laws_FnPlans.l2 kq t441 t442 t448 t450 x26_3 x27_3 x28_3 x29_3 = some r) ∧ Aside0 (kq ≤ kj9) ∧ Aside0 (Kd.S k34 34 w' w.heap.size (fun _ => True) (.slice Ao82 t441.length co82) t441) ∧ Aside0 (Kd.R (Kd.int .i64) 2 w' w.heap.size (fun k_ => some k_ ≠ (v452 : Value).ownBlock) (.slice Ao83 t442.length co83) t442) ∧ Aside0 (Kd.R (Kd.int .i64) 2 w' w.heap.size (fun k_ => some k_ ≠ ((.slice Ao83 t442.length co83) : Value).ownBlock) v452 t450) ∧ Aside0 (Below w.heap.size w w'))
        case atStart => exact ⟨(0), (0), (0), (0), rs, rs, rs, rs, H', ⟨Nat.le_refl _⟩, ⟨mv HO445.out⟩, ⟨by (with_reducible repeat (first | apply Kd.R_alloc | apply Kd.R_drewN | apply Kd.R_drew)); exact Kd.R_mono HO447.out (fun _ hk => hk.2)⟩, ⟨by (with_reducible repeat (first | apply Kd.R_alloc | apply Kd.R_drewN | apply Kd.R_drew)); exact Kd.R_mono HO453.out (fun _ hk => hk.2)⟩, ⟨mvB HB.out⟩⟩
        case round =>
         clear H'
         try clear c7
         try clear c78b0
         try clear c78b1
         try clear c80b0
         try clear c80b1
         obtain ⟨x26_3, x27_3, x28_3, x29_3, rfl, rfl, rfl, rfl, HA, HK3, HO_19, HO_20, HO_24, HB⟩ := hrel
         cases gk with
         | zero => exact absurd HA.out (by simp [laws_FnPlans.l2])
         | succ k3 =>
          have H := HA.out
          clear HA
          simp only [laws_FnPlans.l2] at H
          by_cases c86 : x29_3 < (t442.length : Int)
          ·
           rw [if_pos c86] at H
           have c86b0 : decide (x29_3 < (t442.length : Int)) = true := decide_eq_true c86
           clear c86
           by_cases c87 : 0 ≤ x29_3
           ·
            rw [if_pos c87] at H
            have c87b0 : decide (0 ≤ x29_3) = true := decide_eq_true c87
            clear c87
            by_cases c88 : 0 ≤ (rd t442 x29_3)
            ·
             rw [if_pos c88] at H
             have c88b0 : decide (0 ≤ (rd t442 x29_3)) = true := decide_eq_true c88
             clear c88
             by_cases c89 : (rd t442 x29_3) < (t441.length : Int)
             ·
              rw [if_pos c89] at H
              have c89b0 : decide ((rd t442 x29_3) < (t441.length : Int)) = true := decide_eq_true c89
              clear c89
              by_cases c90 : x29_3 < (t450.length : Int)
              ·
               rw [if_pos c90] at H
               have c90b0 : decide (x29_3 < (t450.length : Int)) = true := decide_eq_true c90
               clear c90
               obtain ⟨ji91, hji91⟩ : ∃ j_ : Int, (mx 0 (wrap64 (t448 - (rd t450 x29_3)))) = j_ := ⟨_, rfl⟩
               replace H : (laws_FnPlans.l2 k3 t441 t442 t448 t450 (wrap64 (x26_3 + ((rd_T34 t441 (rd t442 x29_3)).f1))) (wrap64 (x27_3 + (wrap64 (((rd_T34 t441 (rd t442 x29_3)).f2) * (ji91))))) (wrap64 (x28_3 + (wrap64 (((rd_T34 t441 (rd t442 x29_3)).f2) * (mx 0 (wrap64 ((wrap64 (t448 - 1)) - (rd t450 x29_3)))))))) (wrap64 (x29_3 + 1))) = some r := by first | (rw [hji91] at H; exact H) | (simp only [hji91] at H ⊢; exact H)
               have hji91_ : (if 0 < (wrap64 (t448 - (rd t450 x29_3))) then (wrap64 (t448 - (rd t450 x29_3))) else 0) = ji91 := hji91
               obtain ⟨ji92, hji92⟩ : ∃ j_ : Int, (mx 0 (wrap64 ((wrap64 (t448 - 1)) - (rd t450 x29_3)))) = j_ := ⟨_, rfl⟩
               replace H : (laws_FnPlans.l2 k3 t441 t442 t448 t450 (wrap64 (x26_3 + ((rd_T34 t441 (rd t442 x29_3)).f1))) (wrap64 (x27_3 + (wrap64 (((rd_T34 t441 (rd t442 x29_3)).f2) * (ji91))))) (wrap64 (x28_3 + (wrap64 (((rd_T34 t441 (rd t442 x29_3)).f2) * (ji92))))) (wrap64 (x29_3 + 1))) = some r := by first | (rw [hji92] at H; exact H) | (simp only [hji92] at H ⊢; exact H)
               have hji92_ : (if 0 < (wrap64 ((wrap64 (t448 - 1)) - (rd t450 x29_3))) then (wrap64 ((wrap64 (t448 - 1)) - (rd t450 x29_3))) else 0) = ji92 := hji92
               have H' := Aside0.mk H
               clear H
               have p454 : 0 ≤ (x29_3 : Int) := od
               have q454 : x29_3 < (t442.length : Int) := od
               obtain ⟨ad454, e454, hx454_0⟩ := Kd.at_int (Kd.R_reads' HO_20.out).2.2 x29_3 p454 q454
               cases e454
               replace p454 := eq_true p454
               replace q454 := eq_true q454
               have p455 : 0 ≤ ((rd t442 x29_3) : Int) := od
               have q455 : (rd t442 x29_3) < (t441.length : Int) := od
               obtain ⟨ad455, A455_3, c455_3, e455, hx455_0, hx455_1, hx455_2, hx455_3, hl455_3, hi455_3⟩ := at_T34 (Kd.S_reads' HO_19.out).2.2 (rd t442 x29_3) p455 q455
               cases e455
               obtain ⟨ce455, hce455, hMe455, hcc455⟩ := Kd.S_get HO_19.out z34 (rd t442 x29_3) p455 (by first | exact q455 | exact od | (have e_ := (Kd.S_reads' HO_19.out).1; omega))
               obtain ⟨ve455_3, rfl, ge455_3⟩ := k34_openM hMe455
               have hv455_3 := hcc455 3 _ rfl
               rw [add_field _ _ 3 (by omega)] at hv455_3
               replace hv455_3 := Option.some.inj (hv455_3.symm.trans hx455_3)
               rw [hv455_3] at ge455_3
               have HL455_3 := Aside0.mk (show Kd.R Kd.string 9 _ _ _ _ ((rd_T34 t441 (rd t442 x29_3)).f3) from ge455_3)
               clear hv455_3 ge455_3 hcc455 hce455
               have HR455_3 := Aside0.mk hi455_3
               have HC455_3 := Aside0.mk hl455_3
               clear hi455_3 hl455_3
               replace p455 := eq_true p455
               replace q455 := eq_true q455
               have p456 : 0 ≤ (x29_3 : Int) := od
               have q456 : x29_3 < (t442.length : Int) := od
               obtain ⟨ad456, e456, hx456_0⟩ := Kd.at_int (Kd.R_reads' HO_20.out).2.2 x29_3 p456 q456
               obtain rfl : ad454 = ad456 := (by injection e456)
               replace p456 := eq_true p456
               replace q456 := eq_true q456
               have p457 : 0 ≤ ((rd t442 x29_3) : Int) := od
               have q457 : (rd t442 x29_3) < (t441.length : Int) := od
               obtain ⟨ad457, A457_3, c457_3, e457, hx457_0, hx457_1, hx457_2, hx457_3, hl457_3, hi457_3⟩ := at_T34 (Kd.S_reads' HO_19.out).2.2 (rd t442 x29_3) p457 q457
               obtain rfl : ad455 = ad457 := (by injection e457)
               obtain ⟨ce457, hce457, hMe457, hcc457⟩ := Kd.S_get HO_19.out z34 (rd t442 x29_3) p457 (by first | exact q457 | exact od | (have e_ := (Kd.S_reads' HO_19.out).1; omega))
               obtain ⟨ve457_3, rfl, ge457_3⟩ := k34_openM hMe457
               have hv457_3 := hcc457 3 _ rfl
               rw [add_field _ _ 3 (by omega)] at hv457_3
               replace hv457_3 := Option.some.inj (hv457_3.symm.trans hx457_3)
               rw [hv457_3] at ge457_3
               have HL457_3 := Aside0.mk (show Kd.R Kd.string 9 _ _ _ _ ((rd_T34 t441 (rd t442 x29_3)).f3) from ge457_3)
               clear hv457_3 ge457_3 hcc457 hce457
               have HR457_3 := Aside0.mk hi457_3
               have HC457_3 := Aside0.mk hl457_3
               clear hi457_3 hl457_3
               replace p457 := eq_true p457
               replace q457 := eq_true q457
               have ea_ := Option.some.inj (hx455_3.symm.trans hx457_3)
               injection ea_ with ea_ en_ ec_
               subst ea_
               subst ec_
               clear en_
               obtain ⟨Ao93, co93, eo93⟩ := Kd.R_slice HO_24.out
               subst eo93
               have p458 : 0 ≤ (x29_3 : Int) := od
               have q458 : x29_3 < (t450.length : Int) := od
               obtain ⟨ad458, e458, hx458_0⟩ := Kd.at_int (Kd.R_reads' HO_24.out).2.2 x29_3 p458 q458
               cases e458
               replace p458 := eq_true p458
               replace q458 := eq_true q458
               have p459 : 0 ≤ (x29_3 : Int) := od
               have q459 : x29_3 < (t442.length : Int) := od
               obtain ⟨ad459, e459, hx459_0⟩ := Kd.at_int (Kd.R_reads' HO_20.out).2.2 x29_3 p459 q459
               obtain rfl : ad454 = ad459 := (by injection e459)
               replace p459 := eq_true p459
               replace q459 := eq_true q459
               have p460 : 0 ≤ ((rd t442 x29_3) : Int) := od
               have q460 : (rd t442 x29_3) < (t441.length : Int) := od
               obtain ⟨ad460, A460_3, c460_3, e460, hx460_0, hx460_1, hx460_2, hx460_3, hl460_3, hi460_3⟩ := at_T34 (Kd.S_reads' HO_19.out).2.2 (rd t442 x29_3) p460 q460
               obtain rfl : ad455 = ad460 := (by injection e460)
               obtain ⟨ce460, hce460, hMe460, hcc460⟩ := Kd.S_get HO_19.out z34 (rd t442 x29_3) p460 (by first | exact q460 | exact od | (have e_ := (Kd.S_reads' HO_19.out).1; omega))
               obtain ⟨ve460_3, rfl, ge460_3⟩ := k34_openM hMe460
               have hv460_3 := hcc460 3 _ rfl
               rw [add_field _ _ 3 (by omega)] at hv460_3
               replace hv460_3 := Option.some.inj (hv460_3.symm.trans hx460_3)
               rw [hv460_3] at ge460_3
               have HL460_3 := Aside0.mk (show Kd.R Kd.string 9 _ _ _ _ ((rd_T34 t441 (rd t442 x29_3)).f3) from ge460_3)
               clear hv460_3 ge460_3 hcc460 hce460
               have HR460_3 := Aside0.mk hi460_3
               have HC460_3 := Aside0.mk hl460_3
               clear hi460_3 hl460_3
               replace p460 := eq_true p460
               replace q460 := eq_true q460
               have ea_ := Option.some.inj (hx455_3.symm.trans hx460_3)
               injection ea_ with ea_ en_ ec_
               subst ea_
               subst ec_
               clear en_
               have p461 : 0 ≤ (x29_3 : Int) := od
               have q461 : x29_3 < (t450.length : Int) := od
               obtain ⟨ad461, e461, hx461_0⟩ := Kd.at_int (Kd.R_reads' HO_24.out).2.2 x29_3 p461 q461
               obtain rfl : ad458 = ad461 := (by injection e461)
               replace p461 := eq_true p461
               replace q461 := eq_true q461
               go_wp2
               repeat (go_quiet (fail); try go_wp2)
               go_roundg k3
               case measure => have := HJ2.out; have := HJ9.out; have := HK3.out; omega
               case rel => exact ⟨(wrap64 (x26_3 + ((rd_T34 t441 (rd t442 x29_3)).f1))), (wrap64 (x27_3 + (wrap64 (((rd_T34 t441 (rd t442 x29_3)).f2) * (ji91))))), (wrap64 (x28_3 + (wrap64 (((rd_T34 t441 (rd t442 x29_3)).f2) * (ji92))))), (wrap64 (x29_3 + 1)), rs, (by first | rfl | (simp; done) | (simp only [← hji91] <;> (first | rfl | simp)) | (simp [*]; done)), (by first | rfl | (simp; done) | (simp only [← hji92] <;> (first | rfl | simp)) | (simp [*]; done)), rs, H', ⟨by have := HJ2.out; have := HJ9.out; have := HK3.out; omega⟩, ⟨mv HO_19.out⟩, ⟨mv HO_20.out⟩, ⟨mv HO_24.out⟩, ⟨mvB HB.out⟩⟩
              ·
               rw [if_neg c90] at H
               exact absurd H (by simp)
             ·
              rw [if_neg c89] at H
              exact absurd H (by simp)
            ·
             rw [if_neg c88] at H
             exact absurd H (by simp)
           ·
            rw [if_neg c87] at H
            exact absurd H (by simp)
          ·
           rw [if_neg c86] at H
           have c86b0 : decide (x29_3 < (t442.length : Int)) = false := decide_eq_false c86
           clear c86
           by_cases c94 : x27_3 ≥ x26_3
           ·
            rw [if_pos c94] at H
            have c94b0 : decide (x26_3 ≤ x27_3) = true := decide_eq_true c94
            clear c94
            by_cases c95 : t448 = 1
            ·
             rw [if_pos c95] at H
             have c95b0 : (t448 == 1) = true := beq_iff_eq.mpr c95
             have c95b1 : (t448 != 1) = false := bne_eq_false_iff_eq.mpr c95
             clear c95
             obtain rfl := Option.some.inj H
             go_wp2
             repeat (go_quiet (fail); try go_wp2)
             go_ret
             exact ⟨by first | rfl | (simp [errW_none, errW_some] <;> rfl) | (simp [*, errW_none, errW_some] <;> rfl), mvB HB.out⟩
            ·
             rw [if_neg c95] at H
             have c95b0 : (t448 == 1) = false := beq_eq_false_iff_ne.mpr c95
             have c95b1 : (t448 != 1) = true := bne_iff_ne.mpr c95
             obtain rfl := Option.some.inj H
             go_wp2
             repeat (go_quiet (fail); try go_wp2)
             go_ret
             exact ⟨by first | rfl | (simp [errW_none, errW_some] <;> rfl) | (simp [*, errW_none, errW_some] <;> rfl), mvB HB.out⟩
           ·
            rw [if_neg c94] at H
            have c94b0 : decide (x26_3 ≤ x27_3) = false := decide_eq_false c94
            clear c94
            obtain rfl := Option.some.inj H
            go_wp2
            repeat (go_quiet (fail); try go_wp2)
            go_ret
            exact ⟨by first | rfl | (simp [errW_none, errW_some] <;> rfl) | (simp [*, errW_none, errW_some] <;> rfl), mvB HB.out⟩
       ·
        rw [if_neg c80] at H
        have c80b0 : (t451 == 0) = false := beq_eq_false_iff_ne.mpr c80
        have c80b1 : (t451 != 0) = true := bne_iff_ne.mpr c80
        obtain rfl := Option.some.inj H
        go_wp2_with (first | (go_at_call 14; (with_reducible refine (spec_DrawPayBackYear.calls kj9 _ _ l1 t441 t442 t443 _ ?side1 ?side2 A76.out).mono ?_); (case side1 => exact mvC (Kd.C_below HR1.out HB.out)); (case side2 => exact HC1.out); rintro e w96 ⟨v444, v446, rfl, ho0, ho1, hb⟩; have n0_ := Aside0.mk (Kd.S_lower ho0 (below_size (mvB HB.out))); have n1_ := Aside0.mk (Kd.R_lower ho1 (below_size (mvB HB.out))); have n2_ := Aside0.mk (below_step (mvB HB.out) hb); clear HB; revert n0_ n1_ n2_; intro HO445 HO447 HB; (try clear hb); (try clear ho0); (try clear ho1); obtain ⟨Ao97, co97, eo97⟩ := Kd.S_slice HO445.out; subst eo97; obtain ⟨Ao98, co98, eo98⟩ := Kd.R_slice HO447.out; subst eo98) | (go_at_call 15; (with_reducible refine (impl_PayBackYear.calls kj9 _ _ t441 _ _ t442 t443 t448 t449 _ ?side1 ?side2 ?side3 ?side4 A77.out).mono ?_); (case side1 => exact mvC (Kd.S_reads' HO445.out).2.2); (case side2 => exact (Kd.S_reads' HO445.out).2.1); (case side3 => exact mvC (Kd.R_reads' HO447.out).2.2); (case side4 => exact (Kd.R_reads' HO447.out).2.1); rintro e w99 ⟨rfl, hb⟩; have n0_ := Aside0.mk (Kd.S_below (mv HO445.out) hb); have n1_ := Aside0.mk (Kd.R_below (mv HO447.out) hb); have n2_ := Aside0.mk (below_step (mvB HB.out) hb); clear HO445 HO447 HB; revert n0_ n1_ n2_; intro HO445 HO447 HB; (try clear hb)) | (go_at_call 13; (with_reducible refine (spec_YearsOf.calls kj9 _ _ t441 _ _ t442 t443 t450 t451 _ ?side1 ?side2 ?side3 ?side4 A79.out).mono ?_); (case side1 => exact mvC (Kd.S_reads' HO445.out).2.2); (case side2 => exact (Kd.S_reads' HO445.out).2.1); (case side3 => exact mvC (Kd.R_reads' HO447.out).2.2); (case side4 => exact (Kd.R_reads' HO447.out).2.1); rintro e w100 ⟨v452, rfl, ho0, hb⟩; have n0_ := Aside0.mk (Kd.S_below (mv HO445.out) hb); have n1_ := Aside0.mk (Kd.R_elder' (mv HO447.out) (Kd.R_base ho0) hb); have n2_ := Aside0.mk (Kd.R_lower (Kd.R_new' ho0 (Kd.R_lt (mv HO447.out))) (below_size (mvB HB.out))); have n3_ := Aside0.mk (below_step (mvB HB.out) hb); clear HO445 HO447 HB; revert n0_ n1_ n2_ n3_; intro HO445 HO447 HO453 HB; (try clear hb); (try clear ho0)))
        repeat (go_quiet (first | (go_at_call 14; (with_reducible refine (spec_DrawPayBackYear.calls kj9 _ _ l1 t441 t442 t443 _ ?side1 ?side2 A76.out).mono ?_); (case side1 => exact mvC (Kd.C_below HR1.out HB.out)); (case side2 => exact HC1.out); rintro e w96 ⟨v444, v446, rfl, ho0, ho1, hb⟩; have n0_ := Aside0.mk (Kd.S_lower ho0 (below_size (mvB HB.out))); have n1_ := Aside0.mk (Kd.R_lower ho1 (below_size (mvB HB.out))); have n2_ := Aside0.mk (below_step (mvB HB.out) hb); clear HB; revert n0_ n1_ n2_; intro HO445 HO447 HB; (try clear hb); (try clear ho0); (try clear ho1); obtain ⟨Ao97, co97, eo97⟩ := Kd.S_slice HO445.out; subst eo97; obtain ⟨Ao98, co98, eo98⟩ := Kd.R_slice HO447.out; subst eo98) | (go_at_call 15; (with_reducible refine (impl_PayBackYear.calls kj9 _ _ t441 _ _ t442 t443 t448 t449 _ ?side1 ?side2 ?side3 ?side4 A77.out).mono ?_); (case side1 => exact mvC (Kd.S_reads' HO445.out).2.2); (case side2 => exact (Kd.S_reads' HO445.out).2.1); (case side3 => exact mvC (Kd.R_reads' HO447.out).2.2); (case side4 => exact (Kd.R_reads' HO447.out).2.1); rintro e w99 ⟨rfl, hb⟩; have n0_ := Aside0.mk (Kd.S_below (mv HO445.out) hb); have n1_ := Aside0.mk (Kd.R_below (mv HO447.out) hb); have n2_ := Aside0.mk (below_step (mvB HB.out) hb); clear HO445 HO447 HB; revert n0_ n1_ n2_; intro HO445 HO447 HB; (try clear hb)) | (go_at_call 13; (with_reducible refine (spec_YearsOf.calls kj9 _ _ t441 _ _ t442 t443 t450 t451 _ ?side1 ?side2 ?side3 ?side4 A79.out).mono ?_); (case side1 => exact mvC (Kd.S_reads' HO445.out).2.2); (case side2 => exact (Kd.S_reads' HO445.out).2.1); (case side3 => exact mvC (Kd.R_reads' HO447.out).2.2); (case side4 => exact (Kd.R_reads' HO447.out).2.1); rintro e w100 ⟨v452, rfl, ho0, hb⟩; have n0_ := Aside0.mk (Kd.S_below (mv HO445.out) hb); have n1_ := Aside0.mk (Kd.R_elder' (mv HO447.out) (Kd.R_base ho0) hb); have n2_ := Aside0.mk (Kd.R_lower (Kd.R_new' ho0 (Kd.R_lt (mv HO447.out))) (below_size (mvB HB.out))); have n3_ := Aside0.mk (below_step (mvB HB.out) hb); clear HO445 HO447 HB; revert n0_ n1_ n2_ n3_; intro HO445 HO447 HO453 HB; (try clear hb); (try clear ho0))); try go_wp2_with (first | (go_at_call 14; (with_reducible refine (spec_DrawPayBackYear.calls kj9 _ _ l1 t441 t442 t443 _ ?side1 ?side2 A76.out).mono ?_); (case side1 => exact mvC (Kd.C_below HR1.out HB.out)); (case side2 => exact HC1.out); rintro e w96 ⟨v444, v446, rfl, ho0, ho1, hb⟩; have n0_ := Aside0.mk (Kd.S_lower ho0 (below_size (mvB HB.out))); have n1_ := Aside0.mk (Kd.R_lower ho1 (below_size (mvB HB.out))); have n2_ := Aside0.mk (below_step (mvB HB.out) hb); clear HB; revert n0_ n1_ n2_; intro HO445 HO447 HB; (try clear hb); (try clear ho0); (try clear ho1); obtain ⟨Ao97, co97, eo97⟩ := Kd.S_slice HO445.out; subst eo97; obtain ⟨Ao98, co98, eo98⟩ := Kd.R_slice HO447.out; subst eo98) | (go_at_call 15; (with_reducible refine (impl_PayBackYear.calls kj9 _ _ t441 _ _ t442 t443 t448 t449 _ ?side1 ?side2 ?side3 ?side4 A77.out).mono ?_); (case side1 => exact mvC (Kd.S_reads' HO445.out).2.2); (case side2 => exact (Kd.S_reads' HO445.out).2.1); (case side3 => exact mvC (Kd.R_reads' HO447.out).2.2); (case side4 => exact (Kd.R_reads' HO447.out).2.1); rintro e w99 ⟨rfl, hb⟩; have n0_ := Aside0.mk (Kd.S_below (mv HO445.out) hb); have n1_ := Aside0.mk (Kd.R_below (mv HO447.out) hb); have n2_ := Aside0.mk (below_step (mvB HB.out) hb); clear HO445 HO447 HB; revert n0_ n1_ n2_; intro HO445 HO447 HB; (try clear hb)) | (go_at_call 13; (with_reducible refine (spec_YearsOf.calls kj9 _ _ t441 _ _ t442 t443 t450 t451 _ ?side1 ?side2 ?side3 ?side4 A79.out).mono ?_); (case side1 => exact mvC (Kd.S_reads' HO445.out).2.2); (case side2 => exact (Kd.S_reads' HO445.out).2.1); (case side3 => exact mvC (Kd.R_reads' HO447.out).2.2); (case side4 => exact (Kd.R_reads' HO447.out).2.1); rintro e w100 ⟨v452, rfl, ho0, hb⟩; have n0_ := Aside0.mk (Kd.S_below (mv HO445.out) hb); have n1_ := Aside0.mk (Kd.R_elder' (mv HO447.out) (Kd.R_base ho0) hb); have n2_ := Aside0.mk (Kd.R_lower (Kd.R_new' ho0 (Kd.R_lt (mv HO447.out))) (below_size (mvB HB.out))); have n3_ := Aside0.mk (below_step (mvB HB.out) hb); clear HO445 HO447 HB; revert n0_ n1_ n2_ n3_; intro HO445 HO447 HO453 HB; (try clear hb); (try clear ho0))))
        go_ret
        exact ⟨by first | rfl | (simp [errW_none, errW_some] <;> rfl) | (simp [*, errW_none, errW_some] <;> rfl), mvB HB.out⟩
      ·
       rw [if_neg c78] at H
       have c78b0 : (t449 == 0) = false := beq_eq_false_iff_ne.mpr c78
       have c78b1 : (t449 != 0) = true := bne_iff_ne.mpr c78
       obtain rfl := Option.some.inj H
       go_wp2_with (first | (go_at_call 14; (with_reducible refine (spec_DrawPayBackYear.calls kj9 _ _ l1 t441 t442 t443 _ ?side1 ?side2 A76.out).mono ?_); (case side1 => exact mvC (Kd.C_below HR1.out HB.out)); (case side2 => exact HC1.out); rintro e w101 ⟨v444, v446, rfl, ho0, ho1, hb⟩; have n0_ := Aside0.mk (Kd.S_lower ho0 (below_size (mvB HB.out))); have n1_ := Aside0.mk (Kd.R_lower ho1 (below_size (mvB HB.out))); have n2_ := Aside0.mk (below_step (mvB HB.out) hb); clear HB; revert n0_ n1_ n2_; intro HO445 HO447 HB; (try clear hb); (try clear ho0); (try clear ho1); obtain ⟨Ao102, co102, eo102⟩ := Kd.S_slice HO445.out; subst eo102; obtain ⟨Ao103, co103, eo103⟩ := Kd.R_slice HO447.out; subst eo103) | (go_at_call 15; (with_reducible refine (impl_PayBackYear.calls kj9 _ _ t441 _ _ t442 t443 t448 t449 _ ?side1 ?side2 ?side3 ?side4 A77.out).mono ?_); (case side1 => exact mvC (Kd.S_reads' HO445.out).2.2); (case side2 => exact (Kd.S_reads' HO445.out).2.1); (case side3 => exact mvC (Kd.R_reads' HO447.out).2.2); (case side4 => exact (Kd.R_reads' HO447.out).2.1); rintro e w104 ⟨rfl, hb⟩; have n0_ := Aside0.mk (Kd.S_below (mv HO445.out) hb); have n1_ := Aside0.mk (Kd.R_below (mv HO447.out) hb); have n2_ := Aside0.mk (below_step (mvB HB.out) hb); clear HO445 HO447 HB; revert n0_ n1_ n2_; intro HO445 HO447 HB; (try clear hb)))
       repeat (go_quiet (first | (go_at_call 14; (with_reducible refine (spec_DrawPayBackYear.calls kj9 _ _ l1 t441 t442 t443 _ ?side1 ?side2 A76.out).mono ?_); (case side1 => exact mvC (Kd.C_below HR1.out HB.out)); (case side2 => exact HC1.out); rintro e w101 ⟨v444, v446, rfl, ho0, ho1, hb⟩; have n0_ := Aside0.mk (Kd.S_lower ho0 (below_size (mvB HB.out))); have n1_ := Aside0.mk (Kd.R_lower ho1 (below_size (mvB HB.out))); have n2_ := Aside0.mk (below_step (mvB HB.out) hb); clear HB; revert n0_ n1_ n2_; intro HO445 HO447 HB; (try clear hb); (try clear ho0); (try clear ho1); obtain ⟨Ao102, co102, eo102⟩ := Kd.S_slice HO445.out; subst eo102; obtain ⟨Ao103, co103, eo103⟩ := Kd.R_slice HO447.out; subst eo103) | (go_at_call 15; (with_reducible refine (impl_PayBackYear.calls kj9 _ _ t441 _ _ t442 t443 t448 t449 _ ?side1 ?side2 ?side3 ?side4 A77.out).mono ?_); (case side1 => exact mvC (Kd.S_reads' HO445.out).2.2); (case side2 => exact (Kd.S_reads' HO445.out).2.1); (case side3 => exact mvC (Kd.R_reads' HO447.out).2.2); (case side4 => exact (Kd.R_reads' HO447.out).2.1); rintro e w104 ⟨rfl, hb⟩; have n0_ := Aside0.mk (Kd.S_below (mv HO445.out) hb); have n1_ := Aside0.mk (Kd.R_below (mv HO447.out) hb); have n2_ := Aside0.mk (below_step (mvB HB.out) hb); clear HO445 HO447 HB; revert n0_ n1_ n2_; intro HO445 HO447 HB; (try clear hb))); try go_wp2_with (first | (go_at_call 14; (with_reducible refine (spec_DrawPayBackYear.calls kj9 _ _ l1 t441 t442 t443 _ ?side1 ?side2 A76.out).mono ?_); (case side1 => exact mvC (Kd.C_below HR1.out HB.out)); (case side2 => exact HC1.out); rintro e w101 ⟨v444, v446, rfl, ho0, ho1, hb⟩; have n0_ := Aside0.mk (Kd.S_lower ho0 (below_size (mvB HB.out))); have n1_ := Aside0.mk (Kd.R_lower ho1 (below_size (mvB HB.out))); have n2_ := Aside0.mk (below_step (mvB HB.out) hb); clear HB; revert n0_ n1_ n2_; intro HO445 HO447 HB; (try clear hb); (try clear ho0); (try clear ho1); obtain ⟨Ao102, co102, eo102⟩ := Kd.S_slice HO445.out; subst eo102; obtain ⟨Ao103, co103, eo103⟩ := Kd.R_slice HO447.out; subst eo103) | (go_at_call 15; (with_reducible refine (impl_PayBackYear.calls kj9 _ _ t441 _ _ t442 t443 t448 t449 _ ?side1 ?side2 ?side3 ?side4 A77.out).mono ?_); (case side1 => exact mvC (Kd.S_reads' HO445.out).2.2); (case side2 => exact (Kd.S_reads' HO445.out).2.1); (case side3 => exact mvC (Kd.R_reads' HO447.out).2.2); (case side4 => exact (Kd.R_reads' HO447.out).2.1); rintro e w104 ⟨rfl, hb⟩; have n0_ := Aside0.mk (Kd.S_below (mv HO445.out) hb); have n1_ := Aside0.mk (Kd.R_below (mv HO447.out) hb); have n2_ := Aside0.mk (below_step (mvB HB.out) hb); clear HO445 HO447 HB; revert n0_ n1_ n2_; intro HO445 HO447 HB; (try clear hb))))
       go_ret
       exact ⟨by first | rfl | (simp [errW_none, errW_some] <;> rfl) | (simp [*, errW_none, errW_some] <;> rfl), mvB HB.out⟩

end Go.Proofs.Ytmbiapefigcgnaa.PFnPlans
