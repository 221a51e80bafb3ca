-- written by a program of this session (mkp.py) out of the translation; Lean checks it. -- squeezed
import Derived.Test.YtmbiapefigcgnaaPFnStagesx0
import Derived.Test.YtmbiapefigcgnaaPFnStagesx1
import Derived.Test.YtmbiapefigcgnaaPFnStagesx4
import Derived.Test.YtmbiapefigcgnaaPFnStagesx5
import Derived.Test.YtmbiapefigcgnaaPFnStagesx9
import Derived.Test.YtmbiapefigcgnaaPFnStagesx12
import Derived.Test.YtmbiapefigcgnaaPFnStagesx13
namespace Go.Proofs.Ytmbiapefigcgnaa.PFnStages
open Go.RowKit Go.Proofs.YtmbiapefigcgnaaW.PrintWords Go.Proofs.YtmbiapefigcgnaaW.PrintLast Go.Proofs.YtmbiapefigcgnaaW.PrintMore
attribute [local go_sem] bin_leq bin_gtr bin_geq max2_int min2_int max_two min_two max_three min_three max_four min_four   -- for this text's walks alone
set_option linter.unusedVariables false
set_option linter.unusedSimpArgs false

/-! ### laws_FnStages: function 8 -/
mutual
def laws_FnStages.j0 : Nat → List Int → List Int → Bool → Option (Bool)
 | 0, _, _, _ => none
 | k + 1, x0, x1, x33 => if x33 = true then (some true) else ((spec_DrawBestStages.f k x0).bind fun bt416 => ((impl_BestStages.f k bt416.1 bt416.2.1 bt416.2.2).bind fun bt421 => ((impl_CountBuildable.f k bt416.1 bt416.2.1 bt416.2.2).bind fun bt426 => (if bt421.2.2 = bt426.2 then (if bt421.2.2 = 0 then ((impl_StageCost.f k bt416.1 bt421.1).bind fun bt428 => ((impl_BuildOrder.f k bt416.1 bt421.1).bind fun bt430 => ((spec_IsBuildable.f k bt416.1 bt421.1).bind fun t434 => (if t434 = true then (if bt428.2 = 0 then (if bt428.1 > bt416.2.1 then (laws_FnStages.j1 k x1 bt416.1 bt421.1 bt421.2.1 bt430.1 true) else (if bt430.2 = 0 then (if (bt430.1.length : Int) = (bt421.1.length : Int) then (laws_FnStages.j1 k x1 bt416.1 bt421.1 bt421.2.1 bt430.1 (decide (bt426.1 < 1))) else (laws_FnStages.j1 k x1 bt416.1 bt421.1 bt421.2.1 bt430.1 true)) else (laws_FnStages.j1 k x1 bt416.1 bt421.1 bt421.2.1 bt430.1 true))) else (laws_FnStages.j1 k x1 bt416.1 bt421.1 bt421.2.1 bt430.1 true)) else (laws_FnStages.j1 k x1 bt416.1 bt421.1 bt421.2.1 bt430.1 true))))) else (laws_FnStages.j3 k x1)) else (some false)))))
def laws_FnStages.j3 : Nat → List Int → Option (Bool)
 | 0, _ => none
 | k + 1, x1 => (spec_DrawReadyStages.f k x1).bind fun bt443 => ((impl_ReadyStages.f k bt443.1 bt443.2).bind fun bt449 => (if bt449.2 = 0 then (laws_FnStages.l1 k bt443.1 bt443.2 bt449.1 0) else (some ((bt449.1.length : Int) == 0))))
def laws_FnStages.l1 : Nat → List (S34) → List Int → List Int → Int → Option (Bool)
 | 0, _, _, _, _ => none
 | k + 1, x21, x22, x23, x25 => if x25 < (x21.length : Int) then ((laws_b10Has.f k x22 x25).bind fun t453 => (if t453 = true then ((laws_b10Has.f k x23 x25).bind fun t454 => (if t454 = true then (some false) else (laws_FnStages.l1 k x21 x22 x23 (wrap64 (x25 + 1))))) else (laws_FnStages.l2 k x21 x22 x23 x25 (([] : List Int)) 0))) else (some true)
def laws_FnStages.l2 : Nat → List (S34) → List Int → List Int → Int → List Int → Int → Option (Bool)
 | 0, _, _, _, _, _, _ => none
 | k + 1, x21, x22, x23, x25, x26, x27 => if x27 < (x21.length : Int) then (if x27 = x25 then (if x26.length < 17592186044416 then (laws_FnStages.l2 k x21 x22 x23 x25 (x26 ++ [x27]) (wrap64 (x27 + 1))) else (none)) else ((laws_b10Has.f k x22 x27).bind fun t461 => (if t461 = true then (if x26.length < 17592186044416 then (laws_FnStages.l2 k x21 x22 x23 x25 (x26 ++ [x27]) (wrap64 (x27 + 1))) else (none)) else (laws_FnStages.l2 k x21 x22 x23 x25 x26 (wrap64 (x27 + 1)))))) else ((spec_IsBuildable.f k x21 x22).bind fun t465 => (if t465 = true then ((laws_b10Has.f k x23 x25).bind fun t466 => ((spec_IsBuildable.f k x21 x26).bind fun t467 => (if (t466 != t467) = true then (some false) else (laws_FnStages.l1 k x21 x22 x23 (wrap64 (x25 + 1)))))) else (laws_FnStages.l1 k x21 x22 x23 (wrap64 (x25 + 1)))))
def laws_FnStages.j1 : Nat → List Int → List (S34) → List Int → Int → List Int → Bool → Option (Bool)
 | 0, _, _, _, _, _, _ => none
 | k + 1, x1, x5, x8, x9, x15, x99 => if x99 = true then (some false) else (laws_FnStages.l0 k x1 x5 x8 x9 x15 0 0)
def laws_FnStages.l0 : Nat → List Int → List (S34) → List Int → Int → List Int → Int → Int → Option (Bool)
 | 0, _, _, _, _, _, _, _ => none
 | k + 1, x1, x5, x8, x9, x15, x17, x18 => if x18 < (x8.length : Int) then (if 0 ≤ x18 then (if 0 ≤ (rd x8 x18) then (if (rd x8 x18) < (x5.length : Int) then ((laws_b10Has.f k x15 (rd x8 x18)).bind fun t438 => (if t438 = true then (laws_FnStages.l0 k x1 x5 x8 x9 x15 (wrap64 (x17 + ((rd_T34 x5 (rd x8 x18)).f2))) (wrap64 (x18 + 1))) else (some false))) else (none)) else (none)) else (none)) else (if x17 = x9 then ((impl_YearsOf.f k x5 x15 100).bind fun bt439 => (if bt439.2 = 0 then (laws_FnStages.j3 k x1) else (some false))) else (some false))
end
def laws_FnStages.f (k : Nat) (l0 : List Int) (l1 : List Int) : Option (Bool) := (laws_b10Long.f l0).bind fun t414 => (if t414 = true then (laws_FnStages.j0 k l0 l1 true) else ((laws_b10Long.f l1).bind fun t415 => (laws_FnStages.j0 k l0 l1 t415)))
theorem laws_FnStages.mono_l : ∀ k, (∀ y0 y1 y2, LeO (laws_FnStages.j0 k y0 y1 y2) (laws_FnStages.j0 (k + 1) y0 y1 y2)) ∧ (∀ y0, LeO (laws_FnStages.j3 k y0) (laws_FnStages.j3 (k + 1) y0)) ∧ (∀ y0 y1 y2 y3, LeO (laws_FnStages.l1 k y0 y1 y2 y3) (laws_FnStages.l1 (k + 1) y0 y1 y2 y3)) ∧ (∀ y0 y1 y2 y3 y4 y5, LeO (laws_FnStages.l2 k y0 y1 y2 y3 y4 y5) (laws_FnStages.l2 (k + 1) y0 y1 y2 y3 y4 y5)) ∧ (∀ y0 y1 y2 y3 y4 y5, LeO (laws_FnStages.j1 k y0 y1 y2 y3 y4 y5) (laws_FnStages.j1 (k + 1) y0 y1 y2 y3 y4 y5)) ∧ (∀ y0 y1 y2 y3 y4 y5 y6, LeO (laws_FnStages.l0 k y0 y1 y2 y3 y4 y5 y6) (laws_FnStages.l0 (k + 1) y0 y1 y2 y3 y4 y5 y6))
 | 0 => ⟨fun _ _ _ r h => by simp [laws_FnStages.j0] at h, fun _ r h => by simp [laws_FnStages.j3] at h, fun _ _ _ _ r h => by simp [laws_FnStages.l1] at h, fun _ _ _ _ _ _ r h => by simp [laws_FnStages.l2] at h, fun _ _ _ _ _ _ r h => by simp [laws_FnStages.j1] at h, fun _ _ _ _ _ _ _ r h => by simp [laws_FnStages.l0] at h⟩
 | k + 1 => by
  obtain ⟨ih0, ih1, ih2, ih3, ih4, ih5⟩ := laws_FnStages.mono_l k
  refine ⟨?_, ?_, ?_, ?_, ?_, ?_⟩
  ·
   intro y0 y1 y2
   unfold laws_FnStages.j0
   repeat' first
   | (with_reducible exact ih0 _ _ _)
   | (with_reducible exact ih1 _)
   | (with_reducible exact ih2 _ _ _ _)
   | (with_reducible exact ih3 _ _ _ _ _ _)
   | (with_reducible exact ih4 _ _ _ _ _ _)
   | (with_reducible exact ih5 _ _ _ _ _ _ _)
   | (with_reducible exact impl_BestStages.mono _ _ _ _)
   | (with_reducible exact impl_BuildOrder.mono _ _ _)
   | (with_reducible exact impl_CountBuildable.mono _ _ _ _)
   | (with_reducible exact impl_ReadyStages.mono _ _ _)
   | (with_reducible exact impl_StageCost.mono _ _ _)
   | (with_reducible exact impl_YearsOf.mono _ _ _ _)
   | (with_reducible exact laws_b10Has.mono _ _ _)
   | (with_reducible exact spec_DrawBestStages.mono _ _)
   | (with_reducible exact spec_DrawReadyStages.mono _ _)
   | (with_reducible exact spec_IsBuildable.mono _ _ _)
   | (with_reducible exact LeO.refl _)
   | (with_reducible exact LeO.none _)
   | (with_reducible refine LeO.ite ?_ ?_)
   | (with_reducible refine LeO.bind ?_ (fun _ => ?_))
   | exact ih0 _ _ _
   | exact ih1 _
   | exact ih2 _ _ _ _
   | exact ih3 _ _ _ _ _ _
   | exact ih4 _ _ _ _ _ _
   | exact ih5 _ _ _ _ _ _ _
   | exact impl_BestStages.mono _ _ _ _
   | exact impl_BuildOrder.mono _ _ _
   | exact impl_CountBuildable.mono _ _ _ _
   | exact impl_ReadyStages.mono _ _ _
   | exact impl_StageCost.mono _ _ _
   | exact impl_YearsOf.mono _ _ _ _
   | exact laws_b10Has.mono _ _ _
   | exact spec_DrawBestStages.mono _ _
   | exact spec_DrawReadyStages.mono _ _
   | exact spec_IsBuildable.mono _ _ _
   | exact LeO.none _
   | refine LeO.ite ?_ ?_
   | refine LeO.bind ?_ (fun _ => ?_)
  ·
   intro y0
   unfold laws_FnStages.j3
   repeat' first
   | (with_reducible exact ih0 _ _ _)
   | (with_reducible exact ih1 _)
   | (with_reducible exact ih2 _ _ _ _)
   | (with_reducible exact ih3 _ _ _ _ _ _)
   | (with_reducible exact ih4 _ _ _ _ _ _)
   | (with_reducible exact ih5 _ _ _ _ _ _ _)
   | (with_reducible exact impl_BestStages.mono _ _ _ _)
   | (with_reducible exact impl_BuildOrder.mono _ _ _)
   | (with_reducible exact impl_CountBuildable.mono _ _ _ _)
   | (with_reducible exact impl_ReadyStages.mono _ _ _)
   | (with_reducible exact impl_StageCost.mono _ _ _)
   | (with_reducible exact impl_YearsOf.mono _ _ _ _)
   | (with_reducible exact laws_b10Has.mono _ _ _)
   | (with_reducible exact spec_DrawBestStages.mono _ _)
   | (with_reducible exact spec_DrawReadyStages.mono _ _)
   | (with_reducible exact spec_IsBuildable.mono _ _ _)
   | (with_reducible exact LeO.refl _)
   | (with_reducible exact LeO.none _)
   | (with_reducible refine LeO.ite ?_ ?_)
   | (with_reducible refine LeO.bind ?_ (fun _ => ?_))
   | exact ih0 _ _ _
   | exact ih1 _
   | exact ih2 _ _ _ _
   | exact ih3 _ _ _ _ _ _
   | exact ih4 _ _ _ _ _ _
   | exact ih5 _ _ _ _ _ _ _
   | exact impl_BestStages.mono _ _ _ _
   | exact impl_BuildOrder.mono _ _ _
   | exact impl_CountBuildable.mono _ _ _ _
   | exact impl_ReadyStages.mono _ _ _
   | exact impl_StageCost.mono _ _ _
   | exact impl_YearsOf.mono _ _ _ _
   | exact laws_b10Has.mono _ _ _
   | exact spec_DrawBestStages.mono _ _
   | exact spec_DrawReadyStages.mono _ _
   | exact spec_IsBuildable.mono _ _ _
   | exact LeO.none _
   | refine LeO.ite ?_ ?_
   | refine LeO.bind ?_ (fun _ => ?_)
  ·
   intro y0 y1 y2 y3
   unfold laws_FnStages.l1
   repeat' first
   | (with_reducible exact ih0 _ _ _)
   | (with_reducible exact ih1 _)
   | (with_reducible exact ih2 _ _ _ _)
   | (with_reducible exact ih3 _ _ _ _ _ _)
   | (with_reducible exact ih4 _ _ _ _ _ _)
   | (with_reducible exact ih5 _ _ _ _ _ _ _)
   | (with_reducible exact impl_BestStages.mono _ _ _ _)
   | (with_reducible exact impl_BuildOrder.mono _ _ _)
   | (with_reducible exact impl_CountBuildable.mono _ _ _ _)
   | (with_reducible exact impl_ReadyStages.mono _ _ _)
   | (with_reducible exact impl_StageCost.mono _ _ _)
   | (with_reducible exact impl_YearsOf.mono _ _ _ _)
   | (with_reducible exact laws_b10Has.mono _ _ _)
   | (with_reducible exact spec_DrawBestStages.mono _ _)
   | (with_reducible exact spec_DrawReadyStages.mono _ _)
   | (with_reducible exact spec_IsBuildable.mono _ _ _)
   | (with_reducible exact LeO.refl _)
   | (with_reducible exact LeO.none _)
   | (with_reducible refine LeO.ite ?_ ?_)
   | (with_reducible refine LeO.bind ?_ (fun _ => ?_))
   | exact ih0 _ _ _
   | exact ih1 _
   | exact ih2 _ _ _ _
   | exact ih3 _ _ _ _ _ _
   | exact ih4 _ _ _ _ _ _
   | exact ih5 _ _ _ _ _ _ _
   | exact impl_BestStages.mono _ _ _ _
   | exact impl_BuildOrder.mono _ _ _
   | exact impl_CountBuildable.mono _ _ _ _
   | exact impl_ReadyStages.mono _ _ _
   | exact impl_StageCost.mono _ _ _
   | exact impl_YearsOf.mono _ _ _ _
   | exact laws_b10Has.mono _ _ _
   | exact spec_DrawBestStages.mono _ _
   | exact spec_DrawReadyStages.mono _ _
   | exact spec_IsBuildable.mono _ _ _
   | exact LeO.none _
   | refine LeO.ite ?_ ?_
   | refine LeO.bind ?_ (fun _ => ?_)
  ·
   intro y0 y1 y2 y3 y4 y5
   unfold laws_FnStages.l2
   repeat' first
   | (with_reducible exact ih0 _ _ _)
   | (with_reducible exact ih1 _)
   | (with_reducible exact ih2 _ _ _ _)
   | (with_reducible exact ih3 _ _ _ _ _ _)
   | (with_reducible exact ih4 _ _ _ _ _ _)
   | (with_reducible exact ih5 _ _ _ _ _ _ _)
   | (with_reducible exact impl_BestStages.mono _ _ _ _)
   | (with_reducible exact impl_BuildOrder.mono _ _ _)
   | (with_reducible exact impl_CountBuildable.mono _ _ _ _)
   | (with_reducible exact impl_ReadyStages.mono _ _ _)
   | (with_reducible exact impl_StageCost.mono _ _ _)
   | (with_reducible exact impl_YearsOf.mono _ _ _ _)
   | (with_reducible exact laws_b10Has.mono _ _ _)
   | (with_reducible exact spec_DrawBestStages.mono _ _)
   | (with_reducible exact spec_DrawReadyStages.mono _ _)
   | (with_reducible exact spec_IsBuildable.mono _ _ _)
   | (with_reducible exact LeO.refl _)
   | (with_reducible exact LeO.none _)
   | (with_reducible refine LeO.ite ?_ ?_)
   | (with_reducible refine LeO.bind ?_ (fun _ => ?_))
   | exact ih0 _ _ _
   | exact ih1 _
   | exact ih2 _ _ _ _
   | exact ih3 _ _ _ _ _ _
   | exact ih4 _ _ _ _ _ _
   | exact ih5 _ _ _ _ _ _ _
   | exact impl_BestStages.mono _ _ _ _
   | exact impl_BuildOrder.mono _ _ _
   | exact impl_CountBuildable.mono _ _ _ _
   | exact impl_ReadyStages.mono _ _ _
   | exact impl_StageCost.mono _ _ _
   | exact impl_YearsOf.mono _ _ _ _
   | exact laws_b10Has.mono _ _ _
   | exact spec_DrawBestStages.mono _ _
   | exact spec_DrawReadyStages.mono _ _
   | exact spec_IsBuildable.mono _ _ _
   | exact LeO.none _
   | refine LeO.ite ?_ ?_
   | refine LeO.bind ?_ (fun _ => ?_)
  ·
   intro y0 y1 y2 y3 y4 y5
   unfold laws_FnStages.j1
   repeat' first
   | (with_reducible exact ih0 _ _ _)
   | (with_reducible exact ih1 _)
   | (with_reducible exact ih2 _ _ _ _)
   | (with_reducible exact ih3 _ _ _ _ _ _)
   | (with_reducible exact ih4 _ _ _ _ _ _)
   | (with_reducible exact ih5 _ _ _ _ _ _ _)
   | (with_reducible exact impl_BestStages.mono _ _ _ _)
   | (with_reducible exact impl_BuildOrder.mono _ _ _)
   | (with_reducible exact impl_CountBuildable.mono _ _ _ _)
   | (with_reducible exact impl_ReadyStages.mono _ _ _)
   | (with_reducible exact impl_StageCost.mono _ _ _)
   | (with_reducible exact impl_YearsOf.mono _ _ _ _)
   | (with_reducible exact laws_b10Has.mono _ _ _)
   | (with_reducible exact spec_DrawBestStages.mono _ _)
   | (with_reducible exact spec_DrawReadyStages.mono _ _)
   | (with_reducible exact spec_IsBuildable.mono _ _ _)
   | (with_reducible exact LeO.refl _)
   | (with_reducible exact LeO.none _)
   | (with_reducible refine LeO.ite ?_ ?_)
   | (with_reducible refine LeO.bind ?_ (fun _ => ?_))
   | exact ih0 _ _ _
   | exact ih1 _
   | exact ih2 _ _ _ _
   | exact ih3 _ _ _ _ _ _
   | exact ih4 _ _ _ _ _ _
   | exact ih5 _ _ _ _ _ _ _
   | exact impl_BestStages.mono _ _ _ _
   | exact impl_BuildOrder.mono _ _ _
   | exact impl_CountBuildable.mono _ _ _ _
   | exact impl_ReadyStages.mono _ _ _
   | exact impl_StageCost.mono _ _ _
   | exact impl_YearsOf.mono _ _ _ _
   | exact laws_b10Has.mono _ _ _
   | exact spec_DrawBestStages.mono _ _
   | exact spec_DrawReadyStages.mono _ _
   | exact spec_IsBuildable.mono _ _ _
   | exact LeO.none _
   | refine LeO.ite ?_ ?_
   | refine LeO.bind ?_ (fun _ => ?_)
  ·
   intro y0 y1 y2 y3 y4 y5 y6
   unfold laws_FnStages.l0
   repeat' first
   | (with_reducible exact ih0 _ _ _)
   | (with_reducible exact ih1 _)
   | (with_reducible exact ih2 _ _ _ _)
   | (with_reducible exact ih3 _ _ _ _ _ _)
   | (with_reducible exact ih4 _ _ _ _ _ _)
   | (with_reducible exact ih5 _ _ _ _ _ _ _)
   | (with_reducible exact impl_BestStages.mono _ _ _ _)
   | (with_reducible exact impl_BuildOrder.mono _ _ _)
   | (with_reducible exact impl_CountBuildable.mono _ _ _ _)
   | (with_reducible exact impl_ReadyStages.mono _ _ _)
   | (with_reducible exact impl_StageCost.mono _ _ _)
   | (with_reducible exact impl_YearsOf.mono _ _ _ _)
   | (with_reducible exact laws_b10Has.mono _ _ _)
   | (with_reducible exact spec_DrawBestStages.mono _ _)
   | (with_reducible exact spec_DrawReadyStages.mono _ _)
   | (with_reducible exact spec_IsBuildable.mono _ _ _)
   | (with_reducible exact LeO.refl _)
   | (with_reducible exact LeO.none _)
   | (with_reducible refine LeO.ite ?_ ?_)
   | (with_reducible refine LeO.bind ?_ (fun _ => ?_))
   | exact ih0 _ _ _
   | exact ih1 _
   | exact ih2 _ _ _ _
   | exact ih3 _ _ _ _ _ _
   | exact ih4 _ _ _ _ _ _
   | exact ih5 _ _ _ _ _ _ _
   | exact impl_BestStages.mono _ _ _ _
   | exact impl_BuildOrder.mono _ _ _
   | exact impl_CountBuildable.mono _ _ _ _
   | exact impl_ReadyStages.mono _ _ _
   | exact impl_StageCost.mono _ _ _
   | exact impl_YearsOf.mono _ _ _ _
   | exact laws_b10Has.mono _ _ _
   | exact spec_DrawBestStages.mono _ _
   | exact spec_DrawReadyStages.mono _ _
   | exact spec_IsBuildable.mono _ _ _
   | exact LeO.none _
   | refine LeO.ite ?_ ?_
   | refine LeO.bind ?_ (fun _ => ?_)
theorem laws_FnStages.mono : ∀ a0 a1 k, LeO (laws_FnStages.f k a0 a1) (laws_FnStages.f (k + 1) a0 a1) := by
 intro a0 a1 k
 obtain ⟨ih0, ih1, ih2, ih3, ih4, ih5⟩ := laws_FnStages.mono_l k
 unfold laws_FnStages.f
 repeat' first
  | (with_reducible exact ih0 _ _ _)
  | (with_reducible exact ih1 _)
  | (with_reducible exact ih2 _ _ _ _)
  | (with_reducible exact ih3 _ _ _ _ _ _)
  | (with_reducible exact ih4 _ _ _ _ _ _)
  | (with_reducible exact ih5 _ _ _ _ _ _ _)
  | (with_reducible exact impl_BestStages.mono _ _ _ _)
  | (with_reducible exact impl_BuildOrder.mono _ _ _)
  | (with_reducible exact impl_CountBuildable.mono _ _ _ _)
  | (with_reducible exact impl_ReadyStages.mono _ _ _)
  | (with_reducible exact impl_StageCost.mono _ _ _)
  | (with_reducible exact impl_YearsOf.mono _ _ _ _)
  | (with_reducible exact laws_b10Has.mono _ _ _)
  | (with_reducible exact spec_DrawBestStages.mono _ _)
  | (with_reducible exact spec_DrawReadyStages.mono _ _)
  | (with_reducible exact spec_IsBuildable.mono _ _ _)
  | (with_reducible exact LeO.refl _)
  | (with_reducible exact LeO.none _)
  | (with_reducible refine LeO.ite ?_ ?_)
  | (with_reducible refine LeO.bind ?_ (fun _ => ?_))
  | exact ih0 _ _ _
  | exact ih1 _
  | exact ih2 _ _ _ _
  | exact ih3 _ _ _ _ _ _
  | exact ih4 _ _ _ _ _ _
  | exact ih5 _ _ _ _ _ _ _
  | exact impl_BestStages.mono _ _ _ _
  | exact impl_BuildOrder.mono _ _ _
  | exact impl_CountBuildable.mono _ _ _ _
  | exact impl_ReadyStages.mono _ _ _
  | exact impl_StageCost.mono _ _ _
  | exact impl_YearsOf.mono _ _ _ _
  | exact laws_b10Has.mono _ _ _
  | exact spec_DrawBestStages.mono _ _
  | exact spec_DrawReadyStages.mono _ _
  | exact spec_IsBuildable.mono _ _ _
  | exact LeO.none _
  | refine LeO.ite ?_ ?_
  | refine LeO.bind ?_ (fun _ => ?_)
set_option maxHeartbeats 8000000 in
set_option maxRecDepth 100000 in
theorem laws_FnStages.calls (k : Nat) (A0 : Option Addr) (c0 : Nat) (l0 : List Int) (A1 : Option Addr) (c1 : Nat) (l1 : List Int) (r : Bool) (w : World) (hr0 : Kd.C (Kd.int .u8) w A0 l0.length l0) (hc0 : l0.length ≤ c0) (hr1 : Kd.C (Kd.int .u8) w A1 l1.length l1) (hc1 : l1.length ≤ c1) (h : laws_FnStages.f k l0 l1 = some r) :
  Calls Try.prog 8 #[.slice A0 l0.length c0, .slice A1 l1.length c1] w fun e w' => e = .returned (.bool r) ∧ Below w.heap.size w w' := by
 have HR0 := Aside0.mk hr0
 have HC0 := Aside0.mk hc0
 clear hr0 hc0
 have HR1 := Aside0.mk hr1
 have HC1 := Aside0.mk hc1
 clear hr1 hc1
 have HB := Aside0.mk (Below.refl w.heap.size w)
 have H : ((laws_b10Long.f l0).bind fun t414 => (if t414 = true then (laws_FnStages.j0 k l0 l1 true) else ((laws_b10Long.f l1).bind fun t415 => (laws_FnStages.j0 k l0 l1 t415)))) = some r := h
 clear h
 have HC3 := Aside0.mk H
 clear H
 go_enter Try.func8, Try.ntmps8
 go_upto_region 1 with (fail)
 go_cut [33] (fun v33 wc => ∃ (kq : Nat) (x33_2 : Bool), v33 = .bool x33_2 ∧ Aside0 (laws_FnStages.j0 kq l0 l1 x33_2 = some r) ∧ Aside0 (kq ≤ k) ∧ Aside0 (Below w.heap.size w wc))
 case first =>
  have H := HC3.out
  clear HC3
  replace H := Option.bind_eq_some_iff.mp H
  obtain ⟨t414, A40, H⟩ := H
  replace H : (if t414 = true then (laws_FnStages.j0 k l0 l1 true) else ((laws_b10Long.f l1).bind fun t415 => (laws_FnStages.j0 k l0 l1 t415))) = some r := H
  have A4 := Aside0.mk A40
  clear A40
  by_cases c5 : t414 = true
  ·
   subst c5
   have H1 : (laws_FnStages.j0 k l0 l1 true) = some r := by rw [if_pos rfl] at H; exact H
   clear H
   have H := H1
   clear H1
   have H' := Aside0.mk H
   clear H
   go_wp2_with (first | ((with_reducible refine gate_callee (f := 9) rfl ?_); refine goesA_ (some 29) Try.func9 #[.slice A0 l0.length c0] ?_; (with_reducible refine (laws_b10Long.calls _ _ l0 true _ ?side1 ?side2 A4.out).mono ?_); (case side1 => exact mvC (Kd.C_below HR0.out HB.out)); (case side2 => exact HC0.out); rintro e w' ⟨rfl, ⟨nd, rfl⟩⟩; refine ⟨_, rfl, ?_⟩))
   go_meet
   case rel => exact ⟨_, (true), rs, H', ⟨by first | omega | exact Nat.le_refl _⟩, ⟨mvB HB.out⟩⟩
  ·
   replace c5 := Bool.eq_false_iff.mpr c5
   subst c5
   have H1 : ((laws_b10Long.f l1).bind fun t415 => (laws_FnStages.j0 k l0 l1 t415)) = some r := by rw [if_neg (show ¬ (false = true) by decide)] at H; exact H
   clear H
   have H := H1
   clear H1
   replace H := Option.bind_eq_some_iff.mp H
   obtain ⟨t415, A60, H⟩ := H
   replace H : (laws_FnStages.j0 k l0 l1 t415) = some r := H
   have A6 := Aside0.mk A60
   clear A60
   have H' := Aside0.mk H
   clear H
   go_wp2_with (first | ((with_reducible refine gate_callee (f := 9) rfl ?_); refine goesA_ (some 29) Try.func9 #[.slice A0 l0.length c0] ?_; (with_reducible refine (laws_b10Long.calls _ _ l0 false _ ?side1 ?side2 A4.out).mono ?_); (case side1 => exact mvC (Kd.C_below HR0.out HB.out)); (case side2 => exact HC0.out); rintro e w' ⟨rfl, ⟨nd, rfl⟩⟩; refine ⟨_, rfl, ?_⟩) | (go_at_call 9; (with_reducible refine (laws_b10Long.calls _ _ l1 t415 _ ?side1 ?side2 A6.out).mono ?_); (case side1 => exact mvC (Kd.C_below HR1.out (mvB HB.out))); (case side2 => exact HC1.out); rintro e w' ⟨rfl, ⟨nd, rfl⟩⟩))
   go_meet
   case rel => exact ⟨_, (t415), rs, H', ⟨by first | omega | exact Nat.le_refl _⟩, ⟨mvB HB.out⟩⟩
 case rest =>
  clear HC3
  obtain ⟨kq, x33_2, rfl, HA, HJ2, HB⟩ := hcut
  cases kq with
  | zero => exact absurd HA.out (by simp [laws_FnStages.j0])
  | succ kj2 =>
   have H := HA.out
   clear HA
   simp only [laws_FnStages.j0] at H
   by_cases c7 : x33_2 = true
   ·
    subst c7
    have H1 : (some true) = some r := by rw [if_pos rfl] at H; exact H
    clear H
    have H := H1
    clear H1
    obtain rfl := Option.some.inj H
    go_wp2
    go_ret
    exact ⟨by first | rfl | (simp [errW_none, errW_some] <;> rfl) | (simp [*, errW_none, errW_some] <;> rfl), mvB HB.out⟩
   ·
    replace c7 := Bool.eq_false_iff.mpr c7
    subst c7
    have H1 : ((spec_DrawBestStages.f kj2 l0).bind fun bt416 => ((impl_BestStages.f kj2 bt416.1 bt416.2.1 bt416.2.2).bind fun bt421 => ((impl_CountBuildable.f kj2 bt416.1 bt416.2.1 bt416.2.2).bind fun bt426 => (if bt421.2.2 = bt426.2 then (if bt421.2.2 = 0 then ((impl_StageCost.f kj2 bt416.1 bt421.1).bind fun bt428 => ((impl_BuildOrder.f kj2 bt416.1 bt421.1).bind fun bt430 => ((spec_IsBuildable.f kj2 bt416.1 bt421.1).bind fun t434 => (if t434 = true then (if bt428.2 = 0 then (if bt428.1 > bt416.2.1 then (laws_FnStages.j1 kj2 l1 bt416.1 bt421.1 bt421.2.1 bt430.1 true) else (if bt430.2 = 0 then (if (bt430.1.length : Int) = (bt421.1.length : Int) then (laws_FnStages.j1 kj2 l1 bt416.1 bt421.1 bt421.2.1 bt430.1 (decide (bt426.1 < 1))) else (laws_FnStages.j1 kj2 l1 bt416.1 bt421.1 bt421.2.1 bt430.1 true)) else (laws_FnStages.j1 kj2 l1 bt416.1 bt421.1 bt421.2.1 bt430.1 true))) else (laws_FnStages.j1 kj2 l1 bt416.1 bt421.1 bt421.2.1 bt430.1 true)) else (laws_FnStages.j1 kj2 l1 bt416.1 bt421.1 bt421.2.1 bt430.1 true))))) else (laws_FnStages.j3 kj2 l1)) else (some false))))) = some r := by rw [if_neg (show ¬ (false = true) by decide)] at H; exact H
    clear H
    have H := H1
    clear H1
    replace H := Option.bind_eq_some_iff.mp H
    obtain ⟨⟨t416, t417, t418⟩, A80, H⟩ := H
    replace H : ((impl_BestStages.f kj2 t416 t417 t418).bind fun bt421 => ((impl_CountBuildable.f kj2 t416 t417 t418).bind fun bt426 => (if bt421.2.2 = bt426.2 then (if bt421.2.2 = 0 then ((impl_StageCost.f kj2 t416 bt421.1).bind fun bt428 => ((impl_BuildOrder.f kj2 t416 bt421.1).bind fun bt430 => ((spec_IsBuildable.f kj2 t416 bt421.1).bind fun t434 => (if t434 = true then (if bt428.2 = 0 then (if bt428.1 > t417 then (laws_FnStages.j1 kj2 l1 t416 bt421.1 bt421.2.1 bt430.1 true) else (if bt430.2 = 0 then (if (bt430.1.length : Int) = (bt421.1.length : Int) then (laws_FnStages.j1 kj2 l1 t416 bt421.1 bt421.2.1 bt430.1 (decide (bt426.1 < 1))) else (laws_FnStages.j1 kj2 l1 t416 bt421.1 bt421.2.1 bt430.1 true)) else (laws_FnStages.j1 kj2 l1 t416 bt421.1 bt421.2.1 bt430.1 true))) else (laws_FnStages.j1 kj2 l1 t416 bt421.1 bt421.2.1 bt430.1 true)) else (laws_FnStages.j1 kj2 l1 t416 bt421.1 bt421.2.1 bt430.1 true))))) else (laws_FnStages.j3 kj2 l1)) else (some false)))) = some r := H
    have A8 := Aside0.mk A80
    clear A80
    replace H := Option.bind_eq_some_iff.mp H
    obtain ⟨⟨t421, t422, t423⟩, A90, H⟩ := H
    replace H : ((impl_CountBuildable.f kj2 t416 t417 t418).bind fun bt426 => (if t423 = bt426.2 then (if t423 = 0 then ((impl_StageCost.f kj2 t416 t421).bind fun bt428 => ((impl_BuildOrder.f kj2 t416 t421).bind fun bt430 => ((spec_IsBuildable.f kj2 t416 t421).bind fun t434 => (if t434 = true then (if bt428.2 = 0 then (if bt428.1 > t417 then (laws_FnStages.j1 kj2 l1 t416 t421 t422 bt430.1 true) else (if bt430.2 = 0 then (if (bt430.1.length : Int) = (t421.length : Int) then (laws_FnStages.j1 kj2 l1 t416 t421 t422 bt430.1 (decide (bt426.1 < 1))) else (laws_FnStages.j1 kj2 l1 t416 t421 t422 bt430.1 true)) else (laws_FnStages.j1 kj2 l1 t416 t421 t422 bt430.1 true))) else (laws_FnStages.j1 kj2 l1 t416 t421 t422 bt430.1 true)) else (laws_FnStages.j1 kj2 l1 t416 t421 t422 bt430.1 true))))) else (laws_FnStages.j3 kj2 l1)) else (some false))) = some r := H
    have A9 := Aside0.mk A90
    clear A90
    replace H := Option.bind_eq_some_iff.mp H
    obtain ⟨⟨t426, t427⟩, A100, H⟩ := H
    replace H : (if t423 = t427 then (if t423 = 0 then ((impl_StageCost.f kj2 t416 t421).bind fun bt428 => ((impl_BuildOrder.f kj2 t416 t421).bind fun bt430 => ((spec_IsBuildable.f kj2 t416 t421).bind fun t434 => (if t434 = true then (if bt428.2 = 0 then (if bt428.1 > t417 then (laws_FnStages.j1 kj2 l1 t416 t421 t422 bt430.1 true) else (if bt430.2 = 0 then (if (bt430.1.length : Int) = (t421.length : Int) then (laws_FnStages.j1 kj2 l1 t416 t421 t422 bt430.1 (decide (t426 < 1))) else (laws_FnStages.j1 kj2 l1 t416 t421 t422 bt430.1 true)) else (laws_FnStages.j1 kj2 l1 t416 t421 t422 bt430.1 true))) else (laws_FnStages.j1 kj2 l1 t416 t421 t422 bt430.1 true)) else (laws_FnStages.j1 kj2 l1 t416 t421 t422 bt430.1 true))))) else (laws_FnStages.j3 kj2 l1)) else (some false)) = some r := H
    have A10 := Aside0.mk A100
    clear A100
    by_cases c11 : t423 = t427
    ·
     rw [if_pos c11] at H
     have c11b0 : (t423 == t427) = true := beq_iff_eq.mpr c11
     have c11b1 : (t423 != t427) = false := bne_eq_false_iff_eq.mpr c11
     clear c11
     have HC12 := Aside0.mk H
     clear H
     go_upto_if 59 with (first | ((with_reducible refine gate_callee (f := 30) rfl ?_); refine goesA_ (some 36) Try.func30 #[.slice A0 l0.length c0] ?_; (with_reducible refine (spec_DrawBestStages.calls kj2 _ _ l0 t416 t417 t418 _ ?side1 ?side2 A8.out).mono ?_); (case side1 => exact mvC (Kd.C_below HR0.out HB.out)); (case side2 => exact HC0.out); rintro e w13 ⟨v419, rfl, ho0, hb⟩; refine ⟨_, rfl, ?_⟩; have n0_ := Aside0.mk (Kd.S_lower ho0 (below_size (mvB HB.out))); have n1_ := Aside0.mk (below_step (mvB HB.out) hb); clear HB; revert n0_ n1_; intro HO420 HB; (try clear hb); (try clear ho0); obtain ⟨Ao14, co14, eo14⟩ := Kd.S_slice HO420.out; subst eo14) | ((with_reducible refine gate_callee (f := 29) rfl ?_); refine goesA_ (some 44) Try.func29 #[.slice Ao14 t416.length co14, .int .i64 t417, .int .i64 t418] ?_; (with_reducible refine (impl_BestStages.calls kj2 _ _ t416 t417 t418 t421 t422 t423 _ ?side1 ?side2 A9.out).mono ?_); (case side1 => exact mvC (Kd.S_reads' HO420.out).2.2); (case side2 => exact (Kd.S_reads' HO420.out).2.1); rintro e w15 ⟨v424, rfl, ho0, hb⟩; refine ⟨_, rfl, ?_⟩; have n0_ := Aside0.mk (Kd.S_below (mv HO420.out) hb); have n1_ := Aside0.mk (Kd.R_lower ho0 (below_size (mvB HB.out))); have n2_ := Aside0.mk (below_step (mvB HB.out) hb); clear HO420 HB; revert n0_ n1_ n2_; intro HO420 HO425 HB; (try clear hb); (try clear ho0)) | ((with_reducible refine gate_callee (f := 23) rfl ?_); refine goesA_ (some 52) Try.func23 #[.slice Ao14 t416.length co14, .int .i64 t417, .int .i64 t418] ?_; (with_reducible refine (impl_CountBuildable.calls kj2 _ _ t416 t417 t418 t426 t427 _ ?side1 ?side2 A10.out).mono ?_); (case side1 => exact mvC (Kd.S_reads' HO420.out).2.2); (case side2 => exact (Kd.S_reads' HO420.out).2.1); rintro e w16 ⟨rfl, hb⟩; refine ⟨_, rfl, ?_⟩; have n0_ := Aside0.mk (Kd.S_below (mv HO420.out) hb); have n1_ := Aside0.mk (Kd.R_below (mv HO425.out) hb); have n2_ := Aside0.mk (below_step (mvB HB.out) hb); clear HO420 HO425 HB; revert n0_ n1_ n2_; intro HO420 HO425 HB; (try clear hb)))
     (try simp only [Act.put, List.setIfInBounds_toArray, List.set_cons_zero, List.set_cons_succ])
     go_cut [] (fun wc => ∃ (kq : Nat), Aside0 (laws_FnStages.j3 kq l1 = some r) ∧ Aside0 (kq ≤ kj2) ∧ Aside0 (Below w.heap.size w wc))
     case first =>
      have H := HC12.out
      clear HC12
      by_cases c17 : t423 = 0
      ·
       rw [if_pos c17] at H
       have c17b0 : (t423 == 0) = true := beq_iff_eq.mpr c17
       have c17b1 : (t423 != 0) = false := bne_eq_false_iff_eq.mpr c17
       clear c17
       (first | rw [c17b0] | (simp only [i64_w, i32_w]; rw [c17b0]) | skip)
       replace H := Option.bind_eq_some_iff.mp H
       obtain ⟨⟨t428, t429⟩, A180, H⟩ := H
       replace H : ((impl_BuildOrder.f kj2 t416 t421).bind fun bt430 => ((spec_IsBuildable.f kj2 t416 t421).bind fun t434 => (if t434 = true then (if t429 = 0 then (if t428 > t417 then (laws_FnStages.j1 kj2 l1 t416 t421 t422 bt430.1 true) else (if bt430.2 = 0 then (if (bt430.1.length : Int) = (t421.length : Int) then (laws_FnStages.j1 kj2 l1 t416 t421 t422 bt430.1 (decide (t426 < 1))) else (laws_FnStages.j1 kj2 l1 t416 t421 t422 bt430.1 true)) else (laws_FnStages.j1 kj2 l1 t416 t421 t422 bt430.1 true))) else (laws_FnStages.j1 kj2 l1 t416 t421 t422 bt430.1 true)) else (laws_FnStages.j1 kj2 l1 t416 t421 t422 bt430.1 true)))) = some r := H
       have A18 := Aside0.mk A180
       clear A180
       replace H := Option.bind_eq_some_iff.mp H
       obtain ⟨⟨t430, t431⟩, A190, H⟩ := H
       replace H : ((spec_IsBuildable.f kj2 t416 t421).bind fun t434 => (if t434 = true then (if t429 = 0 then (if t428 > t417 then (laws_FnStages.j1 kj2 l1 t416 t421 t422 t430 true) else (if t431 = 0 then (if (t430.length : Int) = (t421.length : Int) then (laws_FnStages.j1 kj2 l1 t416 t421 t422 t430 (decide (t426 < 1))) else (laws_FnStages.j1 kj2 l1 t416 t421 t422 t430 true)) else (laws_FnStages.j1 kj2 l1 t416 t421 t422 t430 true))) else (laws_FnStages.j1 kj2 l1 t416 t421 t422 t430 true)) else (laws_FnStages.j1 kj2 l1 t416 t421 t422 t430 true))) = some r := H
       have A19 := Aside0.mk A190
       clear A190
       have HC20 := Aside0.mk H
       clear H
       obtain ⟨Ao21, co21, eo21⟩ := Kd.R_slice HO425.out
       subst eo21
       go_upto_region 11 with (first | ((with_reducible refine gate_callee (f := 31) rfl ?_); refine goesA_ (some 63) Try.func31 #[.slice Ao14 t416.length co14, .slice Ao21 t421.length co21] ?_; (with_reducible refine (impl_StageCost.calls kj2 _ _ t416 _ _ t421 t428 t429 _ ?side1 ?side2 ?side3 ?side4 A18.out).mono ?_); (case side1 => exact mvC (Kd.S_reads' HO420.out).2.2); (case side2 => exact (Kd.S_reads' HO420.out).2.1); (case side3 => exact mvC (Kd.R_reads' HO425.out).2.2); (case side4 => exact (Kd.R_reads' HO425.out).2.1); rintro e w22 ⟨rfl, hb⟩; refine ⟨_, rfl, ?_⟩; have n0_ := Aside0.mk (Kd.S_below (mv HO420.out) hb); have n1_ := Aside0.mk (Kd.R_below (mv HO425.out) hb); have n2_ := Aside0.mk (below_step (mvB HB.out) hb); clear HO420 HO425 HB; revert n0_ n1_ n2_; intro HO420 HO425 HB; (try clear hb)) | ((with_reducible refine gate_callee (f := 32) rfl ?_); refine goesA_ (some 69) Try.func32 #[.slice Ao14 t416.length co14, .slice Ao21 t421.length co21] ?_; (with_reducible refine (impl_BuildOrder.calls kj2 _ _ t416 _ _ t421 t430 t431 _ ?side1 ?side2 ?side3 ?side4 A19.out).mono ?_); (case side1 => exact mvC (Kd.S_reads' HO420.out).2.2); (case side2 => exact (Kd.S_reads' HO420.out).2.1); (case side3 => exact mvC (Kd.R_reads' HO425.out).2.2); (case side4 => exact (Kd.R_reads' HO425.out).2.1); rintro e w23 ⟨v432, rfl, ho0, hb⟩; refine ⟨_, rfl, ?_⟩; have n0_ := Aside0.mk (Kd.S_below (mv HO420.out) hb); have n1_ := Aside0.mk (Kd.R_elder' (mv HO425.out) (Kd.R_base ho0) hb); have n2_ := Aside0.mk (Kd.R_lower (Kd.R_new' ho0 (Kd.R_lt (mv HO425.out))) (below_size (mvB HB.out))); have n3_ := Aside0.mk (below_step (mvB HB.out) hb); clear HO420 HO425 HB; revert n0_ n1_ n2_ n3_; intro HO420 HO425 HO433 HB; (try clear hb); (try clear ho0)))
       (try simp only [Act.put, List.setIfInBounds_toArray, List.set_cons_zero, List.set_cons_succ])
       go_cut [99] (fun v99 wc => ∃ (kq : Nat) (x99_19 : Bool), v99 = .bool x99_19 ∧ Aside0 (laws_FnStages.j1 kq l1 t416 t421 t422 t430 x99_19 = some r) ∧ Aside0 (kq ≤ kj2) ∧ Aside0 (Kd.S k34 34 wc w.heap.size (fun _ => True) (.slice Ao14 t416.length co14) t416) ∧ Aside0 (Kd.R (Kd.int .i64) 2 wc w.heap.size (fun k_ => some k_ ≠ (v432 : Value).ownBlock) (.slice Ao21 t421.length co21) t421) ∧ Aside0 (Kd.R (Kd.int .i64) 2 wc w.heap.size (fun k_ => some k_ ≠ ((.slice Ao21 t421.length co21) : Value).ownBlock) v432 t430) ∧ Aside0 (Below w.heap.size w wc))
       case first =>
        have H := HC20.out
        clear HC20
        replace H := Option.bind_eq_some_iff.mp H
        obtain ⟨t434, A240, H⟩ := H
        replace H : (if t434 = true then (if t429 = 0 then (if t428 > t417 then (laws_FnStages.j1 kj2 l1 t416 t421 t422 t430 true) else (if t431 = 0 then (if (t430.length : Int) = (t421.length : Int) then (laws_FnStages.j1 kj2 l1 t416 t421 t422 t430 (decide (t426 < 1))) else (laws_FnStages.j1 kj2 l1 t416 t421 t422 t430 true)) else (laws_FnStages.j1 kj2 l1 t416 t421 t422 t430 true))) else (laws_FnStages.j1 kj2 l1 t416 t421 t422 t430 true)) else (laws_FnStages.j1 kj2 l1 t416 t421 t422 t430 true)) = some r := H
        have A24 := Aside0.mk A240
        clear A240
        by_cases c25 : t434 = true
        ·
         subst c25
         have H1 : (if t429 = 0 then (if t428 > t417 then (laws_FnStages.j1 kj2 l1 t416 t421 t422 t430 true) else (if t431 = 0 then (if (t430.length : Int) = (t421.length : Int) then (laws_FnStages.j1 kj2 l1 t416 t421 t422 t430 (decide (t426 < 1))) else (laws_FnStages.j1 kj2 l1 t416 t421 t422 t430 true)) else (laws_FnStages.j1 kj2 l1 t416 t421 t422 t430 true))) else (laws_FnStages.j1 kj2 l1 t416 t421 t422 t430 true)) = some r := by rw [if_pos rfl] at H; exact H
         clear H
         have H := H1
         clear H1
         by_cases c26 : t429 = 0
         ·
          rw [if_pos c26] at H
          have c26b0 : (t429 == 0) = true := beq_iff_eq.mpr c26
          have c26b1 : (t429 != 0) = false := bne_eq_false_iff_eq.mpr c26
          clear c26
          (first | rw [c26b0] | (simp only [i64_w, i32_w]; rw [c26b0]) | skip)
          by_cases c27 : t428 > t417
          ·
           rw [if_pos c27] at H
           have c27b0 : decide (t417 < t428) = true := decide_eq_true c27
           clear c27
           have H' := Aside0.mk H
           clear H
           go_wp2_with (first | ((with_reducible refine gate_callee (f := 33) rfl ?_); refine goesA_ (some 74) Try.func33 #[.slice Ao14 t416.length co14, .slice Ao21 t421.length co21] ?_; (with_reducible refine (spec_IsBuildable.calls kj2 _ _ t416 _ _ t421 true _ ?side1 ?side2 ?side3 ?side4 A24.out).mono ?_); (case side1 => exact mvC (Kd.S_reads' HO420.out).2.2); (case side2 => exact (Kd.S_reads' HO420.out).2.1); (case side3 => exact mvC (Kd.R_reads' HO425.out).2.2); (case side4 => exact (Kd.R_reads' HO425.out).2.1); rintro e w28 ⟨rfl, hb⟩; refine ⟨_, rfl, ?_⟩; have n0_ := Aside0.mk (Kd.S_below (mv HO420.out) hb); have n1_ := Aside0.mk (Kd.R_below (mv HO425.out) hb); have n2_ := Aside0.mk (Kd.R_below (mv HO433.out) hb); have n3_ := Aside0.mk (below_step (mvB HB.out) hb); clear HO420 HO425 HO433 HB; revert n0_ n1_ n2_ n3_; intro HO420 HO425 HO433 HB; (try clear hb)))
           go_meet
           case rel => exact ⟨_, (true), rs, H', ⟨by have := HJ2.out; first | omega | exact Nat.le_refl _⟩, ⟨mv HO420.out⟩, ⟨by (with_reducible repeat (first | apply Kd.R_alloc | apply Kd.R_drewN | apply Kd.R_drew)); exact Kd.R_mono HO425.out (fun _ hk => hk.2)⟩, ⟨by (with_reducible repeat (first | apply Kd.R_alloc | apply Kd.R_drewN | apply Kd.R_drew)); exact Kd.R_mono HO433.out (fun _ hk => hk.2)⟩, ⟨mvB HB.out⟩⟩
          ·
           rw [if_neg c27] at H
           have c27b0 : decide (t417 < t428) = false := decide_eq_false c27
           clear c27
           by_cases c29 : t431 = 0
           ·
            rw [if_pos c29] at H
            have c29b0 : (t431 == 0) = true := beq_iff_eq.mpr c29
            have c29b1 : (t431 != 0) = false := bne_eq_false_iff_eq.mpr c29
            clear c29
            by_cases c30 : (t430.length : Int) = (t421.length : Int)
            ·
             rw [if_pos c30] at H
             have c30b0 : ((t430.length : Int) == (t421.length : Int)) = true := beq_iff_eq.mpr c30
             have c30b1 : ((t430.length : Int) != (t421.length : Int)) = false := bne_eq_false_iff_eq.mpr c30
             have c30b2 : (t430.length == t421.length) = true := by first | simpa using c30 | (simp at c30 ⊢; omega)
             clear c30
             have H' := Aside0.mk H
             clear H
             go_wp2_with (first | ((with_reducible refine gate_callee (f := 33) rfl ?_); refine goesA_ (some 74) Try.func33 #[.slice Ao14 t416.length co14, .slice Ao21 t421.length co21] ?_; (with_reducible refine (spec_IsBuildable.calls kj2 _ _ t416 _ _ t421 true _ ?side1 ?side2 ?side3 ?side4 A24.out).mono ?_); (case side1 => exact mvC (Kd.S_reads' HO420.out).2.2); (case side2 => exact (Kd.S_reads' HO420.out).2.1); (case side3 => exact mvC (Kd.R_reads' HO425.out).2.2); (case side4 => exact (Kd.R_reads' HO425.out).2.1); rintro e w31 ⟨rfl, hb⟩; refine ⟨_, rfl, ?_⟩; have n0_ := Aside0.mk (Kd.S_below (mv HO420.out) hb); have n1_ := Aside0.mk (Kd.R_below (mv HO425.out) hb); have n2_ := Aside0.mk (Kd.R_below (mv HO433.out) hb); have n3_ := Aside0.mk (below_step (mvB HB.out) hb); clear HO420 HO425 HO433 HB; revert n0_ n1_ n2_ n3_; intro HO420 HO425 HO433 HB; (try clear hb); obtain ⟨Ao32, co32, eo32⟩ := Kd.R_slice HO433.out; subst eo32))
             go_meet
             case rel => exact ⟨_, (decide (t426 < 1)), rs, H', ⟨by have := HJ2.out; first | omega | exact Nat.le_refl _⟩, ⟨mv HO420.out⟩, ⟨by (with_reducible repeat (first | apply Kd.R_alloc | apply Kd.R_drewN | apply Kd.R_drew)); exact Kd.R_mono HO425.out (fun _ hk => hk.2)⟩, ⟨by (with_reducible repeat (first | apply Kd.R_alloc | apply Kd.R_drewN | apply Kd.R_drew)); exact Kd.R_mono HO433.out (fun _ hk => hk.2)⟩, ⟨mvB HB.out⟩⟩
            ·
             rw [if_neg c30] at H
             have c30b0 : ((t430.length : Int) == (t421.length : Int)) = false := beq_eq_false_iff_ne.mpr c30
             have c30b1 : ((t430.length : Int) != (t421.length : Int)) = true := bne_iff_ne.mpr c30
             have c30b2 : (t430.length == t421.length) = false := by first | simpa using c30 | (simp at c30 ⊢; omega)
             have H' := Aside0.mk H
             clear H
             go_wp2_with (first | ((with_reducible refine gate_callee (f := 33) rfl ?_); refine goesA_ (some 74) Try.func33 #[.slice Ao14 t416.length co14, .slice Ao21 t421.length co21] ?_; (with_reducible refine (spec_IsBuildable.calls kj2 _ _ t416 _ _ t421 true _ ?side1 ?side2 ?side3 ?side4 A24.out).mono ?_); (case side1 => exact mvC (Kd.S_reads' HO420.out).2.2); (case side2 => exact (Kd.S_reads' HO420.out).2.1); (case side3 => exact mvC (Kd.R_reads' HO425.out).2.2); (case side4 => exact (Kd.R_reads' HO425.out).2.1); rintro e w33 ⟨rfl, hb⟩; refine ⟨_, rfl, ?_⟩; have n0_ := Aside0.mk (Kd.S_below (mv HO420.out) hb); have n1_ := Aside0.mk (Kd.R_below (mv HO425.out) hb); have n2_ := Aside0.mk (Kd.R_below (mv HO433.out) hb); have n3_ := Aside0.mk (below_step (mvB HB.out) hb); clear HO420 HO425 HO433 HB; revert n0_ n1_ n2_ n3_; intro HO420 HO425 HO433 HB; (try clear hb); obtain ⟨Ao34, co34, eo34⟩ := Kd.R_slice HO433.out; subst eo34))
             go_meet
             case rel => exact ⟨_, (true), rs, H', ⟨by have := HJ2.out; first | omega | exact Nat.le_refl _⟩, ⟨mv HO420.out⟩, ⟨by (with_reducible repeat (first | apply Kd.R_alloc | apply Kd.R_drewN | apply Kd.R_drew)); exact Kd.R_mono HO425.out (fun _ hk => hk.2)⟩, ⟨by (with_reducible repeat (first | apply Kd.R_alloc | apply Kd.R_drewN | apply Kd.R_drew)); exact Kd.R_mono HO433.out (fun _ hk => hk.2)⟩, ⟨mvB HB.out⟩⟩
           ·
            rw [if_neg c29] at H
            have c29b0 : (t431 == 0) = false := beq_eq_false_iff_ne.mpr c29
            have c29b1 : (t431 != 0) = true := bne_iff_ne.mpr c29
            have H' := Aside0.mk H
            clear H
            go_wp2_with (first | ((with_reducible refine gate_callee (f := 33) rfl ?_); refine goesA_ (some 74) Try.func33 #[.slice Ao14 t416.length co14, .slice Ao21 t421.length co21] ?_; (with_reducible refine (spec_IsBuildable.calls kj2 _ _ t416 _ _ t421 true _ ?side1 ?side2 ?side3 ?side4 A24.out).mono ?_); (case side1 => exact mvC (Kd.S_reads' HO420.out).2.2); (case side2 => exact (Kd.S_reads' HO420.out).2.1); (case side3 => exact mvC (Kd.R_reads' HO425.out).2.2); (case side4 => exact (Kd.R_reads' HO425.out).2.1); rintro e w35 ⟨rfl, hb⟩; refine ⟨_, rfl, ?_⟩; have n0_ := Aside0.mk (Kd.S_below (mv HO420.out) hb); have n1_ := Aside0.mk (Kd.R_below (mv HO425.out) hb); have n2_ := Aside0.mk (Kd.R_below (mv HO433.out) hb); have n3_ := Aside0.mk (below_step (mvB HB.out) hb); clear HO420 HO425 HO433 HB; revert n0_ n1_ n2_ n3_; intro HO420 HO425 HO433 HB; (try clear hb)))
            go_meet
            case rel => exact ⟨_, (true), rs, H', ⟨by have := HJ2.out; first | omega | exact Nat.le_refl _⟩, ⟨mv HO420.out⟩, ⟨by (with_reducible repeat (first | apply Kd.R_alloc | apply Kd.R_drewN | apply Kd.R_drew)); exact Kd.R_mono HO425.out (fun _ hk => hk.2)⟩, ⟨by (with_reducible repeat (first | apply Kd.R_alloc | apply Kd.R_drewN | apply Kd.R_drew)); exact Kd.R_mono HO433.out (fun _ hk => hk.2)⟩, ⟨mvB HB.out⟩⟩
         ·
          rw [if_neg c26] at H
          have c26b0 : (t429 == 0) = false := beq_eq_false_iff_ne.mpr c26
          have c26b1 : (t429 != 0) = true := bne_iff_ne.mpr c26
          (first | rw [c26b0] | (simp only [i64_w, i32_w]; rw [c26b0]) | skip)
          have H' := Aside0.mk H
          clear H
          go_wp2_with (first | ((with_reducible refine gate_callee (f := 33) rfl ?_); refine goesA_ (some 74) Try.func33 #[.slice Ao14 t416.length co14, .slice Ao21 t421.length co21] ?_; (with_reducible refine (spec_IsBuildable.calls kj2 _ _ t416 _ _ t421 true _ ?side1 ?side2 ?side3 ?side4 A24.out).mono ?_); (case side1 => exact mvC (Kd.S_reads' HO420.out).2.2); (case side2 => exact (Kd.S_reads' HO420.out).2.1); (case side3 => exact mvC (Kd.R_reads' HO425.out).2.2); (case side4 => exact (Kd.R_reads' HO425.out).2.1); rintro e w36 ⟨rfl, hb⟩; refine ⟨_, rfl, ?_⟩; have n0_ := Aside0.mk (Kd.S_below (mv HO420.out) hb); have n1_ := Aside0.mk (Kd.R_below (mv HO425.out) hb); have n2_ := Aside0.mk (Kd.R_below (mv HO433.out) hb); have n3_ := Aside0.mk (below_step (mvB HB.out) hb); clear HO420 HO425 HO433 HB; revert n0_ n1_ n2_ n3_; intro HO420 HO425 HO433 HB; (try clear hb)))
          go_meet
          case rel => exact ⟨_, (true), rs, H', ⟨by have := HJ2.out; first | omega | exact Nat.le_refl _⟩, ⟨mv HO420.out⟩, ⟨by (with_reducible repeat (first | apply Kd.R_alloc | apply Kd.R_drewN | apply Kd.R_drew)); exact Kd.R_mono HO425.out (fun _ hk => hk.2)⟩, ⟨by (with_reducible repeat (first | apply Kd.R_alloc | apply Kd.R_drewN | apply Kd.R_drew)); exact Kd.R_mono HO433.out (fun _ hk => hk.2)⟩, ⟨mvB HB.out⟩⟩
        ·
         replace c25 := Bool.eq_false_iff.mpr c25
         subst c25
         have H1 : (laws_FnStages.j1 kj2 l1 t416 t421 t422 t430 true) = some r := by rw [if_neg (show ¬ (false = true) by decide)] at H; exact H
         clear H
         have H := H1
         clear H1
         have H' := Aside0.mk H
         clear H
         go_wp2_with (first | ((with_reducible refine gate_callee (f := 33) rfl ?_); refine goesA_ (some 74) Try.func33 #[.slice Ao14 t416.length co14, .slice Ao21 t421.length co21] ?_; (with_reducible refine (spec_IsBuildable.calls kj2 _ _ t416 _ _ t421 false _ ?side1 ?side2 ?side3 ?side4 A24.out).mono ?_); (case side1 => exact mvC (Kd.S_reads' HO420.out).2.2); (case side2 => exact (Kd.S_reads' HO420.out).2.1); (case side3 => exact mvC (Kd.R_reads' HO425.out).2.2); (case side4 => exact (Kd.R_reads' HO425.out).2.1); rintro e w37 ⟨rfl, hb⟩; refine ⟨_, rfl, ?_⟩; have n0_ := Aside0.mk (Kd.S_below (mv HO420.out) hb); have n1_ := Aside0.mk (Kd.R_below (mv HO425.out) hb); have n2_ := Aside0.mk (Kd.R_below (mv HO433.out) hb); have n3_ := Aside0.mk (below_step (mvB HB.out) hb); clear HO420 HO425 HO433 HB; revert n0_ n1_ n2_ n3_; intro HO420 HO425 HO433 HB; (try clear hb)))
         go_meet
         case rel => exact ⟨_, (true), rs, H', ⟨by have := HJ2.out; first | omega | exact Nat.le_refl _⟩, ⟨mv HO420.out⟩, ⟨by (with_reducible repeat (first | apply Kd.R_alloc | apply Kd.R_drewN | apply Kd.R_drew)); exact Kd.R_mono HO425.out (fun _ hk => hk.2)⟩, ⟨by (with_reducible repeat (first | apply Kd.R_alloc | apply Kd.R_drewN | apply Kd.R_drew)); exact Kd.R_mono HO433.out (fun _ hk => hk.2)⟩, ⟨mvB HB.out⟩⟩
       case rest =>
        clear HC20
        try clear c7
        try clear c11b0
        try clear c11b1
        try clear c17b0
        try clear c17b1
        obtain ⟨kq, x99_19, rfl, HA, HJ19, HO_5, HO_8, HO_15, HB⟩ := hcut
        cases kq with
        | zero => exact absurd HA.out (by simp [laws_FnStages.j1])
        | succ kj19 =>
         have H := HA.out
         clear HA
         simp only [laws_FnStages.j1] at H
         by_cases c38 : x99_19 = true
         ·
          subst c38
          have H1 : (some false) = some r := by rw [if_pos rfl] at H; exact H
          clear H
          have H := H1
          clear H1
          obtain rfl := Option.some.inj H
          go_wp2
          go_ret
          exact ⟨by first | rfl | (simp [errW_none, errW_some] <;> rfl) | (simp [*, errW_none, errW_some] <;> rfl), mvB HB.out⟩
         ·
          replace c38 := Bool.eq_false_iff.mpr c38
          subst c38
          have H1 : (laws_FnStages.l0 kj19 l1 t416 t421 t422 t430 0 0) = some r := by rw [if_neg (show ¬ (false = true) by decide)] at H; exact H
          clear H
          have H := H1
          clear H1
          have H' := Aside0.mk H
          clear H
          go_wp2
          go_loopg [17, 18] kj19 (fun kq v17 v18 w' => ∃ (x17_3 : Int) (x18_3 : Int), v17 = .int .i64 x17_3 ∧ v18 = .int .i64 x18_3 ∧ Aside0 (laws_FnStages.l0 kq l1 t416 t421 t422 t430 x17_3 x18_3 = some r) ∧ Aside0 (kq ≤ kj19) ∧ Aside0 (Kd.S k34 34 w' w.heap.size (fun _ => True) (.slice Ao14 t416.length co14) t416) ∧ Aside0 (Kd.R (Kd.int .i64) 2 w' w.heap.size (fun k_ => some k_ ≠ (v432 : Value).ownBlock) (.slice Ao21 t421.length co21) t421) ∧ Aside0 (Kd.R (Kd.int .i64) 2 w' w.heap.size (fun k_ => some k_ ≠ ((.slice Ao21 t421.length co21) : Value).ownBlock) v432 t430) ∧ Aside0 (Below w.heap.size w w'))
          case atStart => exact ⟨(0), (0), rs, rs, H', ⟨Nat.le_refl _⟩, ⟨mv HO_5.out⟩, ⟨mv HO_8.out⟩, ⟨mv HO_15.out⟩, ⟨mvB HB.out⟩⟩
          case round =>
           clear H'
           try clear c7
           try clear c11b0
           try clear c11b1
           try clear c17b0
           try clear c17b1
           try clear c38
           obtain ⟨x17_3, x18_3, rfl, rfl, HA, HK3, HO_5, HO_8, HO_15, HB⟩ := hrel
           cases gk with
           | zero => exact absurd HA.out (by simp [laws_FnStages.l0])
           | succ k3 =>
            have H := HA.out
            clear HA
            simp only [laws_FnStages.l0] at H
            by_cases c39 : x18_3 < (t421.length : Int)
            ·
             rw [if_pos c39] at H
             have c39b0 : decide (x18_3 < (t421.length : Int)) = true := decide_eq_true c39
             clear c39
             by_cases c40 : 0 ≤ x18_3
             ·
              rw [if_pos c40] at H
              have c40b0 : decide (0 ≤ x18_3) = true := decide_eq_true c40
              clear c40
              by_cases c41 : 0 ≤ (rd t421 x18_3)
              ·
               rw [if_pos c41] at H
               have c41b0 : decide (0 ≤ (rd t421 x18_3)) = true := decide_eq_true c41
               clear c41
               by_cases c42 : (rd t421 x18_3) < (t416.length : Int)
               ·
                rw [if_pos c42] at H
                have c42b0 : decide ((rd t421 x18_3) < (t416.length : Int)) = true := decide_eq_true c42
                clear c42
                replace H := Option.bind_eq_some_iff.mp H
                obtain ⟨t438, A430, H⟩ := H
                replace H : (if t438 = true then (laws_FnStages.l0 k3 l1 t416 t421 t422 t430 (wrap64 (x17_3 + ((rd_T34 t416 (rd t421 x18_3)).f2))) (wrap64 (x18_3 + 1))) else (some false)) = some r := H
                have A43 := Aside0.mk A430
                clear A430
                by_cases c44 : t438 = true
                ·
                 subst c44
                 have H1 : (laws_FnStages.l0 k3 l1 t416 t421 t422 t430 (wrap64 (x17_3 + ((rd_T34 t416 (rd t421 x18_3)).f2))) (wrap64 (x18_3 + 1))) = some r := by rw [if_pos rfl] at H; exact H
                 clear H
                 have H := H1
                 clear H1
                 have H' := Aside0.mk H
                 clear H
                 have p435 : 0 ≤ (x18_3 : Int) := od
                 have q435 : x18_3 < (t421.length : Int) := od
                 obtain ⟨ad435, e435, hx435_0⟩ := Kd.at_int (Kd.R_reads' HO_8.out).2.2 x18_3 p435 q435
                 cases e435
                 replace p435 := eq_true p435
                 replace q435 := eq_true q435
                 have p436 : 0 ≤ ((rd t421 x18_3) : Int) := od
                 have q436 : (rd t421 x18_3) < (t416.length : Int) := od
                 obtain ⟨ad436, A436_3, c436_3, e436, hx436_0, hx436_1, hx436_2, hx436_3, hl436_3, hi436_3⟩ := at_T34 (Kd.S_reads' HO_5.out).2.2 (rd t421 x18_3) p436 q436
                 cases e436
                 obtain ⟨ce436, hce436, hMe436, hcc436⟩ := Kd.S_get HO_5.out z34 (rd t421 x18_3) p436 (by first | exact q436 | exact od | (have e_ := (Kd.S_reads' HO_5.out).1; omega))
                 obtain ⟨ve436_3, rfl, ge436_3⟩ := k34_openM hMe436
                 have hv436_3 := hcc436 3 _ rfl
                 rw [add_field _ _ 3 (by omega)] at hv436_3
                 replace hv436_3 := Option.some.inj (hv436_3.symm.trans hx436_3)
                 rw [hv436_3] at ge436_3
                 have HL436_3 := Aside0.mk (show Kd.R Kd.string 9 _ _ _ _ ((rd_T34 t416 (rd t421 x18_3)).f3) from ge436_3)
                 clear hv436_3 ge436_3 hcc436 hce436
                 have HR436_3 := Aside0.mk hi436_3
                 have HC436_3 := Aside0.mk hl436_3
                 clear hi436_3 hl436_3
                 replace p436 := eq_true p436
                 replace q436 := eq_true q436
                 have p437 : 0 ≤ (x18_3 : Int) := od
                 have q437 : x18_3 < (t421.length : Int) := od
                 obtain ⟨ad437, e437, hx437_0⟩ := Kd.at_int (Kd.R_reads' HO_8.out).2.2 x18_3 p437 q437
                 obtain rfl : ad435 = ad437 := (by injection e437)
                 replace p437 := eq_true p437
                 replace q437 := eq_true q437
                 obtain ⟨Ao45, co45, eo45⟩ := Kd.R_slice HO_15.out
                 subst eo45
                 go_wp2_with (first | ((with_reducible refine gate_callee (f := 34) rfl ?_); refine goesA_ (some 121) Try.func34 #[.slice Ao45 t430.length co45, .int .i64 (rd t421 x18_3)] ?_; (with_reducible refine (laws_b10Has.calls k3 _ _ t430 (rd t421 x18_3) true _ ?side1 ?side2 A43.out).mono ?_); (case side1 => exact mvC (Kd.R_reads' HO_15.out).2.2); (case side2 => exact (Kd.R_reads' HO_15.out).2.1); rintro e w' ⟨rfl, ⟨nd, rfl⟩⟩; refine ⟨_, rfl, ?_⟩))
                 go_roundg k3
                 case measure => have := HJ2.out; have := HJ19.out; have := HK3.out; omega
                 case rel => exact ⟨(wrap64 (x17_3 + ((rd_T34 t416 (rd t421 x18_3)).f2))), (wrap64 (x18_3 + 1)), rs, rs, H', ⟨by have := HJ2.out; have := HJ19.out; have := HK3.out; omega⟩, ⟨mv HO_5.out⟩, ⟨mv HO_8.out⟩, ⟨mv HO_15.out⟩, ⟨mvB HB.out⟩⟩
                ·
                 replace c44 := Bool.eq_false_iff.mpr c44
                 subst c44
                 have H1 : (some false) = some r := by rw [if_neg (show ¬ (false = true) by decide)] at H; exact H
                 clear H
                 have H := H1
                 clear H1
                 obtain rfl := Option.some.inj H
                 have p435 : 0 ≤ (x18_3 : Int) := od
                 have q435 : x18_3 < (t421.length : Int) := od
                 obtain ⟨ad435, e435, hx435_0⟩ := Kd.at_int (Kd.R_reads' HO_8.out).2.2 x18_3 p435 q435
                 cases e435
                 replace p435 := eq_true p435
                 replace q435 := eq_true q435
                 have p436 : 0 ≤ ((rd t421 x18_3) : Int) := od
                 have q436 : (rd t421 x18_3) < (t416.length : Int) := od
                 obtain ⟨ad436, A436_3, c436_3, e436, hx436_0, hx436_1, hx436_2, hx436_3, hl436_3, hi436_3⟩ := at_T34 (Kd.S_reads' HO_5.out).2.2 (rd t421 x18_3) p436 q436
                 cases e436
                 obtain ⟨ce436, hce436, hMe436, hcc436⟩ := Kd.S_get HO_5.out z34 (rd t421 x18_3) p436 (by first | exact q436 | exact od | (have e_ := (Kd.S_reads' HO_5.out).1; omega))
                 obtain ⟨ve436_3, rfl, ge436_3⟩ := k34_openM hMe436
                 have hv436_3 := hcc436 3 _ rfl
                 rw [add_field _ _ 3 (by omega)] at hv436_3
                 replace hv436_3 := Option.some.inj (hv436_3.symm.trans hx436_3)
                 rw [hv436_3] at ge436_3
                 have HL436_3 := Aside0.mk (show Kd.R Kd.string 9 _ _ _ _ ((rd_T34 t416 (rd t421 x18_3)).f3) from ge436_3)
                 clear hv436_3 ge436_3 hcc436 hce436
                 have HR436_3 := Aside0.mk hi436_3
                 have HC436_3 := Aside0.mk hl436_3
                 clear hi436_3 hl436_3
                 replace p436 := eq_true p436
                 replace q436 := eq_true q436
                 have p437 : 0 ≤ (x18_3 : Int) := od
                 have q437 : x18_3 < (t421.length : Int) := od
                 obtain ⟨ad437, e437, hx437_0⟩ := Kd.at_int (Kd.R_reads' HO_8.out).2.2 x18_3 p437 q437
                 obtain rfl : ad435 = ad437 := (by injection e437)
                 replace p437 := eq_true p437
                 replace q437 := eq_true q437
                 obtain ⟨Ao46, co46, eo46⟩ := Kd.R_slice HO_15.out
                 subst eo46
                 go_wp2_with (first | ((with_reducible refine gate_callee (f := 34) rfl ?_); refine goesA_ (some 121) Try.func34 #[.slice Ao46 t430.length co46, .int .i64 (rd t421 x18_3)] ?_; (with_reducible refine (laws_b10Has.calls k3 _ _ t430 (rd t421 x18_3) false _ ?side1 ?side2 A43.out).mono ?_); (case side1 => exact mvC (Kd.R_reads' HO_15.out).2.2); (case side2 => exact (Kd.R_reads' HO_15.out).2.1); rintro e w' ⟨rfl, ⟨nd, rfl⟩⟩; refine ⟨_, rfl, ?_⟩))
                 go_ret
                 exact ⟨by first | rfl | (simp [errW_none, errW_some] <;> rfl) | (simp [*, errW_none, errW_some] <;> rfl), mvB HB.out⟩
               ·
                rw [if_neg c42] at H
                exact absurd H (by simp)
              ·
               rw [if_neg c41] at H
               exact absurd H (by simp)
             ·
              rw [if_neg c40] at H
              exact absurd H (by simp)
            ·
             rw [if_neg c39] at H
             have c39b0 : decide (x18_3 < (t421.length : Int)) = false := decide_eq_false c39
             clear c39
             by_cases c47 : x17_3 = t422
             ·
              rw [if_pos c47] at H
              have c47b0 : (x17_3 == t422) = true := beq_iff_eq.mpr c47
              have c47b1 : (x17_3 != t422) = false := bne_eq_false_iff_eq.mpr c47
              clear c47
              replace H := Option.bind_eq_some_iff.mp H
              obtain ⟨⟨t439, t440⟩, A480, H⟩ := H
              replace H : (if t440 = 0 then (laws_FnStages.j3 k3 l1) else (some false)) = some r := H
              have A48 := Aside0.mk A480
              clear A480
              by_cases c49 : t440 = 0
              ·
               rw [if_pos c49] at H
               have c49b0 : (t440 == 0) = true := beq_iff_eq.mpr c49
               have c49b1 : (t440 != 0) = false := bne_eq_false_iff_eq.mpr c49
               clear c49
               have H' := Aside0.mk H
               clear H
               obtain ⟨Ao50, co50, eo50⟩ := Kd.R_slice HO_15.out
               subst eo50
               go_wp2_with (first | ((with_reducible refine gate_callee (f := 12) rfl ?_); refine goesA_ (some 129) Try.func12 #[.slice Ao14 t416.length co14, .slice Ao50 t430.length co50, .int .i64 100] ?_; (with_reducible refine (impl_YearsOf.calls k3 _ _ t416 _ _ t430 100 t439 t440 _ ?side1 ?side2 ?side3 ?side4 A48.out).mono ?_); (case side1 => exact mvC (Kd.S_reads' HO_5.out).2.2); (case side2 => exact (Kd.S_reads' HO_5.out).2.1); (case side3 => exact mvC (Kd.R_reads' HO_15.out).2.2); (case side4 => exact (Kd.R_reads' HO_15.out).2.1); rintro e w51 ⟨v441, rfl, ho0, hb⟩; refine ⟨_, rfl, ?_⟩; have n0_ := Aside0.mk (Kd.S_below (mv HO_5.out) hb); have n1_ := Aside0.mk (Kd.R_elder' (mv HO_8.out) (Kd.R_base ho0) hb); have n2_ := Aside0.mk (Kd.R_elder' (mv HO_15.out) (Kd.R_base ho0) hb); have n3_ := Aside0.mk (Kd.R_lower (Kd.R_new' (Kd.R_new' ho0 (Kd.R_lt (mv HO_8.out))) (Kd.R_lt (mv HO_15.out))) (below_size (mvB HB.out))); have n4_ := Aside0.mk (below_step (mvB HB.out) hb); clear HO_5 HO_8 HO_15 HB; revert n0_ n1_ n2_ n3_ n4_; intro HO_5 HO_8 HO_15 HO442 HB; (try clear hb); (try clear ho0)))
               go_meet
               case rel => exact ⟨_, H', ⟨by have := HJ2.out; have := HJ19.out; have := HK3.out; first | omega | exact Nat.le_refl _⟩, ⟨mvB HB.out⟩⟩
              ·
               rw [if_neg c49] at H
               have c49b0 : (t440 == 0) = false := beq_eq_false_iff_ne.mpr c49
               have c49b1 : (t440 != 0) = true := bne_iff_ne.mpr c49
               obtain rfl := Option.some.inj H
               obtain ⟨Ao52, co52, eo52⟩ := Kd.R_slice HO_15.out
               subst eo52
               go_wp2_with (first | ((with_reducible refine gate_callee (f := 12) rfl ?_); refine goesA_ (some 129) Try.func12 #[.slice Ao14 t416.length co14, .slice Ao52 t430.length co52, .int .i64 100] ?_; (with_reducible refine (impl_YearsOf.calls k3 _ _ t416 _ _ t430 100 t439 t440 _ ?side1 ?side2 ?side3 ?side4 A48.out).mono ?_); (case side1 => exact mvC (Kd.S_reads' HO_5.out).2.2); (case side2 => exact (Kd.S_reads' HO_5.out).2.1); (case side3 => exact mvC (Kd.R_reads' HO_15.out).2.2); (case side4 => exact (Kd.R_reads' HO_15.out).2.1); rintro e w53 ⟨v441, rfl, ho0, hb⟩; refine ⟨_, rfl, ?_⟩; have n0_ := Aside0.mk (Kd.S_below (mv HO_5.out) hb); have n1_ := Aside0.mk (Kd.R_elder' (mv HO_8.out) (Kd.R_base ho0) hb); have n2_ := Aside0.mk (Kd.R_elder' (mv HO_15.out) (Kd.R_base ho0) hb); have n3_ := Aside0.mk (Kd.R_lower (Kd.R_new' (Kd.R_new' ho0 (Kd.R_lt (mv HO_8.out))) (Kd.R_lt (mv HO_15.out))) (below_size (mvB HB.out))); have n4_ := Aside0.mk (below_step (mvB HB.out) hb); clear HO_5 HO_8 HO_15 HB; revert n0_ n1_ n2_ n3_ n4_; intro HO_5 HO_8 HO_15 HO442 HB; (try clear hb); (try clear ho0)))
               go_ret
               exact ⟨by first | rfl | (simp [errW_none, errW_some] <;> rfl) | (simp [*, errW_none, errW_some] <;> rfl), mvB HB.out⟩
             ·
              rw [if_neg c47] at H
              have c47b0 : (x17_3 == t422) = false := beq_eq_false_iff_ne.mpr c47
              have c47b1 : (x17_3 != t422) = true := bne_iff_ne.mpr c47
              obtain rfl := Option.some.inj H
              go_wp2
              go_ret
              exact ⟨by first | rfl | (simp [errW_none, errW_some] <;> rfl) | (simp [*, errW_none, errW_some] <;> rfl), mvB HB.out⟩
      ·
       rw [if_neg c17] at H
       have c17b0 : (t423 == 0) = false := beq_eq_false_iff_ne.mpr c17
       have c17b1 : (t423 != 0) = true := bne_iff_ne.mpr c17
       (first | rw [c17b0] | (simp only [i64_w, i32_w]; rw [c17b0]) | skip)
       have H' := Aside0.mk H
       clear H
       go_wp2
       go_meet
       case rel => exact ⟨_, H', ⟨by have := HJ2.out; first | omega | exact Nat.le_refl _⟩, ⟨mvB HB.out⟩⟩
     case rest =>
      clear HC12
      try clear c7
      try clear c11b0
      try clear c11b1
      obtain ⟨kq, HA, HJ11, HB⟩ := hcut
      cases kq with
      | zero => exact absurd HA.out (by simp [laws_FnStages.j3])
      | succ kj11 =>
       have H := HA.out
       clear HA
       simp only [laws_FnStages.j3] at H
       replace H := Option.bind_eq_some_iff.mp H
       obtain ⟨⟨t443, t444⟩, A540, H⟩ := H
       replace H : ((impl_ReadyStages.f kj11 t443 t444).bind fun bt449 => (if bt449.2 = 0 then (laws_FnStages.l1 kj11 t443 t444 bt449.1 0) else (some ((bt449.1.length : Int) == 0)))) = some r := H
       have A54 := Aside0.mk A540
       clear A540
       replace H := Option.bind_eq_some_iff.mp H
       obtain ⟨⟨t449, t450⟩, A550, H⟩ := H
       replace H : (if t450 = 0 then (laws_FnStages.l1 kj11 t443 t444 t449 0) else (some ((t449.length : Int) == 0))) = some r := H
       have A55 := Aside0.mk A550
       clear A550
       by_cases c56 : t450 = 0
       ·
        rw [if_pos c56] at H
        have c56b0 : (t450 == 0) = true := beq_iff_eq.mpr c56
        have c56b1 : (t450 != 0) = false := bne_eq_false_iff_eq.mpr c56
        clear c56
        have H' := Aside0.mk H
        clear H
        go_wp2_with (first | ((with_reducible refine gate_callee (f := 35) rfl ?_); refine goesA_ (some 136) Try.func35 #[.slice A1 l1.length c1] ?_; (with_reducible refine (spec_DrawReadyStages.calls kj11 _ _ l1 t443 t444 _ ?side1 ?side2 A54.out).mono ?_); (case side1 => exact mvC (Kd.C_below HR1.out HB.out)); (case side2 => exact HC1.out); rintro e w57 ⟨v445, v447, rfl, ho0, ho1, hb⟩; refine ⟨_, rfl, ?_⟩; have n0_ := Aside0.mk (Kd.S_lower ho0 (below_size (mvB HB.out))); have n1_ := Aside0.mk (Kd.R_lower ho1 (below_size (mvB HB.out))); have n2_ := Aside0.mk (below_step (mvB HB.out) hb); clear HB; revert n0_ n1_ n2_; intro HO446 HO448 HB; (try clear hb); (try clear ho0); (try clear ho1); obtain ⟨Ao58, co58, eo58⟩ := Kd.S_slice HO446.out; subst eo58; obtain ⟨Ao59, co59, eo59⟩ := Kd.R_slice HO448.out; subst eo59) | ((with_reducible refine gate_callee (f := 36) rfl ?_); refine goesA_ (some 142) Try.func36 #[.slice Ao58 t443.length co58, .slice Ao59 t444.length co59] ?_; (with_reducible refine (impl_ReadyStages.calls kj11 _ _ t443 _ _ t444 t449 t450 _ ?side1 ?side2 ?side3 ?side4 A55.out).mono ?_); (case side1 => exact mvC (Kd.S_reads' HO446.out).2.2); (case side2 => exact (Kd.S_reads' HO446.out).2.1); (case side3 => exact mvC (Kd.R_reads' HO448.out).2.2); (case side4 => exact (Kd.R_reads' HO448.out).2.1); rintro e w60 ⟨v451, rfl, ho0, hb⟩; refine ⟨_, rfl, ?_⟩; have n0_ := Aside0.mk (Kd.S_below (mv HO446.out) hb); have n1_ := Aside0.mk (Kd.R_elder' (mv HO448.out) (Kd.R_base ho0) hb); have n2_ := Aside0.mk (Kd.R_lower (Kd.R_new' ho0 (Kd.R_lt (mv HO448.out))) (below_size (mvB HB.out))); have n3_ := Aside0.mk (below_step (mvB HB.out) hb); clear HO446 HO448 HB; revert n0_ n1_ n2_ n3_; intro HO446 HO448 HO452 HB; (try clear hb); (try clear ho0)))
        go_loopg [25] kj11 (fun kq v25 w' => ∃ (x25_3 : Int), v25 = .int .i64 x25_3 ∧ Aside0 (laws_FnStages.l1 kq t443 t444 t449 x25_3 = some r) ∧ Aside0 (kq ≤ kj11) ∧ Aside0 (Kd.S k34 34 w' w.heap.size (fun _ => True) (.slice Ao58 t443.length co58) t443) ∧ Aside0 (Kd.R (Kd.int .i64) 2 w' w.heap.size (fun k_ => some k_ ≠ (v451 : Value).ownBlock) (.slice Ao59 t444.length co59) t444) ∧ Aside0 (Kd.R (Kd.int .i64) 2 w' w.heap.size (fun k_ => some k_ ≠ ((.slice Ao59 t444.length co59) : Value).ownBlock) v451 t449) ∧ Aside0 (Below w.heap.size w w'))
        case atStart => exact ⟨(0), rs, H', ⟨Nat.le_refl _⟩, ⟨mv HO446.out⟩, ⟨by (with_reducible repeat (first | apply Kd.R_alloc | apply Kd.R_drewN | apply Kd.R_drew)); exact Kd.R_mono HO448.out (fun _ hk => hk.2)⟩, ⟨by (with_reducible repeat (first | apply Kd.R_alloc | apply Kd.R_drewN | apply Kd.R_drew)); exact Kd.R_mono HO452.out (fun _ hk => hk.2)⟩, ⟨mvB HB.out⟩⟩
        case round =>
         clear H'
         try clear c7
         try clear c11b0
         try clear c11b1
         try clear c56b0
         try clear c56b1
         obtain ⟨x25_3, rfl, HA, HK3, HO_21, HO_22, HO_23, HB⟩ := hrel
         cases gk with
         | zero => exact absurd HA.out (by simp [laws_FnStages.l1])
         | succ k3 =>
          have H := HA.out
          clear HA
          simp only [laws_FnStages.l1] at H
          by_cases c61 : x25_3 < (t443.length : Int)
          ·
           rw [if_pos c61] at H
           have c61b0 : decide (x25_3 < (t443.length : Int)) = true := decide_eq_true c61
           clear c61
           replace H := Option.bind_eq_some_iff.mp H
           obtain ⟨t453, A620, H⟩ := H
           replace H : (if t453 = true then ((laws_b10Has.f k3 t449 x25_3).bind fun t454 => (if t454 = true then (some false) else (laws_FnStages.l1 k3 t443 t444 t449 (wrap64 (x25_3 + 1))))) else (laws_FnStages.l2 k3 t443 t444 t449 x25_3 (([] : List Int)) 0)) = some r := H
           have A62 := Aside0.mk A620
           clear A620
           by_cases c63 : t453 = true
           ·
            subst c63
            have H1 : ((laws_b10Has.f k3 t449 x25_3).bind fun t454 => (if t454 = true then (some false) else (laws_FnStages.l1 k3 t443 t444 t449 (wrap64 (x25_3 + 1))))) = some r := by rw [if_pos rfl] at H; exact H
            clear H
            have H := H1
            clear H1
            replace H := Option.bind_eq_some_iff.mp H
            obtain ⟨t454, A640, H⟩ := H
            replace H : (if t454 = true then (some false) else (laws_FnStages.l1 k3 t443 t444 t449 (wrap64 (x25_3 + 1)))) = some r := H
            have A64 := Aside0.mk A640
            clear A640
            by_cases c65 : t454 = true
            ·
             subst c65
             have H1 : (some false) = some r := by rw [if_pos rfl] at H; exact H
             clear H
             have H := H1
             clear H1
             obtain rfl := Option.some.inj H
             go_wp2_with (first | ((with_reducible refine gate_callee (f := 34) rfl ?_); refine goesA_ (some 158) Try.func34 #[.slice Ao59 t444.length co59, .int .i64 x25_3] ?_; (with_reducible refine (laws_b10Has.calls k3 _ _ t444 x25_3 true _ ?side1 ?side2 A62.out).mono ?_); (case side1 => exact mvC (Kd.R_reads' HO_22.out).2.2); (case side2 => exact (Kd.R_reads' HO_22.out).2.1); rintro e w' ⟨rfl, ⟨nd, rfl⟩⟩; refine ⟨_, rfl, ?_⟩; obtain ⟨Ao66, co66, eo66⟩ := Kd.R_slice HO_23.out; subst eo66) | ((with_reducible refine gate_callee (f := 34) rfl ?_); refine goesA_ (some 161) Try.func34 #[.slice Ao66 t449.length co66, .int .i64 x25_3] ?_; (with_reducible refine (laws_b10Has.calls k3 _ _ t449 x25_3 true _ ?side1 ?side2 A64.out).mono ?_); (case side1 => exact mvC (Kd.R_reads' HO_23.out).2.2); (case side2 => exact (Kd.R_reads' HO_23.out).2.1); rintro e w' ⟨rfl, ⟨nd, rfl⟩⟩; refine ⟨_, rfl, ?_⟩))
             go_ret
             exact ⟨by first | rfl | (simp [errW_none, errW_some] <;> rfl) | (simp [*, errW_none, errW_some] <;> rfl), mvB HB.out⟩
            ·
             replace c65 := Bool.eq_false_iff.mpr c65
             subst c65
             have H1 : (laws_FnStages.l1 k3 t443 t444 t449 (wrap64 (x25_3 + 1))) = some r := by rw [if_neg (show ¬ (false = true) by decide)] at H; exact H
             clear H
             have H := H1
             clear H1
             have H' := Aside0.mk H
             clear H
             go_wp2_with (first | ((with_reducible refine gate_callee (f := 34) rfl ?_); refine goesA_ (some 158) Try.func34 #[.slice Ao59 t444.length co59, .int .i64 x25_3] ?_; (with_reducible refine (laws_b10Has.calls k3 _ _ t444 x25_3 true _ ?side1 ?side2 A62.out).mono ?_); (case side1 => exact mvC (Kd.R_reads' HO_22.out).2.2); (case side2 => exact (Kd.R_reads' HO_22.out).2.1); rintro e w' ⟨rfl, ⟨nd, rfl⟩⟩; refine ⟨_, rfl, ?_⟩; obtain ⟨Ao67, co67, eo67⟩ := Kd.R_slice HO_23.out; subst eo67) | ((with_reducible refine gate_callee (f := 34) rfl ?_); refine goesA_ (some 161) Try.func34 #[.slice Ao67 t449.length co67, .int .i64 x25_3] ?_; (with_reducible refine (laws_b10Has.calls k3 _ _ t449 x25_3 false _ ?side1 ?side2 A64.out).mono ?_); (case side1 => exact mvC (Kd.R_reads' HO_23.out).2.2); (case side2 => exact (Kd.R_reads' HO_23.out).2.1); rintro e w' ⟨rfl, ⟨nd, rfl⟩⟩; refine ⟨_, rfl, ?_⟩))
             go_roundg k3
             case measure => have := HJ2.out; have := HJ11.out; have := HK3.out; omega
             case rel => exact ⟨(wrap64 (x25_3 + 1)), rs, H', ⟨by have := HJ2.out; have := HJ11.out; have := HK3.out; omega⟩, ⟨mv HO_21.out⟩, ⟨mv HO_22.out⟩, ⟨mv HO_23.out⟩, ⟨mvB HB.out⟩⟩
           ·
            replace c63 := Bool.eq_false_iff.mpr c63
            subst c63
            have H1 : (laws_FnStages.l2 k3 t443 t444 t449 x25_3 (([] : List Int)) 0) = some r := by rw [if_neg (show ¬ (false = true) by decide)] at H; exact H
            clear H
            have H := H1
            clear H1
            obtain ⟨y455, hy455⟩ : ∃ y_ : List Int, y_ = (([] : List Int)) := ⟨_, rfl⟩
            replace H : (laws_FnStages.l2 k3 t443 t444 t449 x25_3 y455 0) = some r := by first | (rw [hy455]; with_reducible exact H) | (have H2_ := (Option.bind_some _ _).symm.trans H; rw [hy455]; with_reducible exact H2_) | (have H2_ := (Option.bind_some _ _).symm.trans H; with_reducible exact H2_) | with_reducible exact H | (rw [hy455]; exact H) | exact H
            have Ny455 := Aside0.mk hy455
            clear hy455
            have H' := Aside0.mk H
            clear H
            go_wp2_with (first | ((with_reducible refine gate_callee (f := 34) rfl ?_); refine goesA_ (some 158) Try.func34 #[.slice Ao59 t444.length co59, .int .i64 x25_3] ?_; (with_reducible refine (laws_b10Has.calls k3 _ _ t444 x25_3 false _ ?side1 ?side2 A62.out).mono ?_); (case side1 => exact mvC (Kd.R_reads' HO_22.out).2.2); (case side2 => exact (Kd.R_reads' HO_22.out).2.1); rintro e w' ⟨rfl, ⟨nd, rfl⟩⟩; refine ⟨_, rfl, ?_⟩) | ((with_reducible refine gate_dst (N := 162) rfl ?_); (try (refine gate_guard (by rfl) ?_; dsimp only)); refine Kd.R_lit (Kd.int .i64) _ 2 ?hg (N := 162) ?hd (xs := ([] : List Int)) (inner := []) (ok := fun _ => True) (okp := fun _ => True) ?hr ?hp (fun _ hk => hk) trivial (Below.refl _ _) (Nat.le_refl _) (by simp) ?_; (case hd => rfl); (case hg => rfl); (case hr => first | (go_simp; done) | (go_simp; rfl)); (case hp => exact (Reps.none _ _)); intro v456 w68 ho69 hb hg_ hnew_; clear hg_ hnew_; (first | rw [← Ny455.out] at ho69 | (simp only [Int.reduceToNat] at ho69; rw [← Ny455.out] at ho69)); have n0_ := Aside0.mk (Kd.S_below (mv HO_21.out) hb); have n1_ := Aside0.mk (Kd.R_elder' (mv HO_22.out) (Kd.R_base ho69) hb); have n2_ := Aside0.mk (Kd.R_elder' (mv HO_23.out) (Kd.R_base ho69) hb); have n3_ := Aside0.mk (Kd.R_lower (Kd.R_new' (Kd.R_new' ho69 (Kd.R_lt (mv HO_22.out))) (Kd.R_lt (mv HO_23.out))) (below_size (mvB HB.out))); have n4_ := Aside0.mk (below_step (mvB HB.out) hb); clear HO_21 HO_22 HO_23 HB; revert n0_ n1_ n2_ n3_ n4_; intro HO_21 HO_22 HO_23 HO457 HB; clear hb ho69))
            go_loopg [26, 27] k3 (fun kq v26 v27 w' => ∃ (x26_4 : List Int) (x27_4 : Int), v27 = .int .i64 x27_4 ∧ Aside0 (laws_FnStages.l2 kq t443 t444 t449 x25_3 x26_4 x27_4 = some r) ∧ Aside0 (kq ≤ k3) ∧ Aside0 (Kd.S k34 34 w' w.heap.size (fun _ => True) (.slice Ao58 t443.length co58) t443) ∧ Aside0 (Kd.R (Kd.int .i64) 2 w' w.heap.size (fun k_ => some k_ ≠ (v451 : Value).ownBlock ∧ some k_ ≠ (v26 : Value).ownBlock) (.slice Ao59 t444.length co59) t444) ∧ Aside0 (Kd.R (Kd.int .i64) 2 w' w.heap.size (fun k_ => some k_ ≠ ((.slice Ao59 t444.length co59) : Value).ownBlock ∧ some k_ ≠ (v26 : Value).ownBlock) v451 t449) ∧ Aside0 (Kd.R (Kd.int .i64) 2 w' w.heap.size (fun k_ => some k_ ≠ ((.slice Ao59 t444.length co59) : Value).ownBlock ∧ some k_ ≠ (v451 : Value).ownBlock) v26 x26_4) ∧ Aside0 (Below w.heap.size w w'))
            case atStart => exact ⟨(y455), (0), rs, H', ⟨Nat.le_refl _⟩, ⟨mv HO_21.out⟩, ⟨mv HO_22.out⟩, ⟨mv HO_23.out⟩, ⟨by (with_reducible repeat (first | apply Kd.R_alloc | apply Kd.R_drewN | apply Kd.R_drew)); exact Kd.R_mono HO457.out (fun _ hk => ⟨hk.1.2, hk.2⟩)⟩, ⟨mvB HB.out⟩⟩
            case round =>
             clear H'
             try clear c7
             try clear c11b0
             try clear c11b1
             try clear c56b0
             try clear c56b1
             try clear c61b0
             try clear c63
             obtain ⟨x26_4, x27_4, rfl, HA, HK4, HO_21, HO_22, HO_23, HO_26, HB⟩ := hrel
             cases gk with
             | zero => exact absurd HA.out (by simp [laws_FnStages.l2])
             | succ k4 =>
              have H := HA.out
              clear HA
              simp only [laws_FnStages.l2] at H
              by_cases c70 : x27_4 < (t443.length : Int)
              ·
               rw [if_pos c70] at H
               have c70b0 : decide (x27_4 < (t443.length : Int)) = true := decide_eq_true c70
               clear c70
               by_cases c71 : x27_4 = x25_3
               ·
                rw [if_pos c71] at H
                have c71b0 : (x27_4 == x25_3) = true := beq_iff_eq.mpr c71
                have c71b1 : (x27_4 != x25_3) = false := bne_eq_false_iff_eq.mpr c71
                clear c71
                by_cases c72 : x26_4.length < 17592186044416
                ·
                 rw [if_pos c72] at H
                 have LMc72 := Aside0.mk c72
                 clear c72
                 obtain ⟨y458, hy458⟩ : ∃ y_ : List Int, y_ = (x26_4 ++ [x27_4]) := ⟨_, rfl⟩
                 replace H : (laws_FnStages.l2 k4 t443 t444 t449 x25_3 y458 (wrap64 (x27_4 + 1))) = some r := by first | (rw [hy458]; with_reducible exact H) | (have H2_ := (Option.bind_some _ _).symm.trans H; rw [hy458]; with_reducible exact H2_) | (have H2_ := (Option.bind_some _ _).symm.trans H; with_reducible exact H2_) | with_reducible exact H | (rw [hy458]; exact H) | exact H
                 have Ny458 := Aside0.mk hy458
                 clear hy458
                 have H' := Aside0.mk H
                 clear H
                 go_wp2_with (first | ((with_reducible refine gate_builtin (b := .append) (xs := #[.tmp 177, .tmp 179]) rfl ?_); (try (refine gate_guard (by rfl) ?_; dsimp only)); at_builtin; refine Kd.R_append (Kd.int .i64) (w0 := w) w.heap.size rfl (.tmp 177) (.tmp 179) 27 2 (.int .i64 0) 8 rfl Try.underlying27 info2 rfl (by decide) (by omega) u26 x26_4 x27_4 [.int .i64 x27_4] (fun k_ => some k_ ≠ (.slice Ao59 t444.length co59 : Value).ownBlock ∧ some k_ ≠ (v451 : Value).ownBlock) (fun _ => False) rfl rfl ?aP (fun _ hk => hk.elim) ?aF ?aO ?aB ?aS ?aL ?_; (case aP => exact rfl); (case aB => exact (mvB HB.out)); (case aF => exact (fun k_ hk => ⟨Kd.fresh' (Kd.R_lt (mv HO_22.out)) k_ hk, Kd.fresh' (Kd.R_lt (mv HO_23.out)) k_ hk⟩)); (case aO => exact (mv HO_26.out)); (case aS => exact (below_size (mvB HB.out))); (case aL => have := LMc72.out; omega); intro v459 w73 ho hb hg hat; rw [← Ny458.out] at ho; have n0_ := Aside0.mk (Kd.S_over' (mv HO_21.out) (Kd.R_typed (mv HO_26.out)) (by decide) hg); have n1_ := Aside0.mk (Kd.R_after (ok := (fun k_ => some k_ ≠ (v451 : Value).ownBlock)) (mv HO_22.out) hg hat); have n2_ := Aside0.mk (Kd.R_after (ok := (fun k_ => some k_ ≠ (.slice Ao59 t444.length co59 : Value).ownBlock)) (mv HO_23.out) hg hat); have n3_ := Aside0.mk (hb); have n4_ := Aside0.mk (ho); clear HO_21 HO_22 HO_23 HB HO_26; revert n0_ n1_ n2_ n3_ n4_; intro HO_21 HO_22 HO_23 HB HO460; clear ho hb hg hat))
                 go_roundg k4
                 case measure => have := HJ2.out; have := HJ11.out; have := HK3.out; have := HK4.out; omega
                 case rel => exact ⟨(y458), (wrap64 (x27_4 + 1)), rs, H', ⟨by have := HJ2.out; have := HJ11.out; have := HK3.out; have := HK4.out; omega⟩, ⟨mv HO_21.out⟩, ⟨mv HO_22.out⟩, ⟨mv HO_23.out⟩, ⟨mv HO460.out⟩, ⟨mvB HB.out⟩⟩
                ·
                 rw [if_neg c72] at H
                 exact absurd H (by simp)
               ·
                rw [if_neg c71] at H
                have c71b0 : (x27_4 == x25_3) = false := beq_eq_false_iff_ne.mpr c71
                have c71b1 : (x27_4 != x25_3) = true := bne_iff_ne.mpr c71
                replace H := Option.bind_eq_some_iff.mp H
                obtain ⟨t461, A740, H⟩ := H
                replace H : (if t461 = true then (if x26_4.length < 17592186044416 then (laws_FnStages.l2 k4 t443 t444 t449 x25_3 (x26_4 ++ [x27_4]) (wrap64 (x27_4 + 1))) else (none)) else (laws_FnStages.l2 k4 t443 t444 t449 x25_3 x26_4 (wrap64 (x27_4 + 1)))) = some r := H
                have A74 := Aside0.mk A740
                clear A740
                by_cases c75 : t461 = true
                ·
                 subst c75
                 have H1 : (if x26_4.length < 17592186044416 then (laws_FnStages.l2 k4 t443 t444 t449 x25_3 (x26_4 ++ [x27_4]) (wrap64 (x27_4 + 1))) else (none)) = some r := by rw [if_pos rfl] at H; exact H
                 clear H
                 have H := H1
                 clear H1
                 by_cases c76 : x26_4.length < 17592186044416
                 ·
                  rw [if_pos c76] at H
                  have LMc76 := Aside0.mk c76
                  clear c76
                  obtain ⟨y462, hy462⟩ : ∃ y_ : List Int, y_ = (x26_4 ++ [x27_4]) := ⟨_, rfl⟩
                  replace H : (laws_FnStages.l2 k4 t443 t444 t449 x25_3 y462 (wrap64 (x27_4 + 1))) = some r := by first | (rw [hy462]; with_reducible exact H) | (have H2_ := (Option.bind_some _ _).symm.trans H; rw [hy462]; with_reducible exact H2_) | (have H2_ := (Option.bind_some _ _).symm.trans H; with_reducible exact H2_) | with_reducible exact H | (rw [hy462]; exact H) | exact H
                  have Ny462 := Aside0.mk hy462
                  clear hy462
                  have H' := Aside0.mk H
                  clear H
                  go_wp2_with (first | (go_at_call 34; (with_reducible refine (laws_b10Has.calls k4 _ _ t444 x27_4 true _ ?side1 ?side2 A74.out).mono ?_); (case side1 => exact mvC (Kd.R_reads' HO_22.out).2.2); (case side2 => exact (Kd.R_reads' HO_22.out).2.1); rintro e w' ⟨rfl, ⟨nd, rfl⟩⟩) | ((with_reducible refine gate_builtin (b := .append) (xs := #[.tmp 177, .tmp 179]) rfl ?_); (try (refine gate_guard (by rfl) ?_; dsimp only)); at_builtin; refine Kd.R_append (Kd.int .i64) (w0 := w) w.heap.size rfl (.tmp 177) (.tmp 179) 27 2 (.int .i64 0) 8 rfl Try.underlying27 info2 rfl (by decide) (by omega) u26 x26_4 x27_4 [.int .i64 x27_4] (fun k_ => some k_ ≠ (.slice Ao59 t444.length co59 : Value).ownBlock ∧ some k_ ≠ (v451 : Value).ownBlock) (fun _ => False) rfl rfl ?aP (fun _ hk => hk.elim) ?aF ?aO ?aB ?aS ?aL ?_; (case aP => exact rfl); (case aB => exact (mvB HB.out)); (case aF => exact (fun k_ hk => ⟨Kd.fresh' (Kd.R_lt (mv HO_22.out)) k_ hk, Kd.fresh' (Kd.R_lt (mv HO_23.out)) k_ hk⟩)); (case aO => exact (mv HO_26.out)); (case aS => exact (below_size (mvB HB.out))); (case aL => have := LMc76.out; omega); intro v463 w77 ho hb hg hat; rw [← Ny462.out] at ho; have n0_ := Aside0.mk (Kd.S_over' (mv HO_21.out) (Kd.R_typed (mv HO_26.out)) (by decide) hg); have n1_ := Aside0.mk (Kd.R_after (ok := (fun k_ => some k_ ≠ (v451 : Value).ownBlock)) (mv HO_22.out) hg hat); have n2_ := Aside0.mk (Kd.R_after (ok := (fun k_ => some k_ ≠ (.slice Ao59 t444.length co59 : Value).ownBlock)) (mv HO_23.out) hg hat); have n3_ := Aside0.mk (hb); have n4_ := Aside0.mk (ho); clear HO_21 HO_22 HO_23 HB HO_26; revert n0_ n1_ n2_ n3_ n4_; intro HO_21 HO_22 HO_23 HB HO464; clear ho hb hg hat))
                  go_roundg k4
                  case measure => have := HJ2.out; have := HJ11.out; have := HK3.out; have := HK4.out; omega
                  case rel => exact ⟨(y462), (wrap64 (x27_4 + 1)), rs, H', ⟨by have := HJ2.out; have := HJ11.out; have := HK3.out; have := HK4.out; omega⟩, ⟨mv HO_21.out⟩, ⟨mv HO_22.out⟩, ⟨mv HO_23.out⟩, ⟨mv HO464.out⟩, ⟨mvB HB.out⟩⟩
                 ·
                  rw [if_neg c76] at H
                  exact absurd H (by simp)
                ·
                 replace c75 := Bool.eq_false_iff.mpr c75
                 subst c75
                 have H1 : (laws_FnStages.l2 k4 t443 t444 t449 x25_3 x26_4 (wrap64 (x27_4 + 1))) = some r := by rw [if_neg (show ¬ (false = true) by decide)] at H; exact H
                 clear H
                 have H := H1
                 clear H1
                 have H' := Aside0.mk H
                 clear H
                 go_wp2_with (first | (go_at_call 34; (with_reducible refine (laws_b10Has.calls k4 _ _ t444 x27_4 false _ ?side1 ?side2 A74.out).mono ?_); (case side1 => exact mvC (Kd.R_reads' HO_22.out).2.2); (case side2 => exact (Kd.R_reads' HO_22.out).2.1); rintro e w' ⟨rfl, ⟨nd, rfl⟩⟩))
                 go_roundg k4
                 case measure => have := HJ2.out; have := HJ11.out; have := HK3.out; have := HK4.out; omega
                 case rel => exact ⟨(x26_4), (wrap64 (x27_4 + 1)), rs, H', ⟨by have := HJ2.out; have := HJ11.out; have := HK3.out; have := HK4.out; omega⟩, ⟨mv HO_21.out⟩, ⟨mv HO_22.out⟩, ⟨mv HO_23.out⟩, ⟨mv HO_26.out⟩, ⟨mvB HB.out⟩⟩
              ·
               rw [if_neg c70] at H
               have c70b0 : decide (x27_4 < (t443.length : Int)) = false := decide_eq_false c70
               clear c70
               replace H := Option.bind_eq_some_iff.mp H
               obtain ⟨t465, A780, H⟩ := H
               replace H : (if t465 = true then ((laws_b10Has.f k4 t449 x25_3).bind fun t466 => ((spec_IsBuildable.f k4 t443 x26_4).bind fun t467 => (if (t466 != t467) = true then (some false) else (laws_FnStages.l1 k4 t443 t444 t449 (wrap64 (x25_3 + 1)))))) else (laws_FnStages.l1 k4 t443 t444 t449 (wrap64 (x25_3 + 1)))) = some r := H
               have A78 := Aside0.mk A780
               clear A780
               by_cases c79 : t465 = true
               ·
                subst c79
                have H1 : ((laws_b10Has.f k4 t449 x25_3).bind fun t466 => ((spec_IsBuildable.f k4 t443 x26_4).bind fun t467 => (if (t466 != t467) = true then (some false) else (laws_FnStages.l1 k4 t443 t444 t449 (wrap64 (x25_3 + 1)))))) = some r := by rw [if_pos rfl] at H; exact H
                clear H
                have H := H1
                clear H1
                replace H := Option.bind_eq_some_iff.mp H
                obtain ⟨t466, A800, H⟩ := H
                replace H : ((spec_IsBuildable.f k4 t443 x26_4).bind fun t467 => (if (t466 != t467) = true then (some false) else (laws_FnStages.l1 k4 t443 t444 t449 (wrap64 (x25_3 + 1))))) = some r := H
                have A80 := Aside0.mk A800
                clear A800
                replace H := Option.bind_eq_some_iff.mp H
                obtain ⟨t467, A810, H⟩ := H
                replace H : (if (t466 != t467) = true then (some false) else (laws_FnStages.l1 k4 t443 t444 t449 (wrap64 (x25_3 + 1)))) = some r := H
                have A81 := Aside0.mk A810
                clear A810
                by_cases c82 : (t466 != t467) = true
                ·
                 rw [if_pos c82] at H
                 have c82b0 : (t466 != t467) = true := c82
                 (try (have c82b1 : decide (t466 = t467) = false := by simpa using c82))
                 (try (have c82b2 : (t466 == t467) = false := by simpa using c82))
                 (try (have c82b3 : ¬ (t466 = t467) := by simpa using c82))
                 clear c82
                 obtain rfl := Option.some.inj H
                 go_wp2_with (first | ((with_reducible refine gate_callee (f := 33) rfl ?_); refine goesA_ (some 183) Try.func33 #[.slice Ao58 t443.length co58, .slice Ao59 t444.length co59] ?_; (with_reducible refine (spec_IsBuildable.calls k4 _ _ t443 _ _ t444 true _ ?side1 ?side2 ?side3 ?side4 A78.out).mono ?_); (case side1 => exact mvC (Kd.S_reads' HO_21.out).2.2); (case side2 => exact (Kd.S_reads' HO_21.out).2.1); (case side3 => exact mvC (Kd.R_reads' HO_22.out).2.2); (case side4 => exact (Kd.R_reads' HO_22.out).2.1); rintro e w83 ⟨rfl, hb⟩; refine ⟨_, rfl, ?_⟩; have n0_ := Aside0.mk (Kd.S_below (mv HO_21.out) hb); have n1_ := Aside0.mk (Kd.R_below (mv HO_22.out) hb); have n2_ := Aside0.mk (Kd.R_below (mv HO_23.out) hb); have n3_ := Aside0.mk (Kd.R_below (mv HO_26.out) hb); have n4_ := Aside0.mk (below_step (mvB HB.out) hb); clear HO_21 HO_22 HO_23 HO_26 HB; revert n0_ n1_ n2_ n3_ n4_; intro HO_21 HO_22 HO_23 HO_26 HB; (try clear hb); obtain ⟨Ao84, co84, eo84⟩ := Kd.R_slice HO_23.out; subst eo84) | (go_at_call 34; (with_reducible refine (laws_b10Has.calls k4 _ _ t449 x25_3 t466 _ ?side1 ?side2 A80.out).mono ?_); (case side1 => exact mvC (Kd.R_reads' HO_23.out).2.2); (case side2 => exact (Kd.R_reads' HO_23.out).2.1); rintro e w' ⟨rfl, ⟨nd, rfl⟩⟩; obtain ⟨Ao85, co85, eo85⟩ := Kd.R_slice HO_26.out; subst eo85) | (go_at_call 33; (with_reducible refine (spec_IsBuildable.calls k4 _ _ t443 _ _ x26_4 t467 _ ?side1 ?side2 ?side3 ?side4 A81.out).mono ?_); (case side1 => exact mvC (Kd.S_reads' HO_21.out).2.2); (case side2 => exact (Kd.S_reads' HO_21.out).2.1); (case side3 => exact mvC (Kd.R_reads' HO_26.out).2.2); (case side4 => exact (Kd.R_reads' HO_26.out).2.1); rintro e w86 ⟨rfl, hb⟩; have n0_ := Aside0.mk (Kd.S_below (mv HO_21.out) hb); have n1_ := Aside0.mk (Kd.R_below (mv HO_22.out) hb); have n2_ := Aside0.mk (Kd.R_below (mv HO_23.out) hb); have n3_ := Aside0.mk (Kd.R_below (mv HO_26.out) hb); have n4_ := Aside0.mk (below_step (mvB HB.out) hb); clear HO_21 HO_22 HO_23 HO_26 HB; revert n0_ n1_ n2_ n3_ n4_; intro HO_21 HO_22 HO_23 HO_26 HB; (try clear hb)))
                 go_ret
                 exact ⟨by first | rfl | (simp [errW_none, errW_some] <;> rfl) | (simp [*, errW_none, errW_some] <;> rfl), mvB HB.out⟩
                ·
                 rw [if_neg c82] at H
                 have c82b0 : (t466 != t467) = false := by simpa using c82
                 (try (have c82b1 : decide (t466 = t467) = true := by simpa using c82))
                 (try (have c82b2 : (t466 == t467) = true := by simpa using c82))
                 clear c82
                 have H' := Aside0.mk H
                 clear H
                 go_wp2_with (first | ((with_reducible refine gate_callee (f := 33) rfl ?_); refine goesA_ (some 183) Try.func33 #[.slice Ao58 t443.length co58, .slice Ao59 t444.length co59] ?_; (with_reducible refine (spec_IsBuildable.calls k4 _ _ t443 _ _ t444 true _ ?side1 ?side2 ?side3 ?side4 A78.out).mono ?_); (case side1 => exact mvC (Kd.S_reads' HO_21.out).2.2); (case side2 => exact (Kd.S_reads' HO_21.out).2.1); (case side3 => exact mvC (Kd.R_reads' HO_22.out).2.2); (case side4 => exact (Kd.R_reads' HO_22.out).2.1); rintro e w87 ⟨rfl, hb⟩; refine ⟨_, rfl, ?_⟩; have n0_ := Aside0.mk (Kd.S_below (mv HO_21.out) hb); have n1_ := Aside0.mk (Kd.R_below (mv HO_22.out) hb); have n2_ := Aside0.mk (Kd.R_below (mv HO_23.out) hb); have n3_ := Aside0.mk (Kd.R_below (mv HO_26.out) hb); have n4_ := Aside0.mk (below_step (mvB HB.out) hb); clear HO_21 HO_22 HO_23 HO_26 HB; revert n0_ n1_ n2_ n3_ n4_; intro HO_21 HO_22 HO_23 HO_26 HB; (try clear hb); obtain ⟨Ao88, co88, eo88⟩ := Kd.R_slice HO_23.out; subst eo88) | (go_at_call 34; (with_reducible refine (laws_b10Has.calls k4 _ _ t449 x25_3 t466 _ ?side1 ?side2 A80.out).mono ?_); (case side1 => exact mvC (Kd.R_reads' HO_23.out).2.2); (case side2 => exact (Kd.R_reads' HO_23.out).2.1); rintro e w' ⟨rfl, ⟨nd, rfl⟩⟩; obtain ⟨Ao89, co89, eo89⟩ := Kd.R_slice HO_26.out; subst eo89) | (go_at_call 33; (with_reducible refine (spec_IsBuildable.calls k4 _ _ t443 _ _ x26_4 t467 _ ?side1 ?side2 ?side3 ?side4 A81.out).mono ?_); (case side1 => exact mvC (Kd.S_reads' HO_21.out).2.2); (case side2 => exact (Kd.S_reads' HO_21.out).2.1); (case side3 => exact mvC (Kd.R_reads' HO_26.out).2.2); (case side4 => exact (Kd.R_reads' HO_26.out).2.1); rintro e w90 ⟨rfl, hb⟩; have n0_ := Aside0.mk (Kd.S_below (mv HO_21.out) hb); have n1_ := Aside0.mk (Kd.R_below (mv HO_22.out) hb); have n2_ := Aside0.mk (Kd.R_below (mv HO_23.out) hb); have n3_ := Aside0.mk (Kd.R_below (mv HO_26.out) hb); have n4_ := Aside0.mk (below_step (mvB HB.out) hb); clear HO_21 HO_22 HO_23 HO_26 HB; revert n0_ n1_ n2_ n3_ n4_; intro HO_21 HO_22 HO_23 HO_26 HB; (try clear hb)))
                 go_roundg k4
                 case measure => have := HJ2.out; have := HJ11.out; have := HK3.out; have := HK4.out; omega
                 case rel => exact ⟨(wrap64 (x25_3 + 1)), rs, H', ⟨by have := HJ2.out; have := HJ11.out; have := HK3.out; have := HK4.out; omega⟩, ⟨mv HO_21.out⟩, ⟨by (with_reducible repeat (first | apply Kd.R_alloc | apply Kd.R_drewN | apply Kd.R_drew)); exact Kd.R_mono HO_22.out (fun _ hk => hk.1)⟩, ⟨by (with_reducible repeat (first | apply Kd.R_alloc | apply Kd.R_drewN | apply Kd.R_drew)); exact Kd.R_mono HO_23.out (fun _ hk => hk.1)⟩, ⟨mvB HB.out⟩⟩
               ·
                replace c79 := Bool.eq_false_iff.mpr c79
                subst c79
                have H1 : (laws_FnStages.l1 k4 t443 t444 t449 (wrap64 (x25_3 + 1))) = some r := by rw [if_neg (show ¬ (false = true) by decide)] at H; exact H
                clear H
                have H := H1
                clear H1
                have H' := Aside0.mk H
                clear H
                go_wp2_with (first | ((with_reducible refine gate_callee (f := 33) rfl ?_); refine goesA_ (some 183) Try.func33 #[.slice Ao58 t443.length co58, .slice Ao59 t444.length co59] ?_; (with_reducible refine (spec_IsBuildable.calls k4 _ _ t443 _ _ t444 false _ ?side1 ?side2 ?side3 ?side4 A78.out).mono ?_); (case side1 => exact mvC (Kd.S_reads' HO_21.out).2.2); (case side2 => exact (Kd.S_reads' HO_21.out).2.1); (case side3 => exact mvC (Kd.R_reads' HO_22.out).2.2); (case side4 => exact (Kd.R_reads' HO_22.out).2.1); rintro e w91 ⟨rfl, hb⟩; refine ⟨_, rfl, ?_⟩; have n0_ := Aside0.mk (Kd.S_below (mv HO_21.out) hb); have n1_ := Aside0.mk (Kd.R_below (mv HO_22.out) hb); have n2_ := Aside0.mk (Kd.R_below (mv HO_23.out) hb); have n3_ := Aside0.mk (Kd.R_below (mv HO_26.out) hb); have n4_ := Aside0.mk (below_step (mvB HB.out) hb); clear HO_21 HO_22 HO_23 HO_26 HB; revert n0_ n1_ n2_ n3_ n4_; intro HO_21 HO_22 HO_23 HO_26 HB; (try clear hb)))
                go_roundg k4
                case measure => have := HJ2.out; have := HJ11.out; have := HK3.out; have := HK4.out; omega
                case rel => exact ⟨(wrap64 (x25_3 + 1)), rs, H', ⟨by have := HJ2.out; have := HJ11.out; have := HK3.out; have := HK4.out; omega⟩, ⟨mv HO_21.out⟩, ⟨by (with_reducible repeat (first | apply Kd.R_alloc | apply Kd.R_drewN | apply Kd.R_drew)); exact Kd.R_mono HO_22.out (fun _ hk => hk.1)⟩, ⟨by (with_reducible repeat (first | apply Kd.R_alloc | apply Kd.R_drewN | apply Kd.R_drew)); exact Kd.R_mono HO_23.out (fun _ hk => hk.1)⟩, ⟨mvB HB.out⟩⟩
          ·
           rw [if_neg c61] at H
           have c61b0 : decide (x25_3 < (t443.length : Int)) = false := decide_eq_false c61
           clear c61
           obtain rfl := Option.some.inj H
           go_wp2
           go_ret
           exact ⟨by first | rfl | (simp [errW_none, errW_some] <;> rfl) | (simp [*, errW_none, errW_some] <;> rfl), mvB HB.out⟩
       ·
        rw [if_neg c56] at H
        have c56b0 : (t450 == 0) = false := beq_eq_false_iff_ne.mpr c56
        have c56b1 : (t450 != 0) = true := bne_iff_ne.mpr c56
        obtain rfl := Option.some.inj H
        go_wp2_with (first | ((with_reducible refine gate_callee (f := 35) rfl ?_); refine goesA_ (some 136) Try.func35 #[.slice A1 l1.length c1] ?_; (with_reducible refine (spec_DrawReadyStages.calls kj11 _ _ l1 t443 t444 _ ?side1 ?side2 A54.out).mono ?_); (case side1 => exact mvC (Kd.C_below HR1.out HB.out)); (case side2 => exact HC1.out); rintro e w92 ⟨v445, v447, rfl, ho0, ho1, hb⟩; refine ⟨_, rfl, ?_⟩; have n0_ := Aside0.mk (Kd.S_lower ho0 (below_size (mvB HB.out))); have n1_ := Aside0.mk (Kd.R_lower ho1 (below_size (mvB HB.out))); have n2_ := Aside0.mk (below_step (mvB HB.out) hb); clear HB; revert n0_ n1_ n2_; intro HO446 HO448 HB; (try clear hb); (try clear ho0); (try clear ho1); obtain ⟨Ao93, co93, eo93⟩ := Kd.S_slice HO446.out; subst eo93; obtain ⟨Ao94, co94, eo94⟩ := Kd.R_slice HO448.out; subst eo94) | ((with_reducible refine gate_callee (f := 36) rfl ?_); refine goesA_ (some 142) Try.func36 #[.slice Ao93 t443.length co93, .slice Ao94 t444.length co94] ?_; (with_reducible refine (impl_ReadyStages.calls kj11 _ _ t443 _ _ t444 t449 t450 _ ?side1 ?side2 ?side3 ?side4 A55.out).mono ?_); (case side1 => exact mvC (Kd.S_reads' HO446.out).2.2); (case side2 => exact (Kd.S_reads' HO446.out).2.1); (case side3 => exact mvC (Kd.R_reads' HO448.out).2.2); (case side4 => exact (Kd.R_reads' HO448.out).2.1); rintro e w95 ⟨v451, rfl, ho0, hb⟩; refine ⟨_, rfl, ?_⟩; have n0_ := Aside0.mk (Kd.S_below (mv HO446.out) hb); have n1_ := Aside0.mk (Kd.R_elder' (mv HO448.out) (Kd.R_base ho0) hb); have n2_ := Aside0.mk (Kd.R_lower (Kd.R_new' ho0 (Kd.R_lt (mv HO448.out))) (below_size (mvB HB.out))); have n3_ := Aside0.mk (below_step (mvB HB.out) hb); clear HO446 HO448 HB; revert n0_ n1_ n2_ n3_; intro HO446 HO448 HO452 HB; (try clear hb); (try clear ho0); obtain ⟨Ao96, co96, eo96⟩ := Kd.R_slice HO452.out; subst eo96))
        go_ret
        exact ⟨by first | rfl | (simp [errW_none, errW_some] <;> rfl) | (simp [*, errW_none, errW_some] <;> rfl), mvB HB.out⟩
    ·
     rw [if_neg c11] at H
     have c11b0 : (t423 == t427) = false := beq_eq_false_iff_ne.mpr c11
     have c11b1 : (t423 != t427) = true := bne_iff_ne.mpr c11
     obtain rfl := Option.some.inj H
     go_wp2_with (first | ((with_reducible refine gate_callee (f := 30) rfl ?_); refine goesA_ (some 36) Try.func30 #[.slice A0 l0.length c0] ?_; (with_reducible refine (spec_DrawBestStages.calls kj2 _ _ l0 t416 t417 t418 _ ?side1 ?side2 A8.out).mono ?_); (case side1 => exact mvC (Kd.C_below HR0.out HB.out)); (case side2 => exact HC0.out); rintro e w97 ⟨v419, rfl, ho0, hb⟩; refine ⟨_, rfl, ?_⟩; have n0_ := Aside0.mk (Kd.S_lower ho0 (below_size (mvB HB.out))); have n1_ := Aside0.mk (below_step (mvB HB.out) hb); clear HB; revert n0_ n1_; intro HO420 HB; (try clear hb); (try clear ho0); obtain ⟨Ao98, co98, eo98⟩ := Kd.S_slice HO420.out; subst eo98) | ((with_reducible refine gate_callee (f := 29) rfl ?_); refine goesA_ (some 44) Try.func29 #[.slice Ao98 t416.length co98, .int .i64 t417, .int .i64 t418] ?_; (with_reducible refine (impl_BestStages.calls kj2 _ _ t416 t417 t418 t421 t422 t423 _ ?side1 ?side2 A9.out).mono ?_); (case side1 => exact mvC (Kd.S_reads' HO420.out).2.2); (case side2 => exact (Kd.S_reads' HO420.out).2.1); rintro e w99 ⟨v424, rfl, ho0, hb⟩; refine ⟨_, rfl, ?_⟩; have n0_ := Aside0.mk (Kd.S_below (mv HO420.out) hb); have n1_ := Aside0.mk (Kd.R_lower ho0 (below_size (mvB HB.out))); have n2_ := Aside0.mk (below_step (mvB HB.out) hb); clear HO420 HB; revert n0_ n1_ n2_; intro HO420 HO425 HB; (try clear hb); (try clear ho0)) | ((with_reducible refine gate_callee (f := 23) rfl ?_); refine goesA_ (some 52) Try.func23 #[.slice Ao98 t416.length co98, .int .i64 t417, .int .i64 t418] ?_; (with_reducible refine (impl_CountBuildable.calls kj2 _ _ t416 t417 t418 t426 t427 _ ?side1 ?side2 A10.out).mono ?_); (case side1 => exact mvC (Kd.S_reads' HO420.out).2.2); (case side2 => exact (Kd.S_reads' HO420.out).2.1); rintro e w100 ⟨rfl, hb⟩; refine ⟨_, rfl, ?_⟩; have n0_ := Aside0.mk (Kd.S_below (mv HO420.out) hb); have n1_ := Aside0.mk (Kd.R_below (mv HO425.out) hb); have n2_ := Aside0.mk (below_step (mvB HB.out) hb); clear HO420 HO425 HB; revert n0_ n1_ n2_; intro HO420 HO425 HB; (try clear hb)))
     go_ret
     exact ⟨by first | rfl | (simp [errW_none, errW_some] <;> rfl) | (simp [*, errW_none, errW_some] <;> rfl), mvB HB.out⟩

end Go.Proofs.Ytmbiapefigcgnaa.PFnStages
