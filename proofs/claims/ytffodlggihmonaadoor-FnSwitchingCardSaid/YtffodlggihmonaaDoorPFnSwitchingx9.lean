-- written by a program of this session (mkp.py) out of the translation; Lean checks it. -- squeezed
import Derived.Test.YtffodlggihmonaaDoorPFnSwitchingx0
import Derived.Test.YtffodlggihmonaaDoorPFnSwitchingx1
import Derived.Test.YtffodlggihmonaaDoorPFnSwitchingx4
import Derived.Test.YtffodlggihmonaaDoorPFnSwitchingx5
import Derived.Test.YtffodlggihmonaaDoorPFnSwitchingx6
import Derived.Test.YtffodlggihmonaaDoorPFnSwitchingx7
import Derived.Test.YtffodlggihmonaaDoorPFnSwitchingx8
namespace Go.Proofs.YtffodlggihmonaaDoor.PFnSwitching
open Go.RowKit Go.Proofs.YtffodlggihmonaaDoorW.PrintWords Go.Proofs.YtffodlggihmonaaDoorW.PrintLast Go.Proofs.YtffodlggihmonaaDoorW.PrintMore
attribute [local go_sem] bin_leq bin_gtr bin_geq max2_int min2_int max_two min_two max_three min_three max_four min_four   -- for this text's walks alone
set_option linter.unusedVariables false
set_option linter.unusedSimpArgs false

/-! ### laws_FnSwitching: function 3 -/
mutual
def laws_FnSwitching.l0 : Nat → List Int → Int → List (S51) → List Bool → List Bool → Int → Int → Option (Bool)
 | 0, _, _, _, _, _, _, _ => none
 | k + 1, x1, x5, x6, x7, x8, x9, x10 => if x10 < x5 then ((laws_r8At.f x1 (wrap64 (1 + x10)) 2).bind fun t266 => (if x7.length < 140737488355328 then ((some (x7 ++ [(t266 == 0)] : List Bool)).bind fun y267 => ((laws_r8At.f x1 (wrap64 (10 + x10)) 2).bind fun t270 => (if x8.length < 140737488355328 then ((some (x8 ++ [(t270 == 0)] : List Bool)).bind fun y271 => (if 0 ≤ x10 then (if x10 < (y267.length : Int) then (if x10 < (y271.length : Int) then (if ((rdOf false y267 x10) != (rdOf false y271 x10)) = true then (laws_FnSwitching.l0 k x1 x5 x6 y267 y271 (wrap64 (x9 + 1)) (wrap64 (x10 + 1))) else (laws_FnSwitching.l0 k x1 x5 x6 y267 y271 x9 (wrap64 (x10 + 1)))) else (none)) else (none)) else (none))) else (none)))) else (none))) else ((impl_ShortestOrders.f k x7 x8 x6).bind fun bt276 => ((impl_CountAllowed.f k x5 x6).bind fun bt280 => ((impl_CountReached.f k x7 x6).bind fun bt282 => ((impl_BrokenRules.f k x7 x6).bind fun bt284 => ((impl_NextOrders.f k x7 x6).bind fun bt288 => (if bt276.2 = 0 then (if bt280.2 = 0 then (if bt280.1 < 0 then (laws_FnSwitching.j1 k x6 x7 x8 x9 bt276.1 bt276.2 bt284.1 bt288.1 true) else (if bt282.2 = 0 then (if bt282.1 < 1 then (laws_FnSwitching.j1 k x6 x7 x8 x9 bt276.1 bt276.2 bt284.1 bt288.1 true) else (if bt282.1 > (wrap64 (bt280.1 + 1)) then (laws_FnSwitching.j1 k x6 x7 x8 x9 bt276.1 bt276.2 bt284.1 bt288.1 true) else (if bt284.2 = 0 then (if (bt284.1.length : Int) = 0 then (if bt282.1 > bt280.1 then (laws_FnSwitching.j1 k x6 x7 x8 x9 bt276.1 bt276.2 bt284.1 bt288.1 true) else (if bt288.2 = 0 then (if (bt288.1.length : Int) > x5 then (laws_FnSwitching.j1 k x6 x7 x8 x9 bt276.1 bt276.2 bt284.1 bt288.1 true) else (laws_FnSwitching.j1 k x6 x7 x8 x9 bt276.1 bt276.2 bt284.1 bt288.1 (decide ((wrap64 (bt282.1 - 1)) < (bt288.1.length : Int))))) else (laws_FnSwitching.j1 k x6 x7 x8 x9 bt276.1 bt276.2 bt284.1 bt288.1 true))) else (if bt288.2 = 0 then (if (bt288.1.length : Int) > x5 then (laws_FnSwitching.j1 k x6 x7 x8 x9 bt276.1 bt276.2 bt284.1 bt288.1 true) else (laws_FnSwitching.j1 k x6 x7 x8 x9 bt276.1 bt276.2 bt284.1 bt288.1 (decide ((wrap64 (bt282.1 - 1)) < (bt288.1.length : Int))))) else (laws_FnSwitching.j1 k x6 x7 x8 x9 bt276.1 bt276.2 bt284.1 bt288.1 true))) else (laws_FnSwitching.j1 k x6 x7 x8 x9 bt276.1 bt276.2 bt284.1 bt288.1 true)))) else (laws_FnSwitching.j1 k x6 x7 x8 x9 bt276.1 bt276.2 bt284.1 bt288.1 true))) else (laws_FnSwitching.j1 k x6 x7 x8 x9 bt276.1 bt276.2 bt284.1 bt288.1 true)) else (if bt276.2 = 3 then (if bt280.2 = 0 then (if bt280.1 < 0 then (laws_FnSwitching.j1 k x6 x7 x8 x9 bt276.1 bt276.2 bt284.1 bt288.1 true) else (if bt282.2 = 0 then (if bt282.1 < 1 then (laws_FnSwitching.j1 k x6 x7 x8 x9 bt276.1 bt276.2 bt284.1 bt288.1 true) else (if bt282.1 > (wrap64 (bt280.1 + 1)) then (laws_FnSwitching.j1 k x6 x7 x8 x9 bt276.1 bt276.2 bt284.1 bt288.1 true) else (if bt284.2 = 0 then (if (bt284.1.length : Int) = 0 then (if bt282.1 > bt280.1 then (laws_FnSwitching.j1 k x6 x7 x8 x9 bt276.1 bt276.2 bt284.1 bt288.1 true) else (if bt288.2 = 0 then (if (bt288.1.length : Int) > x5 then (laws_FnSwitching.j1 k x6 x7 x8 x9 bt276.1 bt276.2 bt284.1 bt288.1 true) else (laws_FnSwitching.j1 k x6 x7 x8 x9 bt276.1 bt276.2 bt284.1 bt288.1 (decide ((wrap64 (bt282.1 - 1)) < (bt288.1.length : Int))))) else (laws_FnSwitching.j1 k x6 x7 x8 x9 bt276.1 bt276.2 bt284.1 bt288.1 true))) else (if bt288.2 = 0 then (if (bt288.1.length : Int) > x5 then (laws_FnSwitching.j1 k x6 x7 x8 x9 bt276.1 bt276.2 bt284.1 bt288.1 true) else (laws_FnSwitching.j1 k x6 x7 x8 x9 bt276.1 bt276.2 bt284.1 bt288.1 (decide ((wrap64 (bt282.1 - 1)) < (bt288.1.length : Int))))) else (laws_FnSwitching.j1 k x6 x7 x8 x9 bt276.1 bt276.2 bt284.1 bt288.1 true))) else (laws_FnSwitching.j1 k x6 x7 x8 x9 bt276.1 bt276.2 bt284.1 bt288.1 true)))) else (laws_FnSwitching.j1 k x6 x7 x8 x9 bt276.1 bt276.2 bt284.1 bt288.1 true))) else (laws_FnSwitching.j1 k x6 x7 x8 x9 bt276.1 bt276.2 bt284.1 bt288.1 true)) else (laws_FnSwitching.j1 k x6 x7 x8 x9 bt276.1 bt276.2 bt284.1 bt288.1 true))))))))
def laws_FnSwitching.j1 : Nat → List (S51) → List Bool → List Bool → Int → List Int → Int → List Int → List Int → Bool → Option (Bool)
 | 0, _, _, _, _, _, _, _, _, _ => none
 | k + 1, x6, x7, x8, x9, x11, x12, x17, x19, x165 => if x165 = true then (some false) else (if x12 = 0 then ((impl_RunOrders.f k x7 x11 x6).bind fun bt292 => (if bt292.2.2 = 0 then (if bt292.2.1 = 0 then (if (bt292.1.length : Int) = (x8.length : Int) then (laws_FnSwitching.j2 k x6 x7 x8 x11 x17 x19 bt292.1 (decide ((x11.length : Int) < x9))) else (laws_FnSwitching.j2 k x6 x7 x8 x11 x17 x19 bt292.1 true)) else (laws_FnSwitching.j2 k x6 x7 x8 x11 x17 x19 bt292.1 true)) else (laws_FnSwitching.j2 k x6 x7 x8 x11 x17 x19 bt292.1 true))) else (some true))
def laws_FnSwitching.j2 : Nat → List (S51) → List Bool → List Bool → List Int → List Int → List Int → List Bool → Bool → Option (Bool)
 | 0, _, _, _, _, _, _, _, _ => none
 | k + 1, x6, x7, x8, x11, x17, x19, x21, x194 => if x194 = true then (some false) else (laws_FnSwitching.l1 k x6 x7 x8 x11 x17 x19 x21 0)
def laws_FnSwitching.l1 : Nat → List (S51) → List Bool → List Bool → List Int → List Int → List Int → List Bool → Int → Option (Bool)
 | 0, _, _, _, _, _, _, _, _ => none
 | k + 1, x6, x7, x8, x11, x17, x19, x21, x24 => if x24 < (x8.length : Int) then (if 0 ≤ x24 then (if x24 < (x21.length : Int) then (if ((rdOf false x21 x24) != (rdOf false x8 x24)) = true then (some false) else (laws_FnSwitching.l1 k x6 x7 x8 x11 x17 x19 x21 (wrap64 (x24 + 1)))) else (none)) else (none)) else ((impl_OrdersText.f k x11).bind fun t299 => ((impl_ReadOrders.f k t299).bind fun bt300 => (if bt300.2 = true then ((laws_r8Same.f k bt300.1 x11).bind fun t304 => (laws_FnSwitching.j4 k x6 x7 x8 x11 x17 x19 (!t304))) else (laws_FnSwitching.j4 k x6 x7 x8 x11 x17 x19 true))))
def laws_FnSwitching.j4 : Nat → List (S51) → List Bool → List Bool → List Int → List Int → List Int → Bool → Option (Bool)
 | 0, _, _, _, _, _, _, _ => none
 | k + 1, x6, x7, x8, x11, x17, x19, x223 => if x223 = true then (some false) else (if (x11.length : Int) > 0 then (if 0 < (x11.length : Int) then ((laws_r8Has.f k x19 (rd x11 0)).bind fun t306 => (laws_FnSwitching.j5 k x6 x7 x8 x11 x17 (!t306))) else (none)) else (laws_FnSwitching.j5 k x6 x7 x8 x11 x17 false))
def laws_FnSwitching.j5 : Nat → List (S51) → List Bool → List Bool → List Int → List Int → Bool → Option (Bool)
 | 0, _, _, _, _, _, _ => none
 | k + 1, x6, x7, x8, x11, x17, x234 => if x234 = true then (some false) else ((impl_UndoOrders.f k x11).bind fun bt307 => (if bt307.2 = 0 then (laws_FnSwitching.j6 k x6 x7 x8 bt307.1 bt307.2 (decide ((x17.length : Int) > 0))) else (laws_FnSwitching.j6 k x6 x7 x8 bt307.1 bt307.2 true)))
def laws_FnSwitching.j6 : Nat → List (S51) → List Bool → List Bool → List Int → Int → Bool → Option (Bool)
 | 0, _, _, _, _, _, _ => none
 | k + 1, x6, x7, x8, x27, x28, x246 => if x246 = true then (some (x28 == 0)) else ((impl_RunOrders.f k x8 x27 x6).bind fun bt311 => (if bt311.2.2 = 0 then (laws_FnSwitching.j7 k x7 bt311.1 ((bt311.1.length : Int) != (x7.length : Int))) else (laws_FnSwitching.j7 k x7 bt311.1 true)))
def laws_FnSwitching.j7 : Nat → List Bool → List Bool → Bool → Option (Bool)
 | 0, _, _, _ => none
 | k + 1, x7, x29, x265 => if x265 = true then (some false) else (laws_FnSwitching.l2 k x7 x29 0)
def laws_FnSwitching.l2 : Nat → List Bool → List Bool → Int → Option (Bool)
 | 0, _, _, _ => none
 | k + 1, x7, x29, x32 => if x32 < (x7.length : Int) then (if 0 ≤ x32 then (if x32 < (x29.length : Int) then (if ((rdOf false x29 x32) != (rdOf false x7 x32)) = true then (some false) else (laws_FnSwitching.l2 k x7 x29 (wrap64 (x32 + 1)))) else (none)) else (none)) else (some true)
end
def laws_FnSwitching.f (k : Nat) (l0 : List Int) (l1 : List Int) : Option (Bool) := (laws_r8Long.f l0 l1).bind fun t255 => (if t255 = true then (some true) else ((laws_r8At.f l1 0 4).bind fun t256 => ((spec_R8Rules.f k l0 (wrap64 (2 + t256))).bind fun t257 => (laws_FnSwitching.l0 k l1 (wrap64 (2 + t256)) t257 (([] : List Bool)) (([] : List Bool)) 0 0))))
theorem laws_FnSwitching.mono_l : ∀ k, (∀ y0 y1 y2 y3 y4 y5 y6, LeO (laws_FnSwitching.l0 k y0 y1 y2 y3 y4 y5 y6) (laws_FnSwitching.l0 (k + 1) y0 y1 y2 y3 y4 y5 y6)) ∧ (∀ y0 y1 y2 y3 y4 y5 y6 y7 y8, LeO (laws_FnSwitching.j1 k y0 y1 y2 y3 y4 y5 y6 y7 y8) (laws_FnSwitching.j1 (k + 1) y0 y1 y2 y3 y4 y5 y6 y7 y8)) ∧ (∀ y0 y1 y2 y3 y4 y5 y6 y7, LeO (laws_FnSwitching.j2 k y0 y1 y2 y3 y4 y5 y6 y7) (laws_FnSwitching.j2 (k + 1) y0 y1 y2 y3 y4 y5 y6 y7)) ∧ (∀ y0 y1 y2 y3 y4 y5 y6 y7, LeO (laws_FnSwitching.l1 k y0 y1 y2 y3 y4 y5 y6 y7) (laws_FnSwitching.l1 (k + 1) y0 y1 y2 y3 y4 y5 y6 y7)) ∧ (∀ y0 y1 y2 y3 y4 y5 y6, LeO (laws_FnSwitching.j4 k y0 y1 y2 y3 y4 y5 y6) (laws_FnSwitching.j4 (k + 1) y0 y1 y2 y3 y4 y5 y6)) ∧ (∀ y0 y1 y2 y3 y4 y5, LeO (laws_FnSwitching.j5 k y0 y1 y2 y3 y4 y5) (laws_FnSwitching.j5 (k + 1) y0 y1 y2 y3 y4 y5)) ∧ (∀ y0 y1 y2 y3 y4 y5, LeO (laws_FnSwitching.j6 k y0 y1 y2 y3 y4 y5) (laws_FnSwitching.j6 (k + 1) y0 y1 y2 y3 y4 y5)) ∧ (∀ y0 y1 y2, LeO (laws_FnSwitching.j7 k y0 y1 y2) (laws_FnSwitching.j7 (k + 1) y0 y1 y2)) ∧ (∀ y0 y1 y2, LeO (laws_FnSwitching.l2 k y0 y1 y2) (laws_FnSwitching.l2 (k + 1) y0 y1 y2))
 | 0 => ⟨fun _ _ _ _ _ _ _ r h => by simp [laws_FnSwitching.l0] at h, fun _ _ _ _ _ _ _ _ _ r h => by simp [laws_FnSwitching.j1] at h, fun _ _ _ _ _ _ _ _ r h => by simp [laws_FnSwitching.j2] at h, fun _ _ _ _ _ _ _ _ r h => by simp [laws_FnSwitching.l1] at h, fun _ _ _ _ _ _ _ r h => by simp [laws_FnSwitching.j4] at h, fun _ _ _ _ _ _ r h => by simp [laws_FnSwitching.j5] at h, fun _ _ _ _ _ _ r h => by simp [laws_FnSwitching.j6] at h, fun _ _ _ r h => by simp [laws_FnSwitching.j7] at h, fun _ _ _ r h => by simp [laws_FnSwitching.l2] at h⟩
 | k + 1 => by
  obtain ⟨ih0, ih1, ih2, ih3, ih4, ih5, ih6, ih7, ih8⟩ := laws_FnSwitching.mono_l k
  refine ⟨?_, ?_, ?_, ?_, ?_, ?_, ?_, ?_, ?_⟩
  ·
   intro y0 y1 y2 y3 y4 y5 y6
   unfold laws_FnSwitching.l0
   repeat' first
   | (with_reducible exact ih0 _ _ _ _ _ _ _)
   | (with_reducible exact ih1 _ _ _ _ _ _ _ _ _)
   | (with_reducible exact ih2 _ _ _ _ _ _ _ _)
   | (with_reducible exact ih3 _ _ _ _ _ _ _ _)
   | (with_reducible exact ih4 _ _ _ _ _ _ _)
   | (with_reducible exact ih5 _ _ _ _ _ _)
   | (with_reducible exact ih6 _ _ _ _ _ _)
   | (with_reducible exact ih7 _ _ _)
   | (with_reducible exact ih8 _ _ _)
   | (with_reducible exact impl_BrokenRules.mono _ _ _)
   | (with_reducible exact impl_CountAllowed.mono _ _ _)
   | (with_reducible exact impl_CountReached.mono _ _ _)
   | (with_reducible exact impl_NextOrders.mono _ _ _)
   | (with_reducible exact impl_OrdersText.mono _ _)
   | (with_reducible exact impl_ReadOrders.mono _ _)
   | (with_reducible exact impl_RunOrders.mono _ _ _ _)
   | (with_reducible exact impl_ShortestOrders.mono _ _ _ _)
   | (with_reducible exact impl_UndoOrders.mono _ _)
   | (with_reducible exact laws_r8Has.mono _ _ _)
   | (with_reducible exact laws_r8Same.mono _ _ _)
   | (with_reducible exact spec_R8Rules.mono _ _ _)
   | (with_reducible exact LeO.refl _)
   | (with_reducible exact LeO.none _)
   | (with_reducible refine LeO.ite ?_ ?_)
   | (with_reducible refine LeO.bind ?_ (fun _ => ?_))
   | exact ih0 _ _ _ _ _ _ _
   | exact ih1 _ _ _ _ _ _ _ _ _
   | exact ih2 _ _ _ _ _ _ _ _
   | exact ih3 _ _ _ _ _ _ _ _
   | exact ih4 _ _ _ _ _ _ _
   | exact ih5 _ _ _ _ _ _
   | exact ih6 _ _ _ _ _ _
   | exact ih7 _ _ _
   | exact ih8 _ _ _
   | exact impl_BrokenRules.mono _ _ _
   | exact impl_CountAllowed.mono _ _ _
   | exact impl_CountReached.mono _ _ _
   | exact impl_NextOrders.mono _ _ _
   | exact impl_OrdersText.mono _ _
   | exact impl_ReadOrders.mono _ _
   | exact impl_RunOrders.mono _ _ _ _
   | exact impl_ShortestOrders.mono _ _ _ _
   | exact impl_UndoOrders.mono _ _
   | exact laws_r8Has.mono _ _ _
   | exact laws_r8Same.mono _ _ _
   | exact spec_R8Rules.mono _ _ _
   | exact LeO.none _
   | refine LeO.ite ?_ ?_
   | refine LeO.bind ?_ (fun _ => ?_)
  ·
   intro y0 y1 y2 y3 y4 y5 y6 y7 y8
   unfold laws_FnSwitching.j1
   repeat' first
   | (with_reducible exact ih0 _ _ _ _ _ _ _)
   | (with_reducible exact ih1 _ _ _ _ _ _ _ _ _)
   | (with_reducible exact ih2 _ _ _ _ _ _ _ _)
   | (with_reducible exact ih3 _ _ _ _ _ _ _ _)
   | (with_reducible exact ih4 _ _ _ _ _ _ _)
   | (with_reducible exact ih5 _ _ _ _ _ _)
   | (with_reducible exact ih6 _ _ _ _ _ _)
   | (with_reducible exact ih7 _ _ _)
   | (with_reducible exact ih8 _ _ _)
   | (with_reducible exact impl_BrokenRules.mono _ _ _)
   | (with_reducible exact impl_CountAllowed.mono _ _ _)
   | (with_reducible exact impl_CountReached.mono _ _ _)
   | (with_reducible exact impl_NextOrders.mono _ _ _)
   | (with_reducible exact impl_OrdersText.mono _ _)
   | (with_reducible exact impl_ReadOrders.mono _ _)
   | (with_reducible exact impl_RunOrders.mono _ _ _ _)
   | (with_reducible exact impl_ShortestOrders.mono _ _ _ _)
   | (with_reducible exact impl_UndoOrders.mono _ _)
   | (with_reducible exact laws_r8Has.mono _ _ _)
   | (with_reducible exact laws_r8Same.mono _ _ _)
   | (with_reducible exact spec_R8Rules.mono _ _ _)
   | (with_reducible exact LeO.refl _)
   | (with_reducible exact LeO.none _)
   | (with_reducible refine LeO.ite ?_ ?_)
   | (with_reducible refine LeO.bind ?_ (fun _ => ?_))
   | exact ih0 _ _ _ _ _ _ _
   | exact ih1 _ _ _ _ _ _ _ _ _
   | exact ih2 _ _ _ _ _ _ _ _
   | exact ih3 _ _ _ _ _ _ _ _
   | exact ih4 _ _ _ _ _ _ _
   | exact ih5 _ _ _ _ _ _
   | exact ih6 _ _ _ _ _ _
   | exact ih7 _ _ _
   | exact ih8 _ _ _
   | exact impl_BrokenRules.mono _ _ _
   | exact impl_CountAllowed.mono _ _ _
   | exact impl_CountReached.mono _ _ _
   | exact impl_NextOrders.mono _ _ _
   | exact impl_OrdersText.mono _ _
   | exact impl_ReadOrders.mono _ _
   | exact impl_RunOrders.mono _ _ _ _
   | exact impl_ShortestOrders.mono _ _ _ _
   | exact impl_UndoOrders.mono _ _
   | exact laws_r8Has.mono _ _ _
   | exact laws_r8Same.mono _ _ _
   | exact spec_R8Rules.mono _ _ _
   | exact LeO.none _
   | refine LeO.ite ?_ ?_
   | refine LeO.bind ?_ (fun _ => ?_)
  ·
   intro y0 y1 y2 y3 y4 y5 y6 y7
   unfold laws_FnSwitching.j2
   repeat' first
   | (with_reducible exact ih0 _ _ _ _ _ _ _)
   | (with_reducible exact ih1 _ _ _ _ _ _ _ _ _)
   | (with_reducible exact ih2 _ _ _ _ _ _ _ _)
   | (with_reducible exact ih3 _ _ _ _ _ _ _ _)
   | (with_reducible exact ih4 _ _ _ _ _ _ _)
   | (with_reducible exact ih5 _ _ _ _ _ _)
   | (with_reducible exact ih6 _ _ _ _ _ _)
   | (with_reducible exact ih7 _ _ _)
   | (with_reducible exact ih8 _ _ _)
   | (with_reducible exact impl_BrokenRules.mono _ _ _)
   | (with_reducible exact impl_CountAllowed.mono _ _ _)
   | (with_reducible exact impl_CountReached.mono _ _ _)
   | (with_reducible exact impl_NextOrders.mono _ _ _)
   | (with_reducible exact impl_OrdersText.mono _ _)
   | (with_reducible exact impl_ReadOrders.mono _ _)
   | (with_reducible exact impl_RunOrders.mono _ _ _ _)
   | (with_reducible exact impl_ShortestOrders.mono _ _ _ _)
   | (with_reducible exact impl_UndoOrders.mono _ _)
   | (with_reducible exact laws_r8Has.mono _ _ _)
   | (with_reducible exact laws_r8Same.mono _ _ _)
   | (with_reducible exact spec_R8Rules.mono _ _ _)
   | (with_reducible exact LeO.refl _)
   | (with_reducible exact LeO.none _)
   | (with_reducible refine LeO.ite ?_ ?_)
   | (with_reducible refine LeO.bind ?_ (fun _ => ?_))
   | exact ih0 _ _ _ _ _ _ _
   | exact ih1 _ _ _ _ _ _ _ _ _
   | exact ih2 _ _ _ _ _ _ _ _
   | exact ih3 _ _ _ _ _ _ _ _
   | exact ih4 _ _ _ _ _ _ _
   | exact ih5 _ _ _ _ _ _
   | exact ih6 _ _ _ _ _ _
   | exact ih7 _ _ _
   | exact ih8 _ _ _
   | exact impl_BrokenRules.mono _ _ _
   | exact impl_CountAllowed.mono _ _ _
   | exact impl_CountReached.mono _ _ _
   | exact impl_NextOrders.mono _ _ _
   | exact impl_OrdersText.mono _ _
   | exact impl_ReadOrders.mono _ _
   | exact impl_RunOrders.mono _ _ _ _
   | exact impl_ShortestOrders.mono _ _ _ _
   | exact impl_UndoOrders.mono _ _
   | exact laws_r8Has.mono _ _ _
   | exact laws_r8Same.mono _ _ _
   | exact spec_R8Rules.mono _ _ _
   | exact LeO.none _
   | refine LeO.ite ?_ ?_
   | refine LeO.bind ?_ (fun _ => ?_)
  ·
   intro y0 y1 y2 y3 y4 y5 y6 y7
   unfold laws_FnSwitching.l1
   repeat' first
   | (with_reducible exact ih0 _ _ _ _ _ _ _)
   | (with_reducible exact ih1 _ _ _ _ _ _ _ _ _)
   | (with_reducible exact ih2 _ _ _ _ _ _ _ _)
   | (with_reducible exact ih3 _ _ _ _ _ _ _ _)
   | (with_reducible exact ih4 _ _ _ _ _ _ _)
   | (with_reducible exact ih5 _ _ _ _ _ _)
   | (with_reducible exact ih6 _ _ _ _ _ _)
   | (with_reducible exact ih7 _ _ _)
   | (with_reducible exact ih8 _ _ _)
   | (with_reducible exact impl_BrokenRules.mono _ _ _)
   | (with_reducible exact impl_CountAllowed.mono _ _ _)
   | (with_reducible exact impl_CountReached.mono _ _ _)
   | (with_reducible exact impl_NextOrders.mono _ _ _)
   | (with_reducible exact impl_OrdersText.mono _ _)
   | (with_reducible exact impl_ReadOrders.mono _ _)
   | (with_reducible exact impl_RunOrders.mono _ _ _ _)
   | (with_reducible exact impl_ShortestOrders.mono _ _ _ _)
   | (with_reducible exact impl_UndoOrders.mono _ _)
   | (with_reducible exact laws_r8Has.mono _ _ _)
   | (with_reducible exact laws_r8Same.mono _ _ _)
   | (with_reducible exact spec_R8Rules.mono _ _ _)
   | (with_reducible exact LeO.refl _)
   | (with_reducible exact LeO.none _)
   | (with_reducible refine LeO.ite ?_ ?_)
   | (with_reducible refine LeO.bind ?_ (fun _ => ?_))
   | exact ih0 _ _ _ _ _ _ _
   | exact ih1 _ _ _ _ _ _ _ _ _
   | exact ih2 _ _ _ _ _ _ _ _
   | exact ih3 _ _ _ _ _ _ _ _
   | exact ih4 _ _ _ _ _ _ _
   | exact ih5 _ _ _ _ _ _
   | exact ih6 _ _ _ _ _ _
   | exact ih7 _ _ _
   | exact ih8 _ _ _
   | exact impl_BrokenRules.mono _ _ _
   | exact impl_CountAllowed.mono _ _ _
   | exact impl_CountReached.mono _ _ _
   | exact impl_NextOrders.mono _ _ _
   | exact impl_OrdersText.mono _ _
   | exact impl_ReadOrders.mono _ _
   | exact impl_RunOrders.mono _ _ _ _
   | exact impl_ShortestOrders.mono _ _ _ _
   | exact impl_UndoOrders.mono _ _
   | exact laws_r8Has.mono _ _ _
   | exact laws_r8Same.mono _ _ _
   | exact spec_R8Rules.mono _ _ _
   | exact LeO.none _
   | refine LeO.ite ?_ ?_
   | refine LeO.bind ?_ (fun _ => ?_)
  ·
   intro y0 y1 y2 y3 y4 y5 y6
   unfold laws_FnSwitching.j4
   repeat' first
   | (with_reducible exact ih0 _ _ _ _ _ _ _)
   | (with_reducible exact ih1 _ _ _ _ _ _ _ _ _)
   | (with_reducible exact ih2 _ _ _ _ _ _ _ _)
   | (with_reducible exact ih3 _ _ _ _ _ _ _ _)
   | (with_reducible exact ih4 _ _ _ _ _ _ _)
   | (with_reducible exact ih5 _ _ _ _ _ _)
   | (with_reducible exact ih6 _ _ _ _ _ _)
   | (with_reducible exact ih7 _ _ _)
   | (with_reducible exact ih8 _ _ _)
   | (with_reducible exact impl_BrokenRules.mono _ _ _)
   | (with_reducible exact impl_CountAllowed.mono _ _ _)
   | (with_reducible exact impl_CountReached.mono _ _ _)
   | (with_reducible exact impl_NextOrders.mono _ _ _)
   | (with_reducible exact impl_OrdersText.mono _ _)
   | (with_reducible exact impl_ReadOrders.mono _ _)
   | (with_reducible exact impl_RunOrders.mono _ _ _ _)
   | (with_reducible exact impl_ShortestOrders.mono _ _ _ _)
   | (with_reducible exact impl_UndoOrders.mono _ _)
   | (with_reducible exact laws_r8Has.mono _ _ _)
   | (with_reducible exact laws_r8Same.mono _ _ _)
   | (with_reducible exact spec_R8Rules.mono _ _ _)
   | (with_reducible exact LeO.refl _)
   | (with_reducible exact LeO.none _)
   | (with_reducible refine LeO.ite ?_ ?_)
   | (with_reducible refine LeO.bind ?_ (fun _ => ?_))
   | exact ih0 _ _ _ _ _ _ _
   | exact ih1 _ _ _ _ _ _ _ _ _
   | exact ih2 _ _ _ _ _ _ _ _
   | exact ih3 _ _ _ _ _ _ _ _
   | exact ih4 _ _ _ _ _ _ _
   | exact ih5 _ _ _ _ _ _
   | exact ih6 _ _ _ _ _ _
   | exact ih7 _ _ _
   | exact ih8 _ _ _
   | exact impl_BrokenRules.mono _ _ _
   | exact impl_CountAllowed.mono _ _ _
   | exact impl_CountReached.mono _ _ _
   | exact impl_NextOrders.mono _ _ _
   | exact impl_OrdersText.mono _ _
   | exact impl_ReadOrders.mono _ _
   | exact impl_RunOrders.mono _ _ _ _
   | exact impl_ShortestOrders.mono _ _ _ _
   | exact impl_UndoOrders.mono _ _
   | exact laws_r8Has.mono _ _ _
   | exact laws_r8Same.mono _ _ _
   | exact spec_R8Rules.mono _ _ _
   | exact LeO.none _
   | refine LeO.ite ?_ ?_
   | refine LeO.bind ?_ (fun _ => ?_)
  ·
   intro y0 y1 y2 y3 y4 y5
   unfold laws_FnSwitching.j5
   repeat' first
   | (with_reducible exact ih0 _ _ _ _ _ _ _)
   | (with_reducible exact ih1 _ _ _ _ _ _ _ _ _)
   | (with_reducible exact ih2 _ _ _ _ _ _ _ _)
   | (with_reducible exact ih3 _ _ _ _ _ _ _ _)
   | (with_reducible exact ih4 _ _ _ _ _ _ _)
   | (with_reducible exact ih5 _ _ _ _ _ _)
   | (with_reducible exact ih6 _ _ _ _ _ _)
   | (with_reducible exact ih7 _ _ _)
   | (with_reducible exact ih8 _ _ _)
   | (with_reducible exact impl_BrokenRules.mono _ _ _)
   | (with_reducible exact impl_CountAllowed.mono _ _ _)
   | (with_reducible exact impl_CountReached.mono _ _ _)
   | (with_reducible exact impl_NextOrders.mono _ _ _)
   | (with_reducible exact impl_OrdersText.mono _ _)
   | (with_reducible exact impl_ReadOrders.mono _ _)
   | (with_reducible exact impl_RunOrders.mono _ _ _ _)
   | (with_reducible exact impl_ShortestOrders.mono _ _ _ _)
   | (with_reducible exact impl_UndoOrders.mono _ _)
   | (with_reducible exact laws_r8Has.mono _ _ _)
   | (with_reducible exact laws_r8Same.mono _ _ _)
   | (with_reducible exact spec_R8Rules.mono _ _ _)
   | (with_reducible exact LeO.refl _)
   | (with_reducible exact LeO.none _)
   | (with_reducible refine LeO.ite ?_ ?_)
   | (with_reducible refine LeO.bind ?_ (fun _ => ?_))
   | exact ih0 _ _ _ _ _ _ _
   | exact ih1 _ _ _ _ _ _ _ _ _
   | exact ih2 _ _ _ _ _ _ _ _
   | exact ih3 _ _ _ _ _ _ _ _
   | exact ih4 _ _ _ _ _ _ _
   | exact ih5 _ _ _ _ _ _
   | exact ih6 _ _ _ _ _ _
   | exact ih7 _ _ _
   | exact ih8 _ _ _
   | exact impl_BrokenRules.mono _ _ _
   | exact impl_CountAllowed.mono _ _ _
   | exact impl_CountReached.mono _ _ _
   | exact impl_NextOrders.mono _ _ _
   | exact impl_OrdersText.mono _ _
   | exact impl_ReadOrders.mono _ _
   | exact impl_RunOrders.mono _ _ _ _
   | exact impl_ShortestOrders.mono _ _ _ _
   | exact impl_UndoOrders.mono _ _
   | exact laws_r8Has.mono _ _ _
   | exact laws_r8Same.mono _ _ _
   | exact spec_R8Rules.mono _ _ _
   | exact LeO.none _
   | refine LeO.ite ?_ ?_
   | refine LeO.bind ?_ (fun _ => ?_)
  ·
   intro y0 y1 y2 y3 y4 y5
   unfold laws_FnSwitching.j6
   repeat' first
   | (with_reducible exact ih0 _ _ _ _ _ _ _)
   | (with_reducible exact ih1 _ _ _ _ _ _ _ _ _)
   | (with_reducible exact ih2 _ _ _ _ _ _ _ _)
   | (with_reducible exact ih3 _ _ _ _ _ _ _ _)
   | (with_reducible exact ih4 _ _ _ _ _ _ _)
   | (with_reducible exact ih5 _ _ _ _ _ _)
   | (with_reducible exact ih6 _ _ _ _ _ _)
   | (with_reducible exact ih7 _ _ _)
   | (with_reducible exact ih8 _ _ _)
   | (with_reducible exact impl_BrokenRules.mono _ _ _)
   | (with_reducible exact impl_CountAllowed.mono _ _ _)
   | (with_reducible exact impl_CountReached.mono _ _ _)
   | (with_reducible exact impl_NextOrders.mono _ _ _)
   | (with_reducible exact impl_OrdersText.mono _ _)
   | (with_reducible exact impl_ReadOrders.mono _ _)
   | (with_reducible exact impl_RunOrders.mono _ _ _ _)
   | (with_reducible exact impl_ShortestOrders.mono _ _ _ _)
   | (with_reducible exact impl_UndoOrders.mono _ _)
   | (with_reducible exact laws_r8Has.mono _ _ _)
   | (with_reducible exact laws_r8Same.mono _ _ _)
   | (with_reducible exact spec_R8Rules.mono _ _ _)
   | (with_reducible exact LeO.refl _)
   | (with_reducible exact LeO.none _)
   | (with_reducible refine LeO.ite ?_ ?_)
   | (with_reducible refine LeO.bind ?_ (fun _ => ?_))
   | exact ih0 _ _ _ _ _ _ _
   | exact ih1 _ _ _ _ _ _ _ _ _
   | exact ih2 _ _ _ _ _ _ _ _
   | exact ih3 _ _ _ _ _ _ _ _
   | exact ih4 _ _ _ _ _ _ _
   | exact ih5 _ _ _ _ _ _
   | exact ih6 _ _ _ _ _ _
   | exact ih7 _ _ _
   | exact ih8 _ _ _
   | exact impl_BrokenRules.mono _ _ _
   | exact impl_CountAllowed.mono _ _ _
   | exact impl_CountReached.mono _ _ _
   | exact impl_NextOrders.mono _ _ _
   | exact impl_OrdersText.mono _ _
   | exact impl_ReadOrders.mono _ _
   | exact impl_RunOrders.mono _ _ _ _
   | exact impl_ShortestOrders.mono _ _ _ _
   | exact impl_UndoOrders.mono _ _
   | exact laws_r8Has.mono _ _ _
   | exact laws_r8Same.mono _ _ _
   | exact spec_R8Rules.mono _ _ _
   | exact LeO.none _
   | refine LeO.ite ?_ ?_
   | refine LeO.bind ?_ (fun _ => ?_)
  ·
   intro y0 y1 y2
   unfold laws_FnSwitching.j7
   repeat' first
   | (with_reducible exact ih0 _ _ _ _ _ _ _)
   | (with_reducible exact ih1 _ _ _ _ _ _ _ _ _)
   | (with_reducible exact ih2 _ _ _ _ _ _ _ _)
   | (with_reducible exact ih3 _ _ _ _ _ _ _ _)
   | (with_reducible exact ih4 _ _ _ _ _ _ _)
   | (with_reducible exact ih5 _ _ _ _ _ _)
   | (with_reducible exact ih6 _ _ _ _ _ _)
   | (with_reducible exact ih7 _ _ _)
   | (with_reducible exact ih8 _ _ _)
   | (with_reducible exact impl_BrokenRules.mono _ _ _)
   | (with_reducible exact impl_CountAllowed.mono _ _ _)
   | (with_reducible exact impl_CountReached.mono _ _ _)
   | (with_reducible exact impl_NextOrders.mono _ _ _)
   | (with_reducible exact impl_OrdersText.mono _ _)
   | (with_reducible exact impl_ReadOrders.mono _ _)
   | (with_reducible exact impl_RunOrders.mono _ _ _ _)
   | (with_reducible exact impl_ShortestOrders.mono _ _ _ _)
   | (with_reducible exact impl_UndoOrders.mono _ _)
   | (with_reducible exact laws_r8Has.mono _ _ _)
   | (with_reducible exact laws_r8Same.mono _ _ _)
   | (with_reducible exact spec_R8Rules.mono _ _ _)
   | (with_reducible exact LeO.refl _)
   | (with_reducible exact LeO.none _)
   | (with_reducible refine LeO.ite ?_ ?_)
   | (with_reducible refine LeO.bind ?_ (fun _ => ?_))
   | exact ih0 _ _ _ _ _ _ _
   | exact ih1 _ _ _ _ _ _ _ _ _
   | exact ih2 _ _ _ _ _ _ _ _
   | exact ih3 _ _ _ _ _ _ _ _
   | exact ih4 _ _ _ _ _ _ _
   | exact ih5 _ _ _ _ _ _
   | exact ih6 _ _ _ _ _ _
   | exact ih7 _ _ _
   | exact ih8 _ _ _
   | exact impl_BrokenRules.mono _ _ _
   | exact impl_CountAllowed.mono _ _ _
   | exact impl_CountReached.mono _ _ _
   | exact impl_NextOrders.mono _ _ _
   | exact impl_OrdersText.mono _ _
   | exact impl_ReadOrders.mono _ _
   | exact impl_RunOrders.mono _ _ _ _
   | exact impl_ShortestOrders.mono _ _ _ _
   | exact impl_UndoOrders.mono _ _
   | exact laws_r8Has.mono _ _ _
   | exact laws_r8Same.mono _ _ _
   | exact spec_R8Rules.mono _ _ _
   | exact LeO.none _
   | refine LeO.ite ?_ ?_
   | refine LeO.bind ?_ (fun _ => ?_)
  ·
   intro y0 y1 y2
   unfold laws_FnSwitching.l2
   repeat' first
   | (with_reducible exact ih0 _ _ _ _ _ _ _)
   | (with_reducible exact ih1 _ _ _ _ _ _ _ _ _)
   | (with_reducible exact ih2 _ _ _ _ _ _ _ _)
   | (with_reducible exact ih3 _ _ _ _ _ _ _ _)
   | (with_reducible exact ih4 _ _ _ _ _ _ _)
   | (with_reducible exact ih5 _ _ _ _ _ _)
   | (with_reducible exact ih6 _ _ _ _ _ _)
   | (with_reducible exact ih7 _ _ _)
   | (with_reducible exact ih8 _ _ _)
   | (with_reducible exact impl_BrokenRules.mono _ _ _)
   | (with_reducible exact impl_CountAllowed.mono _ _ _)
   | (with_reducible exact impl_CountReached.mono _ _ _)
   | (with_reducible exact impl_NextOrders.mono _ _ _)
   | (with_reducible exact impl_OrdersText.mono _ _)
   | (with_reducible exact impl_ReadOrders.mono _ _)
   | (with_reducible exact impl_RunOrders.mono _ _ _ _)
   | (with_reducible exact impl_ShortestOrders.mono _ _ _ _)
   | (with_reducible exact impl_UndoOrders.mono _ _)
   | (with_reducible exact laws_r8Has.mono _ _ _)
   | (with_reducible exact laws_r8Same.mono _ _ _)
   | (with_reducible exact spec_R8Rules.mono _ _ _)
   | (with_reducible exact LeO.refl _)
   | (with_reducible exact LeO.none _)
   | (with_reducible refine LeO.ite ?_ ?_)
   | (with_reducible refine LeO.bind ?_ (fun _ => ?_))
   | exact ih0 _ _ _ _ _ _ _
   | exact ih1 _ _ _ _ _ _ _ _ _
   | exact ih2 _ _ _ _ _ _ _ _
   | exact ih3 _ _ _ _ _ _ _ _
   | exact ih4 _ _ _ _ _ _ _
   | exact ih5 _ _ _ _ _ _
   | exact ih6 _ _ _ _ _ _
   | exact ih7 _ _ _
   | exact ih8 _ _ _
   | exact impl_BrokenRules.mono _ _ _
   | exact impl_CountAllowed.mono _ _ _
   | exact impl_CountReached.mono _ _ _
   | exact impl_NextOrders.mono _ _ _
   | exact impl_OrdersText.mono _ _
   | exact impl_ReadOrders.mono _ _
   | exact impl_RunOrders.mono _ _ _ _
   | exact impl_ShortestOrders.mono _ _ _ _
   | exact impl_UndoOrders.mono _ _
   | exact laws_r8Has.mono _ _ _
   | exact laws_r8Same.mono _ _ _
   | exact spec_R8Rules.mono _ _ _
   | exact LeO.none _
   | refine LeO.ite ?_ ?_
   | refine LeO.bind ?_ (fun _ => ?_)
theorem laws_FnSwitching.mono : ∀ a0 a1 k, LeO (laws_FnSwitching.f k a0 a1) (laws_FnSwitching.f (k + 1) a0 a1) := by
 intro a0 a1 k
 obtain ⟨ih0, ih1, ih2, ih3, ih4, ih5, ih6, ih7, ih8⟩ := laws_FnSwitching.mono_l k
 unfold laws_FnSwitching.f
 repeat' first
  | (with_reducible exact ih0 _ _ _ _ _ _ _)
  | (with_reducible exact ih1 _ _ _ _ _ _ _ _ _)
  | (with_reducible exact ih2 _ _ _ _ _ _ _ _)
  | (with_reducible exact ih3 _ _ _ _ _ _ _ _)
  | (with_reducible exact ih4 _ _ _ _ _ _ _)
  | (with_reducible exact ih5 _ _ _ _ _ _)
  | (with_reducible exact ih6 _ _ _ _ _ _)
  | (with_reducible exact ih7 _ _ _)
  | (with_reducible exact ih8 _ _ _)
  | (with_reducible exact impl_BrokenRules.mono _ _ _)
  | (with_reducible exact impl_CountAllowed.mono _ _ _)
  | (with_reducible exact impl_CountReached.mono _ _ _)
  | (with_reducible exact impl_NextOrders.mono _ _ _)
  | (with_reducible exact impl_OrdersText.mono _ _)
  | (with_reducible exact impl_ReadOrders.mono _ _)
  | (with_reducible exact impl_RunOrders.mono _ _ _ _)
  | (with_reducible exact impl_ShortestOrders.mono _ _ _ _)
  | (with_reducible exact impl_UndoOrders.mono _ _)
  | (with_reducible exact laws_r8Has.mono _ _ _)
  | (with_reducible exact laws_r8Same.mono _ _ _)
  | (with_reducible exact spec_R8Rules.mono _ _ _)
  | (with_reducible exact LeO.refl _)
  | (with_reducible exact LeO.none _)
  | (with_reducible refine LeO.ite ?_ ?_)
  | (with_reducible refine LeO.bind ?_ (fun _ => ?_))
  | exact ih0 _ _ _ _ _ _ _
  | exact ih1 _ _ _ _ _ _ _ _ _
  | exact ih2 _ _ _ _ _ _ _ _
  | exact ih3 _ _ _ _ _ _ _ _
  | exact ih4 _ _ _ _ _ _ _
  | exact ih5 _ _ _ _ _ _
  | exact ih6 _ _ _ _ _ _
  | exact ih7 _ _ _
  | exact ih8 _ _ _
  | exact impl_BrokenRules.mono _ _ _
  | exact impl_CountAllowed.mono _ _ _
  | exact impl_CountReached.mono _ _ _
  | exact impl_NextOrders.mono _ _ _
  | exact impl_OrdersText.mono _ _
  | exact impl_ReadOrders.mono _ _
  | exact impl_RunOrders.mono _ _ _ _
  | exact impl_ShortestOrders.mono _ _ _ _
  | exact impl_UndoOrders.mono _ _
  | exact laws_r8Has.mono _ _ _
  | exact laws_r8Same.mono _ _ _
  | exact spec_R8Rules.mono _ _ _
  | exact LeO.none _
  | refine LeO.ite ?_ ?_
  | refine LeO.bind ?_ (fun _ => ?_)
theorem laws_FnSwitching.no_j1 {r : Bool} (hr : r = true) : ∀ k y0 y1 y2 y3 y4 y5 y6 y7, laws_FnSwitching.j1 k y0 y1 y2 y3 y4 y5 y6 y7 true = some r → False
  | 0, _, _, _, _, _, _, _, _, h => by simp [laws_FnSwitching.j1] at h
  | k + 1, _, _, _, _, _, _, _, _, h => by subst hr; simp [laws_FnSwitching.j1] at h
theorem laws_FnSwitching.no_j2 {r : Bool} (hr : r = true) : ∀ k y0 y1 y2 y3 y4 y5 y6, laws_FnSwitching.j2 k y0 y1 y2 y3 y4 y5 y6 true = some r → False
  | 0, _, _, _, _, _, _, _, h => by simp [laws_FnSwitching.j2] at h
  | k + 1, _, _, _, _, _, _, _, h => by subst hr; simp [laws_FnSwitching.j2] at h
theorem laws_FnSwitching.no_j4 {r : Bool} (hr : r = true) : ∀ k y0 y1 y2 y3 y4 y5, laws_FnSwitching.j4 k y0 y1 y2 y3 y4 y5 true = some r → False
  | 0, _, _, _, _, _, _, h => by simp [laws_FnSwitching.j4] at h
  | k + 1, _, _, _, _, _, _, h => by subst hr; simp [laws_FnSwitching.j4] at h
theorem laws_FnSwitching.no_j5 {r : Bool} (hr : r = true) : ∀ k y0 y1 y2 y3 y4, laws_FnSwitching.j5 k y0 y1 y2 y3 y4 true = some r → False
  | 0, _, _, _, _, _, h => by simp [laws_FnSwitching.j5] at h
  | k + 1, _, _, _, _, _, h => by subst hr; simp [laws_FnSwitching.j5] at h
theorem laws_FnSwitching.no_j7 {r : Bool} (hr : r = true) : ∀ k y0 y1, laws_FnSwitching.j7 k y0 y1 true = some r → False
  | 0, _, _, h => by simp [laws_FnSwitching.j7] at h
  | k + 1, _, _, h => by subst hr; simp [laws_FnSwitching.j7] at h
end Go.Proofs.YtffodlggihmonaaDoor.PFnSwitching
