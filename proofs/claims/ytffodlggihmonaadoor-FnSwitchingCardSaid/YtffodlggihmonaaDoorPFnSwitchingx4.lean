-- written by a program of this session (mkp.py) out of the translation; Lean checks it. -- squeezed
import Derived.Test.YtffodlggihmonaaDoorPFnSwitchingx0
import Derived.Test.YtffodlggihmonaaDoorPFnSwitchingx2
import Derived.Test.YtffodlggihmonaaDoorPFnSwitchingx3
namespace Go.Proofs.YtffodlggihmonaaDoor.PFnSwitching
open Go.RowKit Go.Proofs.YtffodlggihmonaaDoorW.PrintWords Go.Proofs.YtffodlggihmonaaDoorW.PrintLast Go.Proofs.YtffodlggihmonaaDoorW.PrintMore
attribute [local go_sem] bin_leq bin_gtr bin_geq max2_int min2_int max_two min_two max_three min_three max_four min_four   -- for this text's walks alone
set_option linter.unusedVariables false
set_option linter.unusedSimpArgs false

/-! ### impl_ShortestOrders: function 9 -/
mutual
def impl_ShortestOrders.j0 : Nat → List Bool → List (S51) → Int → Int → List Int → Bool → Option (List Int × Int)
 | 0, _, _, _, _, _, _ => none
 | k + 1, x0, x2, x8, x9, x10, x48 => if x48 = true then (some (([] : List Int), 3)) else (impl_ShortestOrders.l0 k x0 x2 x8 x9 x10 ([] : List Int))
def impl_ShortestOrders.l0 : Nat → List Bool → List (S51) → Int → Int → List Int → List Int → Option (List Int × Int)
 | 0, _, _, _, _, _, _ => none
 | k + 1, x0, x2, x8, x9, x10, x11 => if x8 = x9 then (some (x11, 0)) else (impl_ShortestOrders.l1 k x0 x2 x8 x9 x10 x11 9 (x0.length : Int) 0)
def impl_ShortestOrders.l1 : Nat → List Bool → List (S51) → Int → Int → List Int → List Int → Int → Int → Int → Option (List Int × Int)
 | 0, _, _, _, _, _, _, _, _, _ => none
 | k + 1, x0, x2, x8, x9, x10, x11, x12, x53, x54 => if x54 < x53 then (if 0 ≤ x54 then ((impl_switches_allowed.f (Go.bits .xor .i64 x8 (shl .i64 1 x54)) x2).bind fun t179 => (if t179 = true then (if 0 ≤ (Go.bits .xor .i64 x8 (shl .i64 1 x54)) then (if (Go.bits .xor .i64 x8 (shl .i64 1 x54)) < (x10.length : Int) then (if 0 ≤ x8 then (if x8 < (x10.length : Int) then (if (rd x10 (Go.bits .xor .i64 x8 (shl .i64 1 x54))) = (wrap64 ((rd x10 x8) - 1)) then ((impl_switches_order.f x8 x54).bind fun t182 => (impl_ShortestOrders.l1 k x0 x2 x8 x9 x10 x11 (mn x12 t182) x53 (wrap64 (x54 + 1)))) else (impl_ShortestOrders.l1 k x0 x2 x8 x9 x10 x11 x12 x53 (wrap64 (x54 + 1)))) else (none)) else (none)) else (none)) else (none)) else (impl_ShortestOrders.l1 k x0 x2 x8 x9 x10 x11 x12 x53 (wrap64 (x54 + 1))))) else (none)) else (if x11.length < 17592186044416 then ((impl_abs.f x12).bind fun t178 => (if 0 ≤ (wrap64 (t178 - 1)) then (impl_ShortestOrders.l0 k x0 x2 (Go.bits .xor .i64 x8 (shl .i64 1 (wrap64 (t178 - 1)))) x9 x10 (x11 ++ [x12])) else (none))) else (none))
end
def impl_ShortestOrders.f (k : Nat) (l0 : List Bool) (l1 : List Bool) (l2 : List (S51)) : Option (List Int × Int) := (impl_ValidRules.f k (l0.length : Int) l2).bind fun t166 => (if t166 = true then (if (l1.length : Int) = (l0.length : Int) then ((impl_switchSet.f k l0).bind fun t167 => ((impl_switchSet.f k l1).bind fun t168 => ((impl_switchSet.f k l1).bind fun t169 => ((impl_distancesTo.f k t169 (l0.length : Int) l2).bind fun t170 => (if 0 ≤ t167 then (if t167 < (t170.length : Int) then (if (rd t170 t167) < 0 then (impl_ShortestOrders.j0 k l0 l2 t167 t168 t170 true) else (impl_ShortestOrders.j0 k l0 l2 t167 t168 t170 (decide ((rd t170 t167) > 24)))) else (none)) else (none)))))) else (some (([] : List Int), 7))) else (some (([] : List Int), 1)))
theorem impl_ShortestOrders.mono_l : ∀ k, (∀ y0 y1 y2 y3 y4 y5, LeO (impl_ShortestOrders.j0 k y0 y1 y2 y3 y4 y5) (impl_ShortestOrders.j0 (k + 1) y0 y1 y2 y3 y4 y5)) ∧ (∀ y0 y1 y2 y3 y4 y5, LeO (impl_ShortestOrders.l0 k y0 y1 y2 y3 y4 y5) (impl_ShortestOrders.l0 (k + 1) y0 y1 y2 y3 y4 y5)) ∧ (∀ y0 y1 y2 y3 y4 y5 y6 y7 y8, LeO (impl_ShortestOrders.l1 k y0 y1 y2 y3 y4 y5 y6 y7 y8) (impl_ShortestOrders.l1 (k + 1) y0 y1 y2 y3 y4 y5 y6 y7 y8))
 | 0 => ⟨fun _ _ _ _ _ _ r h => by simp [impl_ShortestOrders.j0] at h, fun _ _ _ _ _ _ r h => by simp [impl_ShortestOrders.l0] at h, fun _ _ _ _ _ _ _ _ _ r h => by simp [impl_ShortestOrders.l1] at h⟩
 | k + 1 => by
  obtain ⟨ih0, ih1, ih2⟩ := impl_ShortestOrders.mono_l k
  refine ⟨?_, ?_, ?_⟩
  ·
   intro y0 y1 y2 y3 y4 y5
   unfold impl_ShortestOrders.j0
   repeat' first
   | (with_reducible exact ih0 _ _ _ _ _ _)
   | (with_reducible exact ih1 _ _ _ _ _ _)
   | (with_reducible exact ih2 _ _ _ _ _ _ _ _ _)
   | (with_reducible exact impl_ValidRules.mono _ _ _)
   | (with_reducible exact impl_distancesTo.mono _ _ _ _)
   | (with_reducible exact impl_switchSet.mono _ _)
   | (with_reducible exact LeO.refl _)
   | (with_reducible exact LeO.none _)
   | (with_reducible refine LeO.ite ?_ ?_)
   | (with_reducible refine LeO.bind ?_ (fun _ => ?_))
   | exact ih0 _ _ _ _ _ _
   | exact ih1 _ _ _ _ _ _
   | exact ih2 _ _ _ _ _ _ _ _ _
   | exact impl_ValidRules.mono _ _ _
   | exact impl_distancesTo.mono _ _ _ _
   | exact impl_switchSet.mono _ _
   | exact LeO.none _
   | refine LeO.ite ?_ ?_
   | refine LeO.bind ?_ (fun _ => ?_)
  ·
   intro y0 y1 y2 y3 y4 y5
   unfold impl_ShortestOrders.l0
   repeat' first
   | (with_reducible exact ih0 _ _ _ _ _ _)
   | (with_reducible exact ih1 _ _ _ _ _ _)
   | (with_reducible exact ih2 _ _ _ _ _ _ _ _ _)
   | (with_reducible exact impl_ValidRules.mono _ _ _)
   | (with_reducible exact impl_distancesTo.mono _ _ _ _)
   | (with_reducible exact impl_switchSet.mono _ _)
   | (with_reducible exact LeO.refl _)
   | (with_reducible exact LeO.none _)
   | (with_reducible refine LeO.ite ?_ ?_)
   | (with_reducible refine LeO.bind ?_ (fun _ => ?_))
   | exact ih0 _ _ _ _ _ _
   | exact ih1 _ _ _ _ _ _
   | exact ih2 _ _ _ _ _ _ _ _ _
   | exact impl_ValidRules.mono _ _ _
   | exact impl_distancesTo.mono _ _ _ _
   | exact impl_switchSet.mono _ _
   | exact LeO.none _
   | refine LeO.ite ?_ ?_
   | refine LeO.bind ?_ (fun _ => ?_)
  ·
   intro y0 y1 y2 y3 y4 y5 y6 y7 y8
   unfold impl_ShortestOrders.l1
   repeat' first
   | (with_reducible exact ih0 _ _ _ _ _ _)
   | (with_reducible exact ih1 _ _ _ _ _ _)
   | (with_reducible exact ih2 _ _ _ _ _ _ _ _ _)
   | (with_reducible exact impl_ValidRules.mono _ _ _)
   | (with_reducible exact impl_distancesTo.mono _ _ _ _)
   | (with_reducible exact impl_switchSet.mono _ _)
   | (with_reducible exact LeO.refl _)
   | (with_reducible exact LeO.none _)
   | (with_reducible refine LeO.ite ?_ ?_)
   | (with_reducible refine LeO.bind ?_ (fun _ => ?_))
   | exact ih0 _ _ _ _ _ _
   | exact ih1 _ _ _ _ _ _
   | exact ih2 _ _ _ _ _ _ _ _ _
   | exact impl_ValidRules.mono _ _ _
   | exact impl_distancesTo.mono _ _ _ _
   | exact impl_switchSet.mono _ _
   | exact LeO.none _
   | refine LeO.ite ?_ ?_
   | refine LeO.bind ?_ (fun _ => ?_)
theorem impl_ShortestOrders.mono : ∀ a0 a1 a2 k, LeO (impl_ShortestOrders.f k a0 a1 a2) (impl_ShortestOrders.f (k + 1) a0 a1 a2) := by
 intro a0 a1 a2 k
 obtain ⟨ih0, ih1, ih2⟩ := impl_ShortestOrders.mono_l k
 unfold impl_ShortestOrders.f
 repeat' first
  | (with_reducible exact ih0 _ _ _ _ _ _)
  | (with_reducible exact ih1 _ _ _ _ _ _)
  | (with_reducible exact ih2 _ _ _ _ _ _ _ _ _)
  | (with_reducible exact impl_ValidRules.mono _ _ _)
  | (with_reducible exact impl_distancesTo.mono _ _ _ _)
  | (with_reducible exact impl_switchSet.mono _ _)
  | (with_reducible exact LeO.refl _)
  | (with_reducible exact LeO.none _)
  | (with_reducible refine LeO.ite ?_ ?_)
  | (with_reducible refine LeO.bind ?_ (fun _ => ?_))
  | exact ih0 _ _ _ _ _ _
  | exact ih1 _ _ _ _ _ _
  | exact ih2 _ _ _ _ _ _ _ _ _
  | exact impl_ValidRules.mono _ _ _
  | exact impl_distancesTo.mono _ _ _ _
  | exact impl_switchSet.mono _ _
  | exact LeO.none _
  | refine LeO.ite ?_ ?_
  | refine LeO.bind ?_ (fun _ => ?_)
def impl_ShortestOrders.T15 : Bool × List (List Nat × List Nat) := (true, [([], []), ([], []), ([0, 1], [0, 1]), ([2, 2], [2]), ([3], [3]), ([3], [3]), ([4, 5, 3], [3, 4, 5]), ([6, 3], [3, 6]), ([3], [3]), ([3], [3]), ([8, 9, 3], [3, 8, 9]), ([10, 3], [3, 10]), ([11, 3], [3, 11]), ([7, 12, 3], [3, 7, 12]), ([3, 13], [3, 13])])
def impl_ShortestOrders.B15 : List Nat := [0, 0, 3, 7, 15, 15, 63, 127, 15, 15, 783, 1807, 3855, 8191, 16383]
theorem impl_ShortestOrders.tab15 : rtab .any (opsOf Tryd.f9 15) = impl_ShortestOrders.T15 := by kernel_rfl
theorem impl_ShortestOrders.bits15 : waitsOk impl_ShortestOrders.T15.2 impl_ShortestOrders.B15 = true := by kernel_rfl
set_option maxHeartbeats 8000000 in
set_option maxRecDepth 100000 in
theorem impl_ShortestOrders.calls (k : Nat) (A0 : Option Addr) (c0 : Nat) (l0 : List Bool) (A1 : Option Addr) (c1 : Nat) (l1 : List Bool) (A2 : Option Addr) (c2 : Nat) (l2 : List (S51)) (r1 : List Int) (r2 : Int) (w : World) (hr0 : Kd.C Kd.bool w A0 l0.length l0) (hc0 : l0.length ≤ c0) (hr1 : Kd.C Kd.bool w A1 l1.length l1) (hc1 : l1.length ≤ c1) (hr2 : Kd.C k51 w A2 l2.length l2) (hc2 : l2.length ≤ c2) (h : impl_ShortestOrders.f k l0 l1 l2 = some (r1, r2)) :
  Calls Tryd.prog 9 #[.slice A0 l0.length c0, .slice A1 l1.length c1, .slice A2 l2.length c2] w fun e w' => ∃ v0_ : Value, e = .returned (.tuple #[v0_, .int .i64 r2]) ∧ Kd.R (Kd.int .i64) 2 w' w.heap.size (fun _ => True) v0_ r1 ∧ Below w.heap.size w w' := by
 have HR0 := Aside0.mk hr0
 have HC0 := Aside0.mk hc0
 clear hr0 hc0
 have HR1 := Aside0.mk hr1
 have HC1 := Aside0.mk hc1
 clear hr1 hc1
 have HR2 := Aside0.mk hr2
 have HC2 := Aside0.mk hc2
 clear hr2 hc2
 have HB := Aside0.mk (Below.refl w.heap.size w)
 have H : ((impl_ValidRules.f k (l0.length : Int) l2).bind fun t166 => (if t166 = true then (if (l1.length : Int) = (l0.length : Int) then ((impl_switchSet.f k l0).bind fun t167 => ((impl_switchSet.f k l1).bind fun t168 => ((impl_switchSet.f k l1).bind fun t169 => ((impl_distancesTo.f k t169 (l0.length : Int) l2).bind fun t170 => (if 0 ≤ t167 then (if t167 < (t170.length : Int) then (if (rd t170 t167) < 0 then (impl_ShortestOrders.j0 k l0 l2 t167 t168 t170 true) else (impl_ShortestOrders.j0 k l0 l2 t167 t168 t170 (decide ((rd t170 t167) > 24)))) else (none)) else (none)))))) else (some (([] : List Int), 7))) else (some (([] : List Int), 1)))) = some (r1, r2) := h
 clear h
 replace H := Option.bind_eq_some_iff.mp H
 obtain ⟨t166, A40, H⟩ := H
 replace H : (if t166 = true then (if (l1.length : Int) = (l0.length : Int) then ((impl_switchSet.f k l0).bind fun t167 => ((impl_switchSet.f k l1).bind fun t168 => ((impl_switchSet.f k l1).bind fun t169 => ((impl_distancesTo.f k t169 (l0.length : Int) l2).bind fun t170 => (if 0 ≤ t167 then (if t167 < (t170.length : Int) then (if (rd t170 t167) < 0 then (impl_ShortestOrders.j0 k l0 l2 t167 t168 t170 true) else (impl_ShortestOrders.j0 k l0 l2 t167 t168 t170 (decide ((rd t170 t167) > 24)))) else (none)) else (none)))))) else (some (([] : List Int), 7))) else (some (([] : List Int), 1))) = some (r1, r2) := H
 have A4 := Aside0.mk A40
 clear A40
 by_cases c5 : t166 = true
 ·
  subst c5
  have H1 : (if (l1.length : Int) = (l0.length : Int) then ((impl_switchSet.f k l0).bind fun t167 => ((impl_switchSet.f k l1).bind fun t168 => ((impl_switchSet.f k l1).bind fun t169 => ((impl_distancesTo.f k t169 (l0.length : Int) l2).bind fun t170 => (if 0 ≤ t167 then (if t167 < (t170.length : Int) then (if (rd t170 t167) < 0 then (impl_ShortestOrders.j0 k l0 l2 t167 t168 t170 true) else (impl_ShortestOrders.j0 k l0 l2 t167 t168 t170 (decide ((rd t170 t167) > 24)))) else (none)) else (none)))))) else (some (([] : List Int), 7))) = some (r1, r2) := by rw [if_pos rfl] at H; exact H
  clear H
  have H := H1
  clear H1
  by_cases c6 : (l1.length : Int) = (l0.length : Int)
  ·
   rw [if_pos c6] at H
   have c6b0 : ((l1.length : Int) == (l0.length : Int)) = true := beq_iff_eq.mpr c6
   have c6b1 : ((l1.length : Int) != (l0.length : Int)) = false := bne_eq_false_iff_eq.mpr c6
   have c6b2 : (l1.length == l0.length) = true := by first | simpa using c6 | (simp at c6 ⊢; omega)
   clear c6
   replace H := Option.bind_eq_some_iff.mp H
   obtain ⟨t167, A70, H⟩ := H
   replace H : ((impl_switchSet.f k l1).bind fun t168 => ((impl_switchSet.f k l1).bind fun t169 => ((impl_distancesTo.f k t169 (l0.length : Int) l2).bind fun t170 => (if 0 ≤ t167 then (if t167 < (t170.length : Int) then (if (rd t170 t167) < 0 then (impl_ShortestOrders.j0 k l0 l2 t167 t168 t170 true) else (impl_ShortestOrders.j0 k l0 l2 t167 t168 t170 (decide ((rd t170 t167) > 24)))) else (none)) else (none))))) = some (r1, r2) := H
   have A7 := Aside0.mk A70
   clear A70
   replace H := Option.bind_eq_some_iff.mp H
   obtain ⟨t168, A80, H⟩ := H
   replace H : ((impl_switchSet.f k l1).bind fun t169 => ((impl_distancesTo.f k t169 (l0.length : Int) l2).bind fun t170 => (if 0 ≤ t167 then (if t167 < (t170.length : Int) then (if (rd t170 t167) < 0 then (impl_ShortestOrders.j0 k l0 l2 t167 t168 t170 true) else (impl_ShortestOrders.j0 k l0 l2 t167 t168 t170 (decide ((rd t170 t167) > 24)))) else (none)) else (none)))) = some (r1, r2) := H
   have A8 := Aside0.mk A80
   clear A80
   replace H := Option.bind_eq_some_iff.mp H
   obtain ⟨t169, A90, H⟩ := H
   replace H : ((impl_distancesTo.f k t169 (l0.length : Int) l2).bind fun t170 => (if 0 ≤ t167 then (if t167 < (t170.length : Int) then (if (rd t170 t167) < 0 then (impl_ShortestOrders.j0 k l0 l2 t167 t168 t170 true) else (impl_ShortestOrders.j0 k l0 l2 t167 t168 t170 (decide ((rd t170 t167) > 24)))) else (none)) else (none))) = some (r1, r2) := H
   have A9 := Aside0.mk A90
   clear A90
   replace H := Option.bind_eq_some_iff.mp H
   obtain ⟨t170, A100, H⟩ := H
   replace H : (if 0 ≤ t167 then (if t167 < (t170.length : Int) then (if (rd t170 t167) < 0 then (impl_ShortestOrders.j0 k l0 l2 t167 t168 t170 true) else (impl_ShortestOrders.j0 k l0 l2 t167 t168 t170 (decide ((rd t170 t167) > 24)))) else (none)) else (none)) = some (r1, r2) := H
   have A10 := Aside0.mk A100
   clear A100
   have HC11 := Aside0.mk H
   clear H
   go_enter Tryd.func9, Tryd.ntmps9
   go_upto_region 6 with (first | ((with_reducible refine gate_callee (f := 28) rfl ?_); refine goesA_ (some 19) Tryd.func28 #[.int .i64 (l0.length : Int), .slice A2 l2.length c2] ?_; (with_reducible refine (impl_ValidRules.calls k (l0.length : Int) _ _ l2 true _ ?side1 ?side2 A4.out).mono ?_); (case side1 => exact mvC HR2.out); (case side2 => exact HC2.out); rintro e w12 ⟨rfl, hb⟩; refine ⟨_, rfl, ?_⟩; have n0_ := Aside0.mk (below_step (mvB HB.out) hb); clear HB; revert n0_; intro HB; (try clear hb)) | ((with_reducible refine gate_callee (f := 29) rfl ?_); refine goesA_ (some 28) Tryd.func29 #[.slice A0 l0.length c0] ?_; (with_reducible refine (impl_switchSet.calls k _ _ l0 t167 _ ?side1 ?side2 A7.out).mono ?_); (case side1 => exact mvC (Kd.C_below HR0.out HB.out)); (case side2 => exact HC0.out); rintro e w' ⟨rfl, ⟨nd, rfl⟩⟩; refine ⟨_, rfl, ?_⟩) | ((with_reducible refine gate_callee (f := 29) rfl ?_); refine goesA_ (some 30) Tryd.func29 #[.slice A1 l1.length c1] ?_; (with_reducible refine (impl_switchSet.calls k _ _ l1 t168 _ ?side1 ?side2 A8.out).mono ?_); (case side1 => exact mvC (Kd.C_below HR1.out (mvB HB.out))); (case side2 => exact HC1.out); rintro e w' ⟨rfl, ⟨nd, rfl⟩⟩; refine ⟨_, rfl, ?_⟩) | ((with_reducible refine gate_callee (f := 29) rfl ?_); refine goesA_ (some 32) Tryd.func29 #[.slice A1 l1.length c1] ?_; (with_reducible refine (impl_switchSet.calls k _ _ l1 t169 _ ?side1 ?side2 A9.out).mono ?_); (case side1 => exact mvC (Kd.C_below HR1.out (mvB HB.out))); (case side2 => exact HC1.out); rintro e w' ⟨rfl, ⟨nd, rfl⟩⟩; refine ⟨_, rfl, ?_⟩) | ((with_reducible refine gate_callee (f := 30) rfl ?_); refine goesA_ (some 36) Tryd.func30 #[.int .i64 t169, .int .i64 (l0.length : Int), .slice A2 l2.length c2] ?_; (with_reducible refine (impl_distancesTo.calls k t169 (l0.length : Int) _ _ l2 t170 _ ?side1 ?side2 A10.out).mono ?_); (case side1 => exact mvC (Kd.C_below HR2.out (mvB HB.out))); (case side2 => exact HC2.out); rintro e w13 ⟨v171, rfl, ho0, hb⟩; refine ⟨_, rfl, ?_⟩; have n0_ := Aside0.mk (Kd.R_lower ho0 (below_size (mvB HB.out))); have n1_ := Aside0.mk (below_step (mvB HB.out) hb); clear HB; revert n0_ n1_; intro HO172 HB; (try clear hb); (try clear ho0)))
   (try simp only [Act.put, List.setIfInBounds_toArray, List.set_cons_zero, List.set_cons_succ])
   go_cut [48] (fun v48 wc => ∃ (kq : Nat) (x48_10 : Bool), v48 = .bool x48_10 ∧ Aside0 (impl_ShortestOrders.j0 kq l0 l2 t167 t168 t170 x48_10 = some (r1, r2)) ∧ Aside0 (kq ≤ k) ∧ Aside0 (Kd.R (Kd.int .i64) 3 wc w.heap.size (fun _ => True) v171 t170) ∧ Aside0 (Below w.heap.size w wc))
   case first =>
    have H := HC11.out
    clear HC11
    by_cases c14 : 0 ≤ t167
    ·
     rw [if_pos c14] at H
     have c14b0 : decide (0 ≤ t167) = true := decide_eq_true c14
     clear c14
     (first | rw [c14b0] | (simp only [i64_w, i32_w]; rw [c14b0]) | skip)
     by_cases c15 : t167 < (t170.length : Int)
     ·
      rw [if_pos c15] at H
      have c15b0 : decide (t167 < (t170.length : Int)) = true := decide_eq_true c15
      clear c15
      by_cases c16 : (rd t170 t167) < 0
      ·
       rw [if_pos c16] at H
       have c16b0 : decide ((rd t170 t167) < 0) = true := decide_eq_true c16
       clear c16
       have H' := Aside0.mk H
       clear H
       obtain ⟨Ao17, co17, eo17⟩ := Kd.R_slice HO172.out
       subst eo17
       have p173 : 0 ≤ (t167 : Int) := od
       have q173 : t167 < (t170.length : Int) := od
       obtain ⟨ad173, e173, hx173_0⟩ := Kd.at_int (Kd.R_reads' HO172.out).2.2 t167 p173 q173
       cases e173
       replace p173 := eq_true p173
       replace q173 := eq_true q173
       go_wp2
       go_meet
       case rel => exact ⟨_, (true), rs, H', ⟨by first | omega | exact Nat.le_refl _⟩, ⟨mv HO172.out⟩, ⟨mvB HB.out⟩⟩
      ·
       rw [if_neg c16] at H
       have c16b0 : decide ((rd t170 t167) < 0) = false := decide_eq_false c16
       clear c16
       have H' := Aside0.mk H
       clear H
       obtain ⟨Ao18, co18, eo18⟩ := Kd.R_slice HO172.out
       subst eo18
       have p173 : 0 ≤ (t167 : Int) := od
       have q173 : t167 < (t170.length : Int) := od
       obtain ⟨ad173, e173, hx173_0⟩ := Kd.at_int (Kd.R_reads' HO172.out).2.2 t167 p173 q173
       cases e173
       replace p173 := eq_true p173
       replace q173 := eq_true q173
       have p174 : 0 ≤ (t167 : Int) := od
       have q174 : t167 < (t170.length : Int) := od
       obtain ⟨ad174, e174, hx174_0⟩ := Kd.at_int (Kd.R_reads' HO172.out).2.2 t167 p174 q174
       obtain rfl : ad173 = ad174 := (by injection e174)
       replace p174 := eq_true p174
       replace q174 := eq_true q174
       go_wp2
       go_meet
       case rel => exact ⟨_, (decide ((rd t170 t167) > 24)), rs, H', ⟨by first | omega | exact Nat.le_refl _⟩, ⟨mv HO172.out⟩, ⟨mvB HB.out⟩⟩
     ·
      rw [if_neg c15] at H
      exact absurd H (by simp)
    ·
     rw [if_neg c14] at H
     exact absurd H (by simp)
   case rest =>
    clear HC11
    try clear c5
    try clear c6b0
    try clear c6b1
    try clear c6b2
    obtain ⟨kq, x48_10, rfl, HA, HJ10, HO_10, HB⟩ := hcut
    cases kq with
    | zero => exact absurd HA.out (by simp [impl_ShortestOrders.j0])
    | succ kj10 =>
     have H := HA.out
     clear HA
     simp only [impl_ShortestOrders.j0] at H
     by_cases c19 : x48_10 = true
     ·
      subst c19
      have H1 : (some (([] : List Int), 3)) = some (r1, r2) := by rw [if_pos rfl] at H; exact H
      clear H
      have H := H1
      clear H1
      simp only [Option.some.injEq, Prod.mk.injEq] at H
      obtain ⟨rfl, rfl⟩ := H
      go_wp2
      go_ret2
      exact ⟨_, by first | rfl | (simp [errW_none, errW_some] <;> rfl) | (simp [*, errW_none, errW_some] <;> rfl), by first | exact Kd.R_nil _ _ _ _ _ | exact Kd.N_nil _ _ _ _ _ | exact Kd.V_nil _ _ _ _ _ | exact Kd.Q_nil _ _ _ _ _ | exact Kd.S_nil _ _ _ _ _, mvB HB.out⟩
     ·
      replace c19 := Bool.eq_false_iff.mpr c19
      subst c19
      have H1 : (impl_ShortestOrders.l0 kj10 l0 l2 t167 t168 t170 ([] : List Int)) = some (r1, r2) := by rw [if_neg (show ¬ (false = true) by decide)] at H; exact H
      clear H
      have H := H1
      clear H1
      have H' := Aside0.mk H
      clear H
      go_wp2
      go_loopg [8, 11] kj10 (fun kq v8 v11 w' => ∃ (x8_2 : Int) (x11_2 : List Int), v8 = .int .i64 x8_2 ∧ Aside0 (impl_ShortestOrders.l0 kq l0 l2 x8_2 t168 t170 x11_2 = some (r1, r2)) ∧ Aside0 (kq ≤ kj10) ∧ Aside0 (Kd.R (Kd.int .i64) 3 w' w.heap.size (fun _ => True) v171 t170) ∧ Aside0 (Kd.R (Kd.int .i64) 2 w' w.heap.size (fun _ => True) v11 x11_2) ∧ Aside0 (Below w.heap.size w w'))
      case atStart => exact ⟨(t167), (([] : List Int)), rs, H', ⟨Nat.le_refl _⟩, ⟨mv HO_10.out⟩, ⟨by first | exact Kd.R_nil _ _ _ _ _ | exact Kd.N_nil _ _ _ _ _ | exact Kd.V_nil _ _ _ _ _ | exact Kd.Q_nil _ _ _ _ _ | exact Kd.S_nil _ _ _ _ _⟩, ⟨mvB HB.out⟩⟩
      case round =>
       clear H'
       try clear c5
       try clear c6b0
       try clear c6b1
       try clear c6b2
       try clear c19
       obtain ⟨x8_2, x11_2, rfl, HA, HK2, HO_10, HO_11, HB⟩ := hrel
       cases gk with
       | zero => exact absurd HA.out (by simp [impl_ShortestOrders.l0])
       | succ k2 =>
        have H := HA.out
        clear HA
        simp only [impl_ShortestOrders.l0] at H
        by_cases c20 : x8_2 = t168
        ·
         rw [if_pos c20] at H
         have c20b0 : (x8_2 == t168) = true := beq_iff_eq.mpr c20
         have c20b1 : (x8_2 != t168) = false := bne_eq_false_iff_eq.mpr c20
         clear c20
         simp only [Option.some.injEq, Prod.mk.injEq] at H
         obtain ⟨rfl, rfl⟩ := H
         go_wp2
         go_ret2
         exact ⟨_, by first | rfl | (simp [errW_none, errW_some] <;> rfl) | (simp [*, errW_none, errW_some] <;> rfl), mv HO_11.out, mvB HB.out⟩
        ·
         rw [if_neg c20] at H
         have c20b0 : (x8_2 == t168) = false := beq_eq_false_iff_ne.mpr c20
         have c20b1 : (x8_2 != t168) = true := bne_iff_ne.mpr c20
         have H' := Aside0.mk H
         clear H
         go_wp2
         go_loopg [12, 54] k2 (fun kq v12 v54 w' => ∃ (x12_3 : Int) (x54_3 : Int), v12 = .int .i64 x12_3 ∧ v54 = .int .i64 x54_3 ∧ Aside0 (impl_ShortestOrders.l1 kq l0 l2 x8_2 t168 t170 x11_2 x12_3 (l0.length : Int) x54_3 = some (r1, r2)) ∧ Aside0 (kq ≤ k2) ∧ Aside0 (Kd.R (Kd.int .i64) 3 w' w.heap.size (fun _ => True) v171 t170) ∧ Aside0 (Kd.R (Kd.int .i64) 2 w' w.heap.size (fun _ => True) u11 x11_2) ∧ Aside0 (Below w.heap.size w w'))
         case atStart => exact ⟨(9), (0), rs, rs, H', ⟨Nat.le_refl _⟩, ⟨mv HO_10.out⟩, ⟨mv HO_11.out⟩, ⟨mvB HB.out⟩⟩
         case round =>
          clear H'
          try clear c5
          try clear c6b0
          try clear c6b1
          try clear c6b2
          try clear c19
          try clear c20b0
          try clear c20b1
          obtain ⟨x12_3, x54_3, rfl, rfl, HA, HK3, HO_10, HO_11, HB⟩ := hrel
          cases gk with
          | zero => exact absurd HA.out (by simp [impl_ShortestOrders.l1])
          | succ k3 =>
           have H := HA.out
           clear HA
           simp only [impl_ShortestOrders.l1] at H
           by_cases c21 : x54_3 < (l0.length : Int)
           ·
            rw [if_pos c21] at H
            have c21b0 : decide (x54_3 < (l0.length : Int)) = true := decide_eq_true c21
            clear c21
            by_cases c22 : 0 ≤ x54_3
            ·
             rw [if_pos c22] at H
             have c22b0 := eq_true c22
             have c22b1 : decide (0 ≤ x54_3) = true := decide_eq_true c22
             clear c22
             obtain ⟨ji23, hji23⟩ : ∃ j_ : Int, (shl .i64 1 x54_3) = j_ := ⟨_, rfl⟩
             replace H : ((impl_switches_allowed.f (Go.bits .xor .i64 x8_2 (ji23)) l2).bind fun t179 => (if t179 = true then (if 0 ≤ (Go.bits .xor .i64 x8_2 (ji23)) then (if (Go.bits .xor .i64 x8_2 (ji23)) < (t170.length : Int) then (if 0 ≤ x8_2 then (if x8_2 < (t170.length : Int) then (if (rd t170 (Go.bits .xor .i64 x8_2 (ji23))) = (wrap64 ((rd t170 x8_2) - 1)) then ((impl_switches_order.f x8_2 x54_3).bind fun t182 => (impl_ShortestOrders.l1 k3 l0 l2 x8_2 t168 t170 x11_2 (mn x12_3 t182) (l0.length : Int) (wrap64 (x54_3 + 1)))) else (impl_ShortestOrders.l1 k3 l0 l2 x8_2 t168 t170 x11_2 x12_3 (l0.length : Int) (wrap64 (x54_3 + 1)))) else (none)) else (none)) else (none)) else (none)) else (impl_ShortestOrders.l1 k3 l0 l2 x8_2 t168 t170 x11_2 x12_3 (l0.length : Int) (wrap64 (x54_3 + 1))))) = some (r1, r2) := by first | (rw [hji23] at H; exact H) | (simp only [hji23] at H ⊢; exact H)
             have hji23_ : (IntKind.i64.wrap (1 * 2 ^ min x54_3.toNat 64)) = ji23 := hji23
             have hji23z : x54_3 ≤ 64 → (IntKind.i64.wrap (1 * 2 ^ x54_3.toNat)) = ji23 := shl_small hji23
             have hji23u : (IntKind.i64.wrap (2 ^ min x54_3.toNat 64)) = ji23 := by have h_ := hji23_; rw [Int.one_mul] at h_; exact h_
             have hji23v : x54_3 ≤ 64 → (IntKind.i64.wrap (2 ^ x54_3.toNat)) = ji23 := fun hle_ => by have h_ := hji23z hle_; rw [Int.one_mul] at h_; exact h_
             have hji23y : (wrap64 (1 * 2 ^ min x54_3.toNat 64)) = ji23 := (i64_w _).symm.trans hji23_
             have hji23x : x54_3 ≤ 64 → (wrap64 (1 * 2 ^ x54_3.toNat)) = ji23 := fun h_ => (i64_w _).symm.trans (hji23z h_)
             replace H := Option.bind_eq_some_iff.mp H
             obtain ⟨t179, A240, H⟩ := H
             replace H : (if t179 = true then (if 0 ≤ (Go.bits .xor .i64 x8_2 (ji23)) then (if (Go.bits .xor .i64 x8_2 (ji23)) < (t170.length : Int) then (if 0 ≤ x8_2 then (if x8_2 < (t170.length : Int) then (if (rd t170 (Go.bits .xor .i64 x8_2 (ji23))) = (wrap64 ((rd t170 x8_2) - 1)) then ((impl_switches_order.f x8_2 x54_3).bind fun t182 => (impl_ShortestOrders.l1 k3 l0 l2 x8_2 t168 t170 x11_2 (mn x12_3 t182) (l0.length : Int) (wrap64 (x54_3 + 1)))) else (impl_ShortestOrders.l1 k3 l0 l2 x8_2 t168 t170 x11_2 x12_3 (l0.length : Int) (wrap64 (x54_3 + 1)))) else (none)) else (none)) else (none)) else (none)) else (impl_ShortestOrders.l1 k3 l0 l2 x8_2 t168 t170 x11_2 x12_3 (l0.length : Int) (wrap64 (x54_3 + 1)))) = some (r1, r2) := H
             have A24 := Aside0.mk A240
             clear A240
             by_cases c25 : t179 = true
             ·
              subst c25
              have H1 : (if 0 ≤ (Go.bits .xor .i64 x8_2 (ji23)) then (if (Go.bits .xor .i64 x8_2 (ji23)) < (t170.length : Int) then (if 0 ≤ x8_2 then (if x8_2 < (t170.length : Int) then (if (rd t170 (Go.bits .xor .i64 x8_2 (ji23))) = (wrap64 ((rd t170 x8_2) - 1)) then ((impl_switches_order.f x8_2 x54_3).bind fun t182 => (impl_ShortestOrders.l1 k3 l0 l2 x8_2 t168 t170 x11_2 (mn x12_3 t182) (l0.length : Int) (wrap64 (x54_3 + 1)))) else (impl_ShortestOrders.l1 k3 l0 l2 x8_2 t168 t170 x11_2 x12_3 (l0.length : Int) (wrap64 (x54_3 + 1)))) else (none)) else (none)) else (none)) else (none)) = some (r1, r2) := by rw [if_pos rfl] at H; exact H
              clear H
              have H := H1
              clear H1
              by_cases c26 : 0 ≤ (Go.bits .xor .i64 x8_2 (ji23))
              ·
               rw [if_pos c26] at H
               have c26b0 : decide (0 ≤ (Go.bits .xor .i64 x8_2 (ji23))) = true := decide_eq_true c26
               clear c26
               by_cases c27 : (Go.bits .xor .i64 x8_2 (ji23)) < (t170.length : Int)
               ·
                rw [if_pos c27] at H
                have c27b0 : decide ((Go.bits .xor .i64 x8_2 (ji23)) < (t170.length : Int)) = true := decide_eq_true c27
                clear c27
                by_cases c28 : 0 ≤ x8_2
                ·
                 rw [if_pos c28] at H
                 have c28b0 : decide (0 ≤ x8_2) = true := decide_eq_true c28
                 clear c28
                 by_cases c29 : x8_2 < (t170.length : Int)
                 ·
                  rw [if_pos c29] at H
                  have c29b0 : decide (x8_2 < (t170.length : Int)) = true := decide_eq_true c29
                  clear c29
                  by_cases c30 : (rd t170 (Go.bits .xor .i64 x8_2 (ji23))) = (wrap64 ((rd t170 x8_2) - 1))
                  ·
                   rw [if_pos c30] at H
                   have c30b0 : ((rd t170 (Go.bits .xor .i64 x8_2 (ji23))) == (wrap64 ((rd t170 x8_2) - 1))) = true := beq_iff_eq.mpr c30
                   have c30b1 : ((rd t170 (Go.bits .xor .i64 x8_2 (ji23))) != (wrap64 ((rd t170 x8_2) - 1))) = false := bne_eq_false_iff_eq.mpr c30
                   clear c30
                   replace H := Option.bind_eq_some_iff.mp H
                   obtain ⟨t182, A310, H⟩ := H
                   replace H : (impl_ShortestOrders.l1 k3 l0 l2 x8_2 t168 t170 x11_2 (mn x12_3 t182) (l0.length : Int) (wrap64 (x54_3 + 1))) = some (r1, r2) := H
                   have A31 := Aside0.mk A310
                   clear A310
                   obtain ⟨ji32, hji32⟩ : ∃ j_ : Int, (mn x12_3 t182) = j_ := ⟨_, rfl⟩
                   replace H : (impl_ShortestOrders.l1 k3 l0 l2 x8_2 t168 t170 x11_2 ji32 (l0.length : Int) (wrap64 (x54_3 + 1))) = some (r1, r2) := by first | (rw [hji32] at H; exact H) | (simp only [hji32] at H ⊢; exact H)
                   (try rw [hji32] at A24)
                   (try rw [hji32] at A31)
                   have hji32_ : (if t182 < x12_3 then t182 else x12_3) = ji32 := hji32
                   have H' := Aside0.mk H
                   clear H
                   try go_wp2
                   have n0_ := Aside0.mk (Kd.R_drew HO_10.out)
                   have n1_ := Aside0.mk (Kd.R_drew HO_11.out)
                   have n2_ := Aside0.mk (below_drew1 HB.out)
                   clear HO_10 HO_11 HB
                   revert n0_ n1_ n2_
                   intro HO_10 HO_11 HB
                   have p180 : 0 ≤ ((Go.bits .xor .i64 x8_2 (ji23)) : Int) := od
                   have q180 : (Go.bits .xor .i64 x8_2 (ji23)) < (t170.length : Int) := od
                   (try (obtain ⟨Av_, cv_, ev_⟩ := Kd.R_slice HO_10.out; subst ev_))
                   obtain ⟨ad180, e180, hx180_0⟩ := Kd.at_int (Kd.R_reads' HO_10.out).2.2 (Go.bits .xor .i64 x8_2 (ji23)) p180 q180
                   cases e180
                   replace p180 := eq_true p180
                   replace q180 := eq_true q180
                   have p181 : 0 ≤ (x8_2 : Int) := od
                   have q181 : x8_2 < (t170.length : Int) := od
                   (try (obtain ⟨Av_, cv_, ev_⟩ := Kd.R_slice HO_10.out; subst ev_))
                   obtain ⟨ad181, e181, hx181_0⟩ := Kd.at_int (Kd.R_reads' HO_10.out).2.2 x8_2 p181 q181
                   obtain rfl : ad180 = ad181 := (by injection e181)
                   replace p181 := eq_true p181
                   replace q181 := eq_true q181
                   refine start_ (n := 15) (S := fun w' => w'.cell? (ad180.add ((Go.bits .xor .i64 x8_2 (ji23))).toNat) = some (.int .i64 (rd t170 (Go.bits .xor .i64 x8_2 (ji23)))) ∧ w'.cell? (ad180.add (x8_2).toNat) = some (.int .i64 (rd t170 x8_2))) (ds := []) #[false, false, false, false, false, false, false, false, false, false, false, false, false, false, false] (by kernel_rfl) rfl rfl ⟨hx180_0, hx181_0⟩ (fun hHeld => ?_); refine with_tabW impl_ShortestOrders.tab15 impl_ShortestOrders.bits15 (fun HT_ HW_ => ?_)
                   generalize wr.drew = w33 at HO_10 HO_11 HB hx180_0 hx181_0 hHeld ⊢
                   refine pure_ (i := 0) (N := some 61) (v := ?_) (a' := ?_) #[true, false, false, false, false, false, false, false, false, false, false, false, false, false, false] rfl rfl (any_of HT_.out (by kernel_rfl)) (fun _ _ _ h => h) (Or.inl ⟨by rfl, ?_⟩) ?_ ?_
                   rotate_left
                   ·
                    intro w'
                    go_simp
                    with_reducible rfl
                   rotate_left
                   ·
                    simp only [Act.put, List.setIfInBounds_toArray, List.set_cons_zero, List.set_cons_succ, i64_w, i32_w]
                    rfl
                   refine pure_ (i := 1) (N := some 62) (v := ?_) (a' := ?_) #[true, true, false, false, false, false, false, false, false, false, false, false, false, false, false] rfl rfl (any_of HT_.out (by kernel_rfl)) (fun _ _ _ h => h) (Or.inl ⟨by rfl, ?_⟩) ?_ ?_
                   rotate_left
                   ·
                    intro w'
                    go_simp
                    with_reducible rfl
                   rotate_left
                   ·
                    simp only [Act.put, List.setIfInBounds_toArray, List.set_cons_zero, List.set_cons_succ, i64_w, i32_w]
                    rfl
                   refine one_ (i := 2) (N := some 63) #[true, true, true, false, false, false, false, false, false, false, false, false, false, false, false] rfl rfl (one_of HT_.out (by kernel_rfl)) (by decide) (fun K hK => ?_)
                   refine goes_ Tryd.func31 (by kernel_rfl) rfl #[.int .i64 (Go.bits .xor .i64 x8_2 (ji23)), .slice A2 l2.length c2] (by rfl) rfl rfl (by (try simp only [List.map_toArray, List.map_cons, List.map_nil]); first | done | (simp only [hji23]; rfl) | rfl | (simp only [List.length_drop, List.length_take]; rfl)) ?_
                   with_reducible refine (impl_switches_allowed.calls (Go.bits .xor .i64 x8_2 (ji23)) _ _ l2 true _ ?side1 ?side2 A24.out).mono ?_
                   (case side1 => exact mvC (Kd.C_below HR2.out HB.out))
                   (case side2 => exact HC2.out)
                   rintro e w34 ⟨rfl, hb⟩
                   have HS0_ := (hb.cell (World.block_lt_of_cell? _ _ (hHeld.1))).trans (hHeld.1)
                   have HS1_ := (hb.cell (World.block_lt_of_cell? _ _ (hHeld.2))).trans (hHeld.2)
                   refine ⟨_, rfl, ?_⟩
                   have n0_ := Aside0.mk (Kd.R_below (mv HO_10.out) hb)
                   have n1_ := Aside0.mk (Kd.R_below (mv HO_11.out) hb)
                   have n2_ := Aside0.mk (below_step (mvB HB.out) hb)
                   clear HO_10 HO_11 HB
                   revert n0_ n1_ n2_
                   intro HO_10 HO_11 HB
                   (try clear hb)
                   (try clear hb2)
                   (try clear hk)
                   (try clear hi)
                   obtain ⟨Ao35, co35, eo35⟩ := Kd.R_slice HO_10.out
                   (first | subst eo35 | (injection eo35 with f1_ f2_ f3_; have f4_ := f1_.symm; have f5_ := f3_.symm; clear f1_ f2_ f3_; subst f4_; subst f5_))
                   refine hK.out _ _ ⟨HS0_, HS1_⟩ (fun hHeld => ?_)
                   clear hK K
                   refine norm_ (a' := ?_) ?_ ?_
                   rotate_left
                   ·
                    show Act.put _ (some 63) _ = _
                    simp only [Act.put, List.setIfInBounds_toArray, List.set_cons_zero, List.set_cons_succ, i64_w, i32_w]
                    rfl
                   refine pure_ (i := 3) (N := some 64) (v := ?_) (a' := ?_) #[true, true, true, true, false, false, false, false, false, false, false, false, false, false, false] rfl rfl (any_of HT_.out (by kernel_rfl)) (fun _ _ _ h => h) (Or.inl ⟨by rfl, ?_⟩) ?_ ?_
                   rotate_left
                   ·
                    intro w'
                    go_simp
                    with_reducible rfl
                   rotate_left
                   ·
                    simp only [Act.put, List.setIfInBounds_toArray, List.set_cons_zero, List.set_cons_succ, i64_w, i32_w]
                    rfl
                   refine pure_ (i := 4) (N := some 65) (v := ?_) (a' := ?_) #[true, true, true, true, true, false, false, false, false, false, false, false, false, false, false] rfl rfl (any_of HT_.out (by kernel_rfl)) (fun _ _ _ h => h) (Or.inl ⟨by rfl, ?_⟩) ?_ ?_
                   rotate_left
                   ·
                    intro w'
                    go_simp
                    with_reducible rfl
                   rotate_left
                   ·
                    simp only [Act.put, List.setIfInBounds_toArray, List.set_cons_zero, List.set_cons_succ, i64_w, i32_w]
                    rfl
                   refine pure_ (i := 5) (N := some 66) (v := ?_) (a' := ?_) #[true, true, true, true, true, true, false, false, false, false, false, false, false, false, false] rfl rfl (any_of HT_.out (by kernel_rfl)) (fun _ _ _ h => h) (Or.inl ⟨by rfl, ?_⟩) ?_ ?_
                   rotate_left
                   ·
                    intro w'
                    go_simp
                    with_reducible rfl
                   rotate_left
                   ·
                    simp only [Act.put, List.setIfInBounds_toArray, List.set_cons_zero, List.set_cons_succ, i64_w, i32_w]
                    rfl
                   refine pure_ (i := 6) (N := some 67) (v := ?_) (a' := ?_) #[true, true, true, true, true, true, true, false, false, false, false, false, false, false, false] rfl rfl (any_of HT_.out (by kernel_rfl)) (fun _ _ _ h => h) (Or.inl ⟨by rfl, ?_⟩) ?_ ?_
                   rotate_left
                   ·
                    intro w'
                    go_simp
                    with_reducible rfl
                   rotate_left
                   ·
                    simp only [Act.put, List.setIfInBounds_toArray, List.set_cons_zero, List.set_cons_succ, i64_w, i32_w]
                    rfl
                   refine pure_ (i := 8) (N := some 69) (v := ?_) (a' := ?_) #[true, true, true, true, true, true, true, false, true, false, false, false, false, false, false] rfl rfl (any_of HT_.out (by kernel_rfl)) (fun _ _ _ h => h) (Or.inl ⟨by rfl, ?_⟩) ?_ ?_
                   rotate_left
                   ·
                    intro w'
                    go_simp
                    with_reducible rfl
                   rotate_left
                   ·
                    simp only [Act.put, List.setIfInBounds_toArray, List.set_cons_zero, List.set_cons_succ, i64_w, i32_w]
                    rfl
                   refine pure_ (i := 9) (N := some 70) (v := ?_) (a' := ?_) #[true, true, true, true, true, true, true, false, true, true, false, false, false, false, false] rfl rfl (any_of HT_.out (by kernel_rfl)) (fun _ _ _ h => h) (Or.inl ⟨by rfl, ?_⟩) ?_ ?_
                   rotate_left
                   ·
                    intro w'
                    go_simp
                    with_reducible rfl
                   rotate_left
                   ·
                    simp only [Act.put, List.setIfInBounds_toArray, List.set_cons_zero, List.set_cons_succ, i64_w, i32_w]
                    rfl
                   refine pure_ (i := 10) (N := some 71) (v := ?_) (a' := ?_) #[true, true, true, true, true, true, true, false, true, true, true, false, false, false, false] rfl rfl (any_of HT_.out (by kernel_rfl)) (fun _ _ _ h => h) (Or.inl ⟨by rfl, ?_⟩) ?_ ?_
                   rotate_left
                   ·
                    intro w'
                    go_simp
                    with_reducible rfl
                   rotate_left
                   ·
                    simp only [Act.put, List.setIfInBounds_toArray, List.set_cons_zero, List.set_cons_succ, i64_w, i32_w]
                    rfl
                   refine take_ (i := 7) (N := some 68) (v := ?_) (a' := ?_) #[true, true, true, true, true, true, true, true, true, true, true, false, false, false, false] rfl rfl (take_ofW HT_.out HW_.out (by kernel_rfl)) (fun _ _ _ h => h) (Or.inl ⟨by rfl, ?_⟩) hHeld ?_ ?_
                   rotate_left
                   ·
                    rintro w' ⟨s0, s1⟩
                    go_simp
                    with_reducible rfl
                   rotate_left
                   ·
                    simp only [Act.put, List.setIfInBounds_toArray, List.set_cons_zero, List.set_cons_succ, i64_w, i32_w]
                    rfl
                   refine take_ (i := 11) (N := some 72) (v := ?_) (a' := ?_) #[true, true, true, true, true, true, true, true, true, true, true, true, false, false, false] rfl rfl (take_ofW HT_.out HW_.out (by kernel_rfl)) (fun _ _ _ h => h) (Or.inl ⟨by rfl, ?_⟩) hHeld ?_ ?_
                   rotate_left
                   ·
                    rintro w' ⟨s0, s1⟩
                    go_simp
                    with_reducible rfl
                   rotate_left
                   ·
                    simp only [Act.put, List.setIfInBounds_toArray, List.set_cons_zero, List.set_cons_succ, i64_w, i32_w]
                    rfl
                   refine pure_ (i := 12) (N := some 73) (v := ?_) (a' := ?_) #[true, true, true, true, true, true, true, true, true, true, true, true, true, false, false] rfl rfl (any_of HT_.out (by kernel_rfl)) (fun _ _ _ h => h) (Or.inl ⟨by rfl, ?_⟩) ?_ ?_
                   rotate_left
                   ·
                    intro w'
                    go_simp
                    with_reducible rfl
                   rotate_left
                   ·
                    simp only [Act.put, List.setIfInBounds_toArray, List.set_cons_zero, List.set_cons_succ, i64_w, i32_w]
                    rfl
                   refine pure_ (i := 13) (N := some 74) (v := ?_) (a' := ?_) #[true, true, true, true, true, true, true, true, true, true, true, true, true, true, false] rfl rfl (any_of HT_.out (by kernel_rfl)) (fun _ _ _ h => h) (Or.inl ⟨by rfl, ?_⟩) ?_ ?_
                   rotate_left
                   ·
                    intro w'
                    go_simp
                    with_reducible rfl
                   rotate_left
                   ·
                    simp only [Act.put, List.setIfInBounds_toArray, List.set_cons_zero, List.set_cons_succ, i64_w, i32_w]
                    rfl
                   refine pure_ (i := 14) (N := some 75) (v := ?_) (a' := ?_) #[true, true, true, true, true, true, true, true, true, true, true, true, true, true, true] rfl rfl (any_of HT_.out (by kernel_rfl)) (fun _ _ _ h => h) (Or.inl ⟨by rfl, ?_⟩) ?_ ?_
                   rotate_left
                   ·
                    intro w'
                    go_simp
                    with_reducible rfl
                   rotate_left
                   ·
                    simp only [Act.put, List.setIfInBounds_toArray, List.set_cons_zero, List.set_cons_succ, i64_w, i32_w]
                    rfl
                   refine done_ (done_of HT_.out (by kernel_rfl)) ?_
                   try go_wp2_with (first | ((with_reducible refine gate_callee (f := 32) rfl ?_); refine goesA_ (some 79) Tryd.func32 #[.int .i64 x8_2, .int .i64 x54_3] ?_; (with_reducible refine (impl_switches_order.calls x8_2 x54_3 t182 _ A31.out).mono ?_); rintro e w' ⟨rfl, ⟨nd, rfl⟩⟩; refine ⟨_, rfl, ?_⟩))
                   go_roundg k3
                   case measure => have := HJ10.out; have := HK2.out; have := HK3.out; omega
                   case rel => exact ⟨(ji32), (wrap64 (x54_3 + 1)), (by first | rfl | (simp; done) | (simp only [← hji32] <;> (first | rfl | simp)) | (simp [*]; done)), rs, H', ⟨by have := HJ10.out; have := HK2.out; have := HK3.out; omega⟩, ⟨mv HO_10.out⟩, ⟨mv HO_11.out⟩, ⟨mvB HB.out⟩⟩
                  ·
                   rw [if_neg c30] at H
                   have c30b0 : ((rd t170 (Go.bits .xor .i64 x8_2 (ji23))) == (wrap64 ((rd t170 x8_2) - 1))) = false := beq_eq_false_iff_ne.mpr c30
                   have c30b1 : ((rd t170 (Go.bits .xor .i64 x8_2 (ji23))) != (wrap64 ((rd t170 x8_2) - 1))) = true := bne_iff_ne.mpr c30
                   have H' := Aside0.mk H
                   clear H
                   try go_wp2
                   have n0_ := Aside0.mk (Kd.R_drew HO_10.out)
                   have n1_ := Aside0.mk (Kd.R_drew HO_11.out)
                   have n2_ := Aside0.mk (below_drew1 HB.out)
                   clear HO_10 HO_11 HB
                   revert n0_ n1_ n2_
                   intro HO_10 HO_11 HB
                   have p180 : 0 ≤ ((Go.bits .xor .i64 x8_2 (ji23)) : Int) := od
                   have q180 : (Go.bits .xor .i64 x8_2 (ji23)) < (t170.length : Int) := od
                   (try (obtain ⟨Av_, cv_, ev_⟩ := Kd.R_slice HO_10.out; subst ev_))
                   obtain ⟨ad180, e180, hx180_0⟩ := Kd.at_int (Kd.R_reads' HO_10.out).2.2 (Go.bits .xor .i64 x8_2 (ji23)) p180 q180
                   cases e180
                   replace p180 := eq_true p180
                   replace q180 := eq_true q180
                   have p181 : 0 ≤ (x8_2 : Int) := od
                   have q181 : x8_2 < (t170.length : Int) := od
                   (try (obtain ⟨Av_, cv_, ev_⟩ := Kd.R_slice HO_10.out; subst ev_))
                   obtain ⟨ad181, e181, hx181_0⟩ := Kd.at_int (Kd.R_reads' HO_10.out).2.2 x8_2 p181 q181
                   obtain rfl : ad180 = ad181 := (by injection e181)
                   replace p181 := eq_true p181
                   replace q181 := eq_true q181
                   refine start_ (n := 15) (S := fun w' => w'.cell? (ad180.add ((Go.bits .xor .i64 x8_2 (ji23))).toNat) = some (.int .i64 (rd t170 (Go.bits .xor .i64 x8_2 (ji23)))) ∧ w'.cell? (ad180.add (x8_2).toNat) = some (.int .i64 (rd t170 x8_2))) (ds := []) #[false, false, false, false, false, false, false, false, false, false, false, false, false, false, false] (by kernel_rfl) rfl rfl ⟨hx180_0, hx181_0⟩ (fun hHeld => ?_); refine with_tabW impl_ShortestOrders.tab15 impl_ShortestOrders.bits15 (fun HT_ HW_ => ?_)
                   generalize wr.drew = w36 at HO_10 HO_11 HB hx180_0 hx181_0 hHeld ⊢
                   refine pure_ (i := 0) (N := some 61) (v := ?_) (a' := ?_) #[true, false, false, false, false, false, false, false, false, false, false, false, false, false, false] rfl rfl (any_of HT_.out (by kernel_rfl)) (fun _ _ _ h => h) (Or.inl ⟨by rfl, ?_⟩) ?_ ?_
                   rotate_left
                   ·
                    intro w'
                    go_simp
                    with_reducible rfl
                   rotate_left
                   ·
                    simp only [Act.put, List.setIfInBounds_toArray, List.set_cons_zero, List.set_cons_succ, i64_w, i32_w]
                    rfl
                   refine pure_ (i := 1) (N := some 62) (v := ?_) (a' := ?_) #[true, true, false, false, false, false, false, false, false, false, false, false, false, false, false] rfl rfl (any_of HT_.out (by kernel_rfl)) (fun _ _ _ h => h) (Or.inl ⟨by rfl, ?_⟩) ?_ ?_
                   rotate_left
                   ·
                    intro w'
                    go_simp
                    with_reducible rfl
                   rotate_left
                   ·
                    simp only [Act.put, List.setIfInBounds_toArray, List.set_cons_zero, List.set_cons_succ, i64_w, i32_w]
                    rfl
                   refine one_ (i := 2) (N := some 63) #[true, true, true, false, false, false, false, false, false, false, false, false, false, false, false] rfl rfl (one_of HT_.out (by kernel_rfl)) (by decide) (fun K hK => ?_)
                   refine goes_ Tryd.func31 (by kernel_rfl) rfl #[.int .i64 (Go.bits .xor .i64 x8_2 (ji23)), .slice A2 l2.length c2] (by rfl) rfl rfl (by (try simp only [List.map_toArray, List.map_cons, List.map_nil]); first | done | (simp only [hji23]; rfl) | rfl | (simp only [List.length_drop, List.length_take]; rfl)) ?_
                   with_reducible refine (impl_switches_allowed.calls (Go.bits .xor .i64 x8_2 (ji23)) _ _ l2 true _ ?side1 ?side2 A24.out).mono ?_
                   (case side1 => exact mvC (Kd.C_below HR2.out HB.out))
                   (case side2 => exact HC2.out)
                   rintro e w37 ⟨rfl, hb⟩
                   have HS0_ := (hb.cell (World.block_lt_of_cell? _ _ (hHeld.1))).trans (hHeld.1)
                   have HS1_ := (hb.cell (World.block_lt_of_cell? _ _ (hHeld.2))).trans (hHeld.2)
                   refine ⟨_, rfl, ?_⟩
                   have n0_ := Aside0.mk (Kd.R_below (mv HO_10.out) hb)
                   have n1_ := Aside0.mk (Kd.R_below (mv HO_11.out) hb)
                   have n2_ := Aside0.mk (below_step (mvB HB.out) hb)
                   clear HO_10 HO_11 HB
                   revert n0_ n1_ n2_
                   intro HO_10 HO_11 HB
                   (try clear hb)
                   (try clear hb2)
                   (try clear hk)
                   (try clear hi)
                   obtain ⟨Ao38, co38, eo38⟩ := Kd.R_slice HO_10.out
                   (first | subst eo38 | (injection eo38 with f1_ f2_ f3_; have f4_ := f1_.symm; have f5_ := f3_.symm; clear f1_ f2_ f3_; subst f4_; subst f5_))
                   refine hK.out _ _ ⟨HS0_, HS1_⟩ (fun hHeld => ?_)
                   clear hK K
                   refine norm_ (a' := ?_) ?_ ?_
                   rotate_left
                   ·
                    show Act.put _ (some 63) _ = _
                    simp only [Act.put, List.setIfInBounds_toArray, List.set_cons_zero, List.set_cons_succ, i64_w, i32_w]
                    rfl
                   refine pure_ (i := 3) (N := some 64) (v := ?_) (a' := ?_) #[true, true, true, true, false, false, false, false, false, false, false, false, false, false, false] rfl rfl (any_of HT_.out (by kernel_rfl)) (fun _ _ _ h => h) (Or.inl ⟨by rfl, ?_⟩) ?_ ?_
                   rotate_left
                   ·
                    intro w'
                    go_simp
                    with_reducible rfl
                   rotate_left
                   ·
                    simp only [Act.put, List.setIfInBounds_toArray, List.set_cons_zero, List.set_cons_succ, i64_w, i32_w]
                    rfl
                   refine pure_ (i := 4) (N := some 65) (v := ?_) (a' := ?_) #[true, true, true, true, true, false, false, false, false, false, false, false, false, false, false] rfl rfl (any_of HT_.out (by kernel_rfl)) (fun _ _ _ h => h) (Or.inl ⟨by rfl, ?_⟩) ?_ ?_
                   rotate_left
                   ·
                    intro w'
                    go_simp
                    with_reducible rfl
                   rotate_left
                   ·
                    simp only [Act.put, List.setIfInBounds_toArray, List.set_cons_zero, List.set_cons_succ, i64_w, i32_w]
                    rfl
                   refine pure_ (i := 5) (N := some 66) (v := ?_) (a' := ?_) #[true, true, true, true, true, true, false, false, false, false, false, false, false, false, false] rfl rfl (any_of HT_.out (by kernel_rfl)) (fun _ _ _ h => h) (Or.inl ⟨by rfl, ?_⟩) ?_ ?_
                   rotate_left
                   ·
                    intro w'
                    go_simp
                    with_reducible rfl
                   rotate_left
                   ·
                    simp only [Act.put, List.setIfInBounds_toArray, List.set_cons_zero, List.set_cons_succ, i64_w, i32_w]
                    rfl
                   refine pure_ (i := 6) (N := some 67) (v := ?_) (a' := ?_) #[true, true, true, true, true, true, true, false, false, false, false, false, false, false, false] rfl rfl (any_of HT_.out (by kernel_rfl)) (fun _ _ _ h => h) (Or.inl ⟨by rfl, ?_⟩) ?_ ?_
                   rotate_left
                   ·
                    intro w'
                    go_simp
                    with_reducible rfl
                   rotate_left
                   ·
                    simp only [Act.put, List.setIfInBounds_toArray, List.set_cons_zero, List.set_cons_succ, i64_w, i32_w]
                    rfl
                   refine pure_ (i := 8) (N := some 69) (v := ?_) (a' := ?_) #[true, true, true, true, true, true, true, false, true, false, false, false, false, false, false] rfl rfl (any_of HT_.out (by kernel_rfl)) (fun _ _ _ h => h) (Or.inl ⟨by rfl, ?_⟩) ?_ ?_
                   rotate_left
                   ·
                    intro w'
                    go_simp
                    with_reducible rfl
                   rotate_left
                   ·
                    simp only [Act.put, List.setIfInBounds_toArray, List.set_cons_zero, List.set_cons_succ, i64_w, i32_w]
                    rfl
                   refine pure_ (i := 9) (N := some 70) (v := ?_) (a' := ?_) #[true, true, true, true, true, true, true, false, true, true, false, false, false, false, false] rfl rfl (any_of HT_.out (by kernel_rfl)) (fun _ _ _ h => h) (Or.inl ⟨by rfl, ?_⟩) ?_ ?_
                   rotate_left
                   ·
                    intro w'
                    go_simp
                    with_reducible rfl
                   rotate_left
                   ·
                    simp only [Act.put, List.setIfInBounds_toArray, List.set_cons_zero, List.set_cons_succ, i64_w, i32_w]
                    rfl
                   refine pure_ (i := 10) (N := some 71) (v := ?_) (a' := ?_) #[true, true, true, true, true, true, true, false, true, true, true, false, false, false, false] rfl rfl (any_of HT_.out (by kernel_rfl)) (fun _ _ _ h => h) (Or.inl ⟨by rfl, ?_⟩) ?_ ?_
                   rotate_left
                   ·
                    intro w'
                    go_simp
                    with_reducible rfl
                   rotate_left
                   ·
                    simp only [Act.put, List.setIfInBounds_toArray, List.set_cons_zero, List.set_cons_succ, i64_w, i32_w]
                    rfl
                   refine take_ (i := 7) (N := some 68) (v := ?_) (a' := ?_) #[true, true, true, true, true, true, true, true, true, true, true, false, false, false, false] rfl rfl (take_ofW HT_.out HW_.out (by kernel_rfl)) (fun _ _ _ h => h) (Or.inl ⟨by rfl, ?_⟩) hHeld ?_ ?_
                   rotate_left
                   ·
                    rintro w' ⟨s0, s1⟩
                    go_simp
                    with_reducible rfl
                   rotate_left
                   ·
                    simp only [Act.put, List.setIfInBounds_toArray, List.set_cons_zero, List.set_cons_succ, i64_w, i32_w]
                    rfl
                   refine take_ (i := 11) (N := some 72) (v := ?_) (a' := ?_) #[true, true, true, true, true, true, true, true, true, true, true, true, false, false, false] rfl rfl (take_ofW HT_.out HW_.out (by kernel_rfl)) (fun _ _ _ h => h) (Or.inl ⟨by rfl, ?_⟩) hHeld ?_ ?_
                   rotate_left
                   ·
                    rintro w' ⟨s0, s1⟩
                    go_simp
                    with_reducible rfl
                   rotate_left
                   ·
                    simp only [Act.put, List.setIfInBounds_toArray, List.set_cons_zero, List.set_cons_succ, i64_w, i32_w]
                    rfl
                   refine pure_ (i := 12) (N := some 73) (v := ?_) (a' := ?_) #[true, true, true, true, true, true, true, true, true, true, true, true, true, false, false] rfl rfl (any_of HT_.out (by kernel_rfl)) (fun _ _ _ h => h) (Or.inl ⟨by rfl, ?_⟩) ?_ ?_
                   rotate_left
                   ·
                    intro w'
                    go_simp
                    with_reducible rfl
                   rotate_left
                   ·
                    simp only [Act.put, List.setIfInBounds_toArray, List.set_cons_zero, List.set_cons_succ, i64_w, i32_w]
                    rfl
                   refine pure_ (i := 13) (N := some 74) (v := ?_) (a' := ?_) #[true, true, true, true, true, true, true, true, true, true, true, true, true, true, false] rfl rfl (any_of HT_.out (by kernel_rfl)) (fun _ _ _ h => h) (Or.inl ⟨by rfl, ?_⟩) ?_ ?_
                   rotate_left
                   ·
                    intro w'
                    go_simp
                    with_reducible rfl
                   rotate_left
                   ·
                    simp only [Act.put, List.setIfInBounds_toArray, List.set_cons_zero, List.set_cons_succ, i64_w, i32_w]
                    rfl
                   refine pure_ (i := 14) (N := some 75) (v := ?_) (a' := ?_) #[true, true, true, true, true, true, true, true, true, true, true, true, true, true, true] rfl rfl (any_of HT_.out (by kernel_rfl)) (fun _ _ _ h => h) (Or.inl ⟨by rfl, ?_⟩) ?_ ?_
                   rotate_left
                   ·
                    intro w'
                    go_simp
                    with_reducible rfl
                   rotate_left
                   ·
                    simp only [Act.put, List.setIfInBounds_toArray, List.set_cons_zero, List.set_cons_succ, i64_w, i32_w]
                    rfl
                   refine done_ (done_of HT_.out (by kernel_rfl)) ?_
                   try go_wp2
                   go_roundg k3
                   case measure => have := HJ10.out; have := HK2.out; have := HK3.out; omega
                   case rel => exact ⟨(x12_3), (wrap64 (x54_3 + 1)), rs, rs, H', ⟨by have := HJ10.out; have := HK2.out; have := HK3.out; omega⟩, ⟨mv HO_10.out⟩, ⟨mv HO_11.out⟩, ⟨mvB HB.out⟩⟩
                 ·
                  rw [if_neg c29] at H
                  exact absurd H (by simp)
                ·
                 rw [if_neg c28] at H
                 exact absurd H (by simp)
               ·
                rw [if_neg c27] at H
                exact absurd H (by simp)
              ·
               rw [if_neg c26] at H
               exact absurd H (by simp)
             ·
              replace c25 := Bool.eq_false_iff.mpr c25
              subst c25
              have H1 : (impl_ShortestOrders.l1 k3 l0 l2 x8_2 t168 t170 x11_2 x12_3 (l0.length : Int) (wrap64 (x54_3 + 1))) = some (r1, r2) := by rw [if_neg (show ¬ (false = true) by decide)] at H; exact H
              clear H
              have H := H1
              clear H1
              have H' := Aside0.mk H
              clear H
              try go_wp2
              have n0_ := Aside0.mk (Kd.R_drew HO_10.out)
              have n1_ := Aside0.mk (Kd.R_drew HO_11.out)
              have n2_ := Aside0.mk (below_drew1 HB.out)
              clear HO_10 HO_11 HB
              revert n0_ n1_ n2_
              intro HO_10 HO_11 HB
              refine start_ (n := 15) (S := fun w' => True) (ds := []) #[false, false, false, false, false, false, false, false, false, false, false, false, false, false, false] (by kernel_rfl) rfl rfl trivial (fun hHeld => ?_); refine with_tabW impl_ShortestOrders.tab15 impl_ShortestOrders.bits15 (fun HT_ HW_ => ?_)
              generalize wr.drew = w39 at HO_10 HO_11 HB hHeld ⊢
              refine pure_ (i := 0) (N := some 61) (v := ?_) (a' := ?_) #[true, false, false, false, false, false, false, false, false, false, false, false, false, false, false] rfl rfl (any_of HT_.out (by kernel_rfl)) (fun _ _ _ h => h) (Or.inl ⟨by rfl, ?_⟩) ?_ ?_
              rotate_left
              ·
               intro w'
               go_simp
               with_reducible rfl
              rotate_left
              ·
               simp only [Act.put, List.setIfInBounds_toArray, List.set_cons_zero, List.set_cons_succ, i64_w, i32_w]
               rfl
              refine pure_ (i := 1) (N := some 62) (v := ?_) (a' := ?_) #[true, true, false, false, false, false, false, false, false, false, false, false, false, false, false] rfl rfl (any_of HT_.out (by kernel_rfl)) (fun _ _ _ h => h) (Or.inl ⟨by rfl, ?_⟩) ?_ ?_
              rotate_left
              ·
               intro w'
               go_simp
               with_reducible rfl
              rotate_left
              ·
               simp only [Act.put, List.setIfInBounds_toArray, List.set_cons_zero, List.set_cons_succ, i64_w, i32_w]
               rfl
              refine one_ (i := 2) (N := some 63) #[true, true, true, false, false, false, false, false, false, false, false, false, false, false, false] rfl rfl (one_of HT_.out (by kernel_rfl)) (by decide) (fun K hK => ?_)
              refine goes_ Tryd.func31 (by kernel_rfl) rfl #[.int .i64 (Go.bits .xor .i64 x8_2 (ji23)), .slice A2 l2.length c2] (by rfl) rfl rfl (by (try simp only [List.map_toArray, List.map_cons, List.map_nil]); first | done | (simp only [hji23]; rfl) | rfl | (simp only [List.length_drop, List.length_take]; rfl)) ?_
              with_reducible refine (impl_switches_allowed.calls (Go.bits .xor .i64 x8_2 (ji23)) _ _ l2 false _ ?side1 ?side2 A24.out).mono ?_
              (case side1 => exact mvC (Kd.C_below HR2.out HB.out))
              (case side2 => exact HC2.out)
              rintro e w40 ⟨rfl, hb⟩
              refine ⟨_, rfl, ?_⟩
              have n0_ := Aside0.mk (Kd.R_below (mv HO_10.out) hb)
              have n1_ := Aside0.mk (Kd.R_below (mv HO_11.out) hb)
              have n2_ := Aside0.mk (below_step (mvB HB.out) hb)
              clear HO_10 HO_11 HB
              revert n0_ n1_ n2_
              intro HO_10 HO_11 HB
              (try clear hb)
              (try clear hb2)
              (try clear hk)
              (try clear hi)
              refine hK.out _ _ trivial (fun hHeld => ?_)
              clear hK K
              refine norm_ (a' := ?_) ?_ ?_
              rotate_left
              ·
               show Act.put _ (some 63) _ = _
               simp only [Act.put, List.setIfInBounds_toArray, List.set_cons_zero, List.set_cons_succ, i64_w, i32_w]
               rfl
              refine pure_ (i := 3) (N := some 64) (v := ?_) (a' := ?_) #[true, true, true, true, false, false, false, false, false, false, false, false, false, false, false] rfl rfl (any_of HT_.out (by kernel_rfl)) (fun _ _ _ h => h) (Or.inl ⟨by rfl, ?_⟩) ?_ ?_
              rotate_left
              ·
               intro w'
               go_simp
               with_reducible rfl
              rotate_left
              ·
               simp only [Act.put, List.setIfInBounds_toArray, List.set_cons_zero, List.set_cons_succ, i64_w, i32_w]
               rfl
              refine pure_ (i := 4) (N := some 65) (v := undef) (a' := ?_) #[true, true, true, true, true, false, false, false, false, false, false, false, false, false, false] rfl rfl (any_of HT_.out (by kernel_rfl)) (fun _ _ _ h => h) (Or.inr ⟨by rfl, rfl⟩) ?_ ?_
              rotate_left
              ·
               simp only [Act.put, List.setIfInBounds_toArray, List.set_cons_zero, List.set_cons_succ, i64_w, i32_w]
               rfl
              refine pure_ (i := 5) (N := some 66) (v := undef) (a' := ?_) #[true, true, true, true, true, true, false, false, false, false, false, false, false, false, false] rfl rfl (any_of HT_.out (by kernel_rfl)) (fun _ _ _ h => h) (Or.inr ⟨by rfl, rfl⟩) ?_ ?_
              rotate_left
              ·
               simp only [Act.put, List.setIfInBounds_toArray, List.set_cons_zero, List.set_cons_succ, i64_w, i32_w]
               rfl
              refine pure_ (i := 6) (N := some 67) (v := undef) (a' := ?_) #[true, true, true, true, true, true, true, false, false, false, false, false, false, false, false] rfl rfl (any_of HT_.out (by kernel_rfl)) (fun _ _ _ h => h) (Or.inr ⟨by rfl, rfl⟩) ?_ ?_
              rotate_left
              ·
               simp only [Act.put, List.setIfInBounds_toArray, List.set_cons_zero, List.set_cons_succ, i64_w, i32_w]
               rfl
              refine pure_ (i := 7) (N := some 68) (v := undef) (a' := ?_) #[true, true, true, true, true, true, true, true, false, false, false, false, false, false, false] rfl rfl (any_of HT_.out (by kernel_rfl)) (fun _ _ _ h => h) (Or.inr ⟨by rfl, rfl⟩) ?_ ?_
              rotate_left
              ·
               simp only [Act.put, List.setIfInBounds_toArray, List.set_cons_zero, List.set_cons_succ, i64_w, i32_w]
               rfl
              refine pure_ (i := 8) (N := some 69) (v := undef) (a' := ?_) #[true, true, true, true, true, true, true, true, true, false, false, false, false, false, false] rfl rfl (any_of HT_.out (by kernel_rfl)) (fun _ _ _ h => h) (Or.inr ⟨by rfl, rfl⟩) ?_ ?_
              rotate_left
              ·
               simp only [Act.put, List.setIfInBounds_toArray, List.set_cons_zero, List.set_cons_succ, i64_w, i32_w]
               rfl
              refine pure_ (i := 9) (N := some 70) (v := undef) (a' := ?_) #[true, true, true, true, true, true, true, true, true, true, false, false, false, false, false] rfl rfl (any_of HT_.out (by kernel_rfl)) (fun _ _ _ h => h) (Or.inr ⟨by rfl, rfl⟩) ?_ ?_
              rotate_left
              ·
               simp only [Act.put, List.setIfInBounds_toArray, List.set_cons_zero, List.set_cons_succ, i64_w, i32_w]
               rfl
              refine pure_ (i := 10) (N := some 71) (v := undef) (a' := ?_) #[true, true, true, true, true, true, true, true, true, true, true, false, false, false, false] rfl rfl (any_of HT_.out (by kernel_rfl)) (fun _ _ _ h => h) (Or.inr ⟨by rfl, rfl⟩) ?_ ?_
              rotate_left
              ·
               simp only [Act.put, List.setIfInBounds_toArray, List.set_cons_zero, List.set_cons_succ, i64_w, i32_w]
               rfl
              refine pure_ (i := 11) (N := some 72) (v := undef) (a' := ?_) #[true, true, true, true, true, true, true, true, true, true, true, true, false, false, false] rfl rfl (any_of HT_.out (by kernel_rfl)) (fun _ _ _ h => h) (Or.inr ⟨by rfl, rfl⟩) ?_ ?_
              rotate_left
              ·
               simp only [Act.put, List.setIfInBounds_toArray, List.set_cons_zero, List.set_cons_succ, i64_w, i32_w]
               rfl
              refine pure_ (i := 12) (N := some 73) (v := undef) (a' := ?_) #[true, true, true, true, true, true, true, true, true, true, true, true, true, false, false] rfl rfl (any_of HT_.out (by kernel_rfl)) (fun _ _ _ h => h) (Or.inr ⟨by rfl, rfl⟩) ?_ ?_
              rotate_left
              ·
               simp only [Act.put, List.setIfInBounds_toArray, List.set_cons_zero, List.set_cons_succ, i64_w, i32_w]
               rfl
              refine pure_ (i := 13) (N := some 74) (v := undef) (a' := ?_) #[true, true, true, true, true, true, true, true, true, true, true, true, true, true, false] rfl rfl (any_of HT_.out (by kernel_rfl)) (fun _ _ _ h => h) (Or.inr ⟨by rfl, rfl⟩) ?_ ?_
              rotate_left
              ·
               simp only [Act.put, List.setIfInBounds_toArray, List.set_cons_zero, List.set_cons_succ, i64_w, i32_w]
               rfl
              refine pure_ (i := 14) (N := some 75) (v := ?_) (a' := ?_) #[true, true, true, true, true, true, true, true, true, true, true, true, true, true, true] rfl rfl (any_of HT_.out (by kernel_rfl)) (fun _ _ _ h => h) (Or.inl ⟨by rfl, ?_⟩) ?_ ?_
              rotate_left
              ·
               intro w'
               go_simp
               with_reducible rfl
              rotate_left
              ·
               simp only [Act.put, List.setIfInBounds_toArray, List.set_cons_zero, List.set_cons_succ, i64_w, i32_w]
               rfl
              refine done_ (done_of HT_.out (by kernel_rfl)) ?_
              try go_wp2
              go_roundg k3
              case measure => have := HJ10.out; have := HK2.out; have := HK3.out; omega
              case rel => exact ⟨(x12_3), (wrap64 (x54_3 + 1)), rs, rs, H', ⟨by have := HJ10.out; have := HK2.out; have := HK3.out; omega⟩, ⟨mv HO_10.out⟩, ⟨mv HO_11.out⟩, ⟨mvB HB.out⟩⟩
            ·
             rw [if_neg c22] at H
             exact absurd H (by simp)
           ·
            rw [if_neg c21] at H
            have c21b0 : decide (x54_3 < (l0.length : Int)) = false := decide_eq_false c21
            clear c21
            by_cases c41 : x11_2.length < 17592186044416
            ·
             rw [if_pos c41] at H
             have LMc41 := Aside0.mk c41
             clear c41
             obtain ⟨y175, hy175⟩ : ∃ y_ : List Int, y_ = (x11_2 ++ [x12_3]) := ⟨_, rfl⟩
             replace H : ((impl_abs.f x12_3).bind fun t178 => (if 0 ≤ (wrap64 (t178 - 1)) then (impl_ShortestOrders.l0 k3 l0 l2 (Go.bits .xor .i64 x8_2 (shl .i64 1 (wrap64 (t178 - 1)))) t168 t170 y175) else (none))) = some (r1, r2) := by first | (rw [hy175]; with_reducible exact H) | (have H2_ := (Option.bind_some _ _).symm.trans H; rw [hy175]; with_reducible exact H2_) | (have H2_ := (Option.bind_some _ _).symm.trans H; with_reducible exact H2_) | with_reducible exact H | (rw [hy175]; exact H) | exact H
             have Ny175 := Aside0.mk hy175
             clear hy175
             replace H := Option.bind_eq_some_iff.mp H
             obtain ⟨t178, A420, H⟩ := H
             replace H : (if 0 ≤ (wrap64 (t178 - 1)) then (impl_ShortestOrders.l0 k3 l0 l2 (Go.bits .xor .i64 x8_2 (shl .i64 1 (wrap64 (t178 - 1)))) t168 t170 y175) else (none)) = some (r1, r2) := H
             have A42 := Aside0.mk A420
             clear A420
             obtain ⟨ji43, hji43⟩ : ∃ j_ : Int, (wrap64 (t178 - 1)) = j_ := ⟨_, rfl⟩
             replace H : (if 0 ≤ (ji43) then (impl_ShortestOrders.l0 k3 l0 l2 (Go.bits .xor .i64 x8_2 (shl .i64 1 (ji43))) t168 t170 y175) else (none)) = some (r1, r2) := by first | (rw [hji43] at H; exact H) | (simp only [hji43] at H ⊢; exact H)
             (try rw [hji43] at A42)
             have hji43w : (IntKind.i64.wrap (t178 - 1)) = ji43 := (i64_w _).trans hji43
             by_cases c44 : 0 ≤ (ji43)
             ·
              rw [if_pos c44] at H
              have c44b0 := eq_true c44
              have c44b1 : decide (0 ≤ (ji43)) = true := decide_eq_true c44
              clear c44
              obtain ⟨ji45, hji45⟩ : ∃ j_ : Int, (shl .i64 1 (ji43)) = j_ := ⟨_, rfl⟩
              replace H : (impl_ShortestOrders.l0 k3 l0 l2 (Go.bits .xor .i64 x8_2 (ji45)) t168 t170 y175) = some (r1, r2) := by first | (rw [hji45] at H; exact H) | (simp only [hji45] at H ⊢; exact H)
              (try rw [hji45] at A42)
              have hji45_ : (IntKind.i64.wrap (1 * 2 ^ min (ji43).toNat 64)) = ji45 := hji45
              have hji45z : (ji43) ≤ 64 → (IntKind.i64.wrap (1 * 2 ^ (ji43).toNat)) = ji45 := shl_small hji45
              have hji45u : (IntKind.i64.wrap (2 ^ min (ji43).toNat 64)) = ji45 := by have h_ := hji45_; rw [Int.one_mul] at h_; exact h_
              have hji45v : (ji43) ≤ 64 → (IntKind.i64.wrap (2 ^ (ji43).toNat)) = ji45 := fun hle_ => by have h_ := hji45z hle_; rw [Int.one_mul] at h_; exact h_
              have hji45y : (wrap64 (1 * 2 ^ min (ji43).toNat 64)) = ji45 := (i64_w _).symm.trans hji45_
              have hji45x : (ji43) ≤ 64 → (wrap64 (1 * 2 ^ (ji43).toNat)) = ji45 := fun h_ => (i64_w _).symm.trans (hji45z h_)
              have H' := Aside0.mk H
              clear H
              go_wp2_with (first | ((with_reducible refine gate_builtin (b := .append) (xs := #[.tmp 82, .tmp 84]) rfl ?_); at_builtin; refine Kd.R_append (Kd.int .i64) (w0 := w) w.heap.size rfl (.tmp 82) (.tmp 84) 28 2 (.int .i64 0) 8 rfl Tryd.underlying28 info2 rfl (by decide) (by omega) u11 x11_2 x12_3 [.int .i64 x12_3] (fun _ => True) (fun _ => False) rfl rfl ?aP (fun _ hk => hk.elim) ?aF ?aO ?aB ?aS ?aL ?_; (case aP => exact rfl); (case aB => exact (mvB HB.out)); (case aF => exact (fun _ _ => trivial)); (case aO => exact (mv HO_11.out)); (case aS => exact (below_size (mvB HB.out))); (case aL => have := LMc41.out; omega); intro v176 w46 ho hb hg hat; rw [← Ny175.out] at ho; have n0_ := Aside0.mk (Kd.R_over' (mv HO_10.out) (Kd.R_typed (mv HO_11.out)) (by decide) hg); have n1_ := Aside0.mk (hb); have n2_ := Aside0.mk (ho); clear HO_10 HB HO_11; revert n0_ n1_ n2_; intro HO_10 HB HO177; clear ho hb hg hat) | ((with_reducible refine gate_callee (f := 33) rfl ?_); refine goesA_ (some 88) Tryd.func33 #[.int .i64 x12_3] ?_; (with_reducible refine (impl_abs.calls x12_3 t178 _ A42.out).mono ?_); rintro e w47 ⟨rfl, hb⟩; refine ⟨_, rfl, ?_⟩; have n0_ := Aside0.mk (Kd.R_below (mv HO_10.out) hb); have n1_ := Aside0.mk (Kd.R_below (mv HO177.out) hb); have n2_ := Aside0.mk (below_step (mvB HB.out) hb); clear HO_10 HO177 HB; revert n0_ n1_ n2_; intro HO_10 HO177 HB; (try clear hb); (try clear hk)))
              go_roundg k3
              case measure => have := HJ10.out; have := HK2.out; have := HK3.out; omega
              case rel => exact ⟨(Go.bits .xor .i64 x8_2 (ji45)), (y175), (by first | rfl | (simp; done) | (simp only [← hji45] <;> (first | rfl | simp)) | (simp [*]; done)), H', ⟨by have := HJ10.out; have := HK2.out; have := HK3.out; omega⟩, ⟨mv HO_10.out⟩, ⟨mv HO177.out⟩, ⟨mvB HB.out⟩⟩
             ·
              rw [if_neg c44] at H
              exact absurd H (by simp)
            ·
             rw [if_neg c41] at H
             exact absurd H (by simp)
  ·
   rw [if_neg c6] at H
   have c6b0 : ((l1.length : Int) == (l0.length : Int)) = false := beq_eq_false_iff_ne.mpr c6
   have c6b1 : ((l1.length : Int) != (l0.length : Int)) = true := bne_iff_ne.mpr c6
   have c6b2 : (l1.length == l0.length) = false := by first | simpa using c6 | (simp at c6 ⊢; omega)
   simp only [Option.some.injEq, Prod.mk.injEq] at H
   obtain ⟨rfl, rfl⟩ := H
   go_enter Tryd.func9, Tryd.ntmps9
   go_wp2_with (first | ((with_reducible refine gate_callee (f := 28) rfl ?_); refine goesA_ (some 19) Tryd.func28 #[.int .i64 (l0.length : Int), .slice A2 l2.length c2] ?_; (with_reducible refine (impl_ValidRules.calls k (l0.length : Int) _ _ l2 true _ ?side1 ?side2 A4.out).mono ?_); (case side1 => exact mvC HR2.out); (case side2 => exact HC2.out); rintro e w48 ⟨rfl, hb⟩; refine ⟨_, rfl, ?_⟩; have n0_ := Aside0.mk (below_step (mvB HB.out) hb); clear HB; revert n0_; intro HB; (try clear hb)))
   go_ret2
   exact ⟨_, by first | rfl | (simp [errW_none, errW_some] <;> rfl) | (simp [*, errW_none, errW_some] <;> rfl), by first | exact Kd.R_nil _ _ _ _ _ | exact Kd.N_nil _ _ _ _ _ | exact Kd.V_nil _ _ _ _ _ | exact Kd.Q_nil _ _ _ _ _ | exact Kd.S_nil _ _ _ _ _, mvB HB.out⟩
 ·
  replace c5 := Bool.eq_false_iff.mpr c5
  subst c5
  have H1 : (some (([] : List Int), 1)) = some (r1, r2) := by rw [if_neg (show ¬ (false = true) by decide)] at H; exact H
  clear H
  have H := H1
  clear H1
  simp only [Option.some.injEq, Prod.mk.injEq] at H
  obtain ⟨rfl, rfl⟩ := H
  go_enter Tryd.func9, Tryd.ntmps9
  go_wp2_with (first | ((with_reducible refine gate_callee (f := 28) rfl ?_); refine goesA_ (some 19) Tryd.func28 #[.int .i64 (l0.length : Int), .slice A2 l2.length c2] ?_; (with_reducible refine (impl_ValidRules.calls k (l0.length : Int) _ _ l2 false _ ?side1 ?side2 A4.out).mono ?_); (case side1 => exact mvC HR2.out); (case side2 => exact HC2.out); rintro e w49 ⟨rfl, hb⟩; refine ⟨_, rfl, ?_⟩; have n0_ := Aside0.mk (below_step (mvB HB.out) hb); clear HB; revert n0_; intro HB; (try clear hb)))
  go_ret2
  exact ⟨_, by first | rfl | (simp [errW_none, errW_some] <;> rfl) | (simp [*, errW_none, errW_some] <;> rfl), by first | exact Kd.R_nil _ _ _ _ _ | exact Kd.N_nil _ _ _ _ _ | exact Kd.V_nil _ _ _ _ _ | exact Kd.Q_nil _ _ _ _ _ | exact Kd.S_nil _ _ _ _ _, mvB HB.out⟩

end Go.Proofs.YtffodlggihmonaaDoor.PFnSwitching
