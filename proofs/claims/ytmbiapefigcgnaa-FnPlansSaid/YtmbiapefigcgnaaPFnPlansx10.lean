-- written by a program of this session (mkp.py) out of the translation; Lean checks it. -- squeezed
import Derived.Test.YtmbiapefigcgnaaPFnPlansx0
import Derived.Test.YtmbiapefigcgnaaPFnPlansx8
import Derived.Test.YtmbiapefigcgnaaPFnPlansx9
namespace Go.Proofs.Ytmbiapefigcgnaa.PFnPlans
open Go.RowKit Go.Proofs.YtmbiapefigcgnaaW.PrintWords Go.Proofs.YtmbiapefigcgnaaW.PrintLast Go.Proofs.YtmbiapefigcgnaaW.PrintMore
attribute [local go_sem] bin_leq bin_gtr bin_geq max2_int min2_int max_two min_two max_three min_three max_four min_four   -- for this text's walks alone
set_option linter.unusedVariables false
set_option linter.unusedSimpArgs false

/-! ### spec_l24Ok: function 61 -/
mutual
def spec_l24Ok.l0 : Nat → List (S34) → Int → Option (Bool)
 | 0, _, _ => none
 | k + 1, x0, x3 => if x3 < (x0.length : Int) then (if 0 ≤ x3 then ((spec_l01Name.f k ((rd_T34 x0 x3).f0)).bind fun t313 => (if t313 = true then ((spec_l00In.f ((rd_T34 x0 x3).f1) 1 1000000).bind fun t314 => (if t314 = true then ((spec_l00In.f ((rd_T34 x0 x3).f2) 0 1000000).bind fun t315 => (if t315 = true then (if (((rd_T34 x0 x3).f3).length : Int) > 8 then (spec_l24Ok.j1 k x0 x3 true) else (if x3 > 0 then (if 0 ≤ (wrap64 (x3 - 1)) then (if (wrap64 (x3 - 1)) < (x0.length : Int) then (spec_l24Ok.j1 k x0 x3 (!(Op.bytesLess (((rd_T34 x0 (wrap64 (x3 - 1))).f0).toList) (((rd_T34 x0 x3).f0).toList)))) else (none)) else (none)) else (spec_l24Ok.j1 k x0 x3 false))) else (spec_l24Ok.j1 k x0 x3 true))) else (spec_l24Ok.j1 k x0 x3 true))) else (spec_l24Ok.j1 k x0 x3 true))) else (none)) else (spec_l24Ok.l2 k x0 (([] : List Int)) 0)
def spec_l24Ok.j1 : Nat → List (S34) → Int → Bool → Option (Bool)
 | 0, _, _, _ => none
 | k + 1, x0, x3, x67 => if x67 = true then (some false) else (spec_l24Ok.l1 k x0 x3 0)
def spec_l24Ok.l1 : Nat → List (S34) → Int → Int → Option (Bool)
 | 0, _, _, _ => none
 | k + 1, x0, x3, x5 => if 0 ≤ x3 then (if x3 < (x0.length : Int) then (if x5 < (((rd_T34 x0 x3).f3).length : Int) then (if 0 ≤ x5 then ((spec_l24Find.f k x0 (rdOf ByteArray.empty ((rd_T34 x0 x3).f3) x5)).bind fun t320 => (if t320 < 0 then (some false) else (if x5 > 0 then (if 0 ≤ (wrap64 (x5 - 1)) then (if (wrap64 (x5 - 1)) < (((rd_T34 x0 x3).f3).length : Int) then (if ((Op.bytesLess ((rdOf ByteArray.empty ((rd_T34 x0 x3).f3) (wrap64 (x5 - 1))).toList) ((rdOf ByteArray.empty ((rd_T34 x0 x3).f3) x5).toList)) = true) then (spec_l24Ok.l1 k x0 x3 (wrap64 (x5 + 1))) else (some false)) else (none)) else (none)) else (spec_l24Ok.l1 k x0 x3 (wrap64 (x5 + 1)))))) else (none)) else (spec_l24Ok.l0 k x0 (wrap64 (x3 + 1)))) else (none)) else (none)
def spec_l24Ok.l2 : Nat → List (S34) → List Int → Int → Option (Bool)
 | 0, _, _, _ => none
 | k + 1, x0, x6, x7 => if x7 < (x0.length : Int) then (spec_l24Ok.l3 k x0 x6 x7 0) else (some ((x6.length : Int) == (x0.length : Int)))
def spec_l24Ok.l3 : Nat → List (S34) → List Int → Int → Int → Option (Bool)
 | 0, _, _, _, _ => none
 | k + 1, x0, x6, x7, x8 => if x8 < (x0.length : Int) then ((spec_l00Has.f k x6 x8).bind fun t328 => (if t328 = true then (spec_l24Ok.l3 k x0 x6 x7 (wrap64 (x8 + 1))) else ((spec_l24Ready.f k x0 x6 x8).bind fun t329 => (if t329 = true then (if x6.length < 17592186044416 then (spec_l24Ok.l3 k x0 (x6 ++ [x8]) x7 (wrap64 (x8 + 1))) else (none)) else (spec_l24Ok.l3 k x0 x6 x7 (wrap64 (x8 + 1))))))) else (spec_l24Ok.l2 k x0 x6 (wrap64 (x7 + 1)))
end
def spec_l24Ok.f (k : Nat) (l0 : List (S34)) : Option (Bool) := if (l0.length : Int) > 8 then (some false) else (spec_l24Ok.l0 k l0 0)
theorem spec_l24Ok.mono_l : ∀ k, (∀ y0 y1, LeO (spec_l24Ok.l0 k y0 y1) (spec_l24Ok.l0 (k + 1) y0 y1)) ∧ (∀ y0 y1 y2, LeO (spec_l24Ok.j1 k y0 y1 y2) (spec_l24Ok.j1 (k + 1) y0 y1 y2)) ∧ (∀ y0 y1 y2, LeO (spec_l24Ok.l1 k y0 y1 y2) (spec_l24Ok.l1 (k + 1) y0 y1 y2)) ∧ (∀ y0 y1 y2, LeO (spec_l24Ok.l2 k y0 y1 y2) (spec_l24Ok.l2 (k + 1) y0 y1 y2)) ∧ (∀ y0 y1 y2 y3, LeO (spec_l24Ok.l3 k y0 y1 y2 y3) (spec_l24Ok.l3 (k + 1) y0 y1 y2 y3))
 | 0 => ⟨fun _ _ r h => by simp [spec_l24Ok.l0] at h, fun _ _ _ r h => by simp [spec_l24Ok.j1] at h, fun _ _ _ r h => by simp [spec_l24Ok.l1] at h, fun _ _ _ r h => by simp [spec_l24Ok.l2] at h, fun _ _ _ _ r h => by simp [spec_l24Ok.l3] at h⟩
 | k + 1 => by
  obtain ⟨ih0, ih1, ih2, ih3, ih4⟩ := spec_l24Ok.mono_l k
  refine ⟨?_, ?_, ?_, ?_, ?_⟩
  ·
   intro y0 y1
   unfold spec_l24Ok.l0
   repeat' first
   | (with_reducible exact ih0 _ _)
   | (with_reducible exact ih1 _ _ _)
   | (with_reducible exact ih2 _ _ _)
   | (with_reducible exact ih3 _ _ _)
   | (with_reducible exact ih4 _ _ _ _)
   | (with_reducible exact spec_l00Has.mono _ _ _)
   | (with_reducible exact spec_l01Name.mono _ _)
   | (with_reducible exact spec_l24Find.mono _ _ _)
   | (with_reducible exact spec_l24Ready.mono _ _ _ _)
   | (with_reducible exact LeO.refl _)
   | (with_reducible exact LeO.none _)
   | (with_reducible refine LeO.ite ?_ ?_)
   | (with_reducible refine LeO.bind ?_ (fun _ => ?_))
   | exact ih0 _ _
   | exact ih1 _ _ _
   | exact ih2 _ _ _
   | exact ih3 _ _ _
   | exact ih4 _ _ _ _
   | exact spec_l00Has.mono _ _ _
   | exact spec_l01Name.mono _ _
   | exact spec_l24Find.mono _ _ _
   | exact spec_l24Ready.mono _ _ _ _
   | exact LeO.none _
   | refine LeO.ite ?_ ?_
   | refine LeO.bind ?_ (fun _ => ?_)
  ·
   intro y0 y1 y2
   unfold spec_l24Ok.j1
   repeat' first
   | (with_reducible exact ih0 _ _)
   | (with_reducible exact ih1 _ _ _)
   | (with_reducible exact ih2 _ _ _)
   | (with_reducible exact ih3 _ _ _)
   | (with_reducible exact ih4 _ _ _ _)
   | (with_reducible exact spec_l00Has.mono _ _ _)
   | (with_reducible exact spec_l01Name.mono _ _)
   | (with_reducible exact spec_l24Find.mono _ _ _)
   | (with_reducible exact spec_l24Ready.mono _ _ _ _)
   | (with_reducible exact LeO.refl _)
   | (with_reducible exact LeO.none _)
   | (with_reducible refine LeO.ite ?_ ?_)
   | (with_reducible refine LeO.bind ?_ (fun _ => ?_))
   | exact ih0 _ _
   | exact ih1 _ _ _
   | exact ih2 _ _ _
   | exact ih3 _ _ _
   | exact ih4 _ _ _ _
   | exact spec_l00Has.mono _ _ _
   | exact spec_l01Name.mono _ _
   | exact spec_l24Find.mono _ _ _
   | exact spec_l24Ready.mono _ _ _ _
   | exact LeO.none _
   | refine LeO.ite ?_ ?_
   | refine LeO.bind ?_ (fun _ => ?_)
  ·
   intro y0 y1 y2
   unfold spec_l24Ok.l1
   repeat' first
   | (with_reducible exact ih0 _ _)
   | (with_reducible exact ih1 _ _ _)
   | (with_reducible exact ih2 _ _ _)
   | (with_reducible exact ih3 _ _ _)
   | (with_reducible exact ih4 _ _ _ _)
   | (with_reducible exact spec_l00Has.mono _ _ _)
   | (with_reducible exact spec_l01Name.mono _ _)
   | (with_reducible exact spec_l24Find.mono _ _ _)
   | (with_reducible exact spec_l24Ready.mono _ _ _ _)
   | (with_reducible exact LeO.refl _)
   | (with_reducible exact LeO.none _)
   | (with_reducible refine LeO.ite ?_ ?_)
   | (with_reducible refine LeO.bind ?_ (fun _ => ?_))
   | exact ih0 _ _
   | exact ih1 _ _ _
   | exact ih2 _ _ _
   | exact ih3 _ _ _
   | exact ih4 _ _ _ _
   | exact spec_l00Has.mono _ _ _
   | exact spec_l01Name.mono _ _
   | exact spec_l24Find.mono _ _ _
   | exact spec_l24Ready.mono _ _ _ _
   | exact LeO.none _
   | refine LeO.ite ?_ ?_
   | refine LeO.bind ?_ (fun _ => ?_)
  ·
   intro y0 y1 y2
   unfold spec_l24Ok.l2
   repeat' first
   | (with_reducible exact ih0 _ _)
   | (with_reducible exact ih1 _ _ _)
   | (with_reducible exact ih2 _ _ _)
   | (with_reducible exact ih3 _ _ _)
   | (with_reducible exact ih4 _ _ _ _)
   | (with_reducible exact spec_l00Has.mono _ _ _)
   | (with_reducible exact spec_l01Name.mono _ _)
   | (with_reducible exact spec_l24Find.mono _ _ _)
   | (with_reducible exact spec_l24Ready.mono _ _ _ _)
   | (with_reducible exact LeO.refl _)
   | (with_reducible exact LeO.none _)
   | (with_reducible refine LeO.ite ?_ ?_)
   | (with_reducible refine LeO.bind ?_ (fun _ => ?_))
   | exact ih0 _ _
   | exact ih1 _ _ _
   | exact ih2 _ _ _
   | exact ih3 _ _ _
   | exact ih4 _ _ _ _
   | exact spec_l00Has.mono _ _ _
   | exact spec_l01Name.mono _ _
   | exact spec_l24Find.mono _ _ _
   | exact spec_l24Ready.mono _ _ _ _
   | exact LeO.none _
   | refine LeO.ite ?_ ?_
   | refine LeO.bind ?_ (fun _ => ?_)
  ·
   intro y0 y1 y2 y3
   unfold spec_l24Ok.l3
   repeat' first
   | (with_reducible exact ih0 _ _)
   | (with_reducible exact ih1 _ _ _)
   | (with_reducible exact ih2 _ _ _)
   | (with_reducible exact ih3 _ _ _)
   | (with_reducible exact ih4 _ _ _ _)
   | (with_reducible exact spec_l00Has.mono _ _ _)
   | (with_reducible exact spec_l01Name.mono _ _)
   | (with_reducible exact spec_l24Find.mono _ _ _)
   | (with_reducible exact spec_l24Ready.mono _ _ _ _)
   | (with_reducible exact LeO.refl _)
   | (with_reducible exact LeO.none _)
   | (with_reducible refine LeO.ite ?_ ?_)
   | (with_reducible refine LeO.bind ?_ (fun _ => ?_))
   | exact ih0 _ _
   | exact ih1 _ _ _
   | exact ih2 _ _ _
   | exact ih3 _ _ _
   | exact ih4 _ _ _ _
   | exact spec_l00Has.mono _ _ _
   | exact spec_l01Name.mono _ _
   | exact spec_l24Find.mono _ _ _
   | exact spec_l24Ready.mono _ _ _ _
   | exact LeO.none _
   | refine LeO.ite ?_ ?_
   | refine LeO.bind ?_ (fun _ => ?_)
theorem spec_l24Ok.mono : ∀ a0 k, LeO (spec_l24Ok.f k a0) (spec_l24Ok.f (k + 1) a0) := by
 intro a0 k
 obtain ⟨ih0, ih1, ih2, ih3, ih4⟩ := spec_l24Ok.mono_l k
 unfold spec_l24Ok.f
 repeat' first
  | (with_reducible exact ih0 _ _)
  | (with_reducible exact ih1 _ _ _)
  | (with_reducible exact ih2 _ _ _)
  | (with_reducible exact ih3 _ _ _)
  | (with_reducible exact ih4 _ _ _ _)
  | (with_reducible exact spec_l00Has.mono _ _ _)
  | (with_reducible exact spec_l01Name.mono _ _)
  | (with_reducible exact spec_l24Find.mono _ _ _)
  | (with_reducible exact spec_l24Ready.mono _ _ _ _)
  | (with_reducible exact LeO.refl _)
  | (with_reducible exact LeO.none _)
  | (with_reducible refine LeO.ite ?_ ?_)
  | (with_reducible refine LeO.bind ?_ (fun _ => ?_))
  | exact ih0 _ _
  | exact ih1 _ _ _
  | exact ih2 _ _ _
  | exact ih3 _ _ _
  | exact ih4 _ _ _ _
  | exact spec_l00Has.mono _ _ _
  | exact spec_l01Name.mono _ _
  | exact spec_l24Find.mono _ _ _
  | exact spec_l24Ready.mono _ _ _ _
  | exact LeO.none _
  | refine LeO.ite ?_ ?_
  | refine LeO.bind ?_ (fun _ => ?_)
set_option maxHeartbeats 8000000 in
set_option maxRecDepth 100000 in
theorem spec_l24Ok.calls (k : Nat) (A0 : Option Addr) (c0 : Nat) (l0 : List (S34)) (r : Bool) (w : World) (hr0 : Kd.C k34 w A0 l0.length l0) (hc0 : l0.length ≤ c0) (h : spec_l24Ok.f k l0 = some r) :
  Calls Try.prog 61 #[.slice A0 l0.length c0] w fun e w' => e = .returned (.bool r) ∧ Below w.heap.size w w' := by
 have HR0 := Aside0.mk hr0
 have HC0 := Aside0.mk hc0
 clear hr0 hc0
 have HB := Aside0.mk (Below.refl w.heap.size w)
 have H : (if (l0.length : Int) > 8 then (some false) else (spec_l24Ok.l0 k l0 0)) = some r := h
 clear h
 by_cases c2 : (l0.length : Int) > 8
 ·
  rw [if_pos c2] at H
  have c2b0 : decide (8 < (l0.length : Int)) = true := decide_eq_true c2
  have c2b1 : decide (8 < l0.length) = true := decide_eq_true (by omega)
  clear c2
  obtain rfl := Option.some.inj H
  go_enter Try.func61, Try.ntmps61
  go_wp2
  repeat (go_quiet (fail); try go_wp2)
  go_ret
  exact ⟨by first | rfl | (simp [errW_none, errW_some] <;> rfl) | (simp [*, errW_none, errW_some] <;> rfl), mvB HB.out⟩
 ·
  rw [if_neg c2] at H
  have c2b0 : decide (8 < (l0.length : Int)) = false := decide_eq_false c2
  have c2b1 : decide (8 < l0.length) = false := decide_eq_false (by omega)
  clear c2
  have H' := Aside0.mk H
  clear H
  go_enter Try.func61, Try.ntmps61
  go_wp2
  repeat (go_quiet (fail); try go_wp2)
  go_loopg [3] k (fun kq v3 w' => ∃ (x3_1 : Int), v3 = .int .i64 x3_1 ∧ Aside0 (spec_l24Ok.l0 kq l0 x3_1 = some r) ∧ Aside0 (kq ≤ k) ∧ Aside0 (Below w.heap.size w w'))
  case atStart => exact ⟨(0), rs, H', ⟨Nat.le_refl _⟩, ⟨mvB HB.out⟩⟩
  case round =>
   clear H'
   try clear c2b0
   try clear c2b1
   obtain ⟨x3_1, rfl, HA, HK1, HB⟩ := hrel
   cases gk with
   | zero => exact absurd HA.out (by simp [spec_l24Ok.l0])
   | succ k1 =>
    have H := HA.out
    clear HA
    simp only [spec_l24Ok.l0] at H
    by_cases c3 : x3_1 < (l0.length : Int)
    ·
     rw [if_pos c3] at H
     have c3b0 : decide (x3_1 < (l0.length : Int)) = true := decide_eq_true c3
     clear c3
     by_cases c4 : 0 ≤ x3_1
     ·
      rw [if_pos c4] at H
      have c4b0 : decide (0 ≤ x3_1) = true := decide_eq_true c4
      clear c4
      have HC5 := Aside0.mk H
      clear H
      have p312 : 0 ≤ (x3_1 : Int) := od
      have q312 : x3_1 < (l0.length : Int) := od
      obtain ⟨ad312, A312_3, c312_3, e312, hx312_0, hx312_1, hx312_2, hx312_3, hl312_3, hi312_3⟩ := at_T34 HR0.out x3_1 p312 q312
      cases e312
      replace hx312_0 := (HB.out.cell (World.block_lt_of_cell? w _ hx312_0)).trans hx312_0
      replace hx312_1 := (HB.out.cell (World.block_lt_of_cell? w _ hx312_1)).trans hx312_1
      replace hx312_2 := (HB.out.cell (World.block_lt_of_cell? w _ hx312_2)).trans hx312_2
      replace hx312_3 := (HB.out.cell (World.block_lt_of_cell? w _ hx312_3)).trans hx312_3
      have HR312_3 := Aside0.mk hi312_3
      have HC312_3 := Aside0.mk hl312_3
      clear hi312_3 hl312_3
      replace p312 := eq_true p312
      replace q312 := eq_true q312
      go_upto_region 7 with (fail)
      repeat (go_quiet (fail); go_upto_region 7 with (fail))
      go_cut [67] (fun v67 wc => ∃ (kq : Nat) (x67_4 : Bool), v67 = .bool x67_4 ∧ Aside0 (spec_l24Ok.j1 kq l0 x3_1 x67_4 = some r) ∧ Aside0 (kq ≤ k1) ∧ Aside0 (Below w.heap.size w wc))
      case first =>
       have H := HC5.out
       clear HC5
       replace H := Option.bind_eq_some_iff.mp H
       obtain ⟨t313, A60, H⟩ := H
       replace H : (if t313 = true then ((spec_l00In.f ((rd_T34 l0 x3_1).f1) 1 1000000).bind fun t314 => (if t314 = true then ((spec_l00In.f ((rd_T34 l0 x3_1).f2) 0 1000000).bind fun t315 => (if t315 = true then (if (((rd_T34 l0 x3_1).f3).length : Int) > 8 then (spec_l24Ok.j1 k1 l0 x3_1 true) else (if x3_1 > 0 then (if 0 ≤ (wrap64 (x3_1 - 1)) then (if (wrap64 (x3_1 - 1)) < (l0.length : Int) then (spec_l24Ok.j1 k1 l0 x3_1 (!(Op.bytesLess (((rd_T34 l0 (wrap64 (x3_1 - 1))).f0).toList) (((rd_T34 l0 x3_1).f0).toList)))) else (none)) else (none)) else (spec_l24Ok.j1 k1 l0 x3_1 false))) else (spec_l24Ok.j1 k1 l0 x3_1 true))) else (spec_l24Ok.j1 k1 l0 x3_1 true))) else (spec_l24Ok.j1 k1 l0 x3_1 true)) = some r := H
       have A6 := Aside0.mk A60
       clear A60
       by_cases c7 : t313 = true
       ·
        subst c7
        have H1 : ((spec_l00In.f ((rd_T34 l0 x3_1).f1) 1 1000000).bind fun t314 => (if t314 = true then ((spec_l00In.f ((rd_T34 l0 x3_1).f2) 0 1000000).bind fun t315 => (if t315 = true then (if (((rd_T34 l0 x3_1).f3).length : Int) > 8 then (spec_l24Ok.j1 k1 l0 x3_1 true) else (if x3_1 > 0 then (if 0 ≤ (wrap64 (x3_1 - 1)) then (if (wrap64 (x3_1 - 1)) < (l0.length : Int) then (spec_l24Ok.j1 k1 l0 x3_1 (!(Op.bytesLess (((rd_T34 l0 (wrap64 (x3_1 - 1))).f0).toList) (((rd_T34 l0 x3_1).f0).toList)))) else (none)) else (none)) else (spec_l24Ok.j1 k1 l0 x3_1 false))) else (spec_l24Ok.j1 k1 l0 x3_1 true))) else (spec_l24Ok.j1 k1 l0 x3_1 true))) = some r := by rw [if_pos rfl] at H; exact H
        clear H
        have H := H1
        clear H1
        replace H := Option.bind_eq_some_iff.mp H
        obtain ⟨t314, A80, H⟩ := H
        replace H : (if t314 = true then ((spec_l00In.f ((rd_T34 l0 x3_1).f2) 0 1000000).bind fun t315 => (if t315 = true then (if (((rd_T34 l0 x3_1).f3).length : Int) > 8 then (spec_l24Ok.j1 k1 l0 x3_1 true) else (if x3_1 > 0 then (if 0 ≤ (wrap64 (x3_1 - 1)) then (if (wrap64 (x3_1 - 1)) < (l0.length : Int) then (spec_l24Ok.j1 k1 l0 x3_1 (!(Op.bytesLess (((rd_T34 l0 (wrap64 (x3_1 - 1))).f0).toList) (((rd_T34 l0 x3_1).f0).toList)))) else (none)) else (none)) else (spec_l24Ok.j1 k1 l0 x3_1 false))) else (spec_l24Ok.j1 k1 l0 x3_1 true))) else (spec_l24Ok.j1 k1 l0 x3_1 true)) = some r := H
        have A8 := Aside0.mk A80
        clear A80
        by_cases c9 : t314 = true
        ·
         subst c9
         have H1 : ((spec_l00In.f ((rd_T34 l0 x3_1).f2) 0 1000000).bind fun t315 => (if t315 = true then (if (((rd_T34 l0 x3_1).f3).length : Int) > 8 then (spec_l24Ok.j1 k1 l0 x3_1 true) else (if x3_1 > 0 then (if 0 ≤ (wrap64 (x3_1 - 1)) then (if (wrap64 (x3_1 - 1)) < (l0.length : Int) then (spec_l24Ok.j1 k1 l0 x3_1 (!(Op.bytesLess (((rd_T34 l0 (wrap64 (x3_1 - 1))).f0).toList) (((rd_T34 l0 x3_1).f0).toList)))) else (none)) else (none)) else (spec_l24Ok.j1 k1 l0 x3_1 false))) else (spec_l24Ok.j1 k1 l0 x3_1 true))) = some r := by rw [if_pos rfl] at H; exact H
         clear H
         have H := H1
         clear H1
         replace H := Option.bind_eq_some_iff.mp H
         obtain ⟨t315, A100, H⟩ := H
         replace H : (if t315 = true then (if (((rd_T34 l0 x3_1).f3).length : Int) > 8 then (spec_l24Ok.j1 k1 l0 x3_1 true) else (if x3_1 > 0 then (if 0 ≤ (wrap64 (x3_1 - 1)) then (if (wrap64 (x3_1 - 1)) < (l0.length : Int) then (spec_l24Ok.j1 k1 l0 x3_1 (!(Op.bytesLess (((rd_T34 l0 (wrap64 (x3_1 - 1))).f0).toList) (((rd_T34 l0 x3_1).f0).toList)))) else (none)) else (none)) else (spec_l24Ok.j1 k1 l0 x3_1 false))) else (spec_l24Ok.j1 k1 l0 x3_1 true)) = some r := H
         have A10 := Aside0.mk A100
         clear A100
         by_cases c11 : t315 = true
         ·
          subst c11
          have H1 : (if (((rd_T34 l0 x3_1).f3).length : Int) > 8 then (spec_l24Ok.j1 k1 l0 x3_1 true) else (if x3_1 > 0 then (if 0 ≤ (wrap64 (x3_1 - 1)) then (if (wrap64 (x3_1 - 1)) < (l0.length : Int) then (spec_l24Ok.j1 k1 l0 x3_1 (!(Op.bytesLess (((rd_T34 l0 (wrap64 (x3_1 - 1))).f0).toList) (((rd_T34 l0 x3_1).f0).toList)))) else (none)) else (none)) else (spec_l24Ok.j1 k1 l0 x3_1 false))) = some r := by rw [if_pos rfl] at H; exact H
          clear H
          have H := H1
          clear H1
          by_cases c12 : (((rd_T34 l0 x3_1).f3).length : Int) > 8
          ·
           rw [if_pos c12] at H
           have c12b0 : decide (8 < (((rd_T34 l0 x3_1).f3).length : Int)) = true := decide_eq_true c12
           have c12b1 : decide (8 < ((rd_T34 l0 x3_1).f3).length) = true := decide_eq_true (by omega)
           clear c12
           (first | rw [c12b0] | (simp only [i64_w, i32_w]; rw [c12b0]) | skip)
           have H' := Aside0.mk H
           clear H
           go_wp2_with (first | (go_at_call 97; (with_reducible refine (spec_l01Name.calls k1 ((rd_T34 l0 x3_1).f0) true _ A6.out).mono ?_); rintro e w' ⟨rfl, ⟨nd, rfl⟩⟩; (try first | exact ⟨rfl, _, World.drewN_drewN _ _ _⟩ | exact ⟨rfl, _, Eq.trans (World.drewN_drewN _ _ _) (congrArg (World.drewN _) (Nat.add_assoc _ _ _))⟩)) | (go_at_call 62; (with_reducible refine (spec_l00In.calls ((rd_T34 l0 x3_1).f1) 1 1000000 true _ A8.out).mono ?_); rintro e w' ⟨rfl, ⟨nd, rfl⟩⟩; (try first | exact ⟨rfl, _, World.drewN_drewN _ _ _⟩ | exact ⟨rfl, _, Eq.trans (World.drewN_drewN _ _ _) (congrArg (World.drewN _) (Nat.add_assoc _ _ _))⟩)) | (go_at_call 62; (with_reducible refine (spec_l00In.calls ((rd_T34 l0 x3_1).f2) 0 1000000 true _ A10.out).mono ?_); rintro e w' ⟨rfl, ⟨nd, rfl⟩⟩; (try first | exact ⟨rfl, _, World.drewN_drewN _ _ _⟩ | exact ⟨rfl, _, Eq.trans (World.drewN_drewN _ _ _) (congrArg (World.drewN _) (Nat.add_assoc _ _ _))⟩)))
           repeat (go_quiet (first | (go_at_call 97; (with_reducible refine (spec_l01Name.calls k1 ((rd_T34 l0 x3_1).f0) true _ A6.out).mono ?_); rintro e w' ⟨rfl, ⟨nd, rfl⟩⟩; (try first | exact ⟨rfl, _, World.drewN_drewN _ _ _⟩ | exact ⟨rfl, _, Eq.trans (World.drewN_drewN _ _ _) (congrArg (World.drewN _) (Nat.add_assoc _ _ _))⟩)) | (go_at_call 62; (with_reducible refine (spec_l00In.calls ((rd_T34 l0 x3_1).f1) 1 1000000 true _ A8.out).mono ?_); rintro e w' ⟨rfl, ⟨nd, rfl⟩⟩; (try first | exact ⟨rfl, _, World.drewN_drewN _ _ _⟩ | exact ⟨rfl, _, Eq.trans (World.drewN_drewN _ _ _) (congrArg (World.drewN _) (Nat.add_assoc _ _ _))⟩)) | (go_at_call 62; (with_reducible refine (spec_l00In.calls ((rd_T34 l0 x3_1).f2) 0 1000000 true _ A10.out).mono ?_); rintro e w' ⟨rfl, ⟨nd, rfl⟩⟩; (try first | exact ⟨rfl, _, World.drewN_drewN _ _ _⟩ | exact ⟨rfl, _, Eq.trans (World.drewN_drewN _ _ _) (congrArg (World.drewN _) (Nat.add_assoc _ _ _))⟩))); try go_wp2_with (first | (go_at_call 97; (with_reducible refine (spec_l01Name.calls k1 ((rd_T34 l0 x3_1).f0) true _ A6.out).mono ?_); rintro e w' ⟨rfl, ⟨nd, rfl⟩⟩; (try first | exact ⟨rfl, _, World.drewN_drewN _ _ _⟩ | exact ⟨rfl, _, Eq.trans (World.drewN_drewN _ _ _) (congrArg (World.drewN _) (Nat.add_assoc _ _ _))⟩)) | (go_at_call 62; (with_reducible refine (spec_l00In.calls ((rd_T34 l0 x3_1).f1) 1 1000000 true _ A8.out).mono ?_); rintro e w' ⟨rfl, ⟨nd, rfl⟩⟩; (try first | exact ⟨rfl, _, World.drewN_drewN _ _ _⟩ | exact ⟨rfl, _, Eq.trans (World.drewN_drewN _ _ _) (congrArg (World.drewN _) (Nat.add_assoc _ _ _))⟩)) | (go_at_call 62; (with_reducible refine (spec_l00In.calls ((rd_T34 l0 x3_1).f2) 0 1000000 true _ A10.out).mono ?_); rintro e w' ⟨rfl, ⟨nd, rfl⟩⟩; (try first | exact ⟨rfl, _, World.drewN_drewN _ _ _⟩ | exact ⟨rfl, _, Eq.trans (World.drewN_drewN _ _ _) (congrArg (World.drewN _) (Nat.add_assoc _ _ _))⟩))))
           go_meet
           case rel => exact ⟨_, (true), rs, H', ⟨by have := HK1.out; first | omega | exact Nat.le_refl _⟩, ⟨mvB HB.out⟩⟩
          ·
           rw [if_neg c12] at H
           have c12b0 : decide (8 < (((rd_T34 l0 x3_1).f3).length : Int)) = false := decide_eq_false c12
           have c12b1 : decide (8 < ((rd_T34 l0 x3_1).f3).length) = false := decide_eq_false (by omega)
           clear c12
           (first | rw [c12b0] | (simp only [i64_w, i32_w]; rw [c12b0]) | skip)
           by_cases c13 : x3_1 > 0
           ·
            rw [if_pos c13] at H
            have c13b0 : decide (0 < x3_1) = true := decide_eq_true c13
            clear c13
            obtain ⟨ji14, hji14⟩ : ∃ j_ : Int, (wrap64 (x3_1 - 1)) = j_ := ⟨_, rfl⟩
            replace H : (if 0 ≤ (ji14) then (if (ji14) < (l0.length : Int) then (spec_l24Ok.j1 k1 l0 x3_1 (!(Op.bytesLess (((rd_T34 l0 (ji14)).f0).toList) (((rd_T34 l0 x3_1).f0).toList)))) else (none)) else (none)) = some r := by first | (rw [hji14] at H; exact H) | (simp only [hji14] at H ⊢; exact H)
            (try rw [hji14] at A6)
            (try rw [hji14] at A8)
            (try rw [hji14] at A10)
            have hji14w : (IntKind.i64.wrap (x3_1 - 1)) = ji14 := (i64_w _).trans hji14
            by_cases c15 : 0 ≤ (ji14)
            ·
             rw [if_pos c15] at H
             have c15b0 : decide (0 ≤ (ji14)) = true := decide_eq_true c15
             clear c15
             by_cases c16 : (ji14) < (l0.length : Int)
             ·
              rw [if_pos c16] at H
              have c16b0 : decide ((ji14) < (l0.length : Int)) = true := decide_eq_true c16
              clear c16
              have H' := Aside0.mk H
              clear H
              go_wp2_with (first | (go_at_call 97; (with_reducible refine (spec_l01Name.calls k1 ((rd_T34 l0 x3_1).f0) true _ A6.out).mono ?_); rintro e w' ⟨rfl, ⟨nd, rfl⟩⟩; (try first | exact ⟨rfl, _, World.drewN_drewN _ _ _⟩ | exact ⟨rfl, _, Eq.trans (World.drewN_drewN _ _ _) (congrArg (World.drewN _) (Nat.add_assoc _ _ _))⟩)) | (go_at_call 62; (with_reducible refine (spec_l00In.calls ((rd_T34 l0 x3_1).f1) 1 1000000 true _ A8.out).mono ?_); rintro e w' ⟨rfl, ⟨nd, rfl⟩⟩; (try first | exact ⟨rfl, _, World.drewN_drewN _ _ _⟩ | exact ⟨rfl, _, Eq.trans (World.drewN_drewN _ _ _) (congrArg (World.drewN _) (Nat.add_assoc _ _ _))⟩)) | (go_at_call 62; (with_reducible refine (spec_l00In.calls ((rd_T34 l0 x3_1).f2) 0 1000000 true _ A10.out).mono ?_); rintro e w' ⟨rfl, ⟨nd, rfl⟩⟩; (try first | exact ⟨rfl, _, World.drewN_drewN _ _ _⟩ | exact ⟨rfl, _, Eq.trans (World.drewN_drewN _ _ _) (congrArg (World.drewN _) (Nat.add_assoc _ _ _))⟩); all_goals (have p316 : 0 ≤ ((ji14) : Int) := od; have q316 : (ji14) < (l0.length : Int) := od; obtain ⟨ad316, A316_3, c316_3, e316, hx316_0, hx316_1, hx316_2, hx316_3, hl316_3, hi316_3⟩ := at_T34 HR0.out (ji14) p316 q316; obtain rfl : ad312 = ad316 := (by injection e316); replace hx316_0 := (HB.out.cell (World.block_lt_of_cell? w _ hx316_0)).trans hx316_0; replace hx316_1 := (HB.out.cell (World.block_lt_of_cell? w _ hx316_1)).trans hx316_1; replace hx316_2 := (HB.out.cell (World.block_lt_of_cell? w _ hx316_2)).trans hx316_2; replace hx316_3 := (HB.out.cell (World.block_lt_of_cell? w _ hx316_3)).trans hx316_3; have HR316_3 := Aside0.mk hi316_3; have HC316_3 := Aside0.mk hl316_3; clear hi316_3 hl316_3; replace p316 := eq_true p316; replace q316 := eq_true q316)))
              repeat (go_quiet (first | (go_at_call 97; (with_reducible refine (spec_l01Name.calls k1 ((rd_T34 l0 x3_1).f0) true _ A6.out).mono ?_); rintro e w' ⟨rfl, ⟨nd, rfl⟩⟩; (try first | exact ⟨rfl, _, World.drewN_drewN _ _ _⟩ | exact ⟨rfl, _, Eq.trans (World.drewN_drewN _ _ _) (congrArg (World.drewN _) (Nat.add_assoc _ _ _))⟩)) | (go_at_call 62; (with_reducible refine (spec_l00In.calls ((rd_T34 l0 x3_1).f1) 1 1000000 true _ A8.out).mono ?_); rintro e w' ⟨rfl, ⟨nd, rfl⟩⟩; (try first | exact ⟨rfl, _, World.drewN_drewN _ _ _⟩ | exact ⟨rfl, _, Eq.trans (World.drewN_drewN _ _ _) (congrArg (World.drewN _) (Nat.add_assoc _ _ _))⟩)) | (go_at_call 62; (with_reducible refine (spec_l00In.calls ((rd_T34 l0 x3_1).f2) 0 1000000 true _ A10.out).mono ?_); rintro e w' ⟨rfl, ⟨nd, rfl⟩⟩; (try first | exact ⟨rfl, _, World.drewN_drewN _ _ _⟩ | exact ⟨rfl, _, Eq.trans (World.drewN_drewN _ _ _) (congrArg (World.drewN _) (Nat.add_assoc _ _ _))⟩); all_goals (have p316 : 0 ≤ ((ji14) : Int) := od; have q316 : (ji14) < (l0.length : Int) := od; obtain ⟨ad316, A316_3, c316_3, e316, hx316_0, hx316_1, hx316_2, hx316_3, hl316_3, hi316_3⟩ := at_T34 HR0.out (ji14) p316 q316; obtain rfl : ad312 = ad316 := (by injection e316); replace hx316_0 := (HB.out.cell (World.block_lt_of_cell? w _ hx316_0)).trans hx316_0; replace hx316_1 := (HB.out.cell (World.block_lt_of_cell? w _ hx316_1)).trans hx316_1; replace hx316_2 := (HB.out.cell (World.block_lt_of_cell? w _ hx316_2)).trans hx316_2; replace hx316_3 := (HB.out.cell (World.block_lt_of_cell? w _ hx316_3)).trans hx316_3; have HR316_3 := Aside0.mk hi316_3; have HC316_3 := Aside0.mk hl316_3; clear hi316_3 hl316_3; replace p316 := eq_true p316; replace q316 := eq_true q316))); try go_wp2_with (first | (go_at_call 97; (with_reducible refine (spec_l01Name.calls k1 ((rd_T34 l0 x3_1).f0) true _ A6.out).mono ?_); rintro e w' ⟨rfl, ⟨nd, rfl⟩⟩; (try first | exact ⟨rfl, _, World.drewN_drewN _ _ _⟩ | exact ⟨rfl, _, Eq.trans (World.drewN_drewN _ _ _) (congrArg (World.drewN _) (Nat.add_assoc _ _ _))⟩)) | (go_at_call 62; (with_reducible refine (spec_l00In.calls ((rd_T34 l0 x3_1).f1) 1 1000000 true _ A8.out).mono ?_); rintro e w' ⟨rfl, ⟨nd, rfl⟩⟩; (try first | exact ⟨rfl, _, World.drewN_drewN _ _ _⟩ | exact ⟨rfl, _, Eq.trans (World.drewN_drewN _ _ _) (congrArg (World.drewN _) (Nat.add_assoc _ _ _))⟩)) | (go_at_call 62; (with_reducible refine (spec_l00In.calls ((rd_T34 l0 x3_1).f2) 0 1000000 true _ A10.out).mono ?_); rintro e w' ⟨rfl, ⟨nd, rfl⟩⟩; (try first | exact ⟨rfl, _, World.drewN_drewN _ _ _⟩ | exact ⟨rfl, _, Eq.trans (World.drewN_drewN _ _ _) (congrArg (World.drewN _) (Nat.add_assoc _ _ _))⟩); all_goals (have p316 : 0 ≤ ((ji14) : Int) := od; have q316 : (ji14) < (l0.length : Int) := od; obtain ⟨ad316, A316_3, c316_3, e316, hx316_0, hx316_1, hx316_2, hx316_3, hl316_3, hi316_3⟩ := at_T34 HR0.out (ji14) p316 q316; obtain rfl : ad312 = ad316 := (by injection e316); replace hx316_0 := (HB.out.cell (World.block_lt_of_cell? w _ hx316_0)).trans hx316_0; replace hx316_1 := (HB.out.cell (World.block_lt_of_cell? w _ hx316_1)).trans hx316_1; replace hx316_2 := (HB.out.cell (World.block_lt_of_cell? w _ hx316_2)).trans hx316_2; replace hx316_3 := (HB.out.cell (World.block_lt_of_cell? w _ hx316_3)).trans hx316_3; have HR316_3 := Aside0.mk hi316_3; have HC316_3 := Aside0.mk hl316_3; clear hi316_3 hl316_3; replace p316 := eq_true p316; replace q316 := eq_true q316))))
              go_meet
              case rel => exact ⟨_, (!(Op.bytesLess (((rd_T34 l0 (ji14)).f0).toList) (((rd_T34 l0 x3_1).f0).toList))), (by first | rfl | (simp; done) | (simp only [← hji14] <;> (first | rfl | simp)) | (simp [*]; done)), H', ⟨by have := HK1.out; first | omega | exact Nat.le_refl _⟩, ⟨mvB HB.out⟩⟩
             ·
              rw [if_neg c16] at H
              exact absurd H (by simp)
            ·
             rw [if_neg c15] at H
             exact absurd H (by simp)
           ·
            rw [if_neg c13] at H
            have c13b0 : decide (0 < x3_1) = false := decide_eq_false c13
            clear c13
            have H' := Aside0.mk H
            clear H
            go_wp2_with (first | (go_at_call 97; (with_reducible refine (spec_l01Name.calls k1 ((rd_T34 l0 x3_1).f0) true _ A6.out).mono ?_); rintro e w' ⟨rfl, ⟨nd, rfl⟩⟩; (try first | exact ⟨rfl, _, World.drewN_drewN _ _ _⟩ | exact ⟨rfl, _, Eq.trans (World.drewN_drewN _ _ _) (congrArg (World.drewN _) (Nat.add_assoc _ _ _))⟩)) | (go_at_call 62; (with_reducible refine (spec_l00In.calls ((rd_T34 l0 x3_1).f1) 1 1000000 true _ A8.out).mono ?_); rintro e w' ⟨rfl, ⟨nd, rfl⟩⟩; (try first | exact ⟨rfl, _, World.drewN_drewN _ _ _⟩ | exact ⟨rfl, _, Eq.trans (World.drewN_drewN _ _ _) (congrArg (World.drewN _) (Nat.add_assoc _ _ _))⟩)) | (go_at_call 62; (with_reducible refine (spec_l00In.calls ((rd_T34 l0 x3_1).f2) 0 1000000 true _ A10.out).mono ?_); rintro e w' ⟨rfl, ⟨nd, rfl⟩⟩; (try first | exact ⟨rfl, _, World.drewN_drewN _ _ _⟩ | exact ⟨rfl, _, Eq.trans (World.drewN_drewN _ _ _) (congrArg (World.drewN _) (Nat.add_assoc _ _ _))⟩)))
            repeat (go_quiet (first | (go_at_call 97; (with_reducible refine (spec_l01Name.calls k1 ((rd_T34 l0 x3_1).f0) true _ A6.out).mono ?_); rintro e w' ⟨rfl, ⟨nd, rfl⟩⟩; (try first | exact ⟨rfl, _, World.drewN_drewN _ _ _⟩ | exact ⟨rfl, _, Eq.trans (World.drewN_drewN _ _ _) (congrArg (World.drewN _) (Nat.add_assoc _ _ _))⟩)) | (go_at_call 62; (with_reducible refine (spec_l00In.calls ((rd_T34 l0 x3_1).f1) 1 1000000 true _ A8.out).mono ?_); rintro e w' ⟨rfl, ⟨nd, rfl⟩⟩; (try first | exact ⟨rfl, _, World.drewN_drewN _ _ _⟩ | exact ⟨rfl, _, Eq.trans (World.drewN_drewN _ _ _) (congrArg (World.drewN _) (Nat.add_assoc _ _ _))⟩)) | (go_at_call 62; (with_reducible refine (spec_l00In.calls ((rd_T34 l0 x3_1).f2) 0 1000000 true _ A10.out).mono ?_); rintro e w' ⟨rfl, ⟨nd, rfl⟩⟩; (try first | exact ⟨rfl, _, World.drewN_drewN _ _ _⟩ | exact ⟨rfl, _, Eq.trans (World.drewN_drewN _ _ _) (congrArg (World.drewN _) (Nat.add_assoc _ _ _))⟩))); try go_wp2_with (first | (go_at_call 97; (with_reducible refine (spec_l01Name.calls k1 ((rd_T34 l0 x3_1).f0) true _ A6.out).mono ?_); rintro e w' ⟨rfl, ⟨nd, rfl⟩⟩; (try first | exact ⟨rfl, _, World.drewN_drewN _ _ _⟩ | exact ⟨rfl, _, Eq.trans (World.drewN_drewN _ _ _) (congrArg (World.drewN _) (Nat.add_assoc _ _ _))⟩)) | (go_at_call 62; (with_reducible refine (spec_l00In.calls ((rd_T34 l0 x3_1).f1) 1 1000000 true _ A8.out).mono ?_); rintro e w' ⟨rfl, ⟨nd, rfl⟩⟩; (try first | exact ⟨rfl, _, World.drewN_drewN _ _ _⟩ | exact ⟨rfl, _, Eq.trans (World.drewN_drewN _ _ _) (congrArg (World.drewN _) (Nat.add_assoc _ _ _))⟩)) | (go_at_call 62; (with_reducible refine (spec_l00In.calls ((rd_T34 l0 x3_1).f2) 0 1000000 true _ A10.out).mono ?_); rintro e w' ⟨rfl, ⟨nd, rfl⟩⟩; (try first | exact ⟨rfl, _, World.drewN_drewN _ _ _⟩ | exact ⟨rfl, _, Eq.trans (World.drewN_drewN _ _ _) (congrArg (World.drewN _) (Nat.add_assoc _ _ _))⟩))))
            go_meet
            case rel => exact ⟨_, (false), rs, H', ⟨by have := HK1.out; first | omega | exact Nat.le_refl _⟩, ⟨mvB HB.out⟩⟩
         ·
          replace c11 := Bool.eq_false_iff.mpr c11
          subst c11
          have H1 : (spec_l24Ok.j1 k1 l0 x3_1 true) = some r := by rw [if_neg (show ¬ (false = true) by decide)] at H; exact H
          clear H
          have H := H1
          clear H1
          have H' := Aside0.mk H
          clear H
          go_wp2_with (first | (go_at_call 97; (with_reducible refine (spec_l01Name.calls k1 ((rd_T34 l0 x3_1).f0) true _ A6.out).mono ?_); rintro e w' ⟨rfl, ⟨nd, rfl⟩⟩; (try first | exact ⟨rfl, _, World.drewN_drewN _ _ _⟩ | exact ⟨rfl, _, Eq.trans (World.drewN_drewN _ _ _) (congrArg (World.drewN _) (Nat.add_assoc _ _ _))⟩)) | (go_at_call 62; (with_reducible refine (spec_l00In.calls ((rd_T34 l0 x3_1).f1) 1 1000000 true _ A8.out).mono ?_); rintro e w' ⟨rfl, ⟨nd, rfl⟩⟩; (try first | exact ⟨rfl, _, World.drewN_drewN _ _ _⟩ | exact ⟨rfl, _, Eq.trans (World.drewN_drewN _ _ _) (congrArg (World.drewN _) (Nat.add_assoc _ _ _))⟩)) | (go_at_call 62; (with_reducible refine (spec_l00In.calls ((rd_T34 l0 x3_1).f2) 0 1000000 false _ A10.out).mono ?_); rintro e w' ⟨rfl, ⟨nd, rfl⟩⟩; (try first | exact ⟨rfl, _, World.drewN_drewN _ _ _⟩ | exact ⟨rfl, _, Eq.trans (World.drewN_drewN _ _ _) (congrArg (World.drewN _) (Nat.add_assoc _ _ _))⟩)))
          repeat (go_quiet (first | (go_at_call 97; (with_reducible refine (spec_l01Name.calls k1 ((rd_T34 l0 x3_1).f0) true _ A6.out).mono ?_); rintro e w' ⟨rfl, ⟨nd, rfl⟩⟩; (try first | exact ⟨rfl, _, World.drewN_drewN _ _ _⟩ | exact ⟨rfl, _, Eq.trans (World.drewN_drewN _ _ _) (congrArg (World.drewN _) (Nat.add_assoc _ _ _))⟩)) | (go_at_call 62; (with_reducible refine (spec_l00In.calls ((rd_T34 l0 x3_1).f1) 1 1000000 true _ A8.out).mono ?_); rintro e w' ⟨rfl, ⟨nd, rfl⟩⟩; (try first | exact ⟨rfl, _, World.drewN_drewN _ _ _⟩ | exact ⟨rfl, _, Eq.trans (World.drewN_drewN _ _ _) (congrArg (World.drewN _) (Nat.add_assoc _ _ _))⟩)) | (go_at_call 62; (with_reducible refine (spec_l00In.calls ((rd_T34 l0 x3_1).f2) 0 1000000 false _ A10.out).mono ?_); rintro e w' ⟨rfl, ⟨nd, rfl⟩⟩; (try first | exact ⟨rfl, _, World.drewN_drewN _ _ _⟩ | exact ⟨rfl, _, Eq.trans (World.drewN_drewN _ _ _) (congrArg (World.drewN _) (Nat.add_assoc _ _ _))⟩))); try go_wp2_with (first | (go_at_call 97; (with_reducible refine (spec_l01Name.calls k1 ((rd_T34 l0 x3_1).f0) true _ A6.out).mono ?_); rintro e w' ⟨rfl, ⟨nd, rfl⟩⟩; (try first | exact ⟨rfl, _, World.drewN_drewN _ _ _⟩ | exact ⟨rfl, _, Eq.trans (World.drewN_drewN _ _ _) (congrArg (World.drewN _) (Nat.add_assoc _ _ _))⟩)) | (go_at_call 62; (with_reducible refine (spec_l00In.calls ((rd_T34 l0 x3_1).f1) 1 1000000 true _ A8.out).mono ?_); rintro e w' ⟨rfl, ⟨nd, rfl⟩⟩; (try first | exact ⟨rfl, _, World.drewN_drewN _ _ _⟩ | exact ⟨rfl, _, Eq.trans (World.drewN_drewN _ _ _) (congrArg (World.drewN _) (Nat.add_assoc _ _ _))⟩)) | (go_at_call 62; (with_reducible refine (spec_l00In.calls ((rd_T34 l0 x3_1).f2) 0 1000000 false _ A10.out).mono ?_); rintro e w' ⟨rfl, ⟨nd, rfl⟩⟩; (try first | exact ⟨rfl, _, World.drewN_drewN _ _ _⟩ | exact ⟨rfl, _, Eq.trans (World.drewN_drewN _ _ _) (congrArg (World.drewN _) (Nat.add_assoc _ _ _))⟩))))
          go_meet
          case rel => exact ⟨_, (true), rs, H', ⟨by have := HK1.out; first | omega | exact Nat.le_refl _⟩, ⟨mvB HB.out⟩⟩
        ·
         replace c9 := Bool.eq_false_iff.mpr c9
         subst c9
         have H1 : (spec_l24Ok.j1 k1 l0 x3_1 true) = some r := by rw [if_neg (show ¬ (false = true) by decide)] at H; exact H
         clear H
         have H := H1
         clear H1
         have H' := Aside0.mk H
         clear H
         go_wp2_with (first | (go_at_call 97; (with_reducible refine (spec_l01Name.calls k1 ((rd_T34 l0 x3_1).f0) true _ A6.out).mono ?_); rintro e w' ⟨rfl, ⟨nd, rfl⟩⟩; (try first | exact ⟨rfl, _, World.drewN_drewN _ _ _⟩ | exact ⟨rfl, _, Eq.trans (World.drewN_drewN _ _ _) (congrArg (World.drewN _) (Nat.add_assoc _ _ _))⟩)) | (go_at_call 62; (with_reducible refine (spec_l00In.calls ((rd_T34 l0 x3_1).f1) 1 1000000 false _ A8.out).mono ?_); rintro e w' ⟨rfl, ⟨nd, rfl⟩⟩; (try first | exact ⟨rfl, _, World.drewN_drewN _ _ _⟩ | exact ⟨rfl, _, Eq.trans (World.drewN_drewN _ _ _) (congrArg (World.drewN _) (Nat.add_assoc _ _ _))⟩)))
         repeat (go_quiet (first | (go_at_call 97; (with_reducible refine (spec_l01Name.calls k1 ((rd_T34 l0 x3_1).f0) true _ A6.out).mono ?_); rintro e w' ⟨rfl, ⟨nd, rfl⟩⟩; (try first | exact ⟨rfl, _, World.drewN_drewN _ _ _⟩ | exact ⟨rfl, _, Eq.trans (World.drewN_drewN _ _ _) (congrArg (World.drewN _) (Nat.add_assoc _ _ _))⟩)) | (go_at_call 62; (with_reducible refine (spec_l00In.calls ((rd_T34 l0 x3_1).f1) 1 1000000 false _ A8.out).mono ?_); rintro e w' ⟨rfl, ⟨nd, rfl⟩⟩; (try first | exact ⟨rfl, _, World.drewN_drewN _ _ _⟩ | exact ⟨rfl, _, Eq.trans (World.drewN_drewN _ _ _) (congrArg (World.drewN _) (Nat.add_assoc _ _ _))⟩))); try go_wp2_with (first | (go_at_call 97; (with_reducible refine (spec_l01Name.calls k1 ((rd_T34 l0 x3_1).f0) true _ A6.out).mono ?_); rintro e w' ⟨rfl, ⟨nd, rfl⟩⟩; (try first | exact ⟨rfl, _, World.drewN_drewN _ _ _⟩ | exact ⟨rfl, _, Eq.trans (World.drewN_drewN _ _ _) (congrArg (World.drewN _) (Nat.add_assoc _ _ _))⟩)) | (go_at_call 62; (with_reducible refine (spec_l00In.calls ((rd_T34 l0 x3_1).f1) 1 1000000 false _ A8.out).mono ?_); rintro e w' ⟨rfl, ⟨nd, rfl⟩⟩; (try first | exact ⟨rfl, _, World.drewN_drewN _ _ _⟩ | exact ⟨rfl, _, Eq.trans (World.drewN_drewN _ _ _) (congrArg (World.drewN _) (Nat.add_assoc _ _ _))⟩))))
         go_meet
         case rel => exact ⟨_, (true), rs, H', ⟨by have := HK1.out; first | omega | exact Nat.le_refl _⟩, ⟨mvB HB.out⟩⟩
       ·
        replace c7 := Bool.eq_false_iff.mpr c7
        subst c7
        have H1 : (spec_l24Ok.j1 k1 l0 x3_1 true) = some r := by rw [if_neg (show ¬ (false = true) by decide)] at H; exact H
        clear H
        have H := H1
        clear H1
        have H' := Aside0.mk H
        clear H
        go_wp2_with (first | (go_at_call 97; (with_reducible refine (spec_l01Name.calls k1 ((rd_T34 l0 x3_1).f0) false _ A6.out).mono ?_); rintro e w' ⟨rfl, ⟨nd, rfl⟩⟩; (try first | exact ⟨rfl, _, World.drewN_drewN _ _ _⟩ | exact ⟨rfl, _, Eq.trans (World.drewN_drewN _ _ _) (congrArg (World.drewN _) (Nat.add_assoc _ _ _))⟩)))
        repeat (go_quiet (first | (go_at_call 97; (with_reducible refine (spec_l01Name.calls k1 ((rd_T34 l0 x3_1).f0) false _ A6.out).mono ?_); rintro e w' ⟨rfl, ⟨nd, rfl⟩⟩; (try first | exact ⟨rfl, _, World.drewN_drewN _ _ _⟩ | exact ⟨rfl, _, Eq.trans (World.drewN_drewN _ _ _) (congrArg (World.drewN _) (Nat.add_assoc _ _ _))⟩))); try go_wp2_with (first | (go_at_call 97; (with_reducible refine (spec_l01Name.calls k1 ((rd_T34 l0 x3_1).f0) false _ A6.out).mono ?_); rintro e w' ⟨rfl, ⟨nd, rfl⟩⟩; (try first | exact ⟨rfl, _, World.drewN_drewN _ _ _⟩ | exact ⟨rfl, _, Eq.trans (World.drewN_drewN _ _ _) (congrArg (World.drewN _) (Nat.add_assoc _ _ _))⟩))))
        go_meet
        case rel => exact ⟨_, (true), rs, H', ⟨by have := HK1.out; first | omega | exact Nat.le_refl _⟩, ⟨mvB HB.out⟩⟩
      case rest =>
       clear HC5
       try clear c2b0
       try clear c2b1
       try clear c3b0
       try clear c4b0
       try clear hx312_0
       try clear hx312_1
       try clear hx312_2
       try clear hx312_3
       try clear p312
       try clear q312
       obtain ⟨kq, x67_4, rfl, HA, HJ4, HB⟩ := hcut
       cases kq with
       | zero => exact absurd HA.out (by simp [spec_l24Ok.j1])
       | succ kj4 =>
        have H := HA.out
        clear HA
        simp only [spec_l24Ok.j1] at H
        by_cases c17 : x67_4 = true
        ·
         subst c17
         have H1 : (some false) = some r := by rw [if_pos rfl] at H; exact H
         clear H
         have H := H1
         clear H1
         obtain rfl := Option.some.inj H
         go_wp2
         repeat (go_quiet (fail); try go_wp2)
         go_ret
         exact ⟨by first | rfl | (simp [errW_none, errW_some] <;> rfl) | (simp [*, errW_none, errW_some] <;> rfl), mvB HB.out⟩
        ·
         replace c17 := Bool.eq_false_iff.mpr c17
         subst c17
         have H1 : (spec_l24Ok.l1 kj4 l0 x3_1 0) = some r := by rw [if_neg (show ¬ (false = true) by decide)] at H; exact H
         clear H
         have H := H1
         clear H1
         have H' := Aside0.mk H
         clear H
         go_wp2
         repeat (go_quiet (fail); try go_wp2)
         go_loopg [5] kj4 (fun kq v5 w' => ∃ (x5_3 : Int), v5 = .int .i64 x5_3 ∧ Aside0 (spec_l24Ok.l1 kq l0 x3_1 x5_3 = some r) ∧ Aside0 (kq ≤ kj4) ∧ Aside0 (Below w.heap.size w w'))
         case atStart => exact ⟨(0), rs, H', ⟨Nat.le_refl _⟩, ⟨mvB HB.out⟩⟩
         case round =>
          clear H'
          try clear c2b0
          try clear c2b1
          try clear c3b0
          try clear c4b0
          try clear c17
          try clear hx312_0
          try clear hx312_1
          try clear hx312_2
          try clear hx312_3
          try clear p312
          try clear q312
          obtain ⟨x5_3, rfl, HA, HK3, HB⟩ := hrel
          cases gk with
          | zero => exact absurd HA.out (by simp [spec_l24Ok.l1])
          | succ k3 =>
           have H := HA.out
           clear HA
           simp only [spec_l24Ok.l1] at H
           by_cases c18 : 0 ≤ x3_1
           ·
            rw [if_pos c18] at H
            have c18b0 : decide (0 ≤ x3_1) = true := decide_eq_true c18
            clear c18
            by_cases c19 : x3_1 < (l0.length : Int)
            ·
             rw [if_pos c19] at H
             have c19b0 : decide (x3_1 < (l0.length : Int)) = true := decide_eq_true c19
             clear c19
             by_cases c20 : x5_3 < (((rd_T34 l0 x3_1).f3).length : Int)
             ·
              rw [if_pos c20] at H
              have c20b0 : decide (x5_3 < (((rd_T34 l0 x3_1).f3).length : Int)) = true := decide_eq_true c20
              clear c20
              by_cases c21 : 0 ≤ x5_3
              ·
               rw [if_pos c21] at H
               have c21b0 : decide (0 ≤ x5_3) = true := decide_eq_true c21
               clear c21
               replace H := Option.bind_eq_some_iff.mp H
               obtain ⟨t320, A220, H⟩ := H
               replace H : (if t320 < 0 then (some false) else (if x5_3 > 0 then (if 0 ≤ (wrap64 (x5_3 - 1)) then (if (wrap64 (x5_3 - 1)) < (((rd_T34 l0 x3_1).f3).length : Int) then (if ((Op.bytesLess ((rdOf ByteArray.empty ((rd_T34 l0 x3_1).f3) (wrap64 (x5_3 - 1))).toList) ((rdOf ByteArray.empty ((rd_T34 l0 x3_1).f3) x5_3).toList)) = true) then (spec_l24Ok.l1 k3 l0 x3_1 (wrap64 (x5_3 + 1))) else (some false)) else (none)) else (none)) else (spec_l24Ok.l1 k3 l0 x3_1 (wrap64 (x5_3 + 1))))) = some r := H
               have A22 := Aside0.mk A220
               clear A220
               by_cases c23 : t320 < 0
               ·
                rw [if_pos c23] at H
                have c23b0 : decide (t320 < 0) = true := decide_eq_true c23
                clear c23
                obtain rfl := Option.some.inj H
                have p317 : 0 ≤ (x3_1 : Int) := od
                have q317 : x3_1 < (l0.length : Int) := od
                obtain ⟨ad317, A317_3, c317_3, e317, hx317_0, hx317_1, hx317_2, hx317_3, hl317_3, hi317_3⟩ := at_T34 HR0.out x3_1 p317 q317
                obtain rfl : ad312 = ad317 := (by injection e317)
                replace hx317_0 := (HB.out.cell (World.block_lt_of_cell? w _ hx317_0)).trans hx317_0
                replace hx317_1 := (HB.out.cell (World.block_lt_of_cell? w _ hx317_1)).trans hx317_1
                replace hx317_2 := (HB.out.cell (World.block_lt_of_cell? w _ hx317_2)).trans hx317_2
                replace hx317_3 := (HB.out.cell (World.block_lt_of_cell? w _ hx317_3)).trans hx317_3
                have HR317_3 := Aside0.mk hi317_3
                have HC317_3 := Aside0.mk hl317_3
                clear hi317_3 hl317_3
                replace p317 := eq_true p317
                replace q317 := eq_true q317
                have p318 : 0 ≤ (x3_1 : Int) := od
                have q318 : x3_1 < (l0.length : Int) := od
                obtain ⟨ad318, A318_3, c318_3, e318, hx318_0, hx318_1, hx318_2, hx318_3, hl318_3, hi318_3⟩ := at_T34 HR0.out x3_1 p318 q318
                obtain rfl : ad312 = ad318 := (by injection e318)
                replace hx318_0 := (HB.out.cell (World.block_lt_of_cell? w _ hx318_0)).trans hx318_0
                replace hx318_1 := (HB.out.cell (World.block_lt_of_cell? w _ hx318_1)).trans hx318_1
                replace hx318_2 := (HB.out.cell (World.block_lt_of_cell? w _ hx318_2)).trans hx318_2
                replace hx318_3 := (HB.out.cell (World.block_lt_of_cell? w _ hx318_3)).trans hx318_3
                have HR318_3 := Aside0.mk hi318_3
                have HC318_3 := Aside0.mk hl318_3
                clear hi318_3 hl318_3
                replace p318 := eq_true p318
                replace q318 := eq_true q318
                have ea_ := Option.some.inj (hx317_3.symm.trans hx318_3)
                injection ea_ with ea_ en_ ec_
                subst ea_
                subst ec_
                clear en_
                have p319 : 0 ≤ (x5_3 : Int) := od
                have q319 : x5_3 < (((rd_T34 l0 x3_1).f3).length : Int) := od
                obtain ⟨ad319, e319, hx319_0⟩ := Kd.at_string HR318_3.out x5_3 p319 q319
                cases e319
                replace hx319_0 := (HB.out.cell (World.block_lt_of_cell? w _ hx319_0)).trans hx319_0
                replace p319 := eq_true p319
                replace q319 := eq_true q319
                go_wp2_with (first | (go_at_call 98; (with_reducible refine (spec_l24Find.calls k3 _ _ l0 (rdOf ByteArray.empty ((rd_T34 l0 x3_1).f3) x5_3) t320 _ ?side1 ?side2 A22.out).mono ?_); (case side1 => exact mvC (Kd.C_below HR0.out HB.out)); (case side2 => exact HC0.out); rintro e w' ⟨rfl, ⟨nd, rfl⟩⟩; (try first | exact ⟨rfl, _, World.drewN_drewN _ _ _⟩ | exact ⟨rfl, _, Eq.trans (World.drewN_drewN _ _ _) (congrArg (World.drewN _) (Nat.add_assoc _ _ _))⟩)))
                repeat (go_quiet (first | (go_at_call 98; (with_reducible refine (spec_l24Find.calls k3 _ _ l0 (rdOf ByteArray.empty ((rd_T34 l0 x3_1).f3) x5_3) t320 _ ?side1 ?side2 A22.out).mono ?_); (case side1 => exact mvC (Kd.C_below HR0.out HB.out)); (case side2 => exact HC0.out); rintro e w' ⟨rfl, ⟨nd, rfl⟩⟩; (try first | exact ⟨rfl, _, World.drewN_drewN _ _ _⟩ | exact ⟨rfl, _, Eq.trans (World.drewN_drewN _ _ _) (congrArg (World.drewN _) (Nat.add_assoc _ _ _))⟩))); try go_wp2_with (first | (go_at_call 98; (with_reducible refine (spec_l24Find.calls k3 _ _ l0 (rdOf ByteArray.empty ((rd_T34 l0 x3_1).f3) x5_3) t320 _ ?side1 ?side2 A22.out).mono ?_); (case side1 => exact mvC (Kd.C_below HR0.out HB.out)); (case side2 => exact HC0.out); rintro e w' ⟨rfl, ⟨nd, rfl⟩⟩; (try first | exact ⟨rfl, _, World.drewN_drewN _ _ _⟩ | exact ⟨rfl, _, Eq.trans (World.drewN_drewN _ _ _) (congrArg (World.drewN _) (Nat.add_assoc _ _ _))⟩))))
                go_ret
                exact ⟨by first | rfl | (simp [errW_none, errW_some] <;> rfl) | (simp [*, errW_none, errW_some] <;> rfl), mvB HB.out⟩
               ·
                rw [if_neg c23] at H
                have c23b0 : decide (t320 < 0) = false := decide_eq_false c23
                clear c23
                by_cases c24 : x5_3 > 0
                ·
                 rw [if_pos c24] at H
                 have c24b0 : decide (0 < x5_3) = true := decide_eq_true c24
                 clear c24
                 obtain ⟨ji25, hji25⟩ : ∃ j_ : Int, (wrap64 (x5_3 - 1)) = j_ := ⟨_, rfl⟩
                 replace H : (if 0 ≤ (ji25) then (if (ji25) < (((rd_T34 l0 x3_1).f3).length : Int) then (if ((Op.bytesLess ((rdOf ByteArray.empty ((rd_T34 l0 x3_1).f3) (ji25)).toList) ((rdOf ByteArray.empty ((rd_T34 l0 x3_1).f3) x5_3).toList)) = true) then (spec_l24Ok.l1 k3 l0 x3_1 (wrap64 (x5_3 + 1))) else (some false)) else (none)) else (none)) = some r := by first | (rw [hji25] at H; exact H) | (simp only [hji25] at H ⊢; exact H)
                 (try rw [hji25] at A22)
                 have hji25w : (IntKind.i64.wrap (x5_3 - 1)) = ji25 := (i64_w _).trans hji25
                 by_cases c26 : 0 ≤ (ji25)
                 ·
                  rw [if_pos c26] at H
                  have c26b0 : decide (0 ≤ (ji25)) = true := decide_eq_true c26
                  clear c26
                  by_cases c27 : (ji25) < (((rd_T34 l0 x3_1).f3).length : Int)
                  ·
                   rw [if_pos c27] at H
                   have c27b0 : decide ((ji25) < (((rd_T34 l0 x3_1).f3).length : Int)) = true := decide_eq_true c27
                   clear c27
                   by_cases c28 : ((Op.bytesLess ((rdOf ByteArray.empty ((rd_T34 l0 x3_1).f3) (ji25)).toList) ((rdOf ByteArray.empty ((rd_T34 l0 x3_1).f3) x5_3).toList)) = true)
                   ·
                    rw [if_pos c28] at H
                    have c28b0 : (Op.bytesLess ((rdOf ByteArray.empty ((rd_T34 l0 x3_1).f3) (ji25)).toList) ((rdOf ByteArray.empty ((rd_T34 l0 x3_1).f3) x5_3).toList)) = true := c28
                    clear c28
                    have H' := Aside0.mk H
                    clear H
                    have p317 : 0 ≤ (x3_1 : Int) := od
                    have q317 : x3_1 < (l0.length : Int) := od
                    obtain ⟨ad317, A317_3, c317_3, e317, hx317_0, hx317_1, hx317_2, hx317_3, hl317_3, hi317_3⟩ := at_T34 HR0.out x3_1 p317 q317
                    obtain rfl : ad312 = ad317 := (by injection e317)
                    replace hx317_0 := (HB.out.cell (World.block_lt_of_cell? w _ hx317_0)).trans hx317_0
                    replace hx317_1 := (HB.out.cell (World.block_lt_of_cell? w _ hx317_1)).trans hx317_1
                    replace hx317_2 := (HB.out.cell (World.block_lt_of_cell? w _ hx317_2)).trans hx317_2
                    replace hx317_3 := (HB.out.cell (World.block_lt_of_cell? w _ hx317_3)).trans hx317_3
                    have HR317_3 := Aside0.mk hi317_3
                    have HC317_3 := Aside0.mk hl317_3
                    clear hi317_3 hl317_3
                    replace p317 := eq_true p317
                    replace q317 := eq_true q317
                    have p318 : 0 ≤ (x3_1 : Int) := od
                    have q318 : x3_1 < (l0.length : Int) := od
                    obtain ⟨ad318, A318_3, c318_3, e318, hx318_0, hx318_1, hx318_2, hx318_3, hl318_3, hi318_3⟩ := at_T34 HR0.out x3_1 p318 q318
                    obtain rfl : ad312 = ad318 := (by injection e318)
                    replace hx318_0 := (HB.out.cell (World.block_lt_of_cell? w _ hx318_0)).trans hx318_0
                    replace hx318_1 := (HB.out.cell (World.block_lt_of_cell? w _ hx318_1)).trans hx318_1
                    replace hx318_2 := (HB.out.cell (World.block_lt_of_cell? w _ hx318_2)).trans hx318_2
                    replace hx318_3 := (HB.out.cell (World.block_lt_of_cell? w _ hx318_3)).trans hx318_3
                    have HR318_3 := Aside0.mk hi318_3
                    have HC318_3 := Aside0.mk hl318_3
                    clear hi318_3 hl318_3
                    replace p318 := eq_true p318
                    replace q318 := eq_true q318
                    have ea_ := Option.some.inj (hx317_3.symm.trans hx318_3)
                    injection ea_ with ea_ en_ ec_
                    subst ea_
                    subst ec_
                    clear en_
                    have p319 : 0 ≤ (x5_3 : Int) := od
                    have q319 : x5_3 < (((rd_T34 l0 x3_1).f3).length : Int) := od
                    obtain ⟨ad319, e319, hx319_0⟩ := Kd.at_string HR318_3.out x5_3 p319 q319
                    cases e319
                    replace hx319_0 := (HB.out.cell (World.block_lt_of_cell? w _ hx319_0)).trans hx319_0
                    replace p319 := eq_true p319
                    replace q319 := eq_true q319
                    go_wp2_with (first | (go_at_call 98; (with_reducible refine (spec_l24Find.calls k3 _ _ l0 (rdOf ByteArray.empty ((rd_T34 l0 x3_1).f3) x5_3) t320 _ ?side1 ?side2 A22.out).mono ?_); (case side1 => exact mvC (Kd.C_below HR0.out HB.out)); (case side2 => exact HC0.out); rintro e w' ⟨rfl, ⟨nd, rfl⟩⟩; (try first | exact ⟨rfl, _, World.drewN_drewN _ _ _⟩ | exact ⟨rfl, _, Eq.trans (World.drewN_drewN _ _ _) (congrArg (World.drewN _) (Nat.add_assoc _ _ _))⟩); all_goals (have p321 : 0 ≤ (x3_1 : Int) := od; have q321 : x3_1 < (l0.length : Int) := od; obtain ⟨ad321, A321_3, c321_3, e321, hx321_0, hx321_1, hx321_2, hx321_3, hl321_3, hi321_3⟩ := at_T34 HR0.out x3_1 p321 q321; obtain rfl : ad312 = ad321 := (by injection e321); replace hx321_0 := (HB.out.cell (World.block_lt_of_cell? w _ hx321_0)).trans hx321_0; replace hx321_1 := (HB.out.cell (World.block_lt_of_cell? w _ hx321_1)).trans hx321_1; replace hx321_2 := (HB.out.cell (World.block_lt_of_cell? w _ hx321_2)).trans hx321_2; replace hx321_3 := (HB.out.cell (World.block_lt_of_cell? w _ hx321_3)).trans hx321_3; have HR321_3 := Aside0.mk hi321_3; have HC321_3 := Aside0.mk hl321_3; clear hi321_3 hl321_3; replace p321 := eq_true p321; replace q321 := eq_true q321; have ea_ := Option.some.inj (hx317_3.symm.trans hx321_3); injection ea_ with ea_ en_ ec_; subst ea_; subst ec_; clear en_; have p322 : 0 ≤ ((ji25) : Int) := od; have q322 : (ji25) < (((rd_T34 l0 x3_1).f3).length : Int) := od; obtain ⟨ad322, e322, hx322_0⟩ := Kd.at_string HR321_3.out (ji25) p322 q322; cases e322; replace hx322_0 := (HB.out.cell (World.block_lt_of_cell? w _ hx322_0)).trans hx322_0; replace p322 := eq_true p322; replace q322 := eq_true q322; have p323 : 0 ≤ (x3_1 : Int) := od; have q323 : x3_1 < (l0.length : Int) := od; obtain ⟨ad323, A323_3, c323_3, e323, hx323_0, hx323_1, hx323_2, hx323_3, hl323_3, hi323_3⟩ := at_T34 HR0.out x3_1 p323 q323; obtain rfl : ad312 = ad323 := (by injection e323); replace hx323_0 := (HB.out.cell (World.block_lt_of_cell? w _ hx323_0)).trans hx323_0; replace hx323_1 := (HB.out.cell (World.block_lt_of_cell? w _ hx323_1)).trans hx323_1; replace hx323_2 := (HB.out.cell (World.block_lt_of_cell? w _ hx323_2)).trans hx323_2; replace hx323_3 := (HB.out.cell (World.block_lt_of_cell? w _ hx323_3)).trans hx323_3; have HR323_3 := Aside0.mk hi323_3; have HC323_3 := Aside0.mk hl323_3; clear hi323_3 hl323_3; replace p323 := eq_true p323; replace q323 := eq_true q323; have ea_ := Option.some.inj (hx317_3.symm.trans hx323_3); injection ea_ with ea_ en_ ec_; subst ea_; subst ec_; clear en_; have p324 : 0 ≤ (x5_3 : Int) := od; have q324 : x5_3 < (((rd_T34 l0 x3_1).f3).length : Int) := od; obtain ⟨ad324, e324, hx324_0⟩ := Kd.at_string HR323_3.out x5_3 p324 q324; cases e324; replace hx324_0 := (HB.out.cell (World.block_lt_of_cell? w _ hx324_0)).trans hx324_0; replace p324 := eq_true p324; replace q324 := eq_true q324)))
                    repeat (go_quiet (first | (go_at_call 98; (with_reducible refine (spec_l24Find.calls k3 _ _ l0 (rdOf ByteArray.empty ((rd_T34 l0 x3_1).f3) x5_3) t320 _ ?side1 ?side2 A22.out).mono ?_); (case side1 => exact mvC (Kd.C_below HR0.out HB.out)); (case side2 => exact HC0.out); rintro e w' ⟨rfl, ⟨nd, rfl⟩⟩; (try first | exact ⟨rfl, _, World.drewN_drewN _ _ _⟩ | exact ⟨rfl, _, Eq.trans (World.drewN_drewN _ _ _) (congrArg (World.drewN _) (Nat.add_assoc _ _ _))⟩); all_goals (have p321 : 0 ≤ (x3_1 : Int) := od; have q321 : x3_1 < (l0.length : Int) := od; obtain ⟨ad321, A321_3, c321_3, e321, hx321_0, hx321_1, hx321_2, hx321_3, hl321_3, hi321_3⟩ := at_T34 HR0.out x3_1 p321 q321; obtain rfl : ad312 = ad321 := (by injection e321); replace hx321_0 := (HB.out.cell (World.block_lt_of_cell? w _ hx321_0)).trans hx321_0; replace hx321_1 := (HB.out.cell (World.block_lt_of_cell? w _ hx321_1)).trans hx321_1; replace hx321_2 := (HB.out.cell (World.block_lt_of_cell? w _ hx321_2)).trans hx321_2; replace hx321_3 := (HB.out.cell (World.block_lt_of_cell? w _ hx321_3)).trans hx321_3; have HR321_3 := Aside0.mk hi321_3; have HC321_3 := Aside0.mk hl321_3; clear hi321_3 hl321_3; replace p321 := eq_true p321; replace q321 := eq_true q321; have ea_ := Option.some.inj (hx317_3.symm.trans hx321_3); injection ea_ with ea_ en_ ec_; subst ea_; subst ec_; clear en_; have p322 : 0 ≤ ((ji25) : Int) := od; have q322 : (ji25) < (((rd_T34 l0 x3_1).f3).length : Int) := od; obtain ⟨ad322, e322, hx322_0⟩ := Kd.at_string HR321_3.out (ji25) p322 q322; cases e322; replace hx322_0 := (HB.out.cell (World.block_lt_of_cell? w _ hx322_0)).trans hx322_0; replace p322 := eq_true p322; replace q322 := eq_true q322; have p323 : 0 ≤ (x3_1 : Int) := od; have q323 : x3_1 < (l0.length : Int) := od; obtain ⟨ad323, A323_3, c323_3, e323, hx323_0, hx323_1, hx323_2, hx323_3, hl323_3, hi323_3⟩ := at_T34 HR0.out x3_1 p323 q323; obtain rfl : ad312 = ad323 := (by injection e323); replace hx323_0 := (HB.out.cell (World.block_lt_of_cell? w _ hx323_0)).trans hx323_0; replace hx323_1 := (HB.out.cell (World.block_lt_of_cell? w _ hx323_1)).trans hx323_1; replace hx323_2 := (HB.out.cell (World.block_lt_of_cell? w _ hx323_2)).trans hx323_2; replace hx323_3 := (HB.out.cell (World.block_lt_of_cell? w _ hx323_3)).trans hx323_3; have HR323_3 := Aside0.mk hi323_3; have HC323_3 := Aside0.mk hl323_3; clear hi323_3 hl323_3; replace p323 := eq_true p323; replace q323 := eq_true q323; have ea_ := Option.some.inj (hx317_3.symm.trans hx323_3); injection ea_ with ea_ en_ ec_; subst ea_; subst ec_; clear en_; have p324 : 0 ≤ (x5_3 : Int) := od; have q324 : x5_3 < (((rd_T34 l0 x3_1).f3).length : Int) := od; obtain ⟨ad324, e324, hx324_0⟩ := Kd.at_string HR323_3.out x5_3 p324 q324; cases e324; replace hx324_0 := (HB.out.cell (World.block_lt_of_cell? w _ hx324_0)).trans hx324_0; replace p324 := eq_true p324; replace q324 := eq_true q324))); try go_wp2_with (first | (go_at_call 98; (with_reducible refine (spec_l24Find.calls k3 _ _ l0 (rdOf ByteArray.empty ((rd_T34 l0 x3_1).f3) x5_3) t320 _ ?side1 ?side2 A22.out).mono ?_); (case side1 => exact mvC (Kd.C_below HR0.out HB.out)); (case side2 => exact HC0.out); rintro e w' ⟨rfl, ⟨nd, rfl⟩⟩; (try first | exact ⟨rfl, _, World.drewN_drewN _ _ _⟩ | exact ⟨rfl, _, Eq.trans (World.drewN_drewN _ _ _) (congrArg (World.drewN _) (Nat.add_assoc _ _ _))⟩); all_goals (have p321 : 0 ≤ (x3_1 : Int) := od; have q321 : x3_1 < (l0.length : Int) := od; obtain ⟨ad321, A321_3, c321_3, e321, hx321_0, hx321_1, hx321_2, hx321_3, hl321_3, hi321_3⟩ := at_T34 HR0.out x3_1 p321 q321; obtain rfl : ad312 = ad321 := (by injection e321); replace hx321_0 := (HB.out.cell (World.block_lt_of_cell? w _ hx321_0)).trans hx321_0; replace hx321_1 := (HB.out.cell (World.block_lt_of_cell? w _ hx321_1)).trans hx321_1; replace hx321_2 := (HB.out.cell (World.block_lt_of_cell? w _ hx321_2)).trans hx321_2; replace hx321_3 := (HB.out.cell (World.block_lt_of_cell? w _ hx321_3)).trans hx321_3; have HR321_3 := Aside0.mk hi321_3; have HC321_3 := Aside0.mk hl321_3; clear hi321_3 hl321_3; replace p321 := eq_true p321; replace q321 := eq_true q321; have ea_ := Option.some.inj (hx317_3.symm.trans hx321_3); injection ea_ with ea_ en_ ec_; subst ea_; subst ec_; clear en_; have p322 : 0 ≤ ((ji25) : Int) := od; have q322 : (ji25) < (((rd_T34 l0 x3_1).f3).length : Int) := od; obtain ⟨ad322, e322, hx322_0⟩ := Kd.at_string HR321_3.out (ji25) p322 q322; cases e322; replace hx322_0 := (HB.out.cell (World.block_lt_of_cell? w _ hx322_0)).trans hx322_0; replace p322 := eq_true p322; replace q322 := eq_true q322; have p323 : 0 ≤ (x3_1 : Int) := od; have q323 : x3_1 < (l0.length : Int) := od; obtain ⟨ad323, A323_3, c323_3, e323, hx323_0, hx323_1, hx323_2, hx323_3, hl323_3, hi323_3⟩ := at_T34 HR0.out x3_1 p323 q323; obtain rfl : ad312 = ad323 := (by injection e323); replace hx323_0 := (HB.out.cell (World.block_lt_of_cell? w _ hx323_0)).trans hx323_0; replace hx323_1 := (HB.out.cell (World.block_lt_of_cell? w _ hx323_1)).trans hx323_1; replace hx323_2 := (HB.out.cell (World.block_lt_of_cell? w _ hx323_2)).trans hx323_2; replace hx323_3 := (HB.out.cell (World.block_lt_of_cell? w _ hx323_3)).trans hx323_3; have HR323_3 := Aside0.mk hi323_3; have HC323_3 := Aside0.mk hl323_3; clear hi323_3 hl323_3; replace p323 := eq_true p323; replace q323 := eq_true q323; have ea_ := Option.some.inj (hx317_3.symm.trans hx323_3); injection ea_ with ea_ en_ ec_; subst ea_; subst ec_; clear en_; have p324 : 0 ≤ (x5_3 : Int) := od; have q324 : x5_3 < (((rd_T34 l0 x3_1).f3).length : Int) := od; obtain ⟨ad324, e324, hx324_0⟩ := Kd.at_string HR323_3.out x5_3 p324 q324; cases e324; replace hx324_0 := (HB.out.cell (World.block_lt_of_cell? w _ hx324_0)).trans hx324_0; replace p324 := eq_true p324; replace q324 := eq_true q324))))
                    go_roundg k3
                    case measure => have := HK1.out; have := HJ4.out; have := HK3.out; omega
                    case rel => exact ⟨(wrap64 (x5_3 + 1)), rs, H', ⟨by have := HK1.out; have := HJ4.out; have := HK3.out; omega⟩, ⟨mvB HB.out⟩⟩
                   ·
                    rw [if_neg c28] at H
                    have c28b0 : (Op.bytesLess ((rdOf ByteArray.empty ((rd_T34 l0 x3_1).f3) (ji25)).toList) ((rdOf ByteArray.empty ((rd_T34 l0 x3_1).f3) x5_3).toList)) = false := by simpa using c28
                    clear c28
                    obtain rfl := Option.some.inj H
                    have p317 : 0 ≤ (x3_1 : Int) := od
                    have q317 : x3_1 < (l0.length : Int) := od
                    obtain ⟨ad317, A317_3, c317_3, e317, hx317_0, hx317_1, hx317_2, hx317_3, hl317_3, hi317_3⟩ := at_T34 HR0.out x3_1 p317 q317
                    obtain rfl : ad312 = ad317 := (by injection e317)
                    replace hx317_0 := (HB.out.cell (World.block_lt_of_cell? w _ hx317_0)).trans hx317_0
                    replace hx317_1 := (HB.out.cell (World.block_lt_of_cell? w _ hx317_1)).trans hx317_1
                    replace hx317_2 := (HB.out.cell (World.block_lt_of_cell? w _ hx317_2)).trans hx317_2
                    replace hx317_3 := (HB.out.cell (World.block_lt_of_cell? w _ hx317_3)).trans hx317_3
                    have HR317_3 := Aside0.mk hi317_3
                    have HC317_3 := Aside0.mk hl317_3
                    clear hi317_3 hl317_3
                    replace p317 := eq_true p317
                    replace q317 := eq_true q317
                    have p318 : 0 ≤ (x3_1 : Int) := od
                    have q318 : x3_1 < (l0.length : Int) := od
                    obtain ⟨ad318, A318_3, c318_3, e318, hx318_0, hx318_1, hx318_2, hx318_3, hl318_3, hi318_3⟩ := at_T34 HR0.out x3_1 p318 q318
                    obtain rfl : ad312 = ad318 := (by injection e318)
                    replace hx318_0 := (HB.out.cell (World.block_lt_of_cell? w _ hx318_0)).trans hx318_0
                    replace hx318_1 := (HB.out.cell (World.block_lt_of_cell? w _ hx318_1)).trans hx318_1
                    replace hx318_2 := (HB.out.cell (World.block_lt_of_cell? w _ hx318_2)).trans hx318_2
                    replace hx318_3 := (HB.out.cell (World.block_lt_of_cell? w _ hx318_3)).trans hx318_3
                    have HR318_3 := Aside0.mk hi318_3
                    have HC318_3 := Aside0.mk hl318_3
                    clear hi318_3 hl318_3
                    replace p318 := eq_true p318
                    replace q318 := eq_true q318
                    have ea_ := Option.some.inj (hx317_3.symm.trans hx318_3)
                    injection ea_ with ea_ en_ ec_
                    subst ea_
                    subst ec_
                    clear en_
                    have p319 : 0 ≤ (x5_3 : Int) := od
                    have q319 : x5_3 < (((rd_T34 l0 x3_1).f3).length : Int) := od
                    obtain ⟨ad319, e319, hx319_0⟩ := Kd.at_string HR318_3.out x5_3 p319 q319
                    cases e319
                    replace hx319_0 := (HB.out.cell (World.block_lt_of_cell? w _ hx319_0)).trans hx319_0
                    replace p319 := eq_true p319
                    replace q319 := eq_true q319
                    go_wp2_with (first | (go_at_call 98; (with_reducible refine (spec_l24Find.calls k3 _ _ l0 (rdOf ByteArray.empty ((rd_T34 l0 x3_1).f3) x5_3) t320 _ ?side1 ?side2 A22.out).mono ?_); (case side1 => exact mvC (Kd.C_below HR0.out HB.out)); (case side2 => exact HC0.out); rintro e w' ⟨rfl, ⟨nd, rfl⟩⟩; (try first | exact ⟨rfl, _, World.drewN_drewN _ _ _⟩ | exact ⟨rfl, _, Eq.trans (World.drewN_drewN _ _ _) (congrArg (World.drewN _) (Nat.add_assoc _ _ _))⟩); all_goals (have p321 : 0 ≤ (x3_1 : Int) := od; have q321 : x3_1 < (l0.length : Int) := od; obtain ⟨ad321, A321_3, c321_3, e321, hx321_0, hx321_1, hx321_2, hx321_3, hl321_3, hi321_3⟩ := at_T34 HR0.out x3_1 p321 q321; obtain rfl : ad312 = ad321 := (by injection e321); replace hx321_0 := (HB.out.cell (World.block_lt_of_cell? w _ hx321_0)).trans hx321_0; replace hx321_1 := (HB.out.cell (World.block_lt_of_cell? w _ hx321_1)).trans hx321_1; replace hx321_2 := (HB.out.cell (World.block_lt_of_cell? w _ hx321_2)).trans hx321_2; replace hx321_3 := (HB.out.cell (World.block_lt_of_cell? w _ hx321_3)).trans hx321_3; have HR321_3 := Aside0.mk hi321_3; have HC321_3 := Aside0.mk hl321_3; clear hi321_3 hl321_3; replace p321 := eq_true p321; replace q321 := eq_true q321; have ea_ := Option.some.inj (hx317_3.symm.trans hx321_3); injection ea_ with ea_ en_ ec_; subst ea_; subst ec_; clear en_; have p322 : 0 ≤ ((ji25) : Int) := od; have q322 : (ji25) < (((rd_T34 l0 x3_1).f3).length : Int) := od; obtain ⟨ad322, e322, hx322_0⟩ := Kd.at_string HR321_3.out (ji25) p322 q322; cases e322; replace hx322_0 := (HB.out.cell (World.block_lt_of_cell? w _ hx322_0)).trans hx322_0; replace p322 := eq_true p322; replace q322 := eq_true q322; have p323 : 0 ≤ (x3_1 : Int) := od; have q323 : x3_1 < (l0.length : Int) := od; obtain ⟨ad323, A323_3, c323_3, e323, hx323_0, hx323_1, hx323_2, hx323_3, hl323_3, hi323_3⟩ := at_T34 HR0.out x3_1 p323 q323; obtain rfl : ad312 = ad323 := (by injection e323); replace hx323_0 := (HB.out.cell (World.block_lt_of_cell? w _ hx323_0)).trans hx323_0; replace hx323_1 := (HB.out.cell (World.block_lt_of_cell? w _ hx323_1)).trans hx323_1; replace hx323_2 := (HB.out.cell (World.block_lt_of_cell? w _ hx323_2)).trans hx323_2; replace hx323_3 := (HB.out.cell (World.block_lt_of_cell? w _ hx323_3)).trans hx323_3; have HR323_3 := Aside0.mk hi323_3; have HC323_3 := Aside0.mk hl323_3; clear hi323_3 hl323_3; replace p323 := eq_true p323; replace q323 := eq_true q323; have ea_ := Option.some.inj (hx317_3.symm.trans hx323_3); injection ea_ with ea_ en_ ec_; subst ea_; subst ec_; clear en_; have p324 : 0 ≤ (x5_3 : Int) := od; have q324 : x5_3 < (((rd_T34 l0 x3_1).f3).length : Int) := od; obtain ⟨ad324, e324, hx324_0⟩ := Kd.at_string HR323_3.out x5_3 p324 q324; cases e324; replace hx324_0 := (HB.out.cell (World.block_lt_of_cell? w _ hx324_0)).trans hx324_0; replace p324 := eq_true p324; replace q324 := eq_true q324)))
                    repeat (go_quiet (first | (go_at_call 98; (with_reducible refine (spec_l24Find.calls k3 _ _ l0 (rdOf ByteArray.empty ((rd_T34 l0 x3_1).f3) x5_3) t320 _ ?side1 ?side2 A22.out).mono ?_); (case side1 => exact mvC (Kd.C_below HR0.out HB.out)); (case side2 => exact HC0.out); rintro e w' ⟨rfl, ⟨nd, rfl⟩⟩; (try first | exact ⟨rfl, _, World.drewN_drewN _ _ _⟩ | exact ⟨rfl, _, Eq.trans (World.drewN_drewN _ _ _) (congrArg (World.drewN _) (Nat.add_assoc _ _ _))⟩); all_goals (have p321 : 0 ≤ (x3_1 : Int) := od; have q321 : x3_1 < (l0.length : Int) := od; obtain ⟨ad321, A321_3, c321_3, e321, hx321_0, hx321_1, hx321_2, hx321_3, hl321_3, hi321_3⟩ := at_T34 HR0.out x3_1 p321 q321; obtain rfl : ad312 = ad321 := (by injection e321); replace hx321_0 := (HB.out.cell (World.block_lt_of_cell? w _ hx321_0)).trans hx321_0; replace hx321_1 := (HB.out.cell (World.block_lt_of_cell? w _ hx321_1)).trans hx321_1; replace hx321_2 := (HB.out.cell (World.block_lt_of_cell? w _ hx321_2)).trans hx321_2; replace hx321_3 := (HB.out.cell (World.block_lt_of_cell? w _ hx321_3)).trans hx321_3; have HR321_3 := Aside0.mk hi321_3; have HC321_3 := Aside0.mk hl321_3; clear hi321_3 hl321_3; replace p321 := eq_true p321; replace q321 := eq_true q321; have ea_ := Option.some.inj (hx317_3.symm.trans hx321_3); injection ea_ with ea_ en_ ec_; subst ea_; subst ec_; clear en_; have p322 : 0 ≤ ((ji25) : Int) := od; have q322 : (ji25) < (((rd_T34 l0 x3_1).f3).length : Int) := od; obtain ⟨ad322, e322, hx322_0⟩ := Kd.at_string HR321_3.out (ji25) p322 q322; cases e322; replace hx322_0 := (HB.out.cell (World.block_lt_of_cell? w _ hx322_0)).trans hx322_0; replace p322 := eq_true p322; replace q322 := eq_true q322; have p323 : 0 ≤ (x3_1 : Int) := od; have q323 : x3_1 < (l0.length : Int) := od; obtain ⟨ad323, A323_3, c323_3, e323, hx323_0, hx323_1, hx323_2, hx323_3, hl323_3, hi323_3⟩ := at_T34 HR0.out x3_1 p323 q323; obtain rfl : ad312 = ad323 := (by injection e323); replace hx323_0 := (HB.out.cell (World.block_lt_of_cell? w _ hx323_0)).trans hx323_0; replace hx323_1 := (HB.out.cell (World.block_lt_of_cell? w _ hx323_1)).trans hx323_1; replace hx323_2 := (HB.out.cell (World.block_lt_of_cell? w _ hx323_2)).trans hx323_2; replace hx323_3 := (HB.out.cell (World.block_lt_of_cell? w _ hx323_3)).trans hx323_3; have HR323_3 := Aside0.mk hi323_3; have HC323_3 := Aside0.mk hl323_3; clear hi323_3 hl323_3; replace p323 := eq_true p323; replace q323 := eq_true q323; have ea_ := Option.some.inj (hx317_3.symm.trans hx323_3); injection ea_ with ea_ en_ ec_; subst ea_; subst ec_; clear en_; have p324 : 0 ≤ (x5_3 : Int) := od; have q324 : x5_3 < (((rd_T34 l0 x3_1).f3).length : Int) := od; obtain ⟨ad324, e324, hx324_0⟩ := Kd.at_string HR323_3.out x5_3 p324 q324; cases e324; replace hx324_0 := (HB.out.cell (World.block_lt_of_cell? w _ hx324_0)).trans hx324_0; replace p324 := eq_true p324; replace q324 := eq_true q324))); try go_wp2_with (first | (go_at_call 98; (with_reducible refine (spec_l24Find.calls k3 _ _ l0 (rdOf ByteArray.empty ((rd_T34 l0 x3_1).f3) x5_3) t320 _ ?side1 ?side2 A22.out).mono ?_); (case side1 => exact mvC (Kd.C_below HR0.out HB.out)); (case side2 => exact HC0.out); rintro e w' ⟨rfl, ⟨nd, rfl⟩⟩; (try first | exact ⟨rfl, _, World.drewN_drewN _ _ _⟩ | exact ⟨rfl, _, Eq.trans (World.drewN_drewN _ _ _) (congrArg (World.drewN _) (Nat.add_assoc _ _ _))⟩); all_goals (have p321 : 0 ≤ (x3_1 : Int) := od; have q321 : x3_1 < (l0.length : Int) := od; obtain ⟨ad321, A321_3, c321_3, e321, hx321_0, hx321_1, hx321_2, hx321_3, hl321_3, hi321_3⟩ := at_T34 HR0.out x3_1 p321 q321; obtain rfl : ad312 = ad321 := (by injection e321); replace hx321_0 := (HB.out.cell (World.block_lt_of_cell? w _ hx321_0)).trans hx321_0; replace hx321_1 := (HB.out.cell (World.block_lt_of_cell? w _ hx321_1)).trans hx321_1; replace hx321_2 := (HB.out.cell (World.block_lt_of_cell? w _ hx321_2)).trans hx321_2; replace hx321_3 := (HB.out.cell (World.block_lt_of_cell? w _ hx321_3)).trans hx321_3; have HR321_3 := Aside0.mk hi321_3; have HC321_3 := Aside0.mk hl321_3; clear hi321_3 hl321_3; replace p321 := eq_true p321; replace q321 := eq_true q321; have ea_ := Option.some.inj (hx317_3.symm.trans hx321_3); injection ea_ with ea_ en_ ec_; subst ea_; subst ec_; clear en_; have p322 : 0 ≤ ((ji25) : Int) := od; have q322 : (ji25) < (((rd_T34 l0 x3_1).f3).length : Int) := od; obtain ⟨ad322, e322, hx322_0⟩ := Kd.at_string HR321_3.out (ji25) p322 q322; cases e322; replace hx322_0 := (HB.out.cell (World.block_lt_of_cell? w _ hx322_0)).trans hx322_0; replace p322 := eq_true p322; replace q322 := eq_true q322; have p323 : 0 ≤ (x3_1 : Int) := od; have q323 : x3_1 < (l0.length : Int) := od; obtain ⟨ad323, A323_3, c323_3, e323, hx323_0, hx323_1, hx323_2, hx323_3, hl323_3, hi323_3⟩ := at_T34 HR0.out x3_1 p323 q323; obtain rfl : ad312 = ad323 := (by injection e323); replace hx323_0 := (HB.out.cell (World.block_lt_of_cell? w _ hx323_0)).trans hx323_0; replace hx323_1 := (HB.out.cell (World.block_lt_of_cell? w _ hx323_1)).trans hx323_1; replace hx323_2 := (HB.out.cell (World.block_lt_of_cell? w _ hx323_2)).trans hx323_2; replace hx323_3 := (HB.out.cell (World.block_lt_of_cell? w _ hx323_3)).trans hx323_3; have HR323_3 := Aside0.mk hi323_3; have HC323_3 := Aside0.mk hl323_3; clear hi323_3 hl323_3; replace p323 := eq_true p323; replace q323 := eq_true q323; have ea_ := Option.some.inj (hx317_3.symm.trans hx323_3); injection ea_ with ea_ en_ ec_; subst ea_; subst ec_; clear en_; have p324 : 0 ≤ (x5_3 : Int) := od; have q324 : x5_3 < (((rd_T34 l0 x3_1).f3).length : Int) := od; obtain ⟨ad324, e324, hx324_0⟩ := Kd.at_string HR323_3.out x5_3 p324 q324; cases e324; replace hx324_0 := (HB.out.cell (World.block_lt_of_cell? w _ hx324_0)).trans hx324_0; replace p324 := eq_true p324; replace q324 := eq_true q324))))
                    go_ret
                    exact ⟨by first | rfl | (simp [errW_none, errW_some] <;> rfl) | (simp only [← hji25]; first | rfl | (simp [errW_none, errW_some] <;> rfl)) | (simp [*, errW_none, errW_some] <;> rfl), mvB HB.out⟩
                  ·
                   rw [if_neg c27] at H
                   exact absurd H (by simp)
                 ·
                  rw [if_neg c26] at H
                  exact absurd H (by simp)
                ·
                 rw [if_neg c24] at H
                 have c24b0 : decide (0 < x5_3) = false := decide_eq_false c24
                 clear c24
                 have H' := Aside0.mk H
                 clear H
                 have p317 : 0 ≤ (x3_1 : Int) := od
                 have q317 : x3_1 < (l0.length : Int) := od
                 obtain ⟨ad317, A317_3, c317_3, e317, hx317_0, hx317_1, hx317_2, hx317_3, hl317_3, hi317_3⟩ := at_T34 HR0.out x3_1 p317 q317
                 obtain rfl : ad312 = ad317 := (by injection e317)
                 replace hx317_0 := (HB.out.cell (World.block_lt_of_cell? w _ hx317_0)).trans hx317_0
                 replace hx317_1 := (HB.out.cell (World.block_lt_of_cell? w _ hx317_1)).trans hx317_1
                 replace hx317_2 := (HB.out.cell (World.block_lt_of_cell? w _ hx317_2)).trans hx317_2
                 replace hx317_3 := (HB.out.cell (World.block_lt_of_cell? w _ hx317_3)).trans hx317_3
                 have HR317_3 := Aside0.mk hi317_3
                 have HC317_3 := Aside0.mk hl317_3
                 clear hi317_3 hl317_3
                 replace p317 := eq_true p317
                 replace q317 := eq_true q317
                 have p318 : 0 ≤ (x3_1 : Int) := od
                 have q318 : x3_1 < (l0.length : Int) := od
                 obtain ⟨ad318, A318_3, c318_3, e318, hx318_0, hx318_1, hx318_2, hx318_3, hl318_3, hi318_3⟩ := at_T34 HR0.out x3_1 p318 q318
                 obtain rfl : ad312 = ad318 := (by injection e318)
                 replace hx318_0 := (HB.out.cell (World.block_lt_of_cell? w _ hx318_0)).trans hx318_0
                 replace hx318_1 := (HB.out.cell (World.block_lt_of_cell? w _ hx318_1)).trans hx318_1
                 replace hx318_2 := (HB.out.cell (World.block_lt_of_cell? w _ hx318_2)).trans hx318_2
                 replace hx318_3 := (HB.out.cell (World.block_lt_of_cell? w _ hx318_3)).trans hx318_3
                 have HR318_3 := Aside0.mk hi318_3
                 have HC318_3 := Aside0.mk hl318_3
                 clear hi318_3 hl318_3
                 replace p318 := eq_true p318
                 replace q318 := eq_true q318
                 have ea_ := Option.some.inj (hx317_3.symm.trans hx318_3)
                 injection ea_ with ea_ en_ ec_
                 subst ea_
                 subst ec_
                 clear en_
                 have p319 : 0 ≤ (x5_3 : Int) := od
                 have q319 : x5_3 < (((rd_T34 l0 x3_1).f3).length : Int) := od
                 obtain ⟨ad319, e319, hx319_0⟩ := Kd.at_string HR318_3.out x5_3 p319 q319
                 cases e319
                 replace hx319_0 := (HB.out.cell (World.block_lt_of_cell? w _ hx319_0)).trans hx319_0
                 replace p319 := eq_true p319
                 replace q319 := eq_true q319
                 go_wp2_with (first | (go_at_call 98; (with_reducible refine (spec_l24Find.calls k3 _ _ l0 (rdOf ByteArray.empty ((rd_T34 l0 x3_1).f3) x5_3) t320 _ ?side1 ?side2 A22.out).mono ?_); (case side1 => exact mvC (Kd.C_below HR0.out HB.out)); (case side2 => exact HC0.out); rintro e w' ⟨rfl, ⟨nd, rfl⟩⟩; (try first | exact ⟨rfl, _, World.drewN_drewN _ _ _⟩ | exact ⟨rfl, _, Eq.trans (World.drewN_drewN _ _ _) (congrArg (World.drewN _) (Nat.add_assoc _ _ _))⟩)))
                 repeat (go_quiet (first | (go_at_call 98; (with_reducible refine (spec_l24Find.calls k3 _ _ l0 (rdOf ByteArray.empty ((rd_T34 l0 x3_1).f3) x5_3) t320 _ ?side1 ?side2 A22.out).mono ?_); (case side1 => exact mvC (Kd.C_below HR0.out HB.out)); (case side2 => exact HC0.out); rintro e w' ⟨rfl, ⟨nd, rfl⟩⟩; (try first | exact ⟨rfl, _, World.drewN_drewN _ _ _⟩ | exact ⟨rfl, _, Eq.trans (World.drewN_drewN _ _ _) (congrArg (World.drewN _) (Nat.add_assoc _ _ _))⟩))); try go_wp2_with (first | (go_at_call 98; (with_reducible refine (spec_l24Find.calls k3 _ _ l0 (rdOf ByteArray.empty ((rd_T34 l0 x3_1).f3) x5_3) t320 _ ?side1 ?side2 A22.out).mono ?_); (case side1 => exact mvC (Kd.C_below HR0.out HB.out)); (case side2 => exact HC0.out); rintro e w' ⟨rfl, ⟨nd, rfl⟩⟩; (try first | exact ⟨rfl, _, World.drewN_drewN _ _ _⟩ | exact ⟨rfl, _, Eq.trans (World.drewN_drewN _ _ _) (congrArg (World.drewN _) (Nat.add_assoc _ _ _))⟩))))
                 go_roundg k3
                 case measure => have := HK1.out; have := HJ4.out; have := HK3.out; omega
                 case rel => exact ⟨(wrap64 (x5_3 + 1)), rs, H', ⟨by have := HK1.out; have := HJ4.out; have := HK3.out; omega⟩, ⟨mvB HB.out⟩⟩
              ·
               rw [if_neg c21] at H
               exact absurd H (by simp)
             ·
              rw [if_neg c20] at H
              have c20b0 : decide (x5_3 < (((rd_T34 l0 x3_1).f3).length : Int)) = false := decide_eq_false c20
              clear c20
              have H' := Aside0.mk H
              clear H
              have p317 : 0 ≤ (x3_1 : Int) := od
              have q317 : x3_1 < (l0.length : Int) := od
              obtain ⟨ad317, A317_3, c317_3, e317, hx317_0, hx317_1, hx317_2, hx317_3, hl317_3, hi317_3⟩ := at_T34 HR0.out x3_1 p317 q317
              obtain rfl : ad312 = ad317 := (by injection e317)
              replace hx317_0 := (HB.out.cell (World.block_lt_of_cell? w _ hx317_0)).trans hx317_0
              replace hx317_1 := (HB.out.cell (World.block_lt_of_cell? w _ hx317_1)).trans hx317_1
              replace hx317_2 := (HB.out.cell (World.block_lt_of_cell? w _ hx317_2)).trans hx317_2
              replace hx317_3 := (HB.out.cell (World.block_lt_of_cell? w _ hx317_3)).trans hx317_3
              have HR317_3 := Aside0.mk hi317_3
              have HC317_3 := Aside0.mk hl317_3
              clear hi317_3 hl317_3
              replace p317 := eq_true p317
              replace q317 := eq_true q317
              go_wp2
              repeat (go_quiet (fail); try go_wp2)
              go_roundg k3
              case measure => have := HK1.out; have := HJ4.out; have := HK3.out; omega
              case rel => exact ⟨(wrap64 (x3_1 + 1)), rs, H', ⟨by have := HK1.out; have := HJ4.out; have := HK3.out; omega⟩, ⟨mvB HB.out⟩⟩
            ·
             rw [if_neg c19] at H
             exact absurd H (by simp)
           ·
            rw [if_neg c18] at H
            exact absurd H (by simp)
     ·
      rw [if_neg c4] at H
      exact absurd H (by simp)
    ·
     rw [if_neg c3] at H
     have c3b0 : decide (x3_1 < (l0.length : Int)) = false := decide_eq_false c3
     clear c3
     obtain ⟨y325, hy325⟩ : ∃ y_ : List Int, y_ = (([] : List Int)) := ⟨_, rfl⟩
     replace H : (spec_l24Ok.l2 k1 l0 y325 0) = some r := by first | (rw [hy325]; with_reducible exact H) | (have H2_ := (Option.bind_some _ _).symm.trans H; rw [hy325]; with_reducible exact H2_) | (have H2_ := (Option.bind_some _ _).symm.trans H; with_reducible exact H2_) | with_reducible exact H | (rw [hy325]; exact H) | exact H
     have Ny325 := Aside0.mk hy325
     clear hy325
     have H' := Aside0.mk H
     clear H
     go_wp2_with (first | ((with_reducible refine gate_dst (N := 109) rfl ?_); (try (refine gate_guard (by rfl) ?_; dsimp only)); refine Kd.R_lit (Kd.int .i64) _ 2 ?hg (N := 109) ?hd (xs := ([] : List Int)) (inner := []) (ok := fun _ => True) (okp := fun _ => True) ?hr ?hp (fun _ hk => hk) trivial (Below.refl _ _) (Nat.le_refl _) (by simp) ?_; (case hd => rfl); (case hg => rfl); (case hr => first | (go_simp; done) | (go_simp; rfl)); (case hp => exact (Reps.none _ _)); intro v326 w29 ho30 hb hg_ hnew_; clear hg_ hnew_; (first | rw [← Ny325.out] at ho30 | (simp only [Int.reduceToNat] at ho30; rw [← Ny325.out] at ho30)); have n0_ := Aside0.mk (Kd.R_lower ho30 (below_size (mvB HB.out))); have n1_ := Aside0.mk (below_step (mvB HB.out) hb); clear HB; revert n0_ n1_; intro HO327 HB; clear hb ho30))
     repeat (go_quiet (first | ((with_reducible refine gate_dst (N := 109) rfl ?_); (try (refine gate_guard (by rfl) ?_; dsimp only)); refine Kd.R_lit (Kd.int .i64) _ 2 ?hg (N := 109) ?hd (xs := ([] : List Int)) (inner := []) (ok := fun _ => True) (okp := fun _ => True) ?hr ?hp (fun _ hk => hk) trivial (Below.refl _ _) (Nat.le_refl _) (by simp) ?_; (case hd => rfl); (case hg => rfl); (case hr => first | (go_simp; done) | (go_simp; rfl)); (case hp => exact (Reps.none _ _)); intro v326 w29 ho30 hb hg_ hnew_; clear hg_ hnew_; (first | rw [← Ny325.out] at ho30 | (simp only [Int.reduceToNat] at ho30; rw [← Ny325.out] at ho30)); have n0_ := Aside0.mk (Kd.R_lower ho30 (below_size (mvB HB.out))); have n1_ := Aside0.mk (below_step (mvB HB.out) hb); clear HB; revert n0_ n1_; intro HO327 HB; clear hb ho30)); try go_wp2_with (first | ((with_reducible refine gate_dst (N := 109) rfl ?_); (try (refine gate_guard (by rfl) ?_; dsimp only)); refine Kd.R_lit (Kd.int .i64) _ 2 ?hg (N := 109) ?hd (xs := ([] : List Int)) (inner := []) (ok := fun _ => True) (okp := fun _ => True) ?hr ?hp (fun _ hk => hk) trivial (Below.refl _ _) (Nat.le_refl _) (by simp) ?_; (case hd => rfl); (case hg => rfl); (case hr => first | (go_simp; done) | (go_simp; rfl)); (case hp => exact (Reps.none _ _)); intro v326 w29 ho30 hb hg_ hnew_; clear hg_ hnew_; (first | rw [← Ny325.out] at ho30 | (simp only [Int.reduceToNat] at ho30; rw [← Ny325.out] at ho30)); have n0_ := Aside0.mk (Kd.R_lower ho30 (below_size (mvB HB.out))); have n1_ := Aside0.mk (below_step (mvB HB.out) hb); clear HB; revert n0_ n1_; intro HO327 HB; clear hb ho30)))
     go_loopg [6, 7] k1 (fun kq v6 v7 w' => ∃ (x6_2 : List Int) (x7_2 : Int), v7 = .int .i64 x7_2 ∧ Aside0 (spec_l24Ok.l2 kq l0 x6_2 x7_2 = some r) ∧ Aside0 (kq ≤ k1) ∧ Aside0 (Kd.R (Kd.int .i64) 2 w' w.heap.size (fun _ => True) v6 x6_2) ∧ Aside0 (Below w.heap.size w w'))
     case atStart => exact ⟨(y325), (0), rs, H', ⟨Nat.le_refl _⟩, ⟨mv HO327.out⟩, ⟨mvB HB.out⟩⟩
     case round =>
      clear H'
      try clear c2b0
      try clear c2b1
      try clear c3b0
      obtain ⟨x6_2, x7_2, rfl, HA, HK2, HO_6, HB⟩ := hrel
      cases gk with
      | zero => exact absurd HA.out (by simp [spec_l24Ok.l2])
      | succ k2 =>
       have H := HA.out
       clear HA
       simp only [spec_l24Ok.l2] at H
       by_cases c31 : x7_2 < (l0.length : Int)
       ·
        rw [if_pos c31] at H
        have c31b0 : decide (x7_2 < (l0.length : Int)) = true := decide_eq_true c31
        clear c31
        have H' := Aside0.mk H
        clear H
        go_wp2
        repeat (go_quiet (fail); try go_wp2)
        go_loopg [6, 8] k2 (fun kq v6 v8 w' => ∃ (x6_3 : List Int) (x8_3 : Int), v8 = .int .i64 x8_3 ∧ Aside0 (spec_l24Ok.l3 kq l0 x6_3 x7_2 x8_3 = some r) ∧ Aside0 (kq ≤ k2) ∧ Aside0 (Kd.R (Kd.int .i64) 2 w' w.heap.size (fun _ => True) v6 x6_3) ∧ Aside0 (Below w.heap.size w w'))
        case atStart => exact ⟨(x6_2), (0), rs, H', ⟨Nat.le_refl _⟩, ⟨mv HO_6.out⟩, ⟨mvB HB.out⟩⟩
        case round =>
         clear H'
         try clear c2b0
         try clear c2b1
         try clear c3b0
         try clear c31b0
         obtain ⟨x6_3, x8_3, rfl, HA, HK3, HO_6, HB⟩ := hrel
         cases gk with
         | zero => exact absurd HA.out (by simp [spec_l24Ok.l3])
         | succ k3 =>
          have H := HA.out
          clear HA
          simp only [spec_l24Ok.l3] at H
          by_cases c32 : x8_3 < (l0.length : Int)
          ·
           rw [if_pos c32] at H
           have c32b0 : decide (x8_3 < (l0.length : Int)) = true := decide_eq_true c32
           clear c32
           replace H := Option.bind_eq_some_iff.mp H
           obtain ⟨t328, A330, H⟩ := H
           replace H : (if t328 = true then (spec_l24Ok.l3 k3 l0 x6_3 x7_2 (wrap64 (x8_3 + 1))) else ((spec_l24Ready.f k3 l0 x6_3 x8_3).bind fun t329 => (if t329 = true then (if x6_3.length < 17592186044416 then (spec_l24Ok.l3 k3 l0 (x6_3 ++ [x8_3]) x7_2 (wrap64 (x8_3 + 1))) else (none)) else (spec_l24Ok.l3 k3 l0 x6_3 x7_2 (wrap64 (x8_3 + 1)))))) = some r := H
           have A33 := Aside0.mk A330
           clear A330
           by_cases c34 : t328 = true
           ·
            subst c34
            have H1 : (spec_l24Ok.l3 k3 l0 x6_3 x7_2 (wrap64 (x8_3 + 1))) = some r := by rw [if_pos rfl] at H; exact H
            clear H
            have H := H1
            clear H1
            have H' := Aside0.mk H
            clear H
            obtain ⟨Ao35, co35, eo35⟩ := Kd.R_slice HO_6.out
            subst eo35
            go_wp2_with (first | (go_at_call 99; (with_reducible refine (spec_l00Has.calls k3 _ _ x6_3 x8_3 true _ ?side1 ?side2 A33.out).mono ?_); (case side1 => exact mvC (Kd.R_reads' HO_6.out).2.2); (case side2 => exact (Kd.R_reads' HO_6.out).2.1); rintro e w' ⟨rfl, ⟨nd, rfl⟩⟩; (try first | exact ⟨rfl, _, World.drewN_drewN _ _ _⟩ | exact ⟨rfl, _, Eq.trans (World.drewN_drewN _ _ _) (congrArg (World.drewN _) (Nat.add_assoc _ _ _))⟩)))
            repeat (go_quiet (first | (go_at_call 99; (with_reducible refine (spec_l00Has.calls k3 _ _ x6_3 x8_3 true _ ?side1 ?side2 A33.out).mono ?_); (case side1 => exact mvC (Kd.R_reads' HO_6.out).2.2); (case side2 => exact (Kd.R_reads' HO_6.out).2.1); rintro e w' ⟨rfl, ⟨nd, rfl⟩⟩; (try first | exact ⟨rfl, _, World.drewN_drewN _ _ _⟩ | exact ⟨rfl, _, Eq.trans (World.drewN_drewN _ _ _) (congrArg (World.drewN _) (Nat.add_assoc _ _ _))⟩))); try go_wp2_with (first | (go_at_call 99; (with_reducible refine (spec_l00Has.calls k3 _ _ x6_3 x8_3 true _ ?side1 ?side2 A33.out).mono ?_); (case side1 => exact mvC (Kd.R_reads' HO_6.out).2.2); (case side2 => exact (Kd.R_reads' HO_6.out).2.1); rintro e w' ⟨rfl, ⟨nd, rfl⟩⟩; (try first | exact ⟨rfl, _, World.drewN_drewN _ _ _⟩ | exact ⟨rfl, _, Eq.trans (World.drewN_drewN _ _ _) (congrArg (World.drewN _) (Nat.add_assoc _ _ _))⟩))))
            go_roundg k3
            case measure => have := HK1.out; have := HK2.out; have := HK3.out; omega
            case rel => exact ⟨(x6_3), (wrap64 (x8_3 + 1)), rs, H', ⟨by have := HK1.out; have := HK2.out; have := HK3.out; omega⟩, ⟨mv HO_6.out⟩, ⟨mvB HB.out⟩⟩
           ·
            replace c34 := Bool.eq_false_iff.mpr c34
            subst c34
            have H1 : ((spec_l24Ready.f k3 l0 x6_3 x8_3).bind fun t329 => (if t329 = true then (if x6_3.length < 17592186044416 then (spec_l24Ok.l3 k3 l0 (x6_3 ++ [x8_3]) x7_2 (wrap64 (x8_3 + 1))) else (none)) else (spec_l24Ok.l3 k3 l0 x6_3 x7_2 (wrap64 (x8_3 + 1))))) = some r := by rw [if_neg (show ¬ (false = true) by decide)] at H; exact H
            clear H
            have H := H1
            clear H1
            replace H := Option.bind_eq_some_iff.mp H
            obtain ⟨t329, A360, H⟩ := H
            replace H : (if t329 = true then (if x6_3.length < 17592186044416 then (spec_l24Ok.l3 k3 l0 (x6_3 ++ [x8_3]) x7_2 (wrap64 (x8_3 + 1))) else (none)) else (spec_l24Ok.l3 k3 l0 x6_3 x7_2 (wrap64 (x8_3 + 1)))) = some r := H
            have A36 := Aside0.mk A360
            clear A360
            by_cases c37 : t329 = true
            ·
             subst c37
             have H1 : (if x6_3.length < 17592186044416 then (spec_l24Ok.l3 k3 l0 (x6_3 ++ [x8_3]) x7_2 (wrap64 (x8_3 + 1))) else (none)) = some r := by rw [if_pos rfl] at H; exact H
             clear H
             have H := H1
             clear H1
             by_cases c38 : x6_3.length < 17592186044416
             ·
              rw [if_pos c38] at H
              have LMc38 := Aside0.mk c38
              clear c38
              obtain ⟨y330, hy330⟩ : ∃ y_ : List Int, y_ = (x6_3 ++ [x8_3]) := ⟨_, rfl⟩
              replace H : (spec_l24Ok.l3 k3 l0 y330 x7_2 (wrap64 (x8_3 + 1))) = some r := by first | (rw [hy330]; with_reducible exact H) | (have H2_ := (Option.bind_some _ _).symm.trans H; rw [hy330]; with_reducible exact H2_) | (have H2_ := (Option.bind_some _ _).symm.trans H; with_reducible exact H2_) | with_reducible exact H | (rw [hy330]; exact H) | exact H
              have Ny330 := Aside0.mk hy330
              clear hy330
              have H' := Aside0.mk H
              clear H
              obtain ⟨Ao39, co39, eo39⟩ := Kd.R_slice HO_6.out
              subst eo39
              go_wp2_with (first | (go_at_call 99; (with_reducible refine (spec_l00Has.calls k3 _ _ x6_3 x8_3 false _ ?side1 ?side2 A33.out).mono ?_); (case side1 => exact mvC (Kd.R_reads' HO_6.out).2.2); (case side2 => exact (Kd.R_reads' HO_6.out).2.1); rintro e w' ⟨rfl, ⟨nd, rfl⟩⟩; (try first | exact ⟨rfl, _, World.drewN_drewN _ _ _⟩ | exact ⟨rfl, _, Eq.trans (World.drewN_drewN _ _ _) (congrArg (World.drewN _) (Nat.add_assoc _ _ _))⟩)) | (go_at_call 87; (with_reducible refine (spec_l24Ready.calls k3 _ _ l0 _ _ x6_3 x8_3 true _ ?side1 ?side2 ?side3 ?side4 A36.out).mono ?_); (case side1 => exact mvC (Kd.C_below HR0.out (mvB HB.out))); (case side2 => exact HC0.out); (case side3 => exact mvC (Kd.R_reads' HO_6.out).2.2); (case side4 => exact (Kd.R_reads' HO_6.out).2.1); rintro e w' ⟨rfl, ⟨nd, rfl⟩⟩; (try first | exact ⟨rfl, _, World.drewN_drewN _ _ _⟩ | exact ⟨rfl, _, Eq.trans (World.drewN_drewN _ _ _) (congrArg (World.drewN _) (Nat.add_assoc _ _ _))⟩)) | ((with_reducible refine gate_builtin (b := .append) (xs := #[.tmp 132, .tmp 134]) rfl ?_); (try (refine gate_guard (by rfl) ?_; dsimp only)); at_builtin; refine Kd.R_append (Kd.int .i64) (w0 := w) w.heap.size rfl (.tmp 132) (.tmp 134) 27 2 (.int .i64 0) 8 rfl Try.underlying27 info2 rfl (by decide) (by omega) (.slice Ao39 x6_3.length co39) x6_3 x8_3 [.int .i64 x8_3] (fun _ => True) (fun _ => False) rfl rfl ?aP (fun _ hk => hk.elim) ?aF ?aO ?aB ?aS ?aL ?_; (case aP => exact rfl); (case aB => exact (mvB HB.out)); (case aF => exact (fun _ _ => trivial)); (case aO => exact (mv HO_6.out)); (case aS => exact (below_size (mvB HB.out))); (case aL => have := LMc38.out; omega); intro v331 w40 ho hb hg hat; rw [← Ny330.out] at ho; have n0_ := Aside0.mk (hb); have n1_ := Aside0.mk (ho); clear HB HO_6; revert n0_ n1_; intro HB HO332; clear ho hb hg hat))
              repeat (go_quiet (first | (go_at_call 99; (with_reducible refine (spec_l00Has.calls k3 _ _ x6_3 x8_3 false _ ?side1 ?side2 A33.out).mono ?_); (case side1 => exact mvC (Kd.R_reads' HO_6.out).2.2); (case side2 => exact (Kd.R_reads' HO_6.out).2.1); rintro e w' ⟨rfl, ⟨nd, rfl⟩⟩; (try first | exact ⟨rfl, _, World.drewN_drewN _ _ _⟩ | exact ⟨rfl, _, Eq.trans (World.drewN_drewN _ _ _) (congrArg (World.drewN _) (Nat.add_assoc _ _ _))⟩)) | (go_at_call 87; (with_reducible refine (spec_l24Ready.calls k3 _ _ l0 _ _ x6_3 x8_3 true _ ?side1 ?side2 ?side3 ?side4 A36.out).mono ?_); (case side1 => exact mvC (Kd.C_below HR0.out (mvB HB.out))); (case side2 => exact HC0.out); (case side3 => exact mvC (Kd.R_reads' HO_6.out).2.2); (case side4 => exact (Kd.R_reads' HO_6.out).2.1); rintro e w' ⟨rfl, ⟨nd, rfl⟩⟩; (try first | exact ⟨rfl, _, World.drewN_drewN _ _ _⟩ | exact ⟨rfl, _, Eq.trans (World.drewN_drewN _ _ _) (congrArg (World.drewN _) (Nat.add_assoc _ _ _))⟩)) | ((with_reducible refine gate_builtin (b := .append) (xs := #[.tmp 132, .tmp 134]) rfl ?_); (try (refine gate_guard (by rfl) ?_; dsimp only)); at_builtin; refine Kd.R_append (Kd.int .i64) (w0 := w) w.heap.size rfl (.tmp 132) (.tmp 134) 27 2 (.int .i64 0) 8 rfl Try.underlying27 info2 rfl (by decide) (by omega) (.slice Ao39 x6_3.length co39) x6_3 x8_3 [.int .i64 x8_3] (fun _ => True) (fun _ => False) rfl rfl ?aP (fun _ hk => hk.elim) ?aF ?aO ?aB ?aS ?aL ?_; (case aP => exact rfl); (case aB => exact (mvB HB.out)); (case aF => exact (fun _ _ => trivial)); (case aO => exact (mv HO_6.out)); (case aS => exact (below_size (mvB HB.out))); (case aL => have := LMc38.out; omega); intro v331 w40 ho hb hg hat; rw [← Ny330.out] at ho; have n0_ := Aside0.mk (hb); have n1_ := Aside0.mk (ho); clear HB HO_6; revert n0_ n1_; intro HB HO332; clear ho hb hg hat)); try go_wp2_with (first | (go_at_call 99; (with_reducible refine (spec_l00Has.calls k3 _ _ x6_3 x8_3 false _ ?side1 ?side2 A33.out).mono ?_); (case side1 => exact mvC (Kd.R_reads' HO_6.out).2.2); (case side2 => exact (Kd.R_reads' HO_6.out).2.1); rintro e w' ⟨rfl, ⟨nd, rfl⟩⟩; (try first | exact ⟨rfl, _, World.drewN_drewN _ _ _⟩ | exact ⟨rfl, _, Eq.trans (World.drewN_drewN _ _ _) (congrArg (World.drewN _) (Nat.add_assoc _ _ _))⟩)) | (go_at_call 87; (with_reducible refine (spec_l24Ready.calls k3 _ _ l0 _ _ x6_3 x8_3 true _ ?side1 ?side2 ?side3 ?side4 A36.out).mono ?_); (case side1 => exact mvC (Kd.C_below HR0.out (mvB HB.out))); (case side2 => exact HC0.out); (case side3 => exact mvC (Kd.R_reads' HO_6.out).2.2); (case side4 => exact (Kd.R_reads' HO_6.out).2.1); rintro e w' ⟨rfl, ⟨nd, rfl⟩⟩; (try first | exact ⟨rfl, _, World.drewN_drewN _ _ _⟩ | exact ⟨rfl, _, Eq.trans (World.drewN_drewN _ _ _) (congrArg (World.drewN _) (Nat.add_assoc _ _ _))⟩)) | ((with_reducible refine gate_builtin (b := .append) (xs := #[.tmp 132, .tmp 134]) rfl ?_); (try (refine gate_guard (by rfl) ?_; dsimp only)); at_builtin; refine Kd.R_append (Kd.int .i64) (w0 := w) w.heap.size rfl (.tmp 132) (.tmp 134) 27 2 (.int .i64 0) 8 rfl Try.underlying27 info2 rfl (by decide) (by omega) (.slice Ao39 x6_3.length co39) x6_3 x8_3 [.int .i64 x8_3] (fun _ => True) (fun _ => False) rfl rfl ?aP (fun _ hk => hk.elim) ?aF ?aO ?aB ?aS ?aL ?_; (case aP => exact rfl); (case aB => exact (mvB HB.out)); (case aF => exact (fun _ _ => trivial)); (case aO => exact (mv HO_6.out)); (case aS => exact (below_size (mvB HB.out))); (case aL => have := LMc38.out; omega); intro v331 w40 ho hb hg hat; rw [← Ny330.out] at ho; have n0_ := Aside0.mk (hb); have n1_ := Aside0.mk (ho); clear HB HO_6; revert n0_ n1_; intro HB HO332; clear ho hb hg hat)))
              go_roundg k3
              case measure => have := HK1.out; have := HK2.out; have := HK3.out; omega
              case rel => exact ⟨(y330), (wrap64 (x8_3 + 1)), rs, H', ⟨by have := HK1.out; have := HK2.out; have := HK3.out; omega⟩, ⟨mv HO332.out⟩, ⟨mvB HB.out⟩⟩
             ·
              rw [if_neg c38] at H
              exact absurd H (by simp)
            ·
             replace c37 := Bool.eq_false_iff.mpr c37
             subst c37
             have H1 : (spec_l24Ok.l3 k3 l0 x6_3 x7_2 (wrap64 (x8_3 + 1))) = some r := by rw [if_neg (show ¬ (false = true) by decide)] at H; exact H
             clear H
             have H := H1
             clear H1
             have H' := Aside0.mk H
             clear H
             obtain ⟨Ao41, co41, eo41⟩ := Kd.R_slice HO_6.out
             subst eo41
             go_wp2_with (first | (go_at_call 99; (with_reducible refine (spec_l00Has.calls k3 _ _ x6_3 x8_3 false _ ?side1 ?side2 A33.out).mono ?_); (case side1 => exact mvC (Kd.R_reads' HO_6.out).2.2); (case side2 => exact (Kd.R_reads' HO_6.out).2.1); rintro e w' ⟨rfl, ⟨nd, rfl⟩⟩; (try first | exact ⟨rfl, _, World.drewN_drewN _ _ _⟩ | exact ⟨rfl, _, Eq.trans (World.drewN_drewN _ _ _) (congrArg (World.drewN _) (Nat.add_assoc _ _ _))⟩)) | (go_at_call 87; (with_reducible refine (spec_l24Ready.calls k3 _ _ l0 _ _ x6_3 x8_3 false _ ?side1 ?side2 ?side3 ?side4 A36.out).mono ?_); (case side1 => exact mvC (Kd.C_below HR0.out (mvB HB.out))); (case side2 => exact HC0.out); (case side3 => exact mvC (Kd.R_reads' HO_6.out).2.2); (case side4 => exact (Kd.R_reads' HO_6.out).2.1); rintro e w' ⟨rfl, ⟨nd, rfl⟩⟩; (try first | exact ⟨rfl, _, World.drewN_drewN _ _ _⟩ | exact ⟨rfl, _, Eq.trans (World.drewN_drewN _ _ _) (congrArg (World.drewN _) (Nat.add_assoc _ _ _))⟩)))
             repeat (go_quiet (first | (go_at_call 99; (with_reducible refine (spec_l00Has.calls k3 _ _ x6_3 x8_3 false _ ?side1 ?side2 A33.out).mono ?_); (case side1 => exact mvC (Kd.R_reads' HO_6.out).2.2); (case side2 => exact (Kd.R_reads' HO_6.out).2.1); rintro e w' ⟨rfl, ⟨nd, rfl⟩⟩; (try first | exact ⟨rfl, _, World.drewN_drewN _ _ _⟩ | exact ⟨rfl, _, Eq.trans (World.drewN_drewN _ _ _) (congrArg (World.drewN _) (Nat.add_assoc _ _ _))⟩)) | (go_at_call 87; (with_reducible refine (spec_l24Ready.calls k3 _ _ l0 _ _ x6_3 x8_3 false _ ?side1 ?side2 ?side3 ?side4 A36.out).mono ?_); (case side1 => exact mvC (Kd.C_below HR0.out (mvB HB.out))); (case side2 => exact HC0.out); (case side3 => exact mvC (Kd.R_reads' HO_6.out).2.2); (case side4 => exact (Kd.R_reads' HO_6.out).2.1); rintro e w' ⟨rfl, ⟨nd, rfl⟩⟩; (try first | exact ⟨rfl, _, World.drewN_drewN _ _ _⟩ | exact ⟨rfl, _, Eq.trans (World.drewN_drewN _ _ _) (congrArg (World.drewN _) (Nat.add_assoc _ _ _))⟩))); try go_wp2_with (first | (go_at_call 99; (with_reducible refine (spec_l00Has.calls k3 _ _ x6_3 x8_3 false _ ?side1 ?side2 A33.out).mono ?_); (case side1 => exact mvC (Kd.R_reads' HO_6.out).2.2); (case side2 => exact (Kd.R_reads' HO_6.out).2.1); rintro e w' ⟨rfl, ⟨nd, rfl⟩⟩; (try first | exact ⟨rfl, _, World.drewN_drewN _ _ _⟩ | exact ⟨rfl, _, Eq.trans (World.drewN_drewN _ _ _) (congrArg (World.drewN _) (Nat.add_assoc _ _ _))⟩)) | (go_at_call 87; (with_reducible refine (spec_l24Ready.calls k3 _ _ l0 _ _ x6_3 x8_3 false _ ?side1 ?side2 ?side3 ?side4 A36.out).mono ?_); (case side1 => exact mvC (Kd.C_below HR0.out (mvB HB.out))); (case side2 => exact HC0.out); (case side3 => exact mvC (Kd.R_reads' HO_6.out).2.2); (case side4 => exact (Kd.R_reads' HO_6.out).2.1); rintro e w' ⟨rfl, ⟨nd, rfl⟩⟩; (try first | exact ⟨rfl, _, World.drewN_drewN _ _ _⟩ | exact ⟨rfl, _, Eq.trans (World.drewN_drewN _ _ _) (congrArg (World.drewN _) (Nat.add_assoc _ _ _))⟩))))
             go_roundg k3
             case measure => have := HK1.out; have := HK2.out; have := HK3.out; omega
             case rel => exact ⟨(x6_3), (wrap64 (x8_3 + 1)), rs, H', ⟨by have := HK1.out; have := HK2.out; have := HK3.out; omega⟩, ⟨mv HO_6.out⟩, ⟨mvB HB.out⟩⟩
          ·
           rw [if_neg c32] at H
           have c32b0 : decide (x8_3 < (l0.length : Int)) = false := decide_eq_false c32
           clear c32
           have H' := Aside0.mk H
           clear H
           go_wp2
           repeat (go_quiet (fail); try go_wp2)
           go_roundg k3
           case measure => have := HK1.out; have := HK2.out; have := HK3.out; omega
           case rel => exact ⟨(x6_3), (wrap64 (x7_2 + 1)), rs, H', ⟨by have := HK1.out; have := HK2.out; have := HK3.out; omega⟩, ⟨mv HO_6.out⟩, ⟨mvB HB.out⟩⟩
       ·
        rw [if_neg c31] at H
        have c31b0 : decide (x7_2 < (l0.length : Int)) = false := decide_eq_false c31
        clear c31
        obtain rfl := Option.some.inj H
        obtain ⟨Ao42, co42, eo42⟩ := Kd.R_slice HO_6.out
        subst eo42
        go_wp2
        repeat (go_quiet (fail); try go_wp2)
        go_ret
        exact ⟨by first | rfl | (simp [errW_none, errW_some] <;> rfl) | (simp [*, errW_none, errW_some] <;> rfl), mvB HB.out⟩

end Go.Proofs.Ytmbiapefigcgnaa.PFnPlans
