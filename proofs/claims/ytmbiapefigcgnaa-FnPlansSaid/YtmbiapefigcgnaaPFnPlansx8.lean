-- written by a program of this session (mkp.py) out of the translation; Lean checks it. -- squeezed
import Derived.Test.YtmbiapefigcgnaaPFnPlansx0
import Derived.Test.YtmbiapefigcgnaaPFnPlansx4
import Derived.Test.YtmbiapefigcgnaaPFnPlansx6
import Derived.Test.YtmbiapefigcgnaaPFnPlansx7
namespace Go.Proofs.Ytmbiapefigcgnaa.PFnPlans
open Go.RowKit Go.Proofs.YtmbiapefigcgnaaW.PrintWords Go.Proofs.YtmbiapefigcgnaaW.PrintLast Go.Proofs.YtmbiapefigcgnaaW.PrintMore
attribute [local go_sem] bin_leq bin_gtr bin_geq max2_int min2_int max_two min_two max_three min_three max_four min_four   -- for this text's walks alone
set_option linter.unusedVariables false
set_option linter.unusedSimpArgs false

/-! ### impl_planOrderCode: function 46 -/
def impl_planOrderCode.l0 : Nat → List (S34) → List Int → List Int → Int → Int → Option (Int)
 | 0, _, _, _, _, _ => none
 | k + 1, x0, x1, x23, x24, x25 => if x25 < x24 then (if 0 ≤ x25 then (if x25 < (x23.length : Int) then (if x25 ≤ (x1.length : Int) then ((impl_hasNeeds.f x0 (x1.take (x25 : Int).toNat) (rd x23 x25)).bind fun t291 => (if t291 = true then (impl_planOrderCode.l0 k x0 x1 x23 x24 (wrap64 (x25 + 1))) else (some 7))) else (none)) else (none)) else (none)) else (some 0)
def impl_planOrderCode.f (k : Nat) (l0 : List (S34)) (l1 : List Int) (a2 : Int) : Option (Int) := (impl_ValidStages.f k l0).bind fun t286 => (if t286 = true then ((impl_yearlyOk.f a2).bind fun t287 => (if t287 = true then ((impl_differentOk.f k (l0.length : Int) l1).bind fun t288 => (if t288 = true then (impl_planOrderCode.l0 k l0 l1 l1 (l1.length : Int) 0) else (some 7))) else (some 2))) else (some 1))
theorem impl_planOrderCode.mono_l : ∀ k, (∀ y0 y1 y2 y3 y4, LeO (impl_planOrderCode.l0 k y0 y1 y2 y3 y4) (impl_planOrderCode.l0 (k + 1) y0 y1 y2 y3 y4))
 | 0 => fun _ _ _ _ _ r h => by simp [impl_planOrderCode.l0] at h
 | k + 1 => by
  have ih0 := impl_planOrderCode.mono_l k
  ·
   intro y0 y1 y2 y3 y4
   unfold impl_planOrderCode.l0
   repeat' first
   | (with_reducible exact ih0 _ _ _ _ _)
   | (with_reducible exact impl_ValidStages.mono _ _)
   | (with_reducible exact impl_differentOk.mono _ _ _)
   | (with_reducible exact LeO.refl _)
   | (with_reducible exact LeO.none _)
   | (with_reducible refine LeO.ite ?_ ?_)
   | (with_reducible refine LeO.bind ?_ (fun _ => ?_))
   | exact ih0 _ _ _ _ _
   | exact impl_ValidStages.mono _ _
   | exact impl_differentOk.mono _ _ _
   | exact LeO.none _
   | refine LeO.ite ?_ ?_
   | refine LeO.bind ?_ (fun _ => ?_)
theorem impl_planOrderCode.mono : ∀ a0 a1 a2 k, LeO (impl_planOrderCode.f k a0 a1 a2) (impl_planOrderCode.f (k + 1) a0 a1 a2) := by
 intro a0 a1 a2 k
 have ih0 := impl_planOrderCode.mono_l k
 unfold impl_planOrderCode.f
 repeat' first
  | (with_reducible exact ih0 _ _ _ _ _)
  | (with_reducible exact impl_ValidStages.mono _ _)
  | (with_reducible exact impl_differentOk.mono _ _ _)
  | (with_reducible exact LeO.refl _)
  | (with_reducible exact LeO.none _)
  | (with_reducible refine LeO.ite ?_ ?_)
  | (with_reducible refine LeO.bind ?_ (fun _ => ?_))
  | exact ih0 _ _ _ _ _
  | exact impl_ValidStages.mono _ _
  | exact impl_differentOk.mono _ _ _
  | exact LeO.none _
  | refine LeO.ite ?_ ?_
  | refine LeO.bind ?_ (fun _ => ?_)
set_option maxHeartbeats 8000000 in
set_option maxRecDepth 100000 in
theorem impl_planOrderCode.calls (k : Nat) (A0 : Option Addr) (c0 : Nat) (l0 : List (S34)) (A1 : Option Addr) (c1 : Nat) (l1 : List Int) (a2 : Int) (r : Int) (w : World) (hr0 : Kd.C k34 w A0 l0.length l0) (hc0 : l0.length ≤ c0) (hr1 : Kd.C (Kd.int .i64) w A1 l1.length l1) (hc1 : l1.length ≤ c1) (h : impl_planOrderCode.f k l0 l1 a2 = some r) :
  Calls Try.prog 46 #[.slice A0 l0.length c0, .slice A1 l1.length c1, .int .i64 a2] w fun e w' => e = .returned (.int .i64 r) ∧ Below w.heap.size w w' := by
 have HR0 := Aside0.mk hr0
 have HC0 := Aside0.mk hc0
 clear hr0 hc0
 have HR1 := Aside0.mk hr1
 have HC1 := Aside0.mk hc1
 clear hr1 hc1
 have HB := Aside0.mk (Below.refl w.heap.size w)
 have H : ((impl_ValidStages.f k l0).bind fun t286 => (if t286 = true then ((impl_yearlyOk.f a2).bind fun t287 => (if t287 = true then ((impl_differentOk.f k (l0.length : Int) l1).bind fun t288 => (if t288 = true then (impl_planOrderCode.l0 k l0 l1 l1 (l1.length : Int) 0) else (some 7))) else (some 2))) else (some 1))) = some r := h
 clear h
 replace H := Option.bind_eq_some_iff.mp H
 obtain ⟨t286, A40, H⟩ := H
 replace H : (if t286 = true then ((impl_yearlyOk.f a2).bind fun t287 => (if t287 = true then ((impl_differentOk.f k (l0.length : Int) l1).bind fun t288 => (if t288 = true then (impl_planOrderCode.l0 k l0 l1 l1 (l1.length : Int) 0) else (some 7))) else (some 2))) else (some 1)) = some r := H
 have A4 := Aside0.mk A40
 clear A40
 by_cases c5 : t286 = true
 ·
  subst c5
  have H1 : ((impl_yearlyOk.f a2).bind fun t287 => (if t287 = true then ((impl_differentOk.f k (l0.length : Int) l1).bind fun t288 => (if t288 = true then (impl_planOrderCode.l0 k l0 l1 l1 (l1.length : Int) 0) else (some 7))) else (some 2))) = some r := by rw [if_pos rfl] at H; exact H
  clear H
  have H := H1
  clear H1
  replace H := Option.bind_eq_some_iff.mp H
  obtain ⟨t287, A60, H⟩ := H
  replace H : (if t287 = true then ((impl_differentOk.f k (l0.length : Int) l1).bind fun t288 => (if t288 = true then (impl_planOrderCode.l0 k l0 l1 l1 (l1.length : Int) 0) else (some 7))) else (some 2)) = some r := H
  have A6 := Aside0.mk A60
  clear A60
  by_cases c7 : t287 = true
  ·
   subst c7
   have H1 : ((impl_differentOk.f k (l0.length : Int) l1).bind fun t288 => (if t288 = true then (impl_planOrderCode.l0 k l0 l1 l1 (l1.length : Int) 0) else (some 7))) = some r := by rw [if_pos rfl] at H; exact H
   clear H
   have H := H1
   clear H1
   replace H := Option.bind_eq_some_iff.mp H
   obtain ⟨t288, A80, H⟩ := H
   replace H : (if t288 = true then (impl_planOrderCode.l0 k l0 l1 l1 (l1.length : Int) 0) else (some 7)) = some r := H
   have A8 := Aside0.mk A80
   clear A80
   by_cases c9 : t288 = true
   ·
    subst c9
    have H1 : (impl_planOrderCode.l0 k l0 l1 l1 (l1.length : Int) 0) = some r := by rw [if_pos rfl] at H; exact H
    clear H
    have H := H1
    clear H1
    have H' := Aside0.mk H
    clear H
    go_enter Try.func46, Try.ntmps46
    go_wp2_with (first | ((with_reducible refine gate_callee (f := 41) rfl ?_); refine goesA_ (some 11) Try.func41 #[.slice A0 l0.length c0] ?_; (with_reducible refine (impl_ValidStages.calls k _ _ l0 true _ ?side1 ?side2 A4.out).mono ?_); (case side1 => exact mvC HR0.out); (case side2 => exact HC0.out); rintro e w10 ⟨rfl, hb⟩; refine ⟨_, rfl, ?_⟩; have n0_ := Aside0.mk (below_step (mvB HB.out) hb); clear HB; revert n0_; intro HB; (try clear hb)) | ((with_reducible refine gate_callee (f := 42) rfl ?_); refine goesA_ (some 15) Try.func42 #[.int .i64 a2] ?_; (with_reducible refine (impl_yearlyOk.calls a2 true _ A6.out).mono ?_); rintro e w' ⟨rfl, ⟨nd, rfl⟩⟩; refine ⟨_, rfl, ?_⟩) | ((with_reducible refine gate_callee (f := 85) rfl ?_); refine goesA_ (some 21) Try.func85 #[.int .i64 (l0.length : Int), .slice A1 l1.length c1] ?_; (with_reducible refine (impl_differentOk.calls k (l0.length : Int) _ _ l1 true _ ?side1 ?side2 A8.out).mono ?_); (case side1 => exact mvC (Kd.C_below HR1.out (mvB HB.out))); (case side2 => exact HC1.out); rintro e w' ⟨rfl, ⟨nd, rfl⟩⟩; refine ⟨_, rfl, ?_⟩))
    go_loopg [25] k (fun kq v25 w' => ∃ (x25_1 : Int), v25 = .int .i64 x25_1 ∧ Aside0 (impl_planOrderCode.l0 kq l0 l1 l1 (l1.length : Int) x25_1 = some r) ∧ Aside0 (kq ≤ k) ∧ Aside0 (Below w.heap.size w w'))
    case atStart => exact ⟨(0), rs, H', ⟨Nat.le_refl _⟩, ⟨mvB HB.out⟩⟩
    case round =>
     clear H'
     try clear c5
     try clear c7
     try clear c9
     obtain ⟨x25_1, rfl, HA, HK1, HB⟩ := hrel
     cases gk with
     | zero => exact absurd HA.out (by simp [impl_planOrderCode.l0])
     | succ k1 =>
      have H := HA.out
      clear HA
      simp only [impl_planOrderCode.l0] at H
      by_cases c11 : x25_1 < (l1.length : Int)
      ·
       rw [if_pos c11] at H
       have c11b0 : decide (x25_1 < (l1.length : Int)) = true := decide_eq_true c11
       clear c11
       by_cases c12 : 0 ≤ x25_1
       ·
        rw [if_pos c12] at H
        have c12b0 : decide (0 ≤ x25_1) = true := decide_eq_true c12
        clear c12
        by_cases c13 : x25_1 < (l1.length : Int)
        ·
         rw [if_pos c13] at H
         have c13b0 : decide (x25_1 < (l1.length : Int)) = true := decide_eq_true c13
         clear c13
         have c14b0 := eq_true (od : 0 ≤ x25_1)
         by_cases c15 : x25_1 ≤ (l1.length : Int)
         ·
          rw [if_pos c15] at H
          have c15b0 := eq_true c15
          have c15b1 : decide (x25_1 ≤ (l1.length : Int)) = true := decide_eq_true c15
          clear c15
          replace H := Option.bind_eq_some_iff.mp H
          obtain ⟨t291, A160, H⟩ := H
          replace H : (if t291 = true then (impl_planOrderCode.l0 k1 l0 l1 l1 (l1.length : Int) (wrap64 (x25_1 + 1))) else (some 7)) = some r := H
          have A16 := Aside0.mk A160
          clear A160
          by_cases c17 : t291 = true
          ·
           subst c17
           have H1 : (impl_planOrderCode.l0 k1 l0 l1 l1 (l1.length : Int) (wrap64 (x25_1 + 1))) = some r := by rw [if_pos rfl] at H; exact H
           clear H
           have H := H1
           clear H1
           have H' := Aside0.mk H
           clear H
           have p289 : 0 ≤ (x25_1 : Int) := od
           have q289 : x25_1 < (l1.length : Int) := od
           obtain ⟨ad289, e289, hx289_0⟩ := Kd.at_int HR1.out x25_1 p289 q289
           cases e289
           replace hx289_0 := (HB.out.cell (World.block_lt_of_cell? w _ hx289_0)).trans hx289_0
           replace p289 := eq_true p289
           replace q289 := eq_true q289
           obtain ⟨i018, hi018, _, hsz18, _⟩ := info_parts info2
           obtain ⟨hcut18, hA18, hC18⟩ := print_take_of (P := Try.prog) (Value.int .i64) 0 27 2 .i64 Try.underlying27 hi018 hsz18 (some ad289) c1 l1 x25_1 (od) (od) HC1.out
           have HR290 := Aside0.mk (Kd.C_of_reads (h1 := fun _ => rfl) (hA18 _ (Kd.reads_of_C HR1.out)))
           have HC290 := Aside0.mk hC18
           clear hA18 hC18 hi018 hsz18
           go_wp2_with (first | ((with_reducible refine gate_callee (f := 75) rfl ?_); refine goesL_ (some 35) rfl rfl Try.func75 (by kernel_rfl) rfl #[.slice A0 l0.length c0, .slice (some ad289) (l1.take (x25_1 : Int).toNat).length c1, .int .i64 (rd l1 x25_1)] rfl (by (try simp only [List.map_toArray, List.map_cons, List.map_nil]); first | done | (rw [show (l1.take (x25_1 : Int).toNat).length = x25_1.toNat from (by rw [List.length_take]; have h_ : (x25_1 : Int) ≤ (l1.length : Int) := od; omega)] <;> rfl) | rfl | (simp only [List.length_drop, List.length_take]; rfl)) ?_; (with_reducible refine (impl_hasNeeds.calls _ _ l0 _ _ (l1.take (x25_1 : Int).toNat) (rd l1 x25_1) true _ ?side1 ?side2 ?side3 ?side4 A16.out).mono ?_); (case side1 => exact mvC (Kd.C_below HR0.out HB.out)); (case side2 => exact HC0.out); (case side3 => exact mvC (Kd.C_below HR290.out HB.out)); (case side4 => exact HC290.out); rintro e w19 ⟨rfl, hb⟩; refine ⟨_, rfl, ?_⟩; have n0_ := Aside0.mk (below_step (mvB HB.out) hb); clear HB; revert n0_; intro HB; (try clear hb)))
           go_roundg k1
           case measure => have := HK1.out; omega
           case rel => exact ⟨(wrap64 (x25_1 + 1)), rs, H', ⟨by have := HK1.out; omega⟩, ⟨mvB HB.out⟩⟩
          ·
           replace c17 := Bool.eq_false_iff.mpr c17
           subst c17
           have H1 : (some 7) = some r := by rw [if_neg (show ¬ (false = true) by decide)] at H; exact H
           clear H
           have H := H1
           clear H1
           obtain rfl := Option.some.inj H
           have p289 : 0 ≤ (x25_1 : Int) := od
           have q289 : x25_1 < (l1.length : Int) := od
           obtain ⟨ad289, e289, hx289_0⟩ := Kd.at_int HR1.out x25_1 p289 q289
           cases e289
           replace hx289_0 := (HB.out.cell (World.block_lt_of_cell? w _ hx289_0)).trans hx289_0
           replace p289 := eq_true p289
           replace q289 := eq_true q289
           obtain ⟨i020, hi020, _, hsz20, _⟩ := info_parts info2
           obtain ⟨hcut20, hA20, hC20⟩ := print_take_of (P := Try.prog) (Value.int .i64) 0 27 2 .i64 Try.underlying27 hi020 hsz20 (some ad289) c1 l1 x25_1 (od) (od) HC1.out
           have HR290 := Aside0.mk (Kd.C_of_reads (h1 := fun _ => rfl) (hA20 _ (Kd.reads_of_C HR1.out)))
           have HC290 := Aside0.mk hC20
           clear hA20 hC20 hi020 hsz20
           go_wp2_with (first | ((with_reducible refine gate_callee (f := 75) rfl ?_); refine goesL_ (some 35) rfl rfl Try.func75 (by kernel_rfl) rfl #[.slice A0 l0.length c0, .slice (some ad289) (l1.take (x25_1 : Int).toNat).length c1, .int .i64 (rd l1 x25_1)] rfl (by (try simp only [List.map_toArray, List.map_cons, List.map_nil]); first | done | (rw [show (l1.take (x25_1 : Int).toNat).length = x25_1.toNat from (by rw [List.length_take]; have h_ : (x25_1 : Int) ≤ (l1.length : Int) := od; omega)] <;> rfl) | rfl | (simp only [List.length_drop, List.length_take]; rfl)) ?_; (with_reducible refine (impl_hasNeeds.calls _ _ l0 _ _ (l1.take (x25_1 : Int).toNat) (rd l1 x25_1) false _ ?side1 ?side2 ?side3 ?side4 A16.out).mono ?_); (case side1 => exact mvC (Kd.C_below HR0.out HB.out)); (case side2 => exact HC0.out); (case side3 => exact mvC (Kd.C_below HR290.out HB.out)); (case side4 => exact HC290.out); rintro e w21 ⟨rfl, hb⟩; refine ⟨_, rfl, ?_⟩; have n0_ := Aside0.mk (below_step (mvB HB.out) hb); clear HB; revert n0_; intro HB; (try clear hb)))
           go_ret
           exact ⟨by first | rfl | (simp [errW_none, errW_some] <;> rfl) | (simp [*, errW_none, errW_some] <;> rfl), mvB HB.out⟩
         ·
          rw [if_neg c15] at H
          exact absurd H (by simp)
        ·
         rw [if_neg c13] at H
         exact absurd H (by simp)
       ·
        rw [if_neg c12] at H
        exact absurd H (by simp)
      ·
       rw [if_neg c11] at H
       have c11b0 : decide (x25_1 < (l1.length : Int)) = false := decide_eq_false c11
       clear c11
       obtain rfl := Option.some.inj H
       go_wp2
       go_ret
       exact ⟨by first | rfl | (simp [errW_none, errW_some] <;> rfl) | (simp [*, errW_none, errW_some] <;> rfl), mvB HB.out⟩
   ·
    replace c9 := Bool.eq_false_iff.mpr c9
    subst c9
    have H1 : (some 7) = some r := by rw [if_neg (show ¬ (false = true) by decide)] at H; exact H
    clear H
    have H := H1
    clear H1
    obtain rfl := Option.some.inj H
    go_enter Try.func46, Try.ntmps46
    go_wp2_with (first | ((with_reducible refine gate_callee (f := 41) rfl ?_); refine goesA_ (some 11) Try.func41 #[.slice A0 l0.length c0] ?_; (with_reducible refine (impl_ValidStages.calls k _ _ l0 true _ ?side1 ?side2 A4.out).mono ?_); (case side1 => exact mvC HR0.out); (case side2 => exact HC0.out); rintro e w22 ⟨rfl, hb⟩; refine ⟨_, rfl, ?_⟩; have n0_ := Aside0.mk (below_step (mvB HB.out) hb); clear HB; revert n0_; intro HB; (try clear hb)) | ((with_reducible refine gate_callee (f := 42) rfl ?_); refine goesA_ (some 15) Try.func42 #[.int .i64 a2] ?_; (with_reducible refine (impl_yearlyOk.calls a2 true _ A6.out).mono ?_); rintro e w' ⟨rfl, ⟨nd, rfl⟩⟩; refine ⟨_, rfl, ?_⟩) | ((with_reducible refine gate_callee (f := 85) rfl ?_); refine goesA_ (some 21) Try.func85 #[.int .i64 (l0.length : Int), .slice A1 l1.length c1] ?_; (with_reducible refine (impl_differentOk.calls k (l0.length : Int) _ _ l1 false _ ?side1 ?side2 A8.out).mono ?_); (case side1 => exact mvC (Kd.C_below HR1.out (mvB HB.out))); (case side2 => exact HC1.out); rintro e w' ⟨rfl, ⟨nd, rfl⟩⟩; refine ⟨_, rfl, ?_⟩))
    go_ret
    exact ⟨by first | rfl | (simp [errW_none, errW_some] <;> rfl) | (simp [*, errW_none, errW_some] <;> rfl), mvB HB.out⟩
  ·
   replace c7 := Bool.eq_false_iff.mpr c7
   subst c7
   have H1 : (some 2) = some r := by rw [if_neg (show ¬ (false = true) by decide)] at H; exact H
   clear H
   have H := H1
   clear H1
   obtain rfl := Option.some.inj H
   go_enter Try.func46, Try.ntmps46
   go_wp2_with (first | ((with_reducible refine gate_callee (f := 41) rfl ?_); refine goesA_ (some 11) Try.func41 #[.slice A0 l0.length c0] ?_; (with_reducible refine (impl_ValidStages.calls k _ _ l0 true _ ?side1 ?side2 A4.out).mono ?_); (case side1 => exact mvC HR0.out); (case side2 => exact HC0.out); rintro e w23 ⟨rfl, hb⟩; refine ⟨_, rfl, ?_⟩; have n0_ := Aside0.mk (below_step (mvB HB.out) hb); clear HB; revert n0_; intro HB; (try clear hb)) | ((with_reducible refine gate_callee (f := 42) rfl ?_); refine goesA_ (some 15) Try.func42 #[.int .i64 a2] ?_; (with_reducible refine (impl_yearlyOk.calls a2 false _ A6.out).mono ?_); rintro e w' ⟨rfl, ⟨nd, rfl⟩⟩; refine ⟨_, rfl, ?_⟩))
   go_ret
   exact ⟨by first | rfl | (simp [errW_none, errW_some] <;> rfl) | (simp [*, errW_none, errW_some] <;> rfl), mvB HB.out⟩
 ·
  replace c5 := Bool.eq_false_iff.mpr c5
  subst c5
  have H1 : (some 1) = some r := by rw [if_neg (show ¬ (false = true) by decide)] at H; exact H
  clear H
  have H := H1
  clear H1
  obtain rfl := Option.some.inj H
  go_enter Try.func46, Try.ntmps46
  go_wp2_with (first | ((with_reducible refine gate_callee (f := 41) rfl ?_); refine goesA_ (some 11) Try.func41 #[.slice A0 l0.length c0] ?_; (with_reducible refine (impl_ValidStages.calls k _ _ l0 false _ ?side1 ?side2 A4.out).mono ?_); (case side1 => exact mvC HR0.out); (case side2 => exact HC0.out); rintro e w24 ⟨rfl, hb⟩; refine ⟨_, rfl, ?_⟩; have n0_ := Aside0.mk (below_step (mvB HB.out) hb); clear HB; revert n0_; intro HB; (try clear hb)))
  go_ret
  exact ⟨by first | rfl | (simp [errW_none, errW_some] <;> rfl) | (simp [*, errW_none, errW_some] <;> rfl), mvB HB.out⟩

/-! ### impl_yearsOf: function 47 -/
def impl_yearsOf.l0 : Nat → List (S34) → Int → List Int → Int → List Int → Int → Int → Option (List Int)
 | 0, _, _, _, _, _, _, _ => none
 | k + 1, x0, x2, x7, x8, x11, x12, x13 => if x13 < x12 then (if 0 ≤ x13 then (if x13 < (x11.length : Int) then (if 0 ≤ (rd x11 x13) then (if (rd x11 x13) < (x0.length : Int) then ((impl_divUp.f (wrap64 (x8 + ((rd_T34 x0 (rd x11 x13)).f1))) x2).bind fun t294 => (if x7.length < 17592186044416 then (impl_yearsOf.l0 k x0 x2 (x7 ++ [t294]) (wrap64 (x8 + ((rd_T34 x0 (rd x11 x13)).f1))) x11 x12 (wrap64 (x13 + 1))) else (none))) else (none)) else (none)) else (none)) else (none)) else (some x7)
def impl_yearsOf.f (k : Nat) (l0 : List (S34)) (l1 : List Int) (a2 : Int) : Option (List Int) := impl_yearsOf.l0 k l0 a2 ([] : List Int) 0 l1 (l1.length : Int) 0
theorem impl_yearsOf.mono_l : ∀ k, (∀ y0 y1 y2 y3 y4 y5 y6, LeO (impl_yearsOf.l0 k y0 y1 y2 y3 y4 y5 y6) (impl_yearsOf.l0 (k + 1) y0 y1 y2 y3 y4 y5 y6))
 | 0 => fun _ _ _ _ _ _ _ r h => by simp [impl_yearsOf.l0] at h
 | k + 1 => by
  have ih0 := impl_yearsOf.mono_l k
  ·
   intro y0 y1 y2 y3 y4 y5 y6
   unfold impl_yearsOf.l0
   repeat' first
   | (with_reducible exact ih0 _ _ _ _ _ _ _)
   | (with_reducible exact LeO.refl _)
   | (with_reducible exact LeO.none _)
   | (with_reducible refine LeO.ite ?_ ?_)
   | (with_reducible refine LeO.bind ?_ (fun _ => ?_))
   | exact ih0 _ _ _ _ _ _ _
   | exact LeO.none _
   | refine LeO.ite ?_ ?_
   | refine LeO.bind ?_ (fun _ => ?_)
theorem impl_yearsOf.mono : ∀ a0 a1 a2 k, LeO (impl_yearsOf.f k a0 a1 a2) (impl_yearsOf.f (k + 1) a0 a1 a2) := by
 intro a0 a1 a2 k
 have ih0 := impl_yearsOf.mono_l k
 unfold impl_yearsOf.f
 repeat' first
  | (with_reducible exact ih0 _ _ _ _ _ _ _)
  | (with_reducible exact LeO.refl _)
  | (with_reducible exact LeO.none _)
  | (with_reducible refine LeO.ite ?_ ?_)
  | (with_reducible refine LeO.bind ?_ (fun _ => ?_))
  | exact ih0 _ _ _ _ _ _ _
  | exact LeO.none _
  | refine LeO.ite ?_ ?_
  | refine LeO.bind ?_ (fun _ => ?_)
set_option maxHeartbeats 8000000 in
set_option maxRecDepth 100000 in
theorem impl_yearsOf.calls (k : Nat) (A0 : Option Addr) (c0 : Nat) (l0 : List (S34)) (A1 : Option Addr) (c1 : Nat) (l1 : List Int) (a2 : Int) (r : List Int) (w : World) (hr0 : Kd.C k34 w A0 l0.length l0) (hc0 : l0.length ≤ c0) (hr1 : Kd.C (Kd.int .i64) w A1 l1.length l1) (hc1 : l1.length ≤ c1) (h : impl_yearsOf.f k l0 l1 a2 = some r) :
  Calls Try.prog 47 #[.slice A0 l0.length c0, .slice A1 l1.length c1, .int .i64 a2] w fun e w' => ∃ v0_ : Value, e = .returned (v0_) ∧ Kd.R (Kd.int .i64) 2 w' w.heap.size (fun _ => True) v0_ r ∧ Below w.heap.size w w' := by
 have HR0 := Aside0.mk hr0
 have HC0 := Aside0.mk hc0
 clear hr0 hc0
 have HR1 := Aside0.mk hr1
 have HC1 := Aside0.mk hc1
 clear hr1 hc1
 have HB := Aside0.mk (Below.refl w.heap.size w)
 have H : (impl_yearsOf.l0 k l0 a2 ([] : List Int) 0 l1 (l1.length : Int) 0) = some r := h
 clear h
 have H' := Aside0.mk H
 clear H
 go_enter Try.func47, Try.ntmps47
 go_wp2
 go_loopg [7, 8, 13] k (fun kq v7 v8 v13 w' => ∃ (x7_1 : List Int) (x8_1 : Int) (x13_1 : Int), v8 = .int .i64 x8_1 ∧ v13 = .int .i64 x13_1 ∧ Aside0 (impl_yearsOf.l0 kq l0 a2 x7_1 x8_1 l1 (l1.length : Int) x13_1 = some r) ∧ Aside0 (kq ≤ k) ∧ Aside0 (Kd.R (Kd.int .i64) 2 w' w.heap.size (fun _ => True) v7 x7_1) ∧ Aside0 (Below w.heap.size w w'))
 case atStart => exact ⟨(([] : List Int)), (0), (0), rs, rs, H', ⟨Nat.le_refl _⟩, ⟨by first | exact Kd.R_nil _ _ _ _ _ | exact Kd.N_nil _ _ _ _ _ | exact Kd.V_nil _ _ _ _ _ | exact Kd.Q_nil _ _ _ _ _ | exact Kd.S_nil _ _ _ _ _⟩, ⟨mvB HB.out⟩⟩
 case round =>
  clear H'
  obtain ⟨x7_1, x8_1, x13_1, rfl, rfl, HA, HK1, HO_7, HB⟩ := hrel
  cases gk with
  | zero => exact absurd HA.out (by simp [impl_yearsOf.l0])
  | succ k1 =>
   have H := HA.out
   clear HA
   simp only [impl_yearsOf.l0] at H
   by_cases c4 : x13_1 < (l1.length : Int)
   ·
    rw [if_pos c4] at H
    have c4b0 : decide (x13_1 < (l1.length : Int)) = true := decide_eq_true c4
    clear c4
    by_cases c5 : 0 ≤ x13_1
    ·
     rw [if_pos c5] at H
     have c5b0 : decide (0 ≤ x13_1) = true := decide_eq_true c5
     clear c5
     by_cases c6 : x13_1 < (l1.length : Int)
     ·
      rw [if_pos c6] at H
      have c6b0 : decide (x13_1 < (l1.length : Int)) = true := decide_eq_true c6
      clear c6
      by_cases c7 : 0 ≤ (rd l1 x13_1)
      ·
       rw [if_pos c7] at H
       have c7b0 : decide (0 ≤ (rd l1 x13_1)) = true := decide_eq_true c7
       clear c7
       by_cases c8 : (rd l1 x13_1) < (l0.length : Int)
       ·
        rw [if_pos c8] at H
        have c8b0 : decide ((rd l1 x13_1) < (l0.length : Int)) = true := decide_eq_true c8
        clear c8
        replace H := Option.bind_eq_some_iff.mp H
        obtain ⟨t294, A90, H⟩ := H
        replace H : (if x7_1.length < 17592186044416 then (impl_yearsOf.l0 k1 l0 a2 (x7_1 ++ [t294]) (wrap64 (x8_1 + ((rd_T34 l0 (rd l1 x13_1)).f1))) l1 (l1.length : Int) (wrap64 (x13_1 + 1))) else (none)) = some r := H
        have A9 := Aside0.mk A90
        clear A90
        by_cases c10 : x7_1.length < 17592186044416
        ·
         rw [if_pos c10] at H
         have LMc10 := Aside0.mk c10
         clear c10
         obtain ⟨y295, hy295⟩ : ∃ y_ : List Int, y_ = (x7_1 ++ [t294]) := ⟨_, rfl⟩
         replace H : (impl_yearsOf.l0 k1 l0 a2 y295 (wrap64 (x8_1 + ((rd_T34 l0 (rd l1 x13_1)).f1))) l1 (l1.length : Int) (wrap64 (x13_1 + 1))) = some r := by first | (rw [hy295]; with_reducible exact H) | (have H2_ := (Option.bind_some _ _).symm.trans H; rw [hy295]; with_reducible exact H2_) | (have H2_ := (Option.bind_some _ _).symm.trans H; with_reducible exact H2_) | with_reducible exact H | (rw [hy295]; exact H) | exact H
         have Ny295 := Aside0.mk hy295
         clear hy295
         have H' := Aside0.mk H
         clear H
         have p292 : 0 ≤ (x13_1 : Int) := od
         have q292 : x13_1 < (l1.length : Int) := od
         obtain ⟨ad292, e292, hx292_0⟩ := Kd.at_int HR1.out x13_1 p292 q292
         cases e292
         replace hx292_0 := (HB.out.cell (World.block_lt_of_cell? w _ hx292_0)).trans hx292_0
         replace p292 := eq_true p292
         replace q292 := eq_true q292
         have p293 : 0 ≤ ((rd l1 x13_1) : Int) := od
         have q293 : (rd l1 x13_1) < (l0.length : Int) := od
         obtain ⟨ad293, A293_3, c293_3, e293, hx293_0, hx293_1, hx293_2, hx293_3, hl293_3, hi293_3⟩ := at_T34 HR0.out (rd l1 x13_1) p293 q293
         cases e293
         replace hx293_0 := (HB.out.cell (World.block_lt_of_cell? w _ hx293_0)).trans hx293_0
         replace hx293_1 := (HB.out.cell (World.block_lt_of_cell? w _ hx293_1)).trans hx293_1
         replace hx293_2 := (HB.out.cell (World.block_lt_of_cell? w _ hx293_2)).trans hx293_2
         replace hx293_3 := (HB.out.cell (World.block_lt_of_cell? w _ hx293_3)).trans hx293_3
         have HR293_3 := Aside0.mk hi293_3
         have HC293_3 := Aside0.mk hl293_3
         clear hi293_3 hl293_3
         replace p293 := eq_true p293
         replace q293 := eq_true q293
         go_wp2_with (first | ((with_reducible refine gate_callee (f := 84) rfl ?_); refine goesA_ (some 27) Try.func84 #[.int .i64 (wrap64 (x8_1 + ((rd_T34 l0 (rd l1 x13_1)).f1))), .int .i64 a2] ?_; (with_reducible refine (impl_divUp.calls (wrap64 (x8_1 + ((rd_T34 l0 (rd l1 x13_1)).f1))) a2 t294 _ A9.out).mono ?_); rintro e w' ⟨rfl, ⟨nd, rfl⟩⟩; refine ⟨_, rfl, ?_⟩) | ((with_reducible refine gate_builtin (b := .append) (xs := #[.tmp 24, .tmp 28]) rfl ?_); at_builtin; refine Kd.R_append (Kd.int .i64) (w0 := w) w.heap.size rfl (.tmp 24) (.tmp 28) 27 2 (.int .i64 0) 8 rfl Try.underlying27 info2 rfl (by decide) (by omega) u7 x7_1 t294 [.int .i64 t294] (fun _ => True) (fun _ => False) rfl rfl ?aP (fun _ hk => hk.elim) ?aF ?aO ?aB ?aS ?aL ?_; (case aP => exact rfl); (case aB => exact (mvB HB.out)); (case aF => exact (fun _ _ => trivial)); (case aO => exact (mv HO_7.out)); (case aS => exact (below_size (mvB HB.out))); (case aL => have := LMc10.out; omega); intro v296 w11 ho hb hg hat; rw [← Ny295.out] at ho; have n0_ := Aside0.mk (hb); have n1_ := Aside0.mk (ho); clear HB HO_7; revert n0_ n1_; intro HB HO297; clear ho hb hg hat))
         go_roundg k1
         case measure => have := HK1.out; omega
         case rel => exact ⟨(y295), (wrap64 (x8_1 + ((rd_T34 l0 (rd l1 x13_1)).f1))), (wrap64 (x13_1 + 1)), rs, rs, H', ⟨by have := HK1.out; omega⟩, ⟨mv HO297.out⟩, ⟨mvB HB.out⟩⟩
        ·
         rw [if_neg c10] at H
         exact absurd H (by simp)
       ·
        rw [if_neg c8] at H
        exact absurd H (by simp)
      ·
       rw [if_neg c7] at H
       exact absurd H (by simp)
     ·
      rw [if_neg c6] at H
      exact absurd H (by simp)
    ·
     rw [if_neg c5] at H
     exact absurd H (by simp)
   ·
    rw [if_neg c4] at H
    have c4b0 : decide (x13_1 < (l1.length : Int)) = false := decide_eq_false c4
    clear c4
    obtain rfl := Option.some.inj H
    go_wp2
    go_ret
    exact ⟨_, by first | rfl | (simp [errW_none, errW_some] <;> rfl) | (simp [*, errW_none, errW_some] <;> rfl), mv HO_7.out, mvB HB.out⟩

/-! ### impl_YearsOf: function 12 -/
def impl_YearsOf.f (k : Nat) (l0 : List (S34)) (l1 : List Int) (a2 : Int) : Option (List Int × Int) := (impl_planOrderCode.f k l0 l1 a2).bind fun t298 => (if t298 = 0 then ((impl_yearsOf.f k l0 l1 a2).bind fun t299 => (some (t299, 0))) else (some (([] : List Int), t298)))
theorem impl_YearsOf.mono : ∀ a0 a1 a2 k, LeO (impl_YearsOf.f k a0 a1 a2) (impl_YearsOf.f (k + 1) a0 a1 a2) := by
 intro a0 a1 a2 k
 unfold impl_YearsOf.f
 repeat' first
  | (with_reducible exact impl_planOrderCode.mono _ _ _ _)
  | (with_reducible exact impl_yearsOf.mono _ _ _ _)
  | (with_reducible exact LeO.refl _)
  | (with_reducible exact LeO.none _)
  | (with_reducible refine LeO.ite ?_ ?_)
  | (with_reducible refine LeO.bind ?_ (fun _ => ?_))
  | exact impl_planOrderCode.mono _ _ _ _
  | exact impl_yearsOf.mono _ _ _ _
  | exact LeO.none _
  | refine LeO.ite ?_ ?_
  | refine LeO.bind ?_ (fun _ => ?_)
set_option maxHeartbeats 8000000 in
set_option maxRecDepth 100000 in
theorem impl_YearsOf.calls (k : Nat) (A0 : Option Addr) (c0 : Nat) (l0 : List (S34)) (A1 : Option Addr) (c1 : Nat) (l1 : List Int) (a2 : Int) (r1 : List Int) (r2 : Int) (w : World) (hr0 : Kd.C k34 w A0 l0.length l0) (hc0 : l0.length ≤ c0) (hr1 : Kd.C (Kd.int .i64) w A1 l1.length l1) (hc1 : l1.length ≤ c1) (h : impl_YearsOf.f k l0 l1 a2 = some (r1, r2)) :
  Calls Try.prog 12 #[.slice A0 l0.length c0, .slice A1 l1.length c1, .int .i64 a2] w fun e w' => ∃ v0_ : Value, e = .returned (.tuple #[v0_, .int .i64 r2]) ∧ Kd.R (Kd.int .i64) 2 w' w.heap.size (fun _ => True) v0_ r1 ∧ Below w.heap.size w w' := by
 have HR0 := Aside0.mk hr0
 have HC0 := Aside0.mk hc0
 clear hr0 hc0
 have HR1 := Aside0.mk hr1
 have HC1 := Aside0.mk hc1
 clear hr1 hc1
 have HB := Aside0.mk (Below.refl w.heap.size w)
 have H : ((impl_planOrderCode.f k l0 l1 a2).bind fun t298 => (if t298 = 0 then ((impl_yearsOf.f k l0 l1 a2).bind fun t299 => (some (t299, 0))) else (some (([] : List Int), t298)))) = some (r1, r2) := h
 clear h
 replace H := Option.bind_eq_some_iff.mp H
 obtain ⟨t298, A40, H⟩ := H
 replace H : (if t298 = 0 then ((impl_yearsOf.f k l0 l1 a2).bind fun t299 => (some (t299, 0))) else (some (([] : List Int), t298))) = some (r1, r2) := H
 have A4 := Aside0.mk A40
 clear A40
 by_cases c5 : t298 = 0
 ·
  rw [if_pos c5] at H
  have c5b0 : (t298 == 0) = true := beq_iff_eq.mpr c5
  have c5b1 : (t298 != 0) = false := bne_eq_false_iff_eq.mpr c5
  clear c5
  replace H := Option.bind_eq_some_iff.mp H
  obtain ⟨t299, A60, H⟩ := H
  replace H : (some (t299, 0)) = some (r1, r2) := H
  have A6 := Aside0.mk A60
  clear A60
  simp only [Option.some.injEq, Prod.mk.injEq] at H
  obtain ⟨rfl, rfl⟩ := H
  go_enter Try.func12, Try.ntmps12
  go_wp2_with (first | ((with_reducible refine gate_callee (f := 46) rfl ?_); refine goesA_ (some 12) Try.func46 #[.slice A0 l0.length c0, .slice A1 l1.length c1, .int .i64 a2] ?_; (with_reducible refine (impl_planOrderCode.calls k _ _ l0 _ _ l1 a2 t298 _ ?side1 ?side2 ?side3 ?side4 A4.out).mono ?_); (case side1 => exact mvC HR0.out); (case side2 => exact HC0.out); (case side3 => exact mvC HR1.out); (case side4 => exact HC1.out); rintro e w7 ⟨rfl, hb⟩; refine ⟨_, rfl, ?_⟩; have n0_ := Aside0.mk (below_step (mvB HB.out) hb); clear HB; revert n0_; intro HB; (try clear hb)) | ((with_reducible refine gate_callee (f := 47) rfl ?_); refine goesA_ (some 19) Try.func47 #[.slice A0 l0.length c0, .slice A1 l1.length c1, .int .i64 a2] ?_; (with_reducible refine (impl_yearsOf.calls k _ _ l0 _ _ l1 a2 t299 _ ?side1 ?side2 ?side3 ?side4 A6.out).mono ?_); (case side1 => exact mvC (Kd.C_below HR0.out HB.out)); (case side2 => exact HC0.out); (case side3 => exact mvC (Kd.C_below HR1.out HB.out)); (case side4 => exact HC1.out); rintro e w8 ⟨v300, rfl, ho0, hb⟩; refine ⟨_, rfl, ?_⟩; have n0_ := Aside0.mk (Kd.R_lower ho0 (below_size (mvB HB.out))); have n1_ := Aside0.mk (below_step (mvB HB.out) hb); clear HB; revert n0_ n1_; intro HO301 HB; (try clear hb); (try clear ho0)))
  go_ret2
  exact ⟨_, by first | rfl | (simp [errW_none, errW_some] <;> rfl) | (simp [*, errW_none, errW_some] <;> rfl), mv HO301.out, mvB HB.out⟩
 ·
  rw [if_neg c5] at H
  have c5b0 : (t298 == 0) = false := beq_eq_false_iff_ne.mpr c5
  have c5b1 : (t298 != 0) = true := bne_iff_ne.mpr c5
  simp only [Option.some.injEq, Prod.mk.injEq] at H
  obtain ⟨rfl, rfl⟩ := H
  go_enter Try.func12, Try.ntmps12
  go_wp2_with (first | ((with_reducible refine gate_callee (f := 46) rfl ?_); refine goesA_ (some 12) Try.func46 #[.slice A0 l0.length c0, .slice A1 l1.length c1, .int .i64 a2] ?_; (with_reducible refine (impl_planOrderCode.calls k _ _ l0 _ _ l1 a2 t298 _ ?side1 ?side2 ?side3 ?side4 A4.out).mono ?_); (case side1 => exact mvC HR0.out); (case side2 => exact HC0.out); (case side3 => exact mvC HR1.out); (case side4 => exact HC1.out); rintro e w9 ⟨rfl, hb⟩; refine ⟨_, rfl, ?_⟩; have n0_ := Aside0.mk (below_step (mvB HB.out) hb); clear HB; revert n0_; intro HB; (try clear hb)))
  go_ret2
  exact ⟨_, by first | rfl | (simp [errW_none, errW_some] <;> rfl) | (simp [*, errW_none, errW_some] <;> rfl), by first | exact Kd.R_nil _ _ _ _ _ | exact Kd.N_nil _ _ _ _ _ | exact Kd.V_nil _ _ _ _ _ | exact Kd.Q_nil _ _ _ _ _ | exact Kd.S_nil _ _ _ _ _, mvB HB.out⟩

/-! ### spec_l00In: function 62 -/
def spec_l00In.f (a0 : Int) (a1 : Int) (a2 : Int) : Option (Bool) := if a0 ≥ a1 then (some (decide (a0 ≤ a2))) else (some false)
set_option maxHeartbeats 8000000 in
set_option maxRecDepth 100000 in
theorem spec_l00In.calls (a0 : Int) (a1 : Int) (a2 : Int) (r : Bool) (w : World) (h : spec_l00In.f a0 a1 a2 = some r) :
  Calls Try.prog 62 #[.int .i64 a0, .int .i64 a1, .int .i64 a2] w fun e w' => e = .returned (.bool r) ∧ Drawn0 w w' := by
 have H : (if a0 ≥ a1 then (some (decide (a0 ≤ a2))) else (some false)) = some r := h
 clear h
 by_cases c4 : a0 ≥ a1
 ·
  rw [if_pos c4] at H
  have c4b0 : decide (a1 ≤ a0) = true := decide_eq_true c4
  clear c4
  obtain rfl := Option.some.inj H
  go_enter Try.func62, Try.ntmps62
  go_wp2
  go_ret
  exact ⟨rs, dr0⟩
 ·
  rw [if_neg c4] at H
  have c4b0 : decide (a1 ≤ a0) = false := decide_eq_false c4
  clear c4
  obtain rfl := Option.some.inj H
  go_enter Try.func62, Try.ntmps62
  go_wp2
  go_ret
  exact ⟨rs, dr0⟩

/-! ### spec_l24Find: function 98 -/
def spec_l24Find.l0 : Nat → List (S34) → ByteArray → Int → Option (Int)
 | 0, _, _, _ => none
 | k + 1, x0, x1, x5 => if x5 < (x0.length : Int) then (if 0 ≤ x5 then (if ((rd_T34 x0 x5).f0).toList = x1.toList then (some x5) else (spec_l24Find.l0 k x0 x1 (wrap64 (x5 + 1)))) else (none)) else (some (-1))
def spec_l24Find.f (k : Nat) (l0 : List (S34)) (a1 : ByteArray) : Option (Int) := spec_l24Find.l0 k l0 a1 0
theorem spec_l24Find.mono_l : ∀ k, (∀ y0 y1 y2, LeO (spec_l24Find.l0 k y0 y1 y2) (spec_l24Find.l0 (k + 1) y0 y1 y2))
 | 0 => fun _ _ _ r h => by simp [spec_l24Find.l0] at h
 | k + 1 => by
  have ih0 := spec_l24Find.mono_l k
  ·
   intro y0 y1 y2
   unfold spec_l24Find.l0
   repeat' first
   | (with_reducible exact ih0 _ _ _)
   | (with_reducible exact LeO.refl _)
   | (with_reducible exact LeO.none _)
   | (with_reducible refine LeO.ite ?_ ?_)
   | (with_reducible refine LeO.bind ?_ (fun _ => ?_))
   | exact ih0 _ _ _
   | exact LeO.none _
   | refine LeO.ite ?_ ?_
   | refine LeO.bind ?_ (fun _ => ?_)
theorem spec_l24Find.mono : ∀ a0 a1 k, LeO (spec_l24Find.f k a0 a1) (spec_l24Find.f (k + 1) a0 a1) := by
 intro a0 a1 k
 have ih0 := spec_l24Find.mono_l k
 unfold spec_l24Find.f
 repeat' first
  | (with_reducible exact ih0 _ _ _)
  | (with_reducible exact LeO.refl _)
  | (with_reducible exact LeO.none _)
  | (with_reducible refine LeO.ite ?_ ?_)
  | (with_reducible refine LeO.bind ?_ (fun _ => ?_))
  | exact ih0 _ _ _
  | exact LeO.none _
  | refine LeO.ite ?_ ?_
  | refine LeO.bind ?_ (fun _ => ?_)
set_option maxHeartbeats 8000000 in
set_option maxRecDepth 100000 in
theorem spec_l24Find.calls (k : Nat) (A0 : Option Addr) (c0 : Nat) (l0 : List (S34)) (a1 : ByteArray) (r : Int) (w : World) (hr0 : Kd.C k34 w A0 l0.length l0) (hc0 : l0.length ≤ c0) (h : spec_l24Find.f k l0 a1 = some r) :
  Calls Try.prog 98 #[.slice A0 l0.length c0, .string a1] w fun e w' => e = .returned (.int .i64 r) ∧ Drawn0 w w' := by
 have HR0 := Aside0.mk hr0
 have HC0 := Aside0.mk hc0
 clear hr0 hc0
 have H : (spec_l24Find.l0 k l0 a1 0) = some r := h
 clear h
 have H' := Aside0.mk H
 clear H
 go_enter Try.func98, Try.ntmps98
 go_wp2
 go_loopg [5] k (fun kq v5 w' => ∃ (x5_1 : Int), v5 = .int .i64 x5_1 ∧ Aside0 (spec_l24Find.l0 kq l0 a1 x5_1 = some r) ∧ Aside0 (kq ≤ k) ∧ Drawn0 w w')
 case atStart => exact ⟨(0), rs, H', ⟨Nat.le_refl _⟩, dr0⟩
 case round =>
  clear H'
  obtain ⟨x5_1, rfl, HA, HK1, ⟨m1, rfl⟩⟩ := hrel
  cases gk with
  | zero => exact absurd HA.out (by simp [spec_l24Find.l0])
  | succ k1 =>
   have H := HA.out
   clear HA
   simp only [spec_l24Find.l0] at H
   by_cases c3 : x5_1 < (l0.length : Int)
   ·
    rw [if_pos c3] at H
    have c3b0 : decide (x5_1 < (l0.length : Int)) = true := decide_eq_true c3
    clear c3
    by_cases c4 : 0 ≤ x5_1
    ·
     rw [if_pos c4] at H
     have c4b0 : decide (0 ≤ x5_1) = true := decide_eq_true c4
     clear c4
     by_cases c5 : ((rd_T34 l0 x5_1).f0).toList = a1.toList
     ·
      rw [if_pos c5] at H
      have c5b0 : (((rd_T34 l0 x5_1).f0).toList == a1.toList) = true := beq_iff_eq.mpr c5
      have c5b1 : (((rd_T34 l0 x5_1).f0).toList != a1.toList) = false := bne_eq_false_iff_eq.mpr c5
      clear c5
      obtain rfl := Option.some.inj H
      have p302 : 0 ≤ (x5_1 : Int) := od
      have q302 : x5_1 < (l0.length : Int) := od
      obtain ⟨ad302, A302_3, c302_3, e302, hx302_0, hx302_1, hx302_2, hx302_3, hl302_3, hi302_3⟩ := at_T34 HR0.out x5_1 p302 q302
      cases e302
      have HR302_3 := Aside0.mk hi302_3
      have HC302_3 := Aside0.mk hl302_3
      clear hi302_3 hl302_3
      replace p302 := eq_true p302
      replace q302 := eq_true q302
      go_wp2
      go_ret
      exact ⟨rs, dr0⟩
     ·
      rw [if_neg c5] at H
      have c5b0 : (((rd_T34 l0 x5_1).f0).toList == a1.toList) = false := beq_eq_false_iff_ne.mpr c5
      have c5b1 : (((rd_T34 l0 x5_1).f0).toList != a1.toList) = true := bne_iff_ne.mpr c5
      have H' := Aside0.mk H
      clear H
      have p302 : 0 ≤ (x5_1 : Int) := od
      have q302 : x5_1 < (l0.length : Int) := od
      obtain ⟨ad302, A302_3, c302_3, e302, hx302_0, hx302_1, hx302_2, hx302_3, hl302_3, hi302_3⟩ := at_T34 HR0.out x5_1 p302 q302
      cases e302
      have HR302_3 := Aside0.mk hi302_3
      have HC302_3 := Aside0.mk hl302_3
      clear hi302_3 hl302_3
      replace p302 := eq_true p302
      replace q302 := eq_true q302
      go_wp2
      go_roundg k1
      case measure => have := HK1.out; omega
      case rel => exact ⟨(wrap64 (x5_1 + 1)), rs, H', ⟨by have := HK1.out; omega⟩, dr0⟩
    ·
     rw [if_neg c4] at H
     exact absurd H (by simp)
   ·
    rw [if_neg c3] at H
    have c3b0 : decide (x5_1 < (l0.length : Int)) = false := decide_eq_false c3
    clear c3
    obtain rfl := Option.some.inj H
    go_wp2
    go_ret
    exact ⟨rs, dr0⟩

/-! ### spec_l00Has: function 99 -/
def spec_l00Has.l0 : Nat → List Int → Int → Int → Option (Bool)
 | 0, _, _, _ => none
 | k + 1, x0, x1, x5 => if x5 < (x0.length : Int) then (if 0 ≤ x5 then (if (rd x0 x5) = x1 then (some true) else (spec_l00Has.l0 k x0 x1 (wrap64 (x5 + 1)))) else (none)) else (some false)
def spec_l00Has.f (k : Nat) (l0 : List Int) (a1 : Int) : Option (Bool) := spec_l00Has.l0 k l0 a1 0
theorem spec_l00Has.mono_l : ∀ k, (∀ y0 y1 y2, LeO (spec_l00Has.l0 k y0 y1 y2) (spec_l00Has.l0 (k + 1) y0 y1 y2))
 | 0 => fun _ _ _ r h => by simp [spec_l00Has.l0] at h
 | k + 1 => by
  have ih0 := spec_l00Has.mono_l k
  ·
   intro y0 y1 y2
   unfold spec_l00Has.l0
   repeat' first
   | (with_reducible exact ih0 _ _ _)
   | (with_reducible exact LeO.refl _)
   | (with_reducible exact LeO.none _)
   | (with_reducible refine LeO.ite ?_ ?_)
   | (with_reducible refine LeO.bind ?_ (fun _ => ?_))
   | exact ih0 _ _ _
   | exact LeO.none _
   | refine LeO.ite ?_ ?_
   | refine LeO.bind ?_ (fun _ => ?_)
theorem spec_l00Has.mono : ∀ a0 a1 k, LeO (spec_l00Has.f k a0 a1) (spec_l00Has.f (k + 1) a0 a1) := by
 intro a0 a1 k
 have ih0 := spec_l00Has.mono_l k
 unfold spec_l00Has.f
 repeat' first
  | (with_reducible exact ih0 _ _ _)
  | (with_reducible exact LeO.refl _)
  | (with_reducible exact LeO.none _)
  | (with_reducible refine LeO.ite ?_ ?_)
  | (with_reducible refine LeO.bind ?_ (fun _ => ?_))
  | exact ih0 _ _ _
  | exact LeO.none _
  | refine LeO.ite ?_ ?_
  | refine LeO.bind ?_ (fun _ => ?_)
set_option maxHeartbeats 8000000 in
set_option maxRecDepth 100000 in
theorem spec_l00Has.calls (k : Nat) (A0 : Option Addr) (c0 : Nat) (l0 : List Int) (a1 : Int) (r : Bool) (w : World) (hr0 : Kd.C (Kd.int .i64) w A0 l0.length l0) (hc0 : l0.length ≤ c0) (h : spec_l00Has.f k l0 a1 = some r) :
  Calls Try.prog 99 #[.slice A0 l0.length c0, .int .i64 a1] w fun e w' => e = .returned (.bool r) ∧ Drawn0 w w' := by
 have HR0 := Aside0.mk hr0
 have HC0 := Aside0.mk hc0
 clear hr0 hc0
 have H : (spec_l00Has.l0 k l0 a1 0) = some r := h
 clear h
 have H' := Aside0.mk H
 clear H
 go_enter Try.func99, Try.ntmps99
 go_wp2
 go_loopg [5] k (fun kq v5 w' => ∃ (x5_1 : Int), v5 = .int .i64 x5_1 ∧ Aside0 (spec_l00Has.l0 kq l0 a1 x5_1 = some r) ∧ Aside0 (kq ≤ k) ∧ Drawn0 w w')
 case atStart => exact ⟨(0), rs, H', ⟨Nat.le_refl _⟩, dr0⟩
 case round =>
  clear H'
  obtain ⟨x5_1, rfl, HA, HK1, ⟨m1, rfl⟩⟩ := hrel
  cases gk with
  | zero => exact absurd HA.out (by simp [spec_l00Has.l0])
  | succ k1 =>
   have H := HA.out
   clear HA
   simp only [spec_l00Has.l0] at H
   by_cases c3 : x5_1 < (l0.length : Int)
   ·
    rw [if_pos c3] at H
    have c3b0 : decide (x5_1 < (l0.length : Int)) = true := decide_eq_true c3
    clear c3
    by_cases c4 : 0 ≤ x5_1
    ·
     rw [if_pos c4] at H
     have c4b0 : decide (0 ≤ x5_1) = true := decide_eq_true c4
     clear c4
     by_cases c5 : (rd l0 x5_1) = a1
     ·
      rw [if_pos c5] at H
      have c5b0 : ((rd l0 x5_1) == a1) = true := beq_iff_eq.mpr c5
      have c5b1 : ((rd l0 x5_1) != a1) = false := bne_eq_false_iff_eq.mpr c5
      clear c5
      obtain rfl := Option.some.inj H
      have p303 : 0 ≤ (x5_1 : Int) := od
      have q303 : x5_1 < (l0.length : Int) := od
      obtain ⟨ad303, e303, hx303_0⟩ := Kd.at_int HR0.out x5_1 p303 q303
      cases e303
      replace p303 := eq_true p303
      replace q303 := eq_true q303
      go_wp2
      go_ret
      exact ⟨rs, dr0⟩
     ·
      rw [if_neg c5] at H
      have c5b0 : ((rd l0 x5_1) == a1) = false := beq_eq_false_iff_ne.mpr c5
      have c5b1 : ((rd l0 x5_1) != a1) = true := bne_iff_ne.mpr c5
      have H' := Aside0.mk H
      clear H
      have p303 : 0 ≤ (x5_1 : Int) := od
      have q303 : x5_1 < (l0.length : Int) := od
      obtain ⟨ad303, e303, hx303_0⟩ := Kd.at_int HR0.out x5_1 p303 q303
      cases e303
      replace p303 := eq_true p303
      replace q303 := eq_true q303
      go_wp2
      go_roundg k1
      case measure => have := HK1.out; omega
      case rel => exact ⟨(wrap64 (x5_1 + 1)), rs, H', ⟨by have := HK1.out; omega⟩, dr0⟩
    ·
     rw [if_neg c4] at H
     exact absurd H (by simp)
   ·
    rw [if_neg c3] at H
    have c3b0 : decide (x5_1 < (l0.length : Int)) = false := decide_eq_false c3
    clear c3
    obtain rfl := Option.some.inj H
    go_wp2
    go_ret
    exact ⟨rs, dr0⟩

/-! ### spec_l24Ready: function 87 -/
def spec_l24Ready.l0 : Nat → List (S34) → List Int → Int → Int → Option (Bool)
 | 0, _, _, _, _ => none
 | k + 1, x0, x1, x2, x7 => if 0 ≤ x2 then (if x2 < (x0.length : Int) then (if x7 < (((rd_T34 x0 x2).f3).length : Int) then (if 0 ≤ x7 then ((spec_l24Find.f k x0 (rdOf ByteArray.empty ((rd_T34 x0 x2).f3) x7)).bind fun t307 => ((spec_l00Has.f k x1 t307).bind fun t308 => (if t308 = true then (spec_l24Ready.l0 k x0 x1 x2 (wrap64 (x7 + 1))) else (some false)))) else (none)) else (some true)) else (none)) else (none)
def spec_l24Ready.f (k : Nat) (l0 : List (S34)) (l1 : List Int) (a2 : Int) : Option (Bool) := spec_l24Ready.l0 k l0 l1 a2 0
theorem spec_l24Ready.mono_l : ∀ k, (∀ y0 y1 y2 y3, LeO (spec_l24Ready.l0 k y0 y1 y2 y3) (spec_l24Ready.l0 (k + 1) y0 y1 y2 y3))
 | 0 => fun _ _ _ _ r h => by simp [spec_l24Ready.l0] at h
 | k + 1 => by
  have ih0 := spec_l24Ready.mono_l k
  ·
   intro y0 y1 y2 y3
   unfold spec_l24Ready.l0
   repeat' first
   | (with_reducible exact ih0 _ _ _ _)
   | (with_reducible exact spec_l00Has.mono _ _ _)
   | (with_reducible exact spec_l24Find.mono _ _ _)
   | (with_reducible exact LeO.refl _)
   | (with_reducible exact LeO.none _)
   | (with_reducible refine LeO.ite ?_ ?_)
   | (with_reducible refine LeO.bind ?_ (fun _ => ?_))
   | exact ih0 _ _ _ _
   | exact spec_l00Has.mono _ _ _
   | exact spec_l24Find.mono _ _ _
   | exact LeO.none _
   | refine LeO.ite ?_ ?_
   | refine LeO.bind ?_ (fun _ => ?_)
theorem spec_l24Ready.mono : ∀ a0 a1 a2 k, LeO (spec_l24Ready.f k a0 a1 a2) (spec_l24Ready.f (k + 1) a0 a1 a2) := by
 intro a0 a1 a2 k
 have ih0 := spec_l24Ready.mono_l k
 unfold spec_l24Ready.f
 repeat' first
  | (with_reducible exact ih0 _ _ _ _)
  | (with_reducible exact spec_l00Has.mono _ _ _)
  | (with_reducible exact spec_l24Find.mono _ _ _)
  | (with_reducible exact LeO.refl _)
  | (with_reducible exact LeO.none _)
  | (with_reducible refine LeO.ite ?_ ?_)
  | (with_reducible refine LeO.bind ?_ (fun _ => ?_))
  | exact ih0 _ _ _ _
  | exact spec_l00Has.mono _ _ _
  | exact spec_l24Find.mono _ _ _
  | exact LeO.none _
  | refine LeO.ite ?_ ?_
  | refine LeO.bind ?_ (fun _ => ?_)
set_option maxHeartbeats 8000000 in
set_option maxRecDepth 100000 in
theorem spec_l24Ready.calls (k : Nat) (A0 : Option Addr) (c0 : Nat) (l0 : List (S34)) (A1 : Option Addr) (c1 : Nat) (l1 : List Int) (a2 : Int) (r : Bool) (w : World) (hr0 : Kd.C k34 w A0 l0.length l0) (hc0 : l0.length ≤ c0) (hr1 : Kd.C (Kd.int .i64) w A1 l1.length l1) (hc1 : l1.length ≤ c1) (h : spec_l24Ready.f k l0 l1 a2 = some r) :
  Calls Try.prog 87 #[.slice A0 l0.length c0, .slice A1 l1.length c1, .int .i64 a2] w fun e w' => e = .returned (.bool r) ∧ Drawn0 w w' := by
 have HR0 := Aside0.mk hr0
 have HC0 := Aside0.mk hc0
 clear hr0 hc0
 have HR1 := Aside0.mk hr1
 have HC1 := Aside0.mk hc1
 clear hr1 hc1
 have H : (spec_l24Ready.l0 k l0 l1 a2 0) = some r := h
 clear h
 have H' := Aside0.mk H
 clear H
 go_enter Try.func87, Try.ntmps87
 go_wp2
 go_loopg [7] k (fun kq v7 w' => ∃ (x7_1 : Int), v7 = .int .i64 x7_1 ∧ Aside0 (spec_l24Ready.l0 kq l0 l1 a2 x7_1 = some r) ∧ Aside0 (kq ≤ k) ∧ Drawn0 w w')
 case atStart => exact ⟨(0), rs, H', ⟨Nat.le_refl _⟩, dr0⟩
 case round =>
  clear H'
  obtain ⟨x7_1, rfl, HA, HK1, ⟨m1, rfl⟩⟩ := hrel
  cases gk with
  | zero => exact absurd HA.out (by simp [spec_l24Ready.l0])
  | succ k1 =>
   have H := HA.out
   clear HA
   simp only [spec_l24Ready.l0] at H
   by_cases c4 : 0 ≤ a2
   ·
    rw [if_pos c4] at H
    have c4b0 : decide (0 ≤ a2) = true := decide_eq_true c4
    clear c4
    by_cases c5 : a2 < (l0.length : Int)
    ·
     rw [if_pos c5] at H
     have c5b0 : decide (a2 < (l0.length : Int)) = true := decide_eq_true c5
     clear c5
     by_cases c6 : x7_1 < (((rd_T34 l0 a2).f3).length : Int)
     ·
      rw [if_pos c6] at H
      have c6b0 : decide (x7_1 < (((rd_T34 l0 a2).f3).length : Int)) = true := decide_eq_true c6
      clear c6
      by_cases c7 : 0 ≤ x7_1
      ·
       rw [if_pos c7] at H
       have c7b0 : decide (0 ≤ x7_1) = true := decide_eq_true c7
       clear c7
       replace H := Option.bind_eq_some_iff.mp H
       obtain ⟨t307, A80, H⟩ := H
       replace H : ((spec_l00Has.f k1 l1 t307).bind fun t308 => (if t308 = true then (spec_l24Ready.l0 k1 l0 l1 a2 (wrap64 (x7_1 + 1))) else (some false))) = some r := H
       have A8 := Aside0.mk A80
       clear A80
       replace H := Option.bind_eq_some_iff.mp H
       obtain ⟨t308, A90, H⟩ := H
       replace H : (if t308 = true then (spec_l24Ready.l0 k1 l0 l1 a2 (wrap64 (x7_1 + 1))) else (some false)) = some r := H
       have A9 := Aside0.mk A90
       clear A90
       by_cases c10 : t308 = true
       ·
        subst c10
        have H1 : (spec_l24Ready.l0 k1 l0 l1 a2 (wrap64 (x7_1 + 1))) = some r := by rw [if_pos rfl] at H; exact H
        clear H
        have H := H1
        clear H1
        have H' := Aside0.mk H
        clear H
        have p304 : 0 ≤ (a2 : Int) := od
        have q304 : a2 < (l0.length : Int) := od
        obtain ⟨ad304, A304_3, c304_3, e304, hx304_0, hx304_1, hx304_2, hx304_3, hl304_3, hi304_3⟩ := at_T34 HR0.out a2 p304 q304
        cases e304
        have HR304_3 := Aside0.mk hi304_3
        have HC304_3 := Aside0.mk hl304_3
        clear hi304_3 hl304_3
        replace p304 := eq_true p304
        replace q304 := eq_true q304
        have p305 : 0 ≤ (a2 : Int) := od
        have q305 : a2 < (l0.length : Int) := od
        obtain ⟨ad305, A305_3, c305_3, e305, hx305_0, hx305_1, hx305_2, hx305_3, hl305_3, hi305_3⟩ := at_T34 HR0.out a2 p305 q305
        obtain rfl : ad304 = ad305 := (by injection e305)
        have HR305_3 := Aside0.mk hi305_3
        have HC305_3 := Aside0.mk hl305_3
        clear hi305_3 hl305_3
        replace p305 := eq_true p305
        replace q305 := eq_true q305
        have ea_ := Option.some.inj (hx304_3.symm.trans hx305_3)
        injection ea_ with ea_ en_ ec_
        subst ea_
        subst ec_
        clear en_
        have p306 : 0 ≤ (x7_1 : Int) := od
        have q306 : x7_1 < (((rd_T34 l0 a2).f3).length : Int) := od
        obtain ⟨ad306, e306, hx306_0⟩ := Kd.at_string HR305_3.out x7_1 p306 q306
        cases e306
        replace p306 := eq_true p306
        replace q306 := eq_true q306
        go_wp2_with (first | ((with_reducible refine gate_callee (f := 98) rfl ?_); refine goesA_ (some 28) Try.func98 #[.slice (some ad304) l0.length c0, .string (rdOf ByteArray.empty ((rd_T34 l0 a2).f3) x7_1)] ?_; (with_reducible refine (spec_l24Find.calls k1 _ _ l0 (rdOf ByteArray.empty ((rd_T34 l0 a2).f3) x7_1) t307 _ ?side1 ?side2 A8.out).mono ?_); (case side1 => exact mvC HR0.out); (case side2 => exact HC0.out); rintro e w' ⟨rfl, ⟨nd, rfl⟩⟩; refine ⟨_, rfl, ?_⟩) | ((with_reducible refine gate_callee (f := 99) rfl ?_); refine goesA_ (some 29) Try.func99 #[.slice A1 l1.length c1, .int .i64 t307] ?_; (with_reducible refine (spec_l00Has.calls k1 _ _ l1 t307 true _ ?side1 ?side2 A9.out).mono ?_); (case side1 => exact mvC HR1.out); (case side2 => exact HC1.out); rintro e w' ⟨rfl, ⟨nd, rfl⟩⟩; refine ⟨_, rfl, ?_⟩))
        go_roundg k1
        case measure => have := HK1.out; omega
        case rel => exact ⟨(wrap64 (x7_1 + 1)), rs, H', ⟨by have := HK1.out; omega⟩, dr0⟩
       ·
        replace c10 := Bool.eq_false_iff.mpr c10
        subst c10
        have H1 : (some false) = some r := by rw [if_neg (show ¬ (false = true) by decide)] at H; exact H
        clear H
        have H := H1
        clear H1
        obtain rfl := Option.some.inj H
        have p304 : 0 ≤ (a2 : Int) := od
        have q304 : a2 < (l0.length : Int) := od
        obtain ⟨ad304, A304_3, c304_3, e304, hx304_0, hx304_1, hx304_2, hx304_3, hl304_3, hi304_3⟩ := at_T34 HR0.out a2 p304 q304
        cases e304
        have HR304_3 := Aside0.mk hi304_3
        have HC304_3 := Aside0.mk hl304_3
        clear hi304_3 hl304_3
        replace p304 := eq_true p304
        replace q304 := eq_true q304
        have p305 : 0 ≤ (a2 : Int) := od
        have q305 : a2 < (l0.length : Int) := od
        obtain ⟨ad305, A305_3, c305_3, e305, hx305_0, hx305_1, hx305_2, hx305_3, hl305_3, hi305_3⟩ := at_T34 HR0.out a2 p305 q305
        obtain rfl : ad304 = ad305 := (by injection e305)
        have HR305_3 := Aside0.mk hi305_3
        have HC305_3 := Aside0.mk hl305_3
        clear hi305_3 hl305_3
        replace p305 := eq_true p305
        replace q305 := eq_true q305
        have ea_ := Option.some.inj (hx304_3.symm.trans hx305_3)
        injection ea_ with ea_ en_ ec_
        subst ea_
        subst ec_
        clear en_
        have p306 : 0 ≤ (x7_1 : Int) := od
        have q306 : x7_1 < (((rd_T34 l0 a2).f3).length : Int) := od
        obtain ⟨ad306, e306, hx306_0⟩ := Kd.at_string HR305_3.out x7_1 p306 q306
        cases e306
        replace p306 := eq_true p306
        replace q306 := eq_true q306
        go_wp2_with (first | ((with_reducible refine gate_callee (f := 98) rfl ?_); refine goesA_ (some 28) Try.func98 #[.slice (some ad304) l0.length c0, .string (rdOf ByteArray.empty ((rd_T34 l0 a2).f3) x7_1)] ?_; (with_reducible refine (spec_l24Find.calls k1 _ _ l0 (rdOf ByteArray.empty ((rd_T34 l0 a2).f3) x7_1) t307 _ ?side1 ?side2 A8.out).mono ?_); (case side1 => exact mvC HR0.out); (case side2 => exact HC0.out); rintro e w' ⟨rfl, ⟨nd, rfl⟩⟩; refine ⟨_, rfl, ?_⟩) | ((with_reducible refine gate_callee (f := 99) rfl ?_); refine goesA_ (some 29) Try.func99 #[.slice A1 l1.length c1, .int .i64 t307] ?_; (with_reducible refine (spec_l00Has.calls k1 _ _ l1 t307 false _ ?side1 ?side2 A9.out).mono ?_); (case side1 => exact mvC HR1.out); (case side2 => exact HC1.out); rintro e w' ⟨rfl, ⟨nd, rfl⟩⟩; refine ⟨_, rfl, ?_⟩))
        go_ret
        exact ⟨rs, dr0⟩
      ·
       rw [if_neg c7] at H
       exact absurd H (by simp)
     ·
      rw [if_neg c6] at H
      have c6b0 : decide (x7_1 < (((rd_T34 l0 a2).f3).length : Int)) = false := decide_eq_false c6
      clear c6
      obtain rfl := Option.some.inj H
      have p304 : 0 ≤ (a2 : Int) := od
      have q304 : a2 < (l0.length : Int) := od
      obtain ⟨ad304, A304_3, c304_3, e304, hx304_0, hx304_1, hx304_2, hx304_3, hl304_3, hi304_3⟩ := at_T34 HR0.out a2 p304 q304
      cases e304
      have HR304_3 := Aside0.mk hi304_3
      have HC304_3 := Aside0.mk hl304_3
      clear hi304_3 hl304_3
      replace p304 := eq_true p304
      replace q304 := eq_true q304
      go_wp2
      go_ret
      exact ⟨rs, dr0⟩
    ·
     rw [if_neg c5] at H
     exact absurd H (by simp)
   ·
    rw [if_neg c4] at H
    exact absurd H (by simp)

/-! ### spec_l01Small: function 118 -/
def spec_l01Small.f (a0 : Int) : Option (Bool) := if a0 ≥ 97 then (some (decide (a0 ≤ 122))) else (some false)
set_option maxHeartbeats 8000000 in
set_option maxRecDepth 100000 in
theorem spec_l01Small.calls (a0 : Int) (r : Bool) (w : World) (h : spec_l01Small.f a0 = some r) :
  Calls Try.prog 118 #[.int .u8 a0] w fun e w' => e = .returned (.bool r) ∧ Drawn0 w w' := by
 have H : (if a0 ≥ 97 then (some (decide (a0 ≤ 122))) else (some false)) = some r := h
 clear h
 by_cases c2 : a0 ≥ 97
 ·
  rw [if_pos c2] at H
  have c2b0 : decide (97 ≤ a0) = true := decide_eq_true c2
  clear c2
  obtain rfl := Option.some.inj H
  go_enter Try.func118, Try.ntmps118
  go_wp2
  go_ret
  exact ⟨rs, dr0⟩
 ·
  rw [if_neg c2] at H
  have c2b0 : decide (97 ≤ a0) = false := decide_eq_false c2
  clear c2
  obtain rfl := Option.some.inj H
  go_enter Try.func118, Try.ntmps118
  go_wp2
  go_ret
  exact ⟨rs, dr0⟩

end Go.Proofs.Ytmbiapefigcgnaa.PFnPlans
