-- written by a program of this session (mkp.py) out of the translation; Lean checks it. -- squeezed
import Derived.Test.YtmbiapefigcgnaaPFnStagesx0
import Derived.Test.YtmbiapefigcgnaaPFnStagesx1
import Derived.Test.YtmbiapefigcgnaaPFnStagesx9
namespace Go.Proofs.Ytmbiapefigcgnaa.PFnStages
open Go.RowKit Go.Proofs.YtmbiapefigcgnaaW.PrintWords Go.Proofs.YtmbiapefigcgnaaW.PrintLast Go.Proofs.YtmbiapefigcgnaaW.PrintMore
attribute [local go_sem] bin_leq bin_gtr bin_geq max2_int min2_int max_two min_two max_three min_three max_four min_four   -- for this text's walks alone
set_option linter.unusedVariables false
set_option linter.unusedSimpArgs false

/-! ### impl_ReadyStages: function 36 -/
def impl_ReadyStages.l0 : Nat → List (S34) → List Int → List Int → Int → Int → Option (List Int × Int)
 | 0, _, _, _, _, _ => none
 | k + 1, x0, x1, x7, x16, x17 => if x17 < x16 then ((slices_Contains_int64_int64.f k x1 x17).bind fun t409 => (if t409 = true then (impl_ReadyStages.l0 k x0 x1 x7 x16 (wrap64 (x17 + 1))) else ((impl_hasNeeds.f x0 x1 x17).bind fun t410 => (if t410 = true then (if x7.length < 17592186044416 then (impl_ReadyStages.l0 k x0 x1 (x7 ++ [x17]) x16 (wrap64 (x17 + 1))) else (none)) else (impl_ReadyStages.l0 k x0 x1 x7 x16 (wrap64 (x17 + 1))))))) else (some (x7, 0))
def impl_ReadyStages.f (k : Nat) (l0 : List (S34)) (l1 : List Int) : Option (List Int × Int) := (impl_builtCode.f k l0 l1).bind fun t408 => (if t408 = 0 then (impl_ReadyStages.l0 k l0 l1 ([] : List Int) (l0.length : Int) 0) else (some (([] : List Int), t408)))
theorem impl_ReadyStages.mono_l : ∀ k, (∀ y0 y1 y2 y3 y4, LeO (impl_ReadyStages.l0 k y0 y1 y2 y3 y4) (impl_ReadyStages.l0 (k + 1) y0 y1 y2 y3 y4))
 | 0 => fun _ _ _ _ _ r h => by simp [impl_ReadyStages.l0] at h
 | k + 1 => by
  have ih0 := impl_ReadyStages.mono_l k
  ·
   intro y0 y1 y2 y3 y4
   unfold impl_ReadyStages.l0
   repeat' first
   | (with_reducible exact ih0 _ _ _ _ _)
   | (with_reducible exact impl_builtCode.mono _ _ _)
   | (with_reducible exact slices_Contains_int64_int64.mono _ _ _)
   | (with_reducible exact LeO.refl _)
   | (with_reducible exact LeO.none _)
   | (with_reducible refine LeO.ite ?_ ?_)
   | (with_reducible refine LeO.bind ?_ (fun _ => ?_))
   | exact ih0 _ _ _ _ _
   | exact impl_builtCode.mono _ _ _
   | exact slices_Contains_int64_int64.mono _ _ _
   | exact LeO.none _
   | refine LeO.ite ?_ ?_
   | refine LeO.bind ?_ (fun _ => ?_)
theorem impl_ReadyStages.mono : ∀ a0 a1 k, LeO (impl_ReadyStages.f k a0 a1) (impl_ReadyStages.f (k + 1) a0 a1) := by
 intro a0 a1 k
 have ih0 := impl_ReadyStages.mono_l k
 unfold impl_ReadyStages.f
 repeat' first
  | (with_reducible exact ih0 _ _ _ _ _)
  | (with_reducible exact impl_builtCode.mono _ _ _)
  | (with_reducible exact slices_Contains_int64_int64.mono _ _ _)
  | (with_reducible exact LeO.refl _)
  | (with_reducible exact LeO.none _)
  | (with_reducible refine LeO.ite ?_ ?_)
  | (with_reducible refine LeO.bind ?_ (fun _ => ?_))
  | exact ih0 _ _ _ _ _
  | exact impl_builtCode.mono _ _ _
  | exact slices_Contains_int64_int64.mono _ _ _
  | exact LeO.none _
  | refine LeO.ite ?_ ?_
  | refine LeO.bind ?_ (fun _ => ?_)
set_option maxHeartbeats 8000000 in
set_option maxRecDepth 100000 in
theorem impl_ReadyStages.calls (k : Nat) (A0 : Option Addr) (c0 : Nat) (l0 : List (S34)) (A1 : Option Addr) (c1 : Nat) (l1 : List Int) (r1 : List Int) (r2 : Int) (w : World) (hr0 : Kd.C k34 w A0 l0.length l0) (hc0 : l0.length ≤ c0) (hr1 : Kd.C (Kd.int .i64) w A1 l1.length l1) (hc1 : l1.length ≤ c1) (h : impl_ReadyStages.f k l0 l1 = some (r1, r2)) :
  Calls Try.prog 36 #[.slice A0 l0.length c0, .slice A1 l1.length c1] w fun e w' => ∃ v0_ : Value, e = .returned (.tuple #[v0_, .int .i64 r2]) ∧ Kd.R (Kd.int .i64) 2 w' w.heap.size (fun _ => True) v0_ r1 ∧ Below w.heap.size w w' := by
 have HR0 := Aside0.mk hr0
 have HC0 := Aside0.mk hc0
 clear hr0 hc0
 have HR1 := Aside0.mk hr1
 have HC1 := Aside0.mk hc1
 clear hr1 hc1
 have HB := Aside0.mk (Below.refl w.heap.size w)
 have H : ((impl_builtCode.f k l0 l1).bind fun t408 => (if t408 = 0 then (impl_ReadyStages.l0 k l0 l1 ([] : List Int) (l0.length : Int) 0) else (some (([] : List Int), t408)))) = some (r1, r2) := h
 clear h
 replace H := Option.bind_eq_some_iff.mp H
 obtain ⟨t408, A30, H⟩ := H
 replace H : (if t408 = 0 then (impl_ReadyStages.l0 k l0 l1 ([] : List Int) (l0.length : Int) 0) else (some (([] : List Int), t408))) = some (r1, r2) := H
 have A3 := Aside0.mk A30
 clear A30
 by_cases c4 : t408 = 0
 ·
  rw [if_pos c4] at H
  have c4b0 : (t408 == 0) = true := beq_iff_eq.mpr c4
  have c4b1 : (t408 != 0) = false := bne_eq_false_iff_eq.mpr c4
  clear c4
  have H' := Aside0.mk H
  clear H
  go_enter Try.func36, Try.ntmps36
  go_wp2_with (first | ((with_reducible refine gate_callee (f := 68) rfl ?_); refine goesA_ (some 11) Try.func68 #[.slice A0 l0.length c0, .slice A1 l1.length c1] ?_; (with_reducible refine (impl_builtCode.calls k _ _ l0 _ _ l1 t408 _ ?side1 ?side2 ?side3 ?side4 A3.out).mono ?_); (case side1 => exact mvC HR0.out); (case side2 => exact HC0.out); (case side3 => exact mvC HR1.out); (case side4 => exact HC1.out); rintro e w5 ⟨rfl, hb⟩; refine ⟨_, rfl, ?_⟩; have n0_ := Aside0.mk (below_step (mvB HB.out) hb); clear HB; revert n0_; intro HB; (try clear hb)))
  go_loopg [7, 17] k (fun kq v7 v17 w' => ∃ (x7_1 : List Int) (x17_1 : Int), v17 = .int .i64 x17_1 ∧ Aside0 (impl_ReadyStages.l0 kq l0 l1 x7_1 (l0.length : Int) x17_1 = some (r1, r2)) ∧ Aside0 (kq ≤ k) ∧ Aside0 (Kd.R (Kd.int .i64) 2 w' w.heap.size (fun _ => True) v7 x7_1) ∧ Aside0 (Below w.heap.size w w'))
  case atStart => exact ⟨(([] : List Int)), (0), rs, H', ⟨Nat.le_refl _⟩, ⟨by first | exact Kd.R_nil _ _ _ _ _ | exact Kd.N_nil _ _ _ _ _ | exact Kd.V_nil _ _ _ _ _ | exact Kd.Q_nil _ _ _ _ _ | exact Kd.S_nil _ _ _ _ _⟩, ⟨mvB HB.out⟩⟩
  case round =>
   clear H'
   try clear c4b0
   try clear c4b1
   obtain ⟨x7_1, x17_1, rfl, HA, HK1, HO_7, HB⟩ := hrel
   cases gk with
   | zero => exact absurd HA.out (by simp [impl_ReadyStages.l0])
   | succ k1 =>
    have H := HA.out
    clear HA
    simp only [impl_ReadyStages.l0] at H
    by_cases c6 : x17_1 < (l0.length : Int)
    ·
     rw [if_pos c6] at H
     have c6b0 : decide (x17_1 < (l0.length : Int)) = true := decide_eq_true c6
     clear c6
     replace H := Option.bind_eq_some_iff.mp H
     obtain ⟨t409, A70, H⟩ := H
     replace H : (if t409 = true then (impl_ReadyStages.l0 k1 l0 l1 x7_1 (l0.length : Int) (wrap64 (x17_1 + 1))) else ((impl_hasNeeds.f l0 l1 x17_1).bind fun t410 => (if t410 = true then (if x7_1.length < 17592186044416 then (impl_ReadyStages.l0 k1 l0 l1 (x7_1 ++ [x17_1]) (l0.length : Int) (wrap64 (x17_1 + 1))) else (none)) else (impl_ReadyStages.l0 k1 l0 l1 x7_1 (l0.length : Int) (wrap64 (x17_1 + 1)))))) = some (r1, r2) := H
     have A7 := Aside0.mk A70
     clear A70
     by_cases c8 : t409 = true
     ·
      subst c8
      have H1 : (impl_ReadyStages.l0 k1 l0 l1 x7_1 (l0.length : Int) (wrap64 (x17_1 + 1))) = some (r1, r2) := by rw [if_pos rfl] at H; exact H
      clear H
      have H := H1
      clear H1
      have H' := Aside0.mk H
      clear H
      go_wp2_with (first | ((with_reducible refine gate_callee (f := 74) rfl ?_); refine goesA_ (some 22) Try.func74 #[.slice A1 l1.length c1, .int .i64 x17_1] ?_; (with_reducible refine (slices_Contains_int64_int64.calls k1 _ _ l1 x17_1 true _ ?side1 ?side2 A7.out).mono ?_); (case side1 => exact mvC (Kd.C_below HR1.out HB.out)); (case side2 => exact HC1.out); rintro e w' ⟨rfl, ⟨nd, rfl⟩⟩; refine ⟨_, rfl, ?_⟩))
      go_roundg k1
      case measure => have := HK1.out; omega
      case rel => exact ⟨(x7_1), (wrap64 (x17_1 + 1)), rs, H', ⟨by have := HK1.out; omega⟩, ⟨mv HO_7.out⟩, ⟨mvB HB.out⟩⟩
     ·
      replace c8 := Bool.eq_false_iff.mpr c8
      subst c8
      have H1 : ((impl_hasNeeds.f l0 l1 x17_1).bind fun t410 => (if t410 = true then (if x7_1.length < 17592186044416 then (impl_ReadyStages.l0 k1 l0 l1 (x7_1 ++ [x17_1]) (l0.length : Int) (wrap64 (x17_1 + 1))) else (none)) else (impl_ReadyStages.l0 k1 l0 l1 x7_1 (l0.length : Int) (wrap64 (x17_1 + 1))))) = some (r1, r2) := by rw [if_neg (show ¬ (false = true) by decide)] at H; exact H
      clear H
      have H := H1
      clear H1
      replace H := Option.bind_eq_some_iff.mp H
      obtain ⟨t410, A90, H⟩ := H
      replace H : (if t410 = true then (if x7_1.length < 17592186044416 then (impl_ReadyStages.l0 k1 l0 l1 (x7_1 ++ [x17_1]) (l0.length : Int) (wrap64 (x17_1 + 1))) else (none)) else (impl_ReadyStages.l0 k1 l0 l1 x7_1 (l0.length : Int) (wrap64 (x17_1 + 1)))) = some (r1, r2) := H
      have A9 := Aside0.mk A90
      clear A90
      by_cases c10 : t410 = true
      ·
       subst c10
       have H1 : (if x7_1.length < 17592186044416 then (impl_ReadyStages.l0 k1 l0 l1 (x7_1 ++ [x17_1]) (l0.length : Int) (wrap64 (x17_1 + 1))) else (none)) = some (r1, r2) := by rw [if_pos rfl] at H; exact H
       clear H
       have H := H1
       clear H1
       by_cases c11 : x7_1.length < 17592186044416
       ·
        rw [if_pos c11] at H
        have LMc11 := Aside0.mk c11
        clear c11
        obtain ⟨y411, hy411⟩ : ∃ y_ : List Int, y_ = (x7_1 ++ [x17_1]) := ⟨_, rfl⟩
        replace H : (impl_ReadyStages.l0 k1 l0 l1 y411 (l0.length : Int) (wrap64 (x17_1 + 1))) = some (r1, r2) := by first | (rw [hy411]; with_reducible exact H) | (have H2_ := (Option.bind_some _ _).symm.trans H; rw [hy411]; with_reducible exact H2_) | (have H2_ := (Option.bind_some _ _).symm.trans H; with_reducible exact H2_) | with_reducible exact H | (rw [hy411]; exact H) | exact H
        have Ny411 := Aside0.mk hy411
        clear hy411
        have H' := Aside0.mk H
        clear H
        go_wp2_with (first | ((with_reducible refine gate_callee (f := 74) rfl ?_); refine goesA_ (some 22) Try.func74 #[.slice A1 l1.length c1, .int .i64 x17_1] ?_; (with_reducible refine (slices_Contains_int64_int64.calls k1 _ _ l1 x17_1 false _ ?side1 ?side2 A7.out).mono ?_); (case side1 => exact mvC (Kd.C_below HR1.out HB.out)); (case side2 => exact HC1.out); rintro e w' ⟨rfl, ⟨nd, rfl⟩⟩; refine ⟨_, rfl, ?_⟩) | (go_at_call 75; (with_reducible refine (impl_hasNeeds.calls _ _ l0 _ _ l1 x17_1 true _ ?side1 ?side2 ?side3 ?side4 A9.out).mono ?_); (case side1 => exact mvC (Kd.C_below HR0.out (mvB HB.out))); (case side2 => exact HC0.out); (case side3 => exact mvC (Kd.C_below HR1.out (mvB HB.out))); (case side4 => exact HC1.out); rintro e w12 ⟨rfl, hb⟩; have n0_ := Aside0.mk (Kd.R_below (mv HO_7.out) hb); have n1_ := Aside0.mk (below_step (mvB HB.out) hb); clear HO_7 HB; revert n0_ n1_; intro HO_7 HB; (try clear hb); (try clear hk)) | ((with_reducible refine gate_builtin (b := .append) (xs := #[.tmp 30, .tmp 32]) rfl ?_); at_builtin; refine Kd.R_append (Kd.int .i64) (w0 := w) w.heap.size rfl (.tmp 30) (.tmp 32) 27 2 (.int .i64 0) 8 rfl Try.underlying27 info2 rfl (by decide) (by omega) u7 x7_1 x17_1 [.int .i64 x17_1] (fun _ => True) (fun _ => False) rfl rfl ?aP (fun _ hk => hk.elim) ?aF ?aO ?aB ?aS ?aL ?_; (case aP => exact rfl); (case aB => exact (mvB HB.out)); (case aF => exact (fun _ _ => trivial)); (case aO => exact (mv HO_7.out)); (case aS => exact (below_size (mvB HB.out))); (case aL => have := LMc11.out; omega); intro v412 w13 ho hb hg hat; rw [← Ny411.out] at ho; have n0_ := Aside0.mk (hb); have n1_ := Aside0.mk (ho); clear HB HO_7; revert n0_ n1_; intro HB HO413; clear ho hb hg hat))
        go_roundg k1
        case measure => have := HK1.out; omega
        case rel => exact ⟨(y411), (wrap64 (x17_1 + 1)), rs, H', ⟨by have := HK1.out; omega⟩, ⟨mv HO413.out⟩, ⟨mvB HB.out⟩⟩
       ·
        rw [if_neg c11] at H
        exact absurd H (by simp)
      ·
       replace c10 := Bool.eq_false_iff.mpr c10
       subst c10
       have H1 : (impl_ReadyStages.l0 k1 l0 l1 x7_1 (l0.length : Int) (wrap64 (x17_1 + 1))) = some (r1, r2) := by rw [if_neg (show ¬ (false = true) by decide)] at H; exact H
       clear H
       have H := H1
       clear H1
       have H' := Aside0.mk H
       clear H
       go_wp2_with (first | ((with_reducible refine gate_callee (f := 74) rfl ?_); refine goesA_ (some 22) Try.func74 #[.slice A1 l1.length c1, .int .i64 x17_1] ?_; (with_reducible refine (slices_Contains_int64_int64.calls k1 _ _ l1 x17_1 false _ ?side1 ?side2 A7.out).mono ?_); (case side1 => exact mvC (Kd.C_below HR1.out HB.out)); (case side2 => exact HC1.out); rintro e w' ⟨rfl, ⟨nd, rfl⟩⟩; refine ⟨_, rfl, ?_⟩) | (go_at_call 75; (with_reducible refine (impl_hasNeeds.calls _ _ l0 _ _ l1 x17_1 false _ ?side1 ?side2 ?side3 ?side4 A9.out).mono ?_); (case side1 => exact mvC (Kd.C_below HR0.out (mvB HB.out))); (case side2 => exact HC0.out); (case side3 => exact mvC (Kd.C_below HR1.out (mvB HB.out))); (case side4 => exact HC1.out); rintro e w14 ⟨rfl, hb⟩; have n0_ := Aside0.mk (Kd.R_below (mv HO_7.out) hb); have n1_ := Aside0.mk (below_step (mvB HB.out) hb); clear HO_7 HB; revert n0_ n1_; intro HO_7 HB; (try clear hb)))
       go_roundg k1
       case measure => have := HK1.out; omega
       case rel => exact ⟨(x7_1), (wrap64 (x17_1 + 1)), rs, H', ⟨by have := HK1.out; omega⟩, ⟨mv HO_7.out⟩, ⟨mvB HB.out⟩⟩
    ·
     rw [if_neg c6] at H
     have c6b0 : decide (x17_1 < (l0.length : Int)) = false := decide_eq_false c6
     clear c6
     simp only [Option.some.injEq, Prod.mk.injEq] at H
     obtain ⟨rfl, rfl⟩ := H
     go_wp2
     go_ret2
     exact ⟨_, by first | rfl | (simp [errW_none, errW_some] <;> rfl) | (simp [*, errW_none, errW_some] <;> rfl), mv HO_7.out, mvB HB.out⟩
 ·
  rw [if_neg c4] at H
  have c4b0 : (t408 == 0) = false := beq_eq_false_iff_ne.mpr c4
  have c4b1 : (t408 != 0) = true := bne_iff_ne.mpr c4
  simp only [Option.some.injEq, Prod.mk.injEq] at H
  obtain ⟨rfl, rfl⟩ := H
  go_enter Try.func36, Try.ntmps36
  go_wp2_with (first | ((with_reducible refine gate_callee (f := 68) rfl ?_); refine goesA_ (some 11) Try.func68 #[.slice A0 l0.length c0, .slice A1 l1.length c1] ?_; (with_reducible refine (impl_builtCode.calls k _ _ l0 _ _ l1 t408 _ ?side1 ?side2 ?side3 ?side4 A3.out).mono ?_); (case side1 => exact mvC HR0.out); (case side2 => exact HC0.out); (case side3 => exact mvC HR1.out); (case side4 => exact HC1.out); rintro e w15 ⟨rfl, hb⟩; refine ⟨_, rfl, ?_⟩; have n0_ := Aside0.mk (below_step (mvB HB.out) hb); clear HB; revert n0_; intro HB; (try clear hb)))
  go_ret2
  exact ⟨_, by first | rfl | (simp [errW_none, errW_some] <;> rfl) | (simp [*, errW_none, errW_some] <;> rfl), by first | exact Kd.R_nil _ _ _ _ _ | exact Kd.N_nil _ _ _ _ _ | exact Kd.V_nil _ _ _ _ _ | exact Kd.Q_nil _ _ _ _ _ | exact Kd.S_nil _ _ _ _ _, mvB HB.out⟩

end Go.Proofs.Ytmbiapefigcgnaa.PFnStages
