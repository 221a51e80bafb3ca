-- written by a program of this session (mkp.py) out of the translation; Lean checks it. -- squeezed
import Derived.Test.YtndbgkcjccejdaaPFnExactBestRenewalx0
import Derived.Test.YtndbgkcjccejdaaPFnExactBestRenewalx1
import Derived.Test.YtndbgkcjccejdaaPFnExactBestRenewalx2
namespace Go.Proofs.Ytndbgkcjccejdaa.PFnExactBestRenewal
open Go.RowKit Go.Proofs.YtndbgkcjccejdaaW.PrintWords Go.Proofs.YtndbgkcjccejdaaW.PrintLast Go.Proofs.YtndbgkcjccejdaaW.PrintMore
attribute [local go_sem] bin_leq bin_gtr bin_geq max2_int min2_int max_two min_two max_three min_three max_four min_four   -- for this text's walks alone
set_option linter.unusedVariables false
set_option linter.unusedSimpArgs false

/-! ### spec_l04Ok: function 76 -/
mutual
def spec_l04Ok.l0 : Nat → List (S59) → Int → Option (Bool)
 | 0, _, _ => none
 | k + 1, x0, x3 => if 0 < (x0.length : Int) then (if x3 < (((rd_T59 x0 0).f0).length : Int) then (if 0 ≤ x3 then ((spec_l00In.f (rd ((rd_T59 x0 0).f0) x3) (-100000) 100000).bind fun t136 => (if t136 = true then (spec_l04Ok.l0 k x0 (wrap64 (x3 + 1))) else (some false))) else (none)) else (if (((rd_T59 x0 0).f0).length : Int) < 1 then (spec_l04Ok.j1 k x0 true) else (if (((rd_T59 x0 0).f0).length : Int) > 16 then (spec_l04Ok.j1 k x0 true) else (spec_l04Ok.j1 k x0 (decide ((((rd_T59 x0 0).f1).length : Int) > 20)))))) else (none)
def spec_l04Ok.j1 : Nat → List (S59) → Bool → Option (Bool)
 | 0, _, _ => none
 | k + 1, x0, x44 => if x44 = true then (some false) else (spec_l04Ok.l1 k x0 0)
def spec_l04Ok.l1 : Nat → List (S59) → Int → Option (Bool)
 | 0, _, _ => none
 | k + 1, x0, x4 => if 0 < (x0.length : Int) then (if x4 < (((rd_T59 x0 0).f1).length : Int) then (if 0 ≤ x4 then ((spec_l04Fits.f k x0 [rd_T75 ((rd_T59 x0 0).f1) x4]).bind fun t143 => (if t143 = true then (if x4 > 0 then (if 0 ≤ (wrap64 (x4 - 1)) then (if (wrap64 (x4 - 1)) < (((rd_T59 x0 0).f1).length : Int) then (if ((Op.bytesLess (((rd_T75 ((rd_T59 x0 0).f1) (wrap64 (x4 - 1))).f0).toList) (((rd_T75 ((rd_T59 x0 0).f1) x4).f0).toList)) = true) then (spec_l04Ok.l1 k x0 (wrap64 (x4 + 1))) else (some false)) else (none)) else (none)) else (spec_l04Ok.l1 k x0 (wrap64 (x4 + 1)))) else (some false))) else (none)) else (some true)) else (none)
end
def spec_l04Ok.f (k : Nat) (l0 : List (S59)) : Option (Bool) := spec_l04Ok.l0 k l0 0
theorem spec_l04Ok.mono_l : ∀ k, (∀ y0 y1, LeO (spec_l04Ok.l0 k y0 y1) (spec_l04Ok.l0 (k + 1) y0 y1)) ∧ (∀ y0 y1, LeO (spec_l04Ok.j1 k y0 y1) (spec_l04Ok.j1 (k + 1) y0 y1)) ∧ (∀ y0 y1, LeO (spec_l04Ok.l1 k y0 y1) (spec_l04Ok.l1 (k + 1) y0 y1))
 | 0 => ⟨fun _ _ r h => by simp [spec_l04Ok.l0] at h, fun _ _ r h => by simp [spec_l04Ok.j1] at h, fun _ _ r h => by simp [spec_l04Ok.l1] at h⟩
 | k + 1 => by
  obtain ⟨ih0, ih1, ih2⟩ := spec_l04Ok.mono_l k
  refine ⟨?_, ?_, ?_⟩
  ·
   intro y0 y1
   unfold spec_l04Ok.l0
   repeat' first
   | (with_reducible exact ih0 _ _)
   | (with_reducible exact ih1 _ _)
   | (with_reducible exact ih2 _ _)
   | (with_reducible exact spec_l04Fits.mono _ _ _)
   | (with_reducible exact LeO.refl _)
   | (with_reducible exact LeO.none _)
   | (with_reducible refine LeO.ite ?_ ?_)
   | (with_reducible refine LeO.bind ?_ (fun _ => ?_))
   | exact ih0 _ _
   | exact ih1 _ _
   | exact ih2 _ _
   | exact spec_l04Fits.mono _ _ _
   | exact LeO.none _
   | refine LeO.ite ?_ ?_
   | refine LeO.bind ?_ (fun _ => ?_)
  ·
   intro y0 y1
   unfold spec_l04Ok.j1
   repeat' first
   | (with_reducible exact ih0 _ _)
   | (with_reducible exact ih1 _ _)
   | (with_reducible exact ih2 _ _)
   | (with_reducible exact spec_l04Fits.mono _ _ _)
   | (with_reducible exact LeO.refl _)
   | (with_reducible exact LeO.none _)
   | (with_reducible refine LeO.ite ?_ ?_)
   | (with_reducible refine LeO.bind ?_ (fun _ => ?_))
   | exact ih0 _ _
   | exact ih1 _ _
   | exact ih2 _ _
   | exact spec_l04Fits.mono _ _ _
   | exact LeO.none _
   | refine LeO.ite ?_ ?_
   | refine LeO.bind ?_ (fun _ => ?_)
  ·
   intro y0 y1
   unfold spec_l04Ok.l1
   repeat' first
   | (with_reducible exact ih0 _ _)
   | (with_reducible exact ih1 _ _)
   | (with_reducible exact ih2 _ _)
   | (with_reducible exact spec_l04Fits.mono _ _ _)
   | (with_reducible exact LeO.refl _)
   | (with_reducible exact LeO.none _)
   | (with_reducible refine LeO.ite ?_ ?_)
   | (with_reducible refine LeO.bind ?_ (fun _ => ?_))
   | exact ih0 _ _
   | exact ih1 _ _
   | exact ih2 _ _
   | exact spec_l04Fits.mono _ _ _
   | exact LeO.none _
   | refine LeO.ite ?_ ?_
   | refine LeO.bind ?_ (fun _ => ?_)
theorem spec_l04Ok.mono : ∀ a0 k, LeO (spec_l04Ok.f k a0) (spec_l04Ok.f (k + 1) a0) := by
 intro a0 k
 obtain ⟨ih0, ih1, ih2⟩ := spec_l04Ok.mono_l k
 unfold spec_l04Ok.f
 repeat' first
  | (with_reducible exact ih0 _ _)
  | (with_reducible exact ih1 _ _)
  | (with_reducible exact ih2 _ _)
  | (with_reducible exact spec_l04Fits.mono _ _ _)
  | (with_reducible exact LeO.refl _)
  | (with_reducible exact LeO.none _)
  | (with_reducible refine LeO.ite ?_ ?_)
  | (with_reducible refine LeO.bind ?_ (fun _ => ?_))
  | exact ih0 _ _
  | exact ih1 _ _
  | exact ih2 _ _
  | exact spec_l04Fits.mono _ _ _
  | exact LeO.none _
  | refine LeO.ite ?_ ?_
  | refine LeO.bind ?_ (fun _ => ?_)
set_option maxHeartbeats 8000000 in
set_option maxRecDepth 100000 in
theorem spec_l04Ok.calls (k : Nat) (A0 : Option Addr) (l0 : List (S59)) (r : Bool) (w : World) (hr0 : Kd.C k59 w A0 l0.length l0) (h : spec_l04Ok.f k l0 = some r) :
  Calls Try.prog 76 #[.pointer A0] w fun e w' => e = .returned (.bool r) ∧ Drawn0 w w' := by
 have HR0 := Aside0.mk hr0
 clear hr0
 have H : (spec_l04Ok.l0 k l0 0) = some r := h
 clear h
 have H' := Aside0.mk H
 clear H
 go_enter Try.func76, Try.ntmps76
 go_wp2
 repeat (go_quiet (fail); try go_wp2)
 go_loopg [3] k (fun kq v3 w' => ∃ (x3_1 : Int), v3 = .int .i64 x3_1 ∧ Aside0 (spec_l04Ok.l0 kq l0 x3_1 = some r) ∧ Aside0 (kq ≤ k) ∧ Drawn0 w w')
 case atStart => exact ⟨(0), rs, H', ⟨Nat.le_refl _⟩, dr0⟩
 case round =>
  clear H'
  obtain ⟨x3_1, rfl, HA, HK1, ⟨m1, rfl⟩⟩ := hrel
  cases gk with
  | zero => exact absurd HA.out (by simp [spec_l04Ok.l0])
  | succ k1 =>
   have H := HA.out
   clear HA
   simp only [spec_l04Ok.l0] at H
   by_cases c2 : 0 < (l0.length : Int)
   ·
    rw [if_pos c2] at H
    have c2b0 : decide (0 < (l0.length : Int)) = true := decide_eq_true c2
    have c2b1 : decide (0 < l0.length) = true := decide_eq_true (by omega)
    clear c2
    by_cases c3 : x3_1 < (((rd_T59 l0 0).f0).length : Int)
    ·
     rw [if_pos c3] at H
     have c3b0 : decide (x3_1 < (((rd_T59 l0 0).f0).length : Int)) = true := decide_eq_true c3
     clear c3
     by_cases c4 : 0 ≤ x3_1
     ·
      rw [if_pos c4] at H
      have c4b0 : decide (0 ≤ x3_1) = true := decide_eq_true c4
      clear c4
      replace H := Option.bind_eq_some_iff.mp H
      obtain ⟨t136, A50, H⟩ := H
      replace H : (if t136 = true then (spec_l04Ok.l0 k1 l0 (wrap64 (x3_1 + 1))) else (some false)) = some r := H
      have A5 := Aside0.mk A50
      clear A50
      by_cases c6 : t136 = true
      ·
       subst c6
       have H1 : (spec_l04Ok.l0 k1 l0 (wrap64 (x3_1 + 1))) = some r := by rw [if_pos rfl] at H; exact H
       clear H
       have H := H1
       clear H1
       have H' := Aside0.mk H
       clear H
       have p133 : 0 ≤ (0 : Int) := (by omega)
       have q133 : 0 < (l0.length : Int) := od
       obtain ⟨ad133, A133_0, c133_0, A133_1, c133_1, e133, hx133_0, hx133_1, hl133_0, hi133_0, hl133_1, hi133_1⟩ := at_T59 HR0.out 0 p133 q133
       cases e133
       have qi133 : (0 < l0.length) = True := eq_true (by omega)
       (try rw [show ((0 : Int)).toNat = 0 from rfl] at hx133_0)
       (try rw [show 0 * 2 = 0 from rfl] at hx133_0)
       (try rw [Addr.add_zero'] at hx133_0)
       (try rw [show ((0 : Int)).toNat = 0 from rfl] at hx133_1)
       (try rw [show 0 * 2 = 0 from rfl] at hx133_1)
       (try rw [Addr.add_zero'] at hx133_1)
       have HR133_0 := Aside0.mk hi133_0
       have HC133_0 := Aside0.mk hl133_0
       clear hi133_0 hl133_0
       have HR133_1 := Aside0.mk hi133_1
       have HC133_1 := Aside0.mk hl133_1
       clear hi133_1 hl133_1
       replace p133 := eq_true p133
       replace q133 := eq_true q133
       have p134 : 0 ≤ (0 : Int) := (by omega)
       have q134 : 0 < (l0.length : Int) := od
       obtain ⟨ad134, A134_0, c134_0, A134_1, c134_1, e134, hx134_0, hx134_1, hl134_0, hi134_0, hl134_1, hi134_1⟩ := at_T59 HR0.out 0 p134 q134
       obtain rfl : ad133 = ad134 := (by injection e134)
       have qi134 : (0 < l0.length) = True := eq_true (by omega)
       (try rw [show ((0 : Int)).toNat = 0 from rfl] at hx134_0)
       (try rw [show 0 * 2 = 0 from rfl] at hx134_0)
       (try rw [Addr.add_zero'] at hx134_0)
       (try rw [show ((0 : Int)).toNat = 0 from rfl] at hx134_1)
       (try rw [show 0 * 2 = 0 from rfl] at hx134_1)
       (try rw [Addr.add_zero'] at hx134_1)
       have HR134_0 := Aside0.mk hi134_0
       have HC134_0 := Aside0.mk hl134_0
       clear hi134_0 hl134_0
       have HR134_1 := Aside0.mk hi134_1
       have HC134_1 := Aside0.mk hl134_1
       clear hi134_1 hl134_1
       replace p134 := eq_true p134
       replace q134 := eq_true q134
       have ea_ := Option.some.inj (hx133_0.symm.trans hx134_0)
       injection ea_ with ea_ en_ ec_
       subst ea_
       subst ec_
       clear en_
       have ea_ := Option.some.inj (hx133_1.symm.trans hx134_1)
       injection ea_ with ea_ en_ ec_
       subst ea_
       subst ec_
       clear en_
       have p135 : 0 ≤ (x3_1 : Int) := od
       have q135 : x3_1 < (((rd_T59 l0 0).f0).length : Int) := od
       obtain ⟨ad135, e135, hx135_0⟩ := Kd.at_int HR134_0.out x3_1 p135 q135
       cases e135
       replace p135 := eq_true p135
       replace q135 := eq_true q135
       go_wp2_with (first | (go_at_call 43; (with_reducible refine (spec_l00In.calls (rd ((rd_T59 l0 0).f0) x3_1) (-100000) 100000 true _ A5.out).mono ?_); rintro e w' ⟨rfl, ⟨nd, rfl⟩⟩; (try first | exact ⟨rfl, _, World.drewN_drewN _ _ _⟩ | exact ⟨rfl, _, Eq.trans (World.drewN_drewN _ _ _) (congrArg (World.drewN _) (Nat.add_assoc _ _ _))⟩)))
       repeat (go_quiet (first | (go_at_call 43; (with_reducible refine (spec_l00In.calls (rd ((rd_T59 l0 0).f0) x3_1) (-100000) 100000 true _ A5.out).mono ?_); rintro e w' ⟨rfl, ⟨nd, rfl⟩⟩; (try first | exact ⟨rfl, _, World.drewN_drewN _ _ _⟩ | exact ⟨rfl, _, Eq.trans (World.drewN_drewN _ _ _) (congrArg (World.drewN _) (Nat.add_assoc _ _ _))⟩))); try go_wp2_with (first | (go_at_call 43; (with_reducible refine (spec_l00In.calls (rd ((rd_T59 l0 0).f0) x3_1) (-100000) 100000 true _ A5.out).mono ?_); rintro e w' ⟨rfl, ⟨nd, rfl⟩⟩; (try first | exact ⟨rfl, _, World.drewN_drewN _ _ _⟩ | exact ⟨rfl, _, Eq.trans (World.drewN_drewN _ _ _) (congrArg (World.drewN _) (Nat.add_assoc _ _ _))⟩))))
       go_roundg k1
       case measure => have := HK1.out; omega
       case rel => exact ⟨(wrap64 (x3_1 + 1)), rs, H', ⟨by have := HK1.out; omega⟩, dr0⟩
      ·
       replace c6 := Bool.eq_false_iff.mpr c6
       subst c6
       have H1 : (some false) = some r := by rw [if_neg (show ¬ (false = true) by decide)] at H; exact H
       clear H
       have H := H1
       clear H1
       obtain rfl := Option.some.inj H
       have p133 : 0 ≤ (0 : Int) := (by omega)
       have q133 : 0 < (l0.length : Int) := od
       obtain ⟨ad133, A133_0, c133_0, A133_1, c133_1, e133, hx133_0, hx133_1, hl133_0, hi133_0, hl133_1, hi133_1⟩ := at_T59 HR0.out 0 p133 q133
       cases e133
       have qi133 : (0 < l0.length) = True := eq_true (by omega)
       (try rw [show ((0 : Int)).toNat = 0 from rfl] at hx133_0)
       (try rw [show 0 * 2 = 0 from rfl] at hx133_0)
       (try rw [Addr.add_zero'] at hx133_0)
       (try rw [show ((0 : Int)).toNat = 0 from rfl] at hx133_1)
       (try rw [show 0 * 2 = 0 from rfl] at hx133_1)
       (try rw [Addr.add_zero'] at hx133_1)
       have HR133_0 := Aside0.mk hi133_0
       have HC133_0 := Aside0.mk hl133_0
       clear hi133_0 hl133_0
       have HR133_1 := Aside0.mk hi133_1
       have HC133_1 := Aside0.mk hl133_1
       clear hi133_1 hl133_1
       replace p133 := eq_true p133
       replace q133 := eq_true q133
       have p134 : 0 ≤ (0 : Int) := (by omega)
       have q134 : 0 < (l0.length : Int) := od
       obtain ⟨ad134, A134_0, c134_0, A134_1, c134_1, e134, hx134_0, hx134_1, hl134_0, hi134_0, hl134_1, hi134_1⟩ := at_T59 HR0.out 0 p134 q134
       obtain rfl : ad133 = ad134 := (by injection e134)
       have qi134 : (0 < l0.length) = True := eq_true (by omega)
       (try rw [show ((0 : Int)).toNat = 0 from rfl] at hx134_0)
       (try rw [show 0 * 2 = 0 from rfl] at hx134_0)
       (try rw [Addr.add_zero'] at hx134_0)
       (try rw [show ((0 : Int)).toNat = 0 from rfl] at hx134_1)
       (try rw [show 0 * 2 = 0 from rfl] at hx134_1)
       (try rw [Addr.add_zero'] at hx134_1)
       have HR134_0 := Aside0.mk hi134_0
       have HC134_0 := Aside0.mk hl134_0
       clear hi134_0 hl134_0
       have HR134_1 := Aside0.mk hi134_1
       have HC134_1 := Aside0.mk hl134_1
       clear hi134_1 hl134_1
       replace p134 := eq_true p134
       replace q134 := eq_true q134
       have ea_ := Option.some.inj (hx133_0.symm.trans hx134_0)
       injection ea_ with ea_ en_ ec_
       subst ea_
       subst ec_
       clear en_
       have ea_ := Option.some.inj (hx133_1.symm.trans hx134_1)
       injection ea_ with ea_ en_ ec_
       subst ea_
       subst ec_
       clear en_
       have p135 : 0 ≤ (x3_1 : Int) := od
       have q135 : x3_1 < (((rd_T59 l0 0).f0).length : Int) := od
       obtain ⟨ad135, e135, hx135_0⟩ := Kd.at_int HR134_0.out x3_1 p135 q135
       cases e135
       replace p135 := eq_true p135
       replace q135 := eq_true q135
       go_wp2_with (first | (go_at_call 43; (with_reducible refine (spec_l00In.calls (rd ((rd_T59 l0 0).f0) x3_1) (-100000) 100000 false _ A5.out).mono ?_); rintro e w' ⟨rfl, ⟨nd, rfl⟩⟩; (try first | exact ⟨rfl, _, World.drewN_drewN _ _ _⟩ | exact ⟨rfl, _, Eq.trans (World.drewN_drewN _ _ _) (congrArg (World.drewN _) (Nat.add_assoc _ _ _))⟩)))
       repeat (go_quiet (first | (go_at_call 43; (with_reducible refine (spec_l00In.calls (rd ((rd_T59 l0 0).f0) x3_1) (-100000) 100000 false _ A5.out).mono ?_); rintro e w' ⟨rfl, ⟨nd, rfl⟩⟩; (try first | exact ⟨rfl, _, World.drewN_drewN _ _ _⟩ | exact ⟨rfl, _, Eq.trans (World.drewN_drewN _ _ _) (congrArg (World.drewN _) (Nat.add_assoc _ _ _))⟩))); try go_wp2_with (first | (go_at_call 43; (with_reducible refine (spec_l00In.calls (rd ((rd_T59 l0 0).f0) x3_1) (-100000) 100000 false _ A5.out).mono ?_); rintro e w' ⟨rfl, ⟨nd, rfl⟩⟩; (try first | exact ⟨rfl, _, World.drewN_drewN _ _ _⟩ | exact ⟨rfl, _, Eq.trans (World.drewN_drewN _ _ _) (congrArg (World.drewN _) (Nat.add_assoc _ _ _))⟩))))
       go_ret
       exact ⟨rs, dr0⟩
     ·
      rw [if_neg c4] at H
      exact absurd H (by simp)
    ·
     rw [if_neg c3] at H
     have c3b0 : decide (x3_1 < (((rd_T59 l0 0).f0).length : Int)) = false := decide_eq_false c3
     clear c3
     have HC7 := Aside0.mk H
     clear H
     have p133 : 0 ≤ (0 : Int) := (by omega)
     have q133 : 0 < (l0.length : Int) := od
     obtain ⟨ad133, A133_0, c133_0, A133_1, c133_1, e133, hx133_0, hx133_1, hl133_0, hi133_0, hl133_1, hi133_1⟩ := at_T59 HR0.out 0 p133 q133
     cases e133
     have qi133 : (0 < l0.length) = True := eq_true (by omega)
     (try rw [show ((0 : Int)).toNat = 0 from rfl] at hx133_0)
     (try rw [show 0 * 2 = 0 from rfl] at hx133_0)
     (try rw [Addr.add_zero'] at hx133_0)
     (try rw [show ((0 : Int)).toNat = 0 from rfl] at hx133_1)
     (try rw [show 0 * 2 = 0 from rfl] at hx133_1)
     (try rw [Addr.add_zero'] at hx133_1)
     have HR133_0 := Aside0.mk hi133_0
     have HC133_0 := Aside0.mk hl133_0
     clear hi133_0 hl133_0
     have HR133_1 := Aside0.mk hi133_1
     have HC133_1 := Aside0.mk hl133_1
     clear hi133_1 hl133_1
     replace p133 := eq_true p133
     replace q133 := eq_true q133
     go_upto_region 6 with (fail)
     repeat (go_quiet (fail); go_upto_region 6 with (fail))
     go_cut [44] (fun v44 wc => ∃ (kq : Nat) (x44_6 : Bool), v44 = .bool x44_6 ∧ Aside0 (spec_l04Ok.j1 kq l0 x44_6 = some r) ∧ Aside0 (kq ≤ k1) ∧ Drawn0 w wc)
     case first =>
      have H := HC7.out
      clear HC7
      by_cases c8 : (((rd_T59 l0 0).f0).length : Int) < 1
      ·
       rw [if_pos c8] at H
       have c8b0 : decide ((((rd_T59 l0 0).f0).length : Int) < 1) = true := decide_eq_true c8
       have c8b1 : decide (((rd_T59 l0 0).f0).length < 1) = true := decide_eq_true (by omega)
       clear c8
       (first | rw [c8b0] | (simp only [i64_w, i32_w]; rw [c8b0]) | skip)
       have H' := Aside0.mk H
       clear H
       have p137 : 0 ≤ (0 : Int) := (by omega)
       have q137 : 0 < (l0.length : Int) := od
       obtain ⟨ad137, A137_0, c137_0, A137_1, c137_1, e137, hx137_0, hx137_1, hl137_0, hi137_0, hl137_1, hi137_1⟩ := at_T59 HR0.out 0 p137 q137
       obtain rfl : ad133 = ad137 := (by injection e137)
       have qi137 : (0 < l0.length) = True := eq_true (by omega)
       (try rw [show ((0 : Int)).toNat = 0 from rfl] at hx137_0)
       (try rw [show 0 * 2 = 0 from rfl] at hx137_0)
       (try rw [Addr.add_zero'] at hx137_0)
       (try rw [show ((0 : Int)).toNat = 0 from rfl] at hx137_1)
       (try rw [show 0 * 2 = 0 from rfl] at hx137_1)
       (try rw [Addr.add_zero'] at hx137_1)
       have HR137_0 := Aside0.mk hi137_0
       have HC137_0 := Aside0.mk hl137_0
       clear hi137_0 hl137_0
       have HR137_1 := Aside0.mk hi137_1
       have HC137_1 := Aside0.mk hl137_1
       clear hi137_1 hl137_1
       replace p137 := eq_true p137
       replace q137 := eq_true q137
       go_wp2
       repeat (go_quiet (fail); try go_wp2)
       go_meet
       case rel => exact ⟨_, (true), rs, H', ⟨by have := HK1.out; first | omega | exact Nat.le_refl _⟩, dr0⟩
      ·
       rw [if_neg c8] at H
       have c8b0 : decide ((((rd_T59 l0 0).f0).length : Int) < 1) = false := decide_eq_false c8
       have c8b1 : decide (((rd_T59 l0 0).f0).length < 1) = false := decide_eq_false (by omega)
       clear c8
       (first | rw [c8b0] | (simp only [i64_w, i32_w]; rw [c8b0]) | skip)
       by_cases c9 : (((rd_T59 l0 0).f0).length : Int) > 16
       ·
        rw [if_pos c9] at H
        have c9b0 : decide (16 < (((rd_T59 l0 0).f0).length : Int)) = true := decide_eq_true c9
        have c9b1 : decide (16 < ((rd_T59 l0 0).f0).length) = true := decide_eq_true (by omega)
        clear c9
        have H' := Aside0.mk H
        clear H
        have p137 : 0 ≤ (0 : Int) := (by omega)
        have q137 : 0 < (l0.length : Int) := od
        obtain ⟨ad137, A137_0, c137_0, A137_1, c137_1, e137, hx137_0, hx137_1, hl137_0, hi137_0, hl137_1, hi137_1⟩ := at_T59 HR0.out 0 p137 q137
        obtain rfl : ad133 = ad137 := (by injection e137)
        have qi137 : (0 < l0.length) = True := eq_true (by omega)
        (try rw [show ((0 : Int)).toNat = 0 from rfl] at hx137_0)
        (try rw [show 0 * 2 = 0 from rfl] at hx137_0)
        (try rw [Addr.add_zero'] at hx137_0)
        (try rw [show ((0 : Int)).toNat = 0 from rfl] at hx137_1)
        (try rw [show 0 * 2 = 0 from rfl] at hx137_1)
        (try rw [Addr.add_zero'] at hx137_1)
        have HR137_0 := Aside0.mk hi137_0
        have HC137_0 := Aside0.mk hl137_0
        clear hi137_0 hl137_0
        have HR137_1 := Aside0.mk hi137_1
        have HC137_1 := Aside0.mk hl137_1
        clear hi137_1 hl137_1
        replace p137 := eq_true p137
        replace q137 := eq_true q137
        have p138 : 0 ≤ (0 : Int) := (by omega)
        have q138 : 0 < (l0.length : Int) := od
        obtain ⟨ad138, A138_0, c138_0, A138_1, c138_1, e138, hx138_0, hx138_1, hl138_0, hi138_0, hl138_1, hi138_1⟩ := at_T59 HR0.out 0 p138 q138
        obtain rfl : ad133 = ad138 := (by injection e138)
        have qi138 : (0 < l0.length) = True := eq_true (by omega)
        (try rw [show ((0 : Int)).toNat = 0 from rfl] at hx138_0)
        (try rw [show 0 * 2 = 0 from rfl] at hx138_0)
        (try rw [Addr.add_zero'] at hx138_0)
        (try rw [show ((0 : Int)).toNat = 0 from rfl] at hx138_1)
        (try rw [show 0 * 2 = 0 from rfl] at hx138_1)
        (try rw [Addr.add_zero'] at hx138_1)
        have HR138_0 := Aside0.mk hi138_0
        have HC138_0 := Aside0.mk hl138_0
        clear hi138_0 hl138_0
        have HR138_1 := Aside0.mk hi138_1
        have HC138_1 := Aside0.mk hl138_1
        clear hi138_1 hl138_1
        replace p138 := eq_true p138
        replace q138 := eq_true q138
        have ea_ := Option.some.inj (hx137_0.symm.trans hx138_0)
        injection ea_ with ea_ en_ ec_
        subst ea_
        subst ec_
        clear en_
        have ea_ := Option.some.inj (hx137_1.symm.trans hx138_1)
        injection ea_ with ea_ en_ ec_
        subst ea_
        subst ec_
        clear en_
        go_wp2
        repeat (go_quiet (fail); try go_wp2)
        go_meet
        case rel => exact ⟨_, (true), rs, H', ⟨by have := HK1.out; first | omega | exact Nat.le_refl _⟩, dr0⟩
       ·
        rw [if_neg c9] at H
        have c9b0 : decide (16 < (((rd_T59 l0 0).f0).length : Int)) = false := decide_eq_false c9
        have c9b1 : decide (16 < ((rd_T59 l0 0).f0).length) = false := decide_eq_false (by omega)
        clear c9
        have H' := Aside0.mk H
        clear H
        have p137 : 0 ≤ (0 : Int) := (by omega)
        have q137 : 0 < (l0.length : Int) := od
        obtain ⟨ad137, A137_0, c137_0, A137_1, c137_1, e137, hx137_0, hx137_1, hl137_0, hi137_0, hl137_1, hi137_1⟩ := at_T59 HR0.out 0 p137 q137
        obtain rfl : ad133 = ad137 := (by injection e137)
        have qi137 : (0 < l0.length) = True := eq_true (by omega)
        (try rw [show ((0 : Int)).toNat = 0 from rfl] at hx137_0)
        (try rw [show 0 * 2 = 0 from rfl] at hx137_0)
        (try rw [Addr.add_zero'] at hx137_0)
        (try rw [show ((0 : Int)).toNat = 0 from rfl] at hx137_1)
        (try rw [show 0 * 2 = 0 from rfl] at hx137_1)
        (try rw [Addr.add_zero'] at hx137_1)
        have HR137_0 := Aside0.mk hi137_0
        have HC137_0 := Aside0.mk hl137_0
        clear hi137_0 hl137_0
        have HR137_1 := Aside0.mk hi137_1
        have HC137_1 := Aside0.mk hl137_1
        clear hi137_1 hl137_1
        replace p137 := eq_true p137
        replace q137 := eq_true q137
        have p138 : 0 ≤ (0 : Int) := (by omega)
        have q138 : 0 < (l0.length : Int) := od
        obtain ⟨ad138, A138_0, c138_0, A138_1, c138_1, e138, hx138_0, hx138_1, hl138_0, hi138_0, hl138_1, hi138_1⟩ := at_T59 HR0.out 0 p138 q138
        obtain rfl : ad133 = ad138 := (by injection e138)
        have qi138 : (0 < l0.length) = True := eq_true (by omega)
        (try rw [show ((0 : Int)).toNat = 0 from rfl] at hx138_0)
        (try rw [show 0 * 2 = 0 from rfl] at hx138_0)
        (try rw [Addr.add_zero'] at hx138_0)
        (try rw [show ((0 : Int)).toNat = 0 from rfl] at hx138_1)
        (try rw [show 0 * 2 = 0 from rfl] at hx138_1)
        (try rw [Addr.add_zero'] at hx138_1)
        have HR138_0 := Aside0.mk hi138_0
        have HC138_0 := Aside0.mk hl138_0
        clear hi138_0 hl138_0
        have HR138_1 := Aside0.mk hi138_1
        have HC138_1 := Aside0.mk hl138_1
        clear hi138_1 hl138_1
        replace p138 := eq_true p138
        replace q138 := eq_true q138
        have ea_ := Option.some.inj (hx137_0.symm.trans hx138_0)
        injection ea_ with ea_ en_ ec_
        subst ea_
        subst ec_
        clear en_
        have ea_ := Option.some.inj (hx137_1.symm.trans hx138_1)
        injection ea_ with ea_ en_ ec_
        subst ea_
        subst ec_
        clear en_
        have p139 : 0 ≤ (0 : Int) := (by omega)
        have q139 : 0 < (l0.length : Int) := od
        obtain ⟨ad139, A139_0, c139_0, A139_1, c139_1, e139, hx139_0, hx139_1, hl139_0, hi139_0, hl139_1, hi139_1⟩ := at_T59 HR0.out 0 p139 q139
        obtain rfl : ad133 = ad139 := (by injection e139)
        have qi139 : (0 < l0.length) = True := eq_true (by omega)
        (try rw [show ((0 : Int)).toNat = 0 from rfl] at hx139_0)
        (try rw [show 0 * 2 = 0 from rfl] at hx139_0)
        (try rw [Addr.add_zero'] at hx139_0)
        (try rw [show ((0 : Int)).toNat = 0 from rfl] at hx139_1)
        (try rw [show 0 * 2 = 0 from rfl] at hx139_1)
        (try rw [Addr.add_zero'] at hx139_1)
        have HR139_0 := Aside0.mk hi139_0
        have HC139_0 := Aside0.mk hl139_0
        clear hi139_0 hl139_0
        have HR139_1 := Aside0.mk hi139_1
        have HC139_1 := Aside0.mk hl139_1
        clear hi139_1 hl139_1
        replace p139 := eq_true p139
        replace q139 := eq_true q139
        have ea_ := Option.some.inj (hx137_0.symm.trans hx139_0)
        injection ea_ with ea_ en_ ec_
        subst ea_
        subst ec_
        clear en_
        have ea_ := Option.some.inj (hx137_1.symm.trans hx139_1)
        injection ea_ with ea_ en_ ec_
        subst ea_
        subst ec_
        clear en_
        go_wp2
        repeat (go_quiet (fail); try go_wp2)
        go_meet
        case rel => exact ⟨_, (decide ((((rd_T59 l0 0).f1).length : Int) > 20)), rs, H', ⟨by have := HK1.out; first | omega | exact Nat.le_refl _⟩, dr0⟩
     case rest =>
      clear HC7
      try clear c2b0
      try clear c2b1
      try clear c3b0
      try clear hx133_0
      try clear hx133_1
      try clear p133
      try clear q133
      obtain ⟨kq, x44_6, rfl, HA, HJ6, ⟨mc6, rfl⟩⟩ := hcut
      cases kq with
      | zero => exact absurd HA.out (by simp [spec_l04Ok.j1])
      | succ kj6 =>
       have H := HA.out
       clear HA
       simp only [spec_l04Ok.j1] at H
       by_cases c10 : x44_6 = true
       ·
        subst c10
        have H1 : (some false) = some r := by rw [if_pos rfl] at H; exact H
        clear H
        have H := H1
        clear H1
        obtain rfl := Option.some.inj H
        go_wp2
        repeat (go_quiet (fail); try go_wp2)
        go_ret
        exact ⟨rs, dr0⟩
       ·
        replace c10 := Bool.eq_false_iff.mpr c10
        subst c10
        have H1 : (spec_l04Ok.l1 kj6 l0 0) = some r := by rw [if_neg (show ¬ (false = true) by decide)] at H; exact H
        clear H
        have H := H1
        clear H1
        have H' := Aside0.mk H
        clear H
        go_wp2
        repeat (go_quiet (fail); try go_wp2)
        go_loopg [4] kj6 (fun kq v4 w' => ∃ (x4_3 : Int), v4 = .int .i64 x4_3 ∧ Aside0 (spec_l04Ok.l1 kq l0 x4_3 = some r) ∧ Aside0 (kq ≤ kj6) ∧ Drawn0 w w')
        case atStart => exact ⟨(0), rs, H', ⟨Nat.le_refl _⟩, dr0⟩
        case round =>
         clear H'
         try clear c2b0
         try clear c2b1
         try clear c3b0
         try clear c10
         try clear hx133_0
         try clear hx133_1
         try clear p133
         try clear q133
         obtain ⟨x4_3, rfl, HA, HK3, ⟨m3, rfl⟩⟩ := hrel
         cases gk with
         | zero => exact absurd HA.out (by simp [spec_l04Ok.l1])
         | succ k3 =>
          have H := HA.out
          clear HA
          simp only [spec_l04Ok.l1] at H
          by_cases c11 : 0 < (l0.length : Int)
          ·
           rw [if_pos c11] at H
           have c11b0 : decide (0 < (l0.length : Int)) = true := decide_eq_true c11
           have c11b1 : decide (0 < l0.length) = true := decide_eq_true (by omega)
           clear c11
           by_cases c12 : x4_3 < (((rd_T59 l0 0).f1).length : Int)
           ·
            rw [if_pos c12] at H
            have c12b0 : decide (x4_3 < (((rd_T59 l0 0).f1).length : Int)) = true := decide_eq_true c12
            clear c12
            by_cases c13 : 0 ≤ x4_3
            ·
             rw [if_pos c13] at H
             have c13b0 : decide (0 ≤ x4_3) = true := decide_eq_true c13
             clear c13
             replace H := Option.bind_eq_some_iff.mp H
             obtain ⟨t143, A140, H⟩ := H
             replace H : (if t143 = true then (if x4_3 > 0 then (if 0 ≤ (wrap64 (x4_3 - 1)) then (if (wrap64 (x4_3 - 1)) < (((rd_T59 l0 0).f1).length : Int) then (if ((Op.bytesLess (((rd_T75 ((rd_T59 l0 0).f1) (wrap64 (x4_3 - 1))).f0).toList) (((rd_T75 ((rd_T59 l0 0).f1) x4_3).f0).toList)) = true) then (spec_l04Ok.l1 k3 l0 (wrap64 (x4_3 + 1))) else (some false)) else (none)) else (none)) else (spec_l04Ok.l1 k3 l0 (wrap64 (x4_3 + 1)))) else (some false)) = some r := H
             have A14 := Aside0.mk A140
             clear A140
             by_cases c15 : t143 = true
             ·
              subst c15
              have H1 : (if x4_3 > 0 then (if 0 ≤ (wrap64 (x4_3 - 1)) then (if (wrap64 (x4_3 - 1)) < (((rd_T59 l0 0).f1).length : Int) then (if ((Op.bytesLess (((rd_T75 ((rd_T59 l0 0).f1) (wrap64 (x4_3 - 1))).f0).toList) (((rd_T75 ((rd_T59 l0 0).f1) x4_3).f0).toList)) = true) then (spec_l04Ok.l1 k3 l0 (wrap64 (x4_3 + 1))) else (some false)) else (none)) else (none)) else (spec_l04Ok.l1 k3 l0 (wrap64 (x4_3 + 1)))) = some r := by rw [if_pos rfl] at H; exact H
              clear H
              have H := H1
              clear H1
              by_cases c16 : x4_3 > 0
              ·
               rw [if_pos c16] at H
               have c16b0 : decide (0 < x4_3) = true := decide_eq_true c16
               clear c16
               obtain ⟨ji17, hji17⟩ : ∃ j_ : Int, (wrap64 (x4_3 - 1)) = j_ := ⟨_, rfl⟩
               replace H : (if 0 ≤ (ji17) then (if (ji17) < (((rd_T59 l0 0).f1).length : Int) then (if ((Op.bytesLess (((rd_T75 ((rd_T59 l0 0).f1) (ji17)).f0).toList) (((rd_T75 ((rd_T59 l0 0).f1) x4_3).f0).toList)) = true) then (spec_l04Ok.l1 k3 l0 (wrap64 (x4_3 + 1))) else (some false)) else (none)) else (none)) = some r := by first | (rw [hji17] at H; exact H) | (simp only [hji17] at H ⊢; exact H)
               (try rw [hji17] at A14)
               have hji17w : (IntKind.i64.wrap (x4_3 - 1)) = ji17 := (i64_w _).trans hji17
               by_cases c18 : 0 ≤ (ji17)
               ·
                rw [if_pos c18] at H
                have c18b0 : decide (0 ≤ (ji17)) = true := decide_eq_true c18
                clear c18
                by_cases c19 : (ji17) < (((rd_T59 l0 0).f1).length : Int)
                ·
                 rw [if_pos c19] at H
                 have c19b0 : decide ((ji17) < (((rd_T59 l0 0).f1).length : Int)) = true := decide_eq_true c19
                 clear c19
                 by_cases c20 : ((Op.bytesLess (((rd_T75 ((rd_T59 l0 0).f1) (ji17)).f0).toList) (((rd_T75 ((rd_T59 l0 0).f1) x4_3).f0).toList)) = true)
                 ·
                  rw [if_pos c20] at H
                  have c20b0 : (Op.bytesLess (((rd_T75 ((rd_T59 l0 0).f1) (ji17)).f0).toList) (((rd_T75 ((rd_T59 l0 0).f1) x4_3).f0).toList)) = true := c20
                  clear c20
                  have H' := Aside0.mk H
                  clear H
                  have p140 : 0 ≤ (0 : Int) := (by omega)
                  have q140 : 0 < (l0.length : Int) := od
                  obtain ⟨ad140, A140_0, c140_0, A140_1, c140_1, e140, hx140_0, hx140_1, hl140_0, hi140_0, hl140_1, hi140_1⟩ := at_T59 HR0.out 0 p140 q140
                  obtain rfl : ad133 = ad140 := (by injection e140)
                  have qi140 : (0 < l0.length) = True := eq_true (by omega)
                  (try rw [show ((0 : Int)).toNat = 0 from rfl] at hx140_0)
                  (try rw [show 0 * 2 = 0 from rfl] at hx140_0)
                  (try rw [Addr.add_zero'] at hx140_0)
                  (try rw [show ((0 : Int)).toNat = 0 from rfl] at hx140_1)
                  (try rw [show 0 * 2 = 0 from rfl] at hx140_1)
                  (try rw [Addr.add_zero'] at hx140_1)
                  have HR140_0 := Aside0.mk hi140_0
                  have HC140_0 := Aside0.mk hl140_0
                  clear hi140_0 hl140_0
                  have HR140_1 := Aside0.mk hi140_1
                  have HC140_1 := Aside0.mk hl140_1
                  clear hi140_1 hl140_1
                  replace p140 := eq_true p140
                  replace q140 := eq_true q140
                  have p141 : 0 ≤ (0 : Int) := (by omega)
                  have q141 : 0 < (l0.length : Int) := od
                  obtain ⟨ad141, A141_0, c141_0, A141_1, c141_1, e141, hx141_0, hx141_1, hl141_0, hi141_0, hl141_1, hi141_1⟩ := at_T59 HR0.out 0 p141 q141
                  obtain rfl : ad133 = ad141 := (by injection e141)
                  have qi141 : (0 < l0.length) = True := eq_true (by omega)
                  (try rw [show ((0 : Int)).toNat = 0 from rfl] at hx141_0)
                  (try rw [show 0 * 2 = 0 from rfl] at hx141_0)
                  (try rw [Addr.add_zero'] at hx141_0)
                  (try rw [show ((0 : Int)).toNat = 0 from rfl] at hx141_1)
                  (try rw [show 0 * 2 = 0 from rfl] at hx141_1)
                  (try rw [Addr.add_zero'] at hx141_1)
                  have HR141_0 := Aside0.mk hi141_0
                  have HC141_0 := Aside0.mk hl141_0
                  clear hi141_0 hl141_0
                  have HR141_1 := Aside0.mk hi141_1
                  have HC141_1 := Aside0.mk hl141_1
                  clear hi141_1 hl141_1
                  replace p141 := eq_true p141
                  replace q141 := eq_true q141
                  have ea_ := Option.some.inj (hx140_0.symm.trans hx141_0)
                  injection ea_ with ea_ en_ ec_
                  subst ea_
                  subst ec_
                  clear en_
                  have ea_ := Option.some.inj (hx140_1.symm.trans hx141_1)
                  injection ea_ with ea_ en_ ec_
                  subst ea_
                  subst ec_
                  clear en_
                  have p142 : 0 ≤ (x4_3 : Int) := od
                  have q142 : x4_3 < (((rd_T59 l0 0).f1).length : Int) := od
                  obtain ⟨ad142, e142, hx142_0, hx142_1, hx142_2, hx142_3, hx142_4, hx142_5⟩ := at_T75 HR141_1.out x4_3 p142 q142
                  cases e142
                  replace p142 := eq_true p142
                  replace q142 := eq_true q142
                  go_wp2_with (first | (go_at_call 116; (with_reducible refine (spec_l04Fits.calls k3 _ l0 _ [rd_T75 ((rd_T59 l0 0).f1) x4_3] true _ ?side1 ?side2 A14.out).mono ?_); (case side1 => exact mvC HR0.out); (case side2 => repeat (first | exact Kd.C_one (HR141_1.out) (z75) x4_3 (of_eq_true p142) (of_eq_true q142) | (with_reducible refine Kd.C_alloc ?_ _) | (with_reducible refine Kd.C_drewN ?_ _) | (with_reducible refine Kd.C_drew ?_))); rintro e w' ⟨rfl, ⟨nd, rfl⟩⟩; (try first | exact ⟨rfl, _, World.drewN_drewN _ _ _⟩ | exact ⟨rfl, _, Eq.trans (World.drewN_drewN _ _ _) (congrArg (World.drewN _) (Nat.add_assoc _ _ _))⟩); all_goals (have p144 : 0 ≤ (0 : Int) := (by omega); have q144 : 0 < (l0.length : Int) := od; obtain ⟨ad144, A144_0, c144_0, A144_1, c144_1, e144, hx144_0, hx144_1, hl144_0, hi144_0, hl144_1, hi144_1⟩ := at_T59 HR0.out 0 p144 q144; obtain rfl : ad133 = ad144 := (by injection e144); have qi144 : (0 < l0.length) = True := eq_true (by omega); (try rw [show ((0 : Int)).toNat = 0 from rfl] at hx144_0); (try rw [show 0 * 2 = 0 from rfl] at hx144_0); (try rw [Addr.add_zero'] at hx144_0); (try rw [show ((0 : Int)).toNat = 0 from rfl] at hx144_1); (try rw [show 0 * 2 = 0 from rfl] at hx144_1); (try rw [Addr.add_zero'] at hx144_1); have HR144_0 := Aside0.mk hi144_0; have HC144_0 := Aside0.mk hl144_0; clear hi144_0 hl144_0; have HR144_1 := Aside0.mk hi144_1; have HC144_1 := Aside0.mk hl144_1; clear hi144_1 hl144_1; replace p144 := eq_true p144; replace q144 := eq_true q144; have ea_ := Option.some.inj (hx140_0.symm.trans hx144_0); injection ea_ with ea_ en_ ec_; subst ea_; subst ec_; clear en_; have ea_ := Option.some.inj (hx140_1.symm.trans hx144_1); injection ea_ with ea_ en_ ec_; subst ea_; subst ec_; clear en_; have p145 : 0 ≤ ((ji17) : Int) := od; have q145 : (ji17) < (((rd_T59 l0 0).f1).length : Int) := od; obtain ⟨ad145, e145, hx145_0, hx145_1, hx145_2, hx145_3, hx145_4, hx145_5⟩ := at_T75 HR144_1.out (ji17) p145 q145; cases e145; replace p145 := eq_true p145; replace q145 := eq_true q145; have p146 : 0 ≤ (0 : Int) := (by omega); have q146 : 0 < (l0.length : Int) := od; obtain ⟨ad146, A146_0, c146_0, A146_1, c146_1, e146, hx146_0, hx146_1, hl146_0, hi146_0, hl146_1, hi146_1⟩ := at_T59 HR0.out 0 p146 q146; obtain rfl : ad133 = ad146 := (by injection e146); have qi146 : (0 < l0.length) = True := eq_true (by omega); (try rw [show ((0 : Int)).toNat = 0 from rfl] at hx146_0); (try rw [show 0 * 2 = 0 from rfl] at hx146_0); (try rw [Addr.add_zero'] at hx146_0); (try rw [show ((0 : Int)).toNat = 0 from rfl] at hx146_1); (try rw [show 0 * 2 = 0 from rfl] at hx146_1); (try rw [Addr.add_zero'] at hx146_1); have HR146_0 := Aside0.mk hi146_0; have HC146_0 := Aside0.mk hl146_0; clear hi146_0 hl146_0; have HR146_1 := Aside0.mk hi146_1; have HC146_1 := Aside0.mk hl146_1; clear hi146_1 hl146_1; replace p146 := eq_true p146; replace q146 := eq_true q146; have ea_ := Option.some.inj (hx140_0.symm.trans hx146_0); injection ea_ with ea_ en_ ec_; subst ea_; subst ec_; clear en_; have ea_ := Option.some.inj (hx140_1.symm.trans hx146_1); injection ea_ with ea_ en_ ec_; subst ea_; subst ec_; clear en_; have p147 : 0 ≤ (x4_3 : Int) := od; have q147 : x4_3 < (((rd_T59 l0 0).f1).length : Int) := od; obtain ⟨ad147, e147, hx147_0, hx147_1, hx147_2, hx147_3, hx147_4, hx147_5⟩ := at_T75 HR146_1.out x4_3 p147 q147; cases e147; replace p147 := eq_true p147; replace q147 := eq_true q147)))
                  repeat (go_quiet (first | (go_at_call 116; (with_reducible refine (spec_l04Fits.calls k3 _ l0 _ [rd_T75 ((rd_T59 l0 0).f1) x4_3] true _ ?side1 ?side2 A14.out).mono ?_); (case side1 => exact mvC HR0.out); (case side2 => repeat (first | exact Kd.C_one (HR141_1.out) (z75) x4_3 (of_eq_true p142) (of_eq_true q142) | (with_reducible refine Kd.C_alloc ?_ _) | (with_reducible refine Kd.C_drewN ?_ _) | (with_reducible refine Kd.C_drew ?_))); rintro e w' ⟨rfl, ⟨nd, rfl⟩⟩; (try first | exact ⟨rfl, _, World.drewN_drewN _ _ _⟩ | exact ⟨rfl, _, Eq.trans (World.drewN_drewN _ _ _) (congrArg (World.drewN _) (Nat.add_assoc _ _ _))⟩); all_goals (have p144 : 0 ≤ (0 : Int) := (by omega); have q144 : 0 < (l0.length : Int) := od; obtain ⟨ad144, A144_0, c144_0, A144_1, c144_1, e144, hx144_0, hx144_1, hl144_0, hi144_0, hl144_1, hi144_1⟩ := at_T59 HR0.out 0 p144 q144; obtain rfl : ad133 = ad144 := (by injection e144); have qi144 : (0 < l0.length) = True := eq_true (by omega); (try rw [show ((0 : Int)).toNat = 0 from rfl] at hx144_0); (try rw [show 0 * 2 = 0 from rfl] at hx144_0); (try rw [Addr.add_zero'] at hx144_0); (try rw [show ((0 : Int)).toNat = 0 from rfl] at hx144_1); (try rw [show 0 * 2 = 0 from rfl] at hx144_1); (try rw [Addr.add_zero'] at hx144_1); have HR144_0 := Aside0.mk hi144_0; have HC144_0 := Aside0.mk hl144_0; clear hi144_0 hl144_0; have HR144_1 := Aside0.mk hi144_1; have HC144_1 := Aside0.mk hl144_1; clear hi144_1 hl144_1; replace p144 := eq_true p144; replace q144 := eq_true q144; have ea_ := Option.some.inj (hx140_0.symm.trans hx144_0); injection ea_ with ea_ en_ ec_; subst ea_; subst ec_; clear en_; have ea_ := Option.some.inj (hx140_1.symm.trans hx144_1); injection ea_ with ea_ en_ ec_; subst ea_; subst ec_; clear en_; have p145 : 0 ≤ ((ji17) : Int) := od; have q145 : (ji17) < (((rd_T59 l0 0).f1).length : Int) := od; obtain ⟨ad145, e145, hx145_0, hx145_1, hx145_2, hx145_3, hx145_4, hx145_5⟩ := at_T75 HR144_1.out (ji17) p145 q145; cases e145; replace p145 := eq_true p145; replace q145 := eq_true q145; have p146 : 0 ≤ (0 : Int) := (by omega); have q146 : 0 < (l0.length : Int) := od; obtain ⟨ad146, A146_0, c146_0, A146_1, c146_1, e146, hx146_0, hx146_1, hl146_0, hi146_0, hl146_1, hi146_1⟩ := at_T59 HR0.out 0 p146 q146; obtain rfl : ad133 = ad146 := (by injection e146); have qi146 : (0 < l0.length) = True := eq_true (by omega); (try rw [show ((0 : Int)).toNat = 0 from rfl] at hx146_0); (try rw [show 0 * 2 = 0 from rfl] at hx146_0); (try rw [Addr.add_zero'] at hx146_0); (try rw [show ((0 : Int)).toNat = 0 from rfl] at hx146_1); (try rw [show 0 * 2 = 0 from rfl] at hx146_1); (try rw [Addr.add_zero'] at hx146_1); have HR146_0 := Aside0.mk hi146_0; have HC146_0 := Aside0.mk hl146_0; clear hi146_0 hl146_0; have HR146_1 := Aside0.mk hi146_1; have HC146_1 := Aside0.mk hl146_1; clear hi146_1 hl146_1; replace p146 := eq_true p146; replace q146 := eq_true q146; have ea_ := Option.some.inj (hx140_0.symm.trans hx146_0); injection ea_ with ea_ en_ ec_; subst ea_; subst ec_; clear en_; have ea_ := Option.some.inj (hx140_1.symm.trans hx146_1); injection ea_ with ea_ en_ ec_; subst ea_; subst ec_; clear en_; have p147 : 0 ≤ (x4_3 : Int) := od; have q147 : x4_3 < (((rd_T59 l0 0).f1).length : Int) := od; obtain ⟨ad147, e147, hx147_0, hx147_1, hx147_2, hx147_3, hx147_4, hx147_5⟩ := at_T75 HR146_1.out x4_3 p147 q147; cases e147; replace p147 := eq_true p147; replace q147 := eq_true q147))); try go_wp2_with (first | (go_at_call 116; (with_reducible refine (spec_l04Fits.calls k3 _ l0 _ [rd_T75 ((rd_T59 l0 0).f1) x4_3] true _ ?side1 ?side2 A14.out).mono ?_); (case side1 => exact mvC HR0.out); (case side2 => repeat (first | exact Kd.C_one (HR141_1.out) (z75) x4_3 (of_eq_true p142) (of_eq_true q142) | (with_reducible refine Kd.C_alloc ?_ _) | (with_reducible refine Kd.C_drewN ?_ _) | (with_reducible refine Kd.C_drew ?_))); rintro e w' ⟨rfl, ⟨nd, rfl⟩⟩; (try first | exact ⟨rfl, _, World.drewN_drewN _ _ _⟩ | exact ⟨rfl, _, Eq.trans (World.drewN_drewN _ _ _) (congrArg (World.drewN _) (Nat.add_assoc _ _ _))⟩); all_goals (have p144 : 0 ≤ (0 : Int) := (by omega); have q144 : 0 < (l0.length : Int) := od; obtain ⟨ad144, A144_0, c144_0, A144_1, c144_1, e144, hx144_0, hx144_1, hl144_0, hi144_0, hl144_1, hi144_1⟩ := at_T59 HR0.out 0 p144 q144; obtain rfl : ad133 = ad144 := (by injection e144); have qi144 : (0 < l0.length) = True := eq_true (by omega); (try rw [show ((0 : Int)).toNat = 0 from rfl] at hx144_0); (try rw [show 0 * 2 = 0 from rfl] at hx144_0); (try rw [Addr.add_zero'] at hx144_0); (try rw [show ((0 : Int)).toNat = 0 from rfl] at hx144_1); (try rw [show 0 * 2 = 0 from rfl] at hx144_1); (try rw [Addr.add_zero'] at hx144_1); have HR144_0 := Aside0.mk hi144_0; have HC144_0 := Aside0.mk hl144_0; clear hi144_0 hl144_0; have HR144_1 := Aside0.mk hi144_1; have HC144_1 := Aside0.mk hl144_1; clear hi144_1 hl144_1; replace p144 := eq_true p144; replace q144 := eq_true q144; have ea_ := Option.some.inj (hx140_0.symm.trans hx144_0); injection ea_ with ea_ en_ ec_; subst ea_; subst ec_; clear en_; have ea_ := Option.some.inj (hx140_1.symm.trans hx144_1); injection ea_ with ea_ en_ ec_; subst ea_; subst ec_; clear en_; have p145 : 0 ≤ ((ji17) : Int) := od; have q145 : (ji17) < (((rd_T59 l0 0).f1).length : Int) := od; obtain ⟨ad145, e145, hx145_0, hx145_1, hx145_2, hx145_3, hx145_4, hx145_5⟩ := at_T75 HR144_1.out (ji17) p145 q145; cases e145; replace p145 := eq_true p145; replace q145 := eq_true q145; have p146 : 0 ≤ (0 : Int) := (by omega); have q146 : 0 < (l0.length : Int) := od; obtain ⟨ad146, A146_0, c146_0, A146_1, c146_1, e146, hx146_0, hx146_1, hl146_0, hi146_0, hl146_1, hi146_1⟩ := at_T59 HR0.out 0 p146 q146; obtain rfl : ad133 = ad146 := (by injection e146); have qi146 : (0 < l0.length) = True := eq_true (by omega); (try rw [show ((0 : Int)).toNat = 0 from rfl] at hx146_0); (try rw [show 0 * 2 = 0 from rfl] at hx146_0); (try rw [Addr.add_zero'] at hx146_0); (try rw [show ((0 : Int)).toNat = 0 from rfl] at hx146_1); (try rw [show 0 * 2 = 0 from rfl] at hx146_1); (try rw [Addr.add_zero'] at hx146_1); have HR146_0 := Aside0.mk hi146_0; have HC146_0 := Aside0.mk hl146_0; clear hi146_0 hl146_0; have HR146_1 := Aside0.mk hi146_1; have HC146_1 := Aside0.mk hl146_1; clear hi146_1 hl146_1; replace p146 := eq_true p146; replace q146 := eq_true q146; have ea_ := Option.some.inj (hx140_0.symm.trans hx146_0); injection ea_ with ea_ en_ ec_; subst ea_; subst ec_; clear en_; have ea_ := Option.some.inj (hx140_1.symm.trans hx146_1); injection ea_ with ea_ en_ ec_; subst ea_; subst ec_; clear en_; have p147 : 0 ≤ (x4_3 : Int) := od; have q147 : x4_3 < (((rd_T59 l0 0).f1).length : Int) := od; obtain ⟨ad147, e147, hx147_0, hx147_1, hx147_2, hx147_3, hx147_4, hx147_5⟩ := at_T75 HR146_1.out x4_3 p147 q147; cases e147; replace p147 := eq_true p147; replace q147 := eq_true q147))))
                  go_roundg k3
                  case measure => have := HK1.out; have := HJ6.out; have := HK3.out; omega
                  case rel => exact ⟨(wrap64 (x4_3 + 1)), rs, H', ⟨by have := HK1.out; have := HJ6.out; have := HK3.out; omega⟩, dr0⟩
                 ·
                  rw [if_neg c20] at H
                  have c20b0 : (Op.bytesLess (((rd_T75 ((rd_T59 l0 0).f1) (ji17)).f0).toList) (((rd_T75 ((rd_T59 l0 0).f1) x4_3).f0).toList)) = false := by simpa using c20
                  clear c20
                  obtain rfl := Option.some.inj H
                  have p140 : 0 ≤ (0 : Int) := (by omega)
                  have q140 : 0 < (l0.length : Int) := od
                  obtain ⟨ad140, A140_0, c140_0, A140_1, c140_1, e140, hx140_0, hx140_1, hl140_0, hi140_0, hl140_1, hi140_1⟩ := at_T59 HR0.out 0 p140 q140
                  obtain rfl : ad133 = ad140 := (by injection e140)
                  have qi140 : (0 < l0.length) = True := eq_true (by omega)
                  (try rw [show ((0 : Int)).toNat = 0 from rfl] at hx140_0)
                  (try rw [show 0 * 2 = 0 from rfl] at hx140_0)
                  (try rw [Addr.add_zero'] at hx140_0)
                  (try rw [show ((0 : Int)).toNat = 0 from rfl] at hx140_1)
                  (try rw [show 0 * 2 = 0 from rfl] at hx140_1)
                  (try rw [Addr.add_zero'] at hx140_1)
                  have HR140_0 := Aside0.mk hi140_0
                  have HC140_0 := Aside0.mk hl140_0
                  clear hi140_0 hl140_0
                  have HR140_1 := Aside0.mk hi140_1
                  have HC140_1 := Aside0.mk hl140_1
                  clear hi140_1 hl140_1
                  replace p140 := eq_true p140
                  replace q140 := eq_true q140
                  have p141 : 0 ≤ (0 : Int) := (by omega)
                  have q141 : 0 < (l0.length : Int) := od
                  obtain ⟨ad141, A141_0, c141_0, A141_1, c141_1, e141, hx141_0, hx141_1, hl141_0, hi141_0, hl141_1, hi141_1⟩ := at_T59 HR0.out 0 p141 q141
                  obtain rfl : ad133 = ad141 := (by injection e141)
                  have qi141 : (0 < l0.length) = True := eq_true (by omega)
                  (try rw [show ((0 : Int)).toNat = 0 from rfl] at hx141_0)
                  (try rw [show 0 * 2 = 0 from rfl] at hx141_0)
                  (try rw [Addr.add_zero'] at hx141_0)
                  (try rw [show ((0 : Int)).toNat = 0 from rfl] at hx141_1)
                  (try rw [show 0 * 2 = 0 from rfl] at hx141_1)
                  (try rw [Addr.add_zero'] at hx141_1)
                  have HR141_0 := Aside0.mk hi141_0
                  have HC141_0 := Aside0.mk hl141_0
                  clear hi141_0 hl141_0
                  have HR141_1 := Aside0.mk hi141_1
                  have HC141_1 := Aside0.mk hl141_1
                  clear hi141_1 hl141_1
                  replace p141 := eq_true p141
                  replace q141 := eq_true q141
                  have ea_ := Option.some.inj (hx140_0.symm.trans hx141_0)
                  injection ea_ with ea_ en_ ec_
                  subst ea_
                  subst ec_
                  clear en_
                  have ea_ := Option.some.inj (hx140_1.symm.trans hx141_1)
                  injection ea_ with ea_ en_ ec_
                  subst ea_
                  subst ec_
                  clear en_
                  have p142 : 0 ≤ (x4_3 : Int) := od
                  have q142 : x4_3 < (((rd_T59 l0 0).f1).length : Int) := od
                  obtain ⟨ad142, e142, hx142_0, hx142_1, hx142_2, hx142_3, hx142_4, hx142_5⟩ := at_T75 HR141_1.out x4_3 p142 q142
                  cases e142
                  replace p142 := eq_true p142
                  replace q142 := eq_true q142
                  go_wp2_with (first | (go_at_call 116; (with_reducible refine (spec_l04Fits.calls k3 _ l0 _ [rd_T75 ((rd_T59 l0 0).f1) x4_3] true _ ?side1 ?side2 A14.out).mono ?_); (case side1 => exact mvC HR0.out); (case side2 => repeat (first | exact Kd.C_one (HR141_1.out) (z75) x4_3 (of_eq_true p142) (of_eq_true q142) | (with_reducible refine Kd.C_alloc ?_ _) | (with_reducible refine Kd.C_drewN ?_ _) | (with_reducible refine Kd.C_drew ?_))); rintro e w' ⟨rfl, ⟨nd, rfl⟩⟩; (try first | exact ⟨rfl, _, World.drewN_drewN _ _ _⟩ | exact ⟨rfl, _, Eq.trans (World.drewN_drewN _ _ _) (congrArg (World.drewN _) (Nat.add_assoc _ _ _))⟩); all_goals (have p144 : 0 ≤ (0 : Int) := (by omega); have q144 : 0 < (l0.length : Int) := od; obtain ⟨ad144, A144_0, c144_0, A144_1, c144_1, e144, hx144_0, hx144_1, hl144_0, hi144_0, hl144_1, hi144_1⟩ := at_T59 HR0.out 0 p144 q144; obtain rfl : ad133 = ad144 := (by injection e144); have qi144 : (0 < l0.length) = True := eq_true (by omega); (try rw [show ((0 : Int)).toNat = 0 from rfl] at hx144_0); (try rw [show 0 * 2 = 0 from rfl] at hx144_0); (try rw [Addr.add_zero'] at hx144_0); (try rw [show ((0 : Int)).toNat = 0 from rfl] at hx144_1); (try rw [show 0 * 2 = 0 from rfl] at hx144_1); (try rw [Addr.add_zero'] at hx144_1); have HR144_0 := Aside0.mk hi144_0; have HC144_0 := Aside0.mk hl144_0; clear hi144_0 hl144_0; have HR144_1 := Aside0.mk hi144_1; have HC144_1 := Aside0.mk hl144_1; clear hi144_1 hl144_1; replace p144 := eq_true p144; replace q144 := eq_true q144; have ea_ := Option.some.inj (hx140_0.symm.trans hx144_0); injection ea_ with ea_ en_ ec_; subst ea_; subst ec_; clear en_; have ea_ := Option.some.inj (hx140_1.symm.trans hx144_1); injection ea_ with ea_ en_ ec_; subst ea_; subst ec_; clear en_; have p145 : 0 ≤ ((ji17) : Int) := od; have q145 : (ji17) < (((rd_T59 l0 0).f1).length : Int) := od; obtain ⟨ad145, e145, hx145_0, hx145_1, hx145_2, hx145_3, hx145_4, hx145_5⟩ := at_T75 HR144_1.out (ji17) p145 q145; cases e145; replace p145 := eq_true p145; replace q145 := eq_true q145; have p146 : 0 ≤ (0 : Int) := (by omega); have q146 : 0 < (l0.length : Int) := od; obtain ⟨ad146, A146_0, c146_0, A146_1, c146_1, e146, hx146_0, hx146_1, hl146_0, hi146_0, hl146_1, hi146_1⟩ := at_T59 HR0.out 0 p146 q146; obtain rfl : ad133 = ad146 := (by injection e146); have qi146 : (0 < l0.length) = True := eq_true (by omega); (try rw [show ((0 : Int)).toNat = 0 from rfl] at hx146_0); (try rw [show 0 * 2 = 0 from rfl] at hx146_0); (try rw [Addr.add_zero'] at hx146_0); (try rw [show ((0 : Int)).toNat = 0 from rfl] at hx146_1); (try rw [show 0 * 2 = 0 from rfl] at hx146_1); (try rw [Addr.add_zero'] at hx146_1); have HR146_0 := Aside0.mk hi146_0; have HC146_0 := Aside0.mk hl146_0; clear hi146_0 hl146_0; have HR146_1 := Aside0.mk hi146_1; have HC146_1 := Aside0.mk hl146_1; clear hi146_1 hl146_1; replace p146 := eq_true p146; replace q146 := eq_true q146; have ea_ := Option.some.inj (hx140_0.symm.trans hx146_0); injection ea_ with ea_ en_ ec_; subst ea_; subst ec_; clear en_; have ea_ := Option.some.inj (hx140_1.symm.trans hx146_1); injection ea_ with ea_ en_ ec_; subst ea_; subst ec_; clear en_; have p147 : 0 ≤ (x4_3 : Int) := od; have q147 : x4_3 < (((rd_T59 l0 0).f1).length : Int) := od; obtain ⟨ad147, e147, hx147_0, hx147_1, hx147_2, hx147_3, hx147_4, hx147_5⟩ := at_T75 HR146_1.out x4_3 p147 q147; cases e147; replace p147 := eq_true p147; replace q147 := eq_true q147)))
                  repeat (go_quiet (first | (go_at_call 116; (with_reducible refine (spec_l04Fits.calls k3 _ l0 _ [rd_T75 ((rd_T59 l0 0).f1) x4_3] true _ ?side1 ?side2 A14.out).mono ?_); (case side1 => exact mvC HR0.out); (case side2 => repeat (first | exact Kd.C_one (HR141_1.out) (z75) x4_3 (of_eq_true p142) (of_eq_true q142) | (with_reducible refine Kd.C_alloc ?_ _) | (with_reducible refine Kd.C_drewN ?_ _) | (with_reducible refine Kd.C_drew ?_))); rintro e w' ⟨rfl, ⟨nd, rfl⟩⟩; (try first | exact ⟨rfl, _, World.drewN_drewN _ _ _⟩ | exact ⟨rfl, _, Eq.trans (World.drewN_drewN _ _ _) (congrArg (World.drewN _) (Nat.add_assoc _ _ _))⟩); all_goals (have p144 : 0 ≤ (0 : Int) := (by omega); have q144 : 0 < (l0.length : Int) := od; obtain ⟨ad144, A144_0, c144_0, A144_1, c144_1, e144, hx144_0, hx144_1, hl144_0, hi144_0, hl144_1, hi144_1⟩ := at_T59 HR0.out 0 p144 q144; obtain rfl : ad133 = ad144 := (by injection e144); have qi144 : (0 < l0.length) = True := eq_true (by omega); (try rw [show ((0 : Int)).toNat = 0 from rfl] at hx144_0); (try rw [show 0 * 2 = 0 from rfl] at hx144_0); (try rw [Addr.add_zero'] at hx144_0); (try rw [show ((0 : Int)).toNat = 0 from rfl] at hx144_1); (try rw [show 0 * 2 = 0 from rfl] at hx144_1); (try rw [Addr.add_zero'] at hx144_1); have HR144_0 := Aside0.mk hi144_0; have HC144_0 := Aside0.mk hl144_0; clear hi144_0 hl144_0; have HR144_1 := Aside0.mk hi144_1; have HC144_1 := Aside0.mk hl144_1; clear hi144_1 hl144_1; replace p144 := eq_true p144; replace q144 := eq_true q144; have ea_ := Option.some.inj (hx140_0.symm.trans hx144_0); injection ea_ with ea_ en_ ec_; subst ea_; subst ec_; clear en_; have ea_ := Option.some.inj (hx140_1.symm.trans hx144_1); injection ea_ with ea_ en_ ec_; subst ea_; subst ec_; clear en_; have p145 : 0 ≤ ((ji17) : Int) := od; have q145 : (ji17) < (((rd_T59 l0 0).f1).length : Int) := od; obtain ⟨ad145, e145, hx145_0, hx145_1, hx145_2, hx145_3, hx145_4, hx145_5⟩ := at_T75 HR144_1.out (ji17) p145 q145; cases e145; replace p145 := eq_true p145; replace q145 := eq_true q145; have p146 : 0 ≤ (0 : Int) := (by omega); have q146 : 0 < (l0.length : Int) := od; obtain ⟨ad146, A146_0, c146_0, A146_1, c146_1, e146, hx146_0, hx146_1, hl146_0, hi146_0, hl146_1, hi146_1⟩ := at_T59 HR0.out 0 p146 q146; obtain rfl : ad133 = ad146 := (by injection e146); have qi146 : (0 < l0.length) = True := eq_true (by omega); (try rw [show ((0 : Int)).toNat = 0 from rfl] at hx146_0); (try rw [show 0 * 2 = 0 from rfl] at hx146_0); (try rw [Addr.add_zero'] at hx146_0); (try rw [show ((0 : Int)).toNat = 0 from rfl] at hx146_1); (try rw [show 0 * 2 = 0 from rfl] at hx146_1); (try rw [Addr.add_zero'] at hx146_1); have HR146_0 := Aside0.mk hi146_0; have HC146_0 := Aside0.mk hl146_0; clear hi146_0 hl146_0; have HR146_1 := Aside0.mk hi146_1; have HC146_1 := Aside0.mk hl146_1; clear hi146_1 hl146_1; replace p146 := eq_true p146; replace q146 := eq_true q146; have ea_ := Option.some.inj (hx140_0.symm.trans hx146_0); injection ea_ with ea_ en_ ec_; subst ea_; subst ec_; clear en_; have ea_ := Option.some.inj (hx140_1.symm.trans hx146_1); injection ea_ with ea_ en_ ec_; subst ea_; subst ec_; clear en_; have p147 : 0 ≤ (x4_3 : Int) := od; have q147 : x4_3 < (((rd_T59 l0 0).f1).length : Int) := od; obtain ⟨ad147, e147, hx147_0, hx147_1, hx147_2, hx147_3, hx147_4, hx147_5⟩ := at_T75 HR146_1.out x4_3 p147 q147; cases e147; replace p147 := eq_true p147; replace q147 := eq_true q147))); try go_wp2_with (first | (go_at_call 116; (with_reducible refine (spec_l04Fits.calls k3 _ l0 _ [rd_T75 ((rd_T59 l0 0).f1) x4_3] true _ ?side1 ?side2 A14.out).mono ?_); (case side1 => exact mvC HR0.out); (case side2 => repeat (first | exact Kd.C_one (HR141_1.out) (z75) x4_3 (of_eq_true p142) (of_eq_true q142) | (with_reducible refine Kd.C_alloc ?_ _) | (with_reducible refine Kd.C_drewN ?_ _) | (with_reducible refine Kd.C_drew ?_))); rintro e w' ⟨rfl, ⟨nd, rfl⟩⟩; (try first | exact ⟨rfl, _, World.drewN_drewN _ _ _⟩ | exact ⟨rfl, _, Eq.trans (World.drewN_drewN _ _ _) (congrArg (World.drewN _) (Nat.add_assoc _ _ _))⟩); all_goals (have p144 : 0 ≤ (0 : Int) := (by omega); have q144 : 0 < (l0.length : Int) := od; obtain ⟨ad144, A144_0, c144_0, A144_1, c144_1, e144, hx144_0, hx144_1, hl144_0, hi144_0, hl144_1, hi144_1⟩ := at_T59 HR0.out 0 p144 q144; obtain rfl : ad133 = ad144 := (by injection e144); have qi144 : (0 < l0.length) = True := eq_true (by omega); (try rw [show ((0 : Int)).toNat = 0 from rfl] at hx144_0); (try rw [show 0 * 2 = 0 from rfl] at hx144_0); (try rw [Addr.add_zero'] at hx144_0); (try rw [show ((0 : Int)).toNat = 0 from rfl] at hx144_1); (try rw [show 0 * 2 = 0 from rfl] at hx144_1); (try rw [Addr.add_zero'] at hx144_1); have HR144_0 := Aside0.mk hi144_0; have HC144_0 := Aside0.mk hl144_0; clear hi144_0 hl144_0; have HR144_1 := Aside0.mk hi144_1; have HC144_1 := Aside0.mk hl144_1; clear hi144_1 hl144_1; replace p144 := eq_true p144; replace q144 := eq_true q144; have ea_ := Option.some.inj (hx140_0.symm.trans hx144_0); injection ea_ with ea_ en_ ec_; subst ea_; subst ec_; clear en_; have ea_ := Option.some.inj (hx140_1.symm.trans hx144_1); injection ea_ with ea_ en_ ec_; subst ea_; subst ec_; clear en_; have p145 : 0 ≤ ((ji17) : Int) := od; have q145 : (ji17) < (((rd_T59 l0 0).f1).length : Int) := od; obtain ⟨ad145, e145, hx145_0, hx145_1, hx145_2, hx145_3, hx145_4, hx145_5⟩ := at_T75 HR144_1.out (ji17) p145 q145; cases e145; replace p145 := eq_true p145; replace q145 := eq_true q145; have p146 : 0 ≤ (0 : Int) := (by omega); have q146 : 0 < (l0.length : Int) := od; obtain ⟨ad146, A146_0, c146_0, A146_1, c146_1, e146, hx146_0, hx146_1, hl146_0, hi146_0, hl146_1, hi146_1⟩ := at_T59 HR0.out 0 p146 q146; obtain rfl : ad133 = ad146 := (by injection e146); have qi146 : (0 < l0.length) = True := eq_true (by omega); (try rw [show ((0 : Int)).toNat = 0 from rfl] at hx146_0); (try rw [show 0 * 2 = 0 from rfl] at hx146_0); (try rw [Addr.add_zero'] at hx146_0); (try rw [show ((0 : Int)).toNat = 0 from rfl] at hx146_1); (try rw [show 0 * 2 = 0 from rfl] at hx146_1); (try rw [Addr.add_zero'] at hx146_1); have HR146_0 := Aside0.mk hi146_0; have HC146_0 := Aside0.mk hl146_0; clear hi146_0 hl146_0; have HR146_1 := Aside0.mk hi146_1; have HC146_1 := Aside0.mk hl146_1; clear hi146_1 hl146_1; replace p146 := eq_true p146; replace q146 := eq_true q146; have ea_ := Option.some.inj (hx140_0.symm.trans hx146_0); injection ea_ with ea_ en_ ec_; subst ea_; subst ec_; clear en_; have ea_ := Option.some.inj (hx140_1.symm.trans hx146_1); injection ea_ with ea_ en_ ec_; subst ea_; subst ec_; clear en_; have p147 : 0 ≤ (x4_3 : Int) := od; have q147 : x4_3 < (((rd_T59 l0 0).f1).length : Int) := od; obtain ⟨ad147, e147, hx147_0, hx147_1, hx147_2, hx147_3, hx147_4, hx147_5⟩ := at_T75 HR146_1.out x4_3 p147 q147; cases e147; replace p147 := eq_true p147; replace q147 := eq_true q147))))
                  go_ret
                  exact ⟨by first | rfl | (simp; done) | (simp only [← hji17] <;> (first | rfl | simp)) | (simp [*]; done), dr0⟩
                ·
                 rw [if_neg c19] at H
                 exact absurd H (by simp)
               ·
                rw [if_neg c18] at H
                exact absurd H (by simp)
              ·
               rw [if_neg c16] at H
               have c16b0 : decide (0 < x4_3) = false := decide_eq_false c16
               clear c16
               have H' := Aside0.mk H
               clear H
               have p140 : 0 ≤ (0 : Int) := (by omega)
               have q140 : 0 < (l0.length : Int) := od
               obtain ⟨ad140, A140_0, c140_0, A140_1, c140_1, e140, hx140_0, hx140_1, hl140_0, hi140_0, hl140_1, hi140_1⟩ := at_T59 HR0.out 0 p140 q140
               obtain rfl : ad133 = ad140 := (by injection e140)
               have qi140 : (0 < l0.length) = True := eq_true (by omega)
               (try rw [show ((0 : Int)).toNat = 0 from rfl] at hx140_0)
               (try rw [show 0 * 2 = 0 from rfl] at hx140_0)
               (try rw [Addr.add_zero'] at hx140_0)
               (try rw [show ((0 : Int)).toNat = 0 from rfl] at hx140_1)
               (try rw [show 0 * 2 = 0 from rfl] at hx140_1)
               (try rw [Addr.add_zero'] at hx140_1)
               have HR140_0 := Aside0.mk hi140_0
               have HC140_0 := Aside0.mk hl140_0
               clear hi140_0 hl140_0
               have HR140_1 := Aside0.mk hi140_1
               have HC140_1 := Aside0.mk hl140_1
               clear hi140_1 hl140_1
               replace p140 := eq_true p140
               replace q140 := eq_true q140
               have p141 : 0 ≤ (0 : Int) := (by omega)
               have q141 : 0 < (l0.length : Int) := od
               obtain ⟨ad141, A141_0, c141_0, A141_1, c141_1, e141, hx141_0, hx141_1, hl141_0, hi141_0, hl141_1, hi141_1⟩ := at_T59 HR0.out 0 p141 q141
               obtain rfl : ad133 = ad141 := (by injection e141)
               have qi141 : (0 < l0.length) = True := eq_true (by omega)
               (try rw [show ((0 : Int)).toNat = 0 from rfl] at hx141_0)
               (try rw [show 0 * 2 = 0 from rfl] at hx141_0)
               (try rw [Addr.add_zero'] at hx141_0)
               (try rw [show ((0 : Int)).toNat = 0 from rfl] at hx141_1)
               (try rw [show 0 * 2 = 0 from rfl] at hx141_1)
               (try rw [Addr.add_zero'] at hx141_1)
               have HR141_0 := Aside0.mk hi141_0
               have HC141_0 := Aside0.mk hl141_0
               clear hi141_0 hl141_0
               have HR141_1 := Aside0.mk hi141_1
               have HC141_1 := Aside0.mk hl141_1
               clear hi141_1 hl141_1
               replace p141 := eq_true p141
               replace q141 := eq_true q141
               have ea_ := Option.some.inj (hx140_0.symm.trans hx141_0)
               injection ea_ with ea_ en_ ec_
               subst ea_
               subst ec_
               clear en_
               have ea_ := Option.some.inj (hx140_1.symm.trans hx141_1)
               injection ea_ with ea_ en_ ec_
               subst ea_
               subst ec_
               clear en_
               have p142 : 0 ≤ (x4_3 : Int) := od
               have q142 : x4_3 < (((rd_T59 l0 0).f1).length : Int) := od
               obtain ⟨ad142, e142, hx142_0, hx142_1, hx142_2, hx142_3, hx142_4, hx142_5⟩ := at_T75 HR141_1.out x4_3 p142 q142
               cases e142
               replace p142 := eq_true p142
               replace q142 := eq_true q142
               go_wp2_with (first | (go_at_call 116; (with_reducible refine (spec_l04Fits.calls k3 _ l0 _ [rd_T75 ((rd_T59 l0 0).f1) x4_3] true _ ?side1 ?side2 A14.out).mono ?_); (case side1 => exact mvC HR0.out); (case side2 => repeat (first | exact Kd.C_one (HR141_1.out) (z75) x4_3 (of_eq_true p142) (of_eq_true q142) | (with_reducible refine Kd.C_alloc ?_ _) | (with_reducible refine Kd.C_drewN ?_ _) | (with_reducible refine Kd.C_drew ?_))); rintro e w' ⟨rfl, ⟨nd, rfl⟩⟩; (try first | exact ⟨rfl, _, World.drewN_drewN _ _ _⟩ | exact ⟨rfl, _, Eq.trans (World.drewN_drewN _ _ _) (congrArg (World.drewN _) (Nat.add_assoc _ _ _))⟩)))
               repeat (go_quiet (first | (go_at_call 116; (with_reducible refine (spec_l04Fits.calls k3 _ l0 _ [rd_T75 ((rd_T59 l0 0).f1) x4_3] true _ ?side1 ?side2 A14.out).mono ?_); (case side1 => exact mvC HR0.out); (case side2 => repeat (first | exact Kd.C_one (HR141_1.out) (z75) x4_3 (of_eq_true p142) (of_eq_true q142) | (with_reducible refine Kd.C_alloc ?_ _) | (with_reducible refine Kd.C_drewN ?_ _) | (with_reducible refine Kd.C_drew ?_))); rintro e w' ⟨rfl, ⟨nd, rfl⟩⟩; (try first | exact ⟨rfl, _, World.drewN_drewN _ _ _⟩ | exact ⟨rfl, _, Eq.trans (World.drewN_drewN _ _ _) (congrArg (World.drewN _) (Nat.add_assoc _ _ _))⟩))); try go_wp2_with (first | (go_at_call 116; (with_reducible refine (spec_l04Fits.calls k3 _ l0 _ [rd_T75 ((rd_T59 l0 0).f1) x4_3] true _ ?side1 ?side2 A14.out).mono ?_); (case side1 => exact mvC HR0.out); (case side2 => repeat (first | exact Kd.C_one (HR141_1.out) (z75) x4_3 (of_eq_true p142) (of_eq_true q142) | (with_reducible refine Kd.C_alloc ?_ _) | (with_reducible refine Kd.C_drewN ?_ _) | (with_reducible refine Kd.C_drew ?_))); rintro e w' ⟨rfl, ⟨nd, rfl⟩⟩; (try first | exact ⟨rfl, _, World.drewN_drewN _ _ _⟩ | exact ⟨rfl, _, Eq.trans (World.drewN_drewN _ _ _) (congrArg (World.drewN _) (Nat.add_assoc _ _ _))⟩))))
               go_roundg k3
               case measure => have := HK1.out; have := HJ6.out; have := HK3.out; omega
               case rel => exact ⟨(wrap64 (x4_3 + 1)), rs, H', ⟨by have := HK1.out; have := HJ6.out; have := HK3.out; omega⟩, dr0⟩
             ·
              replace c15 := Bool.eq_false_iff.mpr c15
              subst c15
              have H1 : (some false) = some r := by rw [if_neg (show ¬ (false = true) by decide)] at H; exact H
              clear H
              have H := H1
              clear H1
              obtain rfl := Option.some.inj H
              have p140 : 0 ≤ (0 : Int) := (by omega)
              have q140 : 0 < (l0.length : Int) := od
              obtain ⟨ad140, A140_0, c140_0, A140_1, c140_1, e140, hx140_0, hx140_1, hl140_0, hi140_0, hl140_1, hi140_1⟩ := at_T59 HR0.out 0 p140 q140
              obtain rfl : ad133 = ad140 := (by injection e140)
              have qi140 : (0 < l0.length) = True := eq_true (by omega)
              (try rw [show ((0 : Int)).toNat = 0 from rfl] at hx140_0)
              (try rw [show 0 * 2 = 0 from rfl] at hx140_0)
              (try rw [Addr.add_zero'] at hx140_0)
              (try rw [show ((0 : Int)).toNat = 0 from rfl] at hx140_1)
              (try rw [show 0 * 2 = 0 from rfl] at hx140_1)
              (try rw [Addr.add_zero'] at hx140_1)
              have HR140_0 := Aside0.mk hi140_0
              have HC140_0 := Aside0.mk hl140_0
              clear hi140_0 hl140_0
              have HR140_1 := Aside0.mk hi140_1
              have HC140_1 := Aside0.mk hl140_1
              clear hi140_1 hl140_1
              replace p140 := eq_true p140
              replace q140 := eq_true q140
              have p141 : 0 ≤ (0 : Int) := (by omega)
              have q141 : 0 < (l0.length : Int) := od
              obtain ⟨ad141, A141_0, c141_0, A141_1, c141_1, e141, hx141_0, hx141_1, hl141_0, hi141_0, hl141_1, hi141_1⟩ := at_T59 HR0.out 0 p141 q141
              obtain rfl : ad133 = ad141 := (by injection e141)
              have qi141 : (0 < l0.length) = True := eq_true (by omega)
              (try rw [show ((0 : Int)).toNat = 0 from rfl] at hx141_0)
              (try rw [show 0 * 2 = 0 from rfl] at hx141_0)
              (try rw [Addr.add_zero'] at hx141_0)
              (try rw [show ((0 : Int)).toNat = 0 from rfl] at hx141_1)
              (try rw [show 0 * 2 = 0 from rfl] at hx141_1)
              (try rw [Addr.add_zero'] at hx141_1)
              have HR141_0 := Aside0.mk hi141_0
              have HC141_0 := Aside0.mk hl141_0
              clear hi141_0 hl141_0
              have HR141_1 := Aside0.mk hi141_1
              have HC141_1 := Aside0.mk hl141_1
              clear hi141_1 hl141_1
              replace p141 := eq_true p141
              replace q141 := eq_true q141
              have ea_ := Option.some.inj (hx140_0.symm.trans hx141_0)
              injection ea_ with ea_ en_ ec_
              subst ea_
              subst ec_
              clear en_
              have ea_ := Option.some.inj (hx140_1.symm.trans hx141_1)
              injection ea_ with ea_ en_ ec_
              subst ea_
              subst ec_
              clear en_
              have p142 : 0 ≤ (x4_3 : Int) := od
              have q142 : x4_3 < (((rd_T59 l0 0).f1).length : Int) := od
              obtain ⟨ad142, e142, hx142_0, hx142_1, hx142_2, hx142_3, hx142_4, hx142_5⟩ := at_T75 HR141_1.out x4_3 p142 q142
              cases e142
              replace p142 := eq_true p142
              replace q142 := eq_true q142
              go_wp2_with (first | (go_at_call 116; (with_reducible refine (spec_l04Fits.calls k3 _ l0 _ [rd_T75 ((rd_T59 l0 0).f1) x4_3] false _ ?side1 ?side2 A14.out).mono ?_); (case side1 => exact mvC HR0.out); (case side2 => repeat (first | exact Kd.C_one (HR141_1.out) (z75) x4_3 (of_eq_true p142) (of_eq_true q142) | (with_reducible refine Kd.C_alloc ?_ _) | (with_reducible refine Kd.C_drewN ?_ _) | (with_reducible refine Kd.C_drew ?_))); rintro e w' ⟨rfl, ⟨nd, rfl⟩⟩; (try first | exact ⟨rfl, _, World.drewN_drewN _ _ _⟩ | exact ⟨rfl, _, Eq.trans (World.drewN_drewN _ _ _) (congrArg (World.drewN _) (Nat.add_assoc _ _ _))⟩)))
              repeat (go_quiet (first | (go_at_call 116; (with_reducible refine (spec_l04Fits.calls k3 _ l0 _ [rd_T75 ((rd_T59 l0 0).f1) x4_3] false _ ?side1 ?side2 A14.out).mono ?_); (case side1 => exact mvC HR0.out); (case side2 => repeat (first | exact Kd.C_one (HR141_1.out) (z75) x4_3 (of_eq_true p142) (of_eq_true q142) | (with_reducible refine Kd.C_alloc ?_ _) | (with_reducible refine Kd.C_drewN ?_ _) | (with_reducible refine Kd.C_drew ?_))); rintro e w' ⟨rfl, ⟨nd, rfl⟩⟩; (try first | exact ⟨rfl, _, World.drewN_drewN _ _ _⟩ | exact ⟨rfl, _, Eq.trans (World.drewN_drewN _ _ _) (congrArg (World.drewN _) (Nat.add_assoc _ _ _))⟩))); try go_wp2_with (first | (go_at_call 116; (with_reducible refine (spec_l04Fits.calls k3 _ l0 _ [rd_T75 ((rd_T59 l0 0).f1) x4_3] false _ ?side1 ?side2 A14.out).mono ?_); (case side1 => exact mvC HR0.out); (case side2 => repeat (first | exact Kd.C_one (HR141_1.out) (z75) x4_3 (of_eq_true p142) (of_eq_true q142) | (with_reducible refine Kd.C_alloc ?_ _) | (with_reducible refine Kd.C_drewN ?_ _) | (with_reducible refine Kd.C_drew ?_))); rintro e w' ⟨rfl, ⟨nd, rfl⟩⟩; (try first | exact ⟨rfl, _, World.drewN_drewN _ _ _⟩ | exact ⟨rfl, _, Eq.trans (World.drewN_drewN _ _ _) (congrArg (World.drewN _) (Nat.add_assoc _ _ _))⟩))))
              go_ret
              exact ⟨rs, dr0⟩
            ·
             rw [if_neg c13] at H
             exact absurd H (by simp)
           ·
            rw [if_neg c12] at H
            have c12b0 : decide (x4_3 < (((rd_T59 l0 0).f1).length : Int)) = false := decide_eq_false c12
            clear c12
            obtain rfl := Option.some.inj H
            have p140 : 0 ≤ (0 : Int) := (by omega)
            have q140 : 0 < (l0.length : Int) := od
            obtain ⟨ad140, A140_0, c140_0, A140_1, c140_1, e140, hx140_0, hx140_1, hl140_0, hi140_0, hl140_1, hi140_1⟩ := at_T59 HR0.out 0 p140 q140
            obtain rfl : ad133 = ad140 := (by injection e140)
            have qi140 : (0 < l0.length) = True := eq_true (by omega)
            (try rw [show ((0 : Int)).toNat = 0 from rfl] at hx140_0)
            (try rw [show 0 * 2 = 0 from rfl] at hx140_0)
            (try rw [Addr.add_zero'] at hx140_0)
            (try rw [show ((0 : Int)).toNat = 0 from rfl] at hx140_1)
            (try rw [show 0 * 2 = 0 from rfl] at hx140_1)
            (try rw [Addr.add_zero'] at hx140_1)
            have HR140_0 := Aside0.mk hi140_0
            have HC140_0 := Aside0.mk hl140_0
            clear hi140_0 hl140_0
            have HR140_1 := Aside0.mk hi140_1
            have HC140_1 := Aside0.mk hl140_1
            clear hi140_1 hl140_1
            replace p140 := eq_true p140
            replace q140 := eq_true q140
            go_wp2
            repeat (go_quiet (fail); try go_wp2)
            go_ret
            exact ⟨rs, dr0⟩
          ·
           rw [if_neg c11] at H
           exact absurd H (by simp)
   ·
    rw [if_neg c2] at H
    exact absurd H (by simp)

end Go.Proofs.Ytndbgkcjccejdaa.PFnExactBestRenewal
