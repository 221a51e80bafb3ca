-- written by a program of this session (mkp.py) out of the translation; Lean checks it. -- squeezed
import Derived.Test.YtmbiapefigcgnaaPFnPlansx0
import Derived.Test.YtmbiapefigcgnaaPFnPlansx1
import Derived.Test.YtmbiapefigcgnaaPFnPlansx3
import Derived.Test.YtmbiapefigcgnaaPFnPlansx8
import Derived.Test.YtmbiapefigcgnaaPFnPlansx10
namespace Go.Proofs.Ytmbiapefigcgnaa.PFnPlans
open Go.RowKit Go.Proofs.YtmbiapefigcgnaaW.PrintWords Go.Proofs.YtmbiapefigcgnaaW.PrintLast Go.Proofs.YtmbiapefigcgnaaW.PrintMore
attribute [local go_sem] bin_leq bin_gtr bin_geq max2_int min2_int max_two min_two max_three min_three max_four min_four   -- for this text's walks alone
set_option linter.unusedVariables false
set_option linter.unusedSimpArgs false

/-! ### spec_l24Order: function 86 -/
def spec_l24Order.l0 : Nat → List (S34) → List Int → Int → Option (Bool)
 | 0, _, _, _ => none
 | k + 1, x0, x1, x5 => if x5 < (x1.length : Int) then (if 0 ≤ x5 then ((spec_l00In.f (rd x1 x5) 0 (wrap64 ((x0.length : Int) - 1))).bind fun t334 => (if t334 = true then (if x5 ≤ (x1.length : Int) then ((spec_l00Has.f k (x1.take (x5 : Int).toNat) (rd x1 x5)).bind fun t337 => (if t337 = true then (some false) else ((spec_l24Ready.f k x0 (x1.take (x5 : Int).toNat) (rd x1 x5)).bind fun t340 => (if t340 = true then (spec_l24Order.l0 k x0 x1 (wrap64 (x5 + 1))) else (some false))))) else (none)) else (some false))) else (none)) else (some true)
def spec_l24Order.f (k : Nat) (l0 : List (S34)) (l1 : List Int) : Option (Bool) := spec_l24Order.l0 k l0 l1 0
theorem spec_l24Order.mono_l : ∀ k, (∀ y0 y1 y2, LeO (spec_l24Order.l0 k y0 y1 y2) (spec_l24Order.l0 (k + 1) y0 y1 y2))
 | 0 => fun _ _ _ r h => by simp [spec_l24Order.l0] at h
 | k + 1 => by
  have ih0 := spec_l24Order.mono_l k
  ·
   intro y0 y1 y2
   unfold spec_l24Order.l0
   repeat' first
   | (with_reducible exact ih0 _ _ _)
   | (with_reducible exact spec_l00Has.mono _ _ _)
   | (with_reducible exact spec_l24Ready.mono _ _ _ _)
   | (with_reducible exact LeO.refl _)
   | (with_reducible exact LeO.none _)
   | (with_reducible refine LeO.ite ?_ ?_)
   | (with_reducible refine LeO.bind ?_ (fun _ => ?_))
   | exact ih0 _ _ _
   | exact spec_l00Has.mono _ _ _
   | exact spec_l24Ready.mono _ _ _ _
   | exact LeO.none _
   | refine LeO.ite ?_ ?_
   | refine LeO.bind ?_ (fun _ => ?_)
theorem spec_l24Order.mono : ∀ a0 a1 k, LeO (spec_l24Order.f k a0 a1) (spec_l24Order.f (k + 1) a0 a1) := by
 intro a0 a1 k
 have ih0 := spec_l24Order.mono_l k
 unfold spec_l24Order.f
 repeat' first
  | (with_reducible exact ih0 _ _ _)
  | (with_reducible exact spec_l00Has.mono _ _ _)
  | (with_reducible exact spec_l24Ready.mono _ _ _ _)
  | (with_reducible exact LeO.refl _)
  | (with_reducible exact LeO.none _)
  | (with_reducible refine LeO.ite ?_ ?_)
  | (with_reducible refine LeO.bind ?_ (fun _ => ?_))
  | exact ih0 _ _ _
  | exact spec_l00Has.mono _ _ _
  | exact spec_l24Ready.mono _ _ _ _
  | exact LeO.none _
  | refine LeO.ite ?_ ?_
  | refine LeO.bind ?_ (fun _ => ?_)
set_option maxHeartbeats 8000000 in
set_option maxRecDepth 100000 in
theorem spec_l24Order.calls (k : Nat) (A0 : Option Addr) (c0 : Nat) (l0 : List (S34)) (A1 : Option Addr) (c1 : Nat) (l1 : List Int) (r : Bool) (w : World) (hr0 : Kd.C k34 w A0 l0.length l0) (hc0 : l0.length ≤ c0) (hr1 : Kd.C (Kd.int .i64) w A1 l1.length l1) (hc1 : l1.length ≤ c1) (h : spec_l24Order.f k l0 l1 = some r) :
  Calls Try.prog 86 #[.slice A0 l0.length c0, .slice A1 l1.length c1] w fun e w' => e = .returned (.bool r) ∧ Drawn0 w w' := by
 have HR0 := Aside0.mk hr0
 have HC0 := Aside0.mk hc0
 clear hr0 hc0
 have HR1 := Aside0.mk hr1
 have HC1 := Aside0.mk hc1
 clear hr1 hc1
 have H : (spec_l24Order.l0 k l0 l1 0) = some r := h
 clear h
 have H' := Aside0.mk H
 clear H
 go_enter Try.func86, Try.ntmps86
 go_wp2
 repeat (go_quiet (fail); try go_wp2)
 go_loopg [5] k (fun kq v5 w' => ∃ (x5_1 : Int), v5 = .int .i64 x5_1 ∧ Aside0 (spec_l24Order.l0 kq l0 l1 x5_1 = some r) ∧ Aside0 (kq ≤ k) ∧ Drawn0 w w')
 case atStart => exact ⟨(0), rs, H', ⟨Nat.le_refl _⟩, dr0⟩
 case round =>
  clear H'
  obtain ⟨x5_1, rfl, HA, HK1, ⟨m1, rfl⟩⟩ := hrel
  cases gk with
  | zero => exact absurd HA.out (by simp [spec_l24Order.l0])
  | succ k1 =>
   have H := HA.out
   clear HA
   simp only [spec_l24Order.l0] at H
   by_cases c3 : x5_1 < (l1.length : Int)
   ·
    rw [if_pos c3] at H
    have c3b0 : decide (x5_1 < (l1.length : Int)) = true := decide_eq_true c3
    clear c3
    by_cases c4 : 0 ≤ x5_1
    ·
     rw [if_pos c4] at H
     have c4b0 : decide (0 ≤ x5_1) = true := decide_eq_true c4
     clear c4
     replace H := Option.bind_eq_some_iff.mp H
     obtain ⟨t334, A50, H⟩ := H
     replace H : (if t334 = true then (if x5_1 ≤ (l1.length : Int) then ((spec_l00Has.f k1 (l1.take (x5_1 : Int).toNat) (rd l1 x5_1)).bind fun t337 => (if t337 = true then (some false) else ((spec_l24Ready.f k1 l0 (l1.take (x5_1 : Int).toNat) (rd l1 x5_1)).bind fun t340 => (if t340 = true then (spec_l24Order.l0 k1 l0 l1 (wrap64 (x5_1 + 1))) else (some false))))) else (none)) else (some false)) = some r := H
     have A5 := Aside0.mk A50
     clear A50
     by_cases c6 : t334 = true
     ·
      subst c6
      have H1 : (if x5_1 ≤ (l1.length : Int) then ((spec_l00Has.f k1 (l1.take (x5_1 : Int).toNat) (rd l1 x5_1)).bind fun t337 => (if t337 = true then (some false) else ((spec_l24Ready.f k1 l0 (l1.take (x5_1 : Int).toNat) (rd l1 x5_1)).bind fun t340 => (if t340 = true then (spec_l24Order.l0 k1 l0 l1 (wrap64 (x5_1 + 1))) else (some false))))) else (none)) = some r := by rw [if_pos rfl] at H; exact H
      clear H
      have H := H1
      clear H1
      have c7b0 := eq_true (od : 0 ≤ x5_1)
      by_cases c8 : x5_1 ≤ (l1.length : Int)
      ·
       rw [if_pos c8] at H
       have c8b0 := eq_true c8
       have c8b1 : decide (x5_1 ≤ (l1.length : Int)) = true := decide_eq_true c8
       clear c8
       replace H := Option.bind_eq_some_iff.mp H
       obtain ⟨t337, A90, H⟩ := H
       replace H : (if t337 = true then (some false) else ((spec_l24Ready.f k1 l0 (l1.take (x5_1 : Int).toNat) (rd l1 x5_1)).bind fun t340 => (if t340 = true then (spec_l24Order.l0 k1 l0 l1 (wrap64 (x5_1 + 1))) else (some false)))) = some r := H
       have A9 := Aside0.mk A90
       clear A90
       by_cases c10 : t337 = true
       ·
        subst c10
        have H1 : (some false) = some r := by rw [if_pos rfl] at H; exact H
        clear H
        have H := H1
        clear H1
        obtain rfl := Option.some.inj H
        have p333 : 0 ≤ (x5_1 : Int) := od
        have q333 : x5_1 < (l1.length : Int) := od
        obtain ⟨ad333, e333, hx333_0⟩ := Kd.at_int HR1.out x5_1 p333 q333
        cases e333
        replace p333 := eq_true p333
        replace q333 := eq_true q333
        (obtain ⟨i011, hi011, _, hsz11, _⟩ := info_parts info2; obtain ⟨hcut11, hA11, hC11⟩ := print_take_of (P := Try.prog) (Value.int .i64) 0 27 2 .i64 Try.underlying27 hi011 hsz11 (some ad333) c1 l1 x5_1 (od) (od) HC1.out; have HR335 := Aside0.mk (Kd.C_of_reads (h1 := fun _ => rfl) (hA11 _ (Kd.reads_of_C HR1.out))); have HC335 := Aside0.mk hC11; clear hA11 hC11 hi011 hsz11; have p336 : 0 ≤ (x5_1 : Int) := od; have q336 : x5_1 < (l1.length : Int) := od; obtain ⟨ad336, e336, hx336_0⟩ := Kd.at_int HR1.out x5_1 p336 q336; obtain rfl : ad333 = ad336 := (by injection e336); replace p336 := eq_true p336; replace q336 := eq_true q336)
        go_wp2
        repeat (go_quiet (first | (go_at_call 62; (try simp only [Go.IntWalk.i64_left]); (with_reducible refine (spec_l00In.calls (rd l1 x5_1) 0 (wrap64 ((l0.length : Int) - 1)) true _ A5.out).mono ?_); rintro e w' ⟨rfl, ⟨nd, rfl⟩⟩; (try first | (with_reducible exact ⟨rfl, _, World.drewN_drewN _ _ _⟩) | exact ⟨rfl, _, Eq.trans (World.drewN_drewN _ _ _) (congrArg (World.drewN _) (Nat.add_assoc _ _ _))⟩); skip) | (go_at_call 99; (try rw [show (Value.slice (some ad333) (x5_1).toNat c1 : Value) = Value.slice (some ad333) (l1.take (x5_1 : Int).toNat).length c1 from by rw [List.length_take, Nat.min_eq_left (Int.toNat_le.mpr (od))]]); (with_reducible refine (spec_l00Has.calls k1 _ _ (l1.take (x5_1 : Int).toNat) (rd l1 x5_1) true _ ?side1 ?side2 A9.out).mono ?_); (case side1 => exact mvC HR335.out); (case side2 => exact HC335.out); rintro e w' ⟨rfl, ⟨nd, rfl⟩⟩; (try first | (with_reducible exact ⟨rfl, _, World.drewN_drewN _ _ _⟩) | exact ⟨rfl, _, Eq.trans (World.drewN_drewN _ _ _) (congrArg (World.drewN _) (Nat.add_assoc _ _ _))⟩))); try go_wp2_with (first | (go_at_call 62; (try simp only [Go.IntWalk.i64_left]); (with_reducible refine (spec_l00In.calls (rd l1 x5_1) 0 (wrap64 ((l0.length : Int) - 1)) true _ A5.out).mono ?_); rintro e w' ⟨rfl, ⟨nd, rfl⟩⟩; (try first | (with_reducible exact ⟨rfl, _, World.drewN_drewN _ _ _⟩) | exact ⟨rfl, _, Eq.trans (World.drewN_drewN _ _ _) (congrArg (World.drewN _) (Nat.add_assoc _ _ _))⟩); skip) | (go_at_call 99; (try rw [show (Value.slice (some ad333) (x5_1).toNat c1 : Value) = Value.slice (some ad333) (l1.take (x5_1 : Int).toNat).length c1 from by rw [List.length_take, Nat.min_eq_left (Int.toNat_le.mpr (od))]]); (with_reducible refine (spec_l00Has.calls k1 _ _ (l1.take (x5_1 : Int).toNat) (rd l1 x5_1) true _ ?side1 ?side2 A9.out).mono ?_); (case side1 => exact mvC HR335.out); (case side2 => exact HC335.out); rintro e w' ⟨rfl, ⟨nd, rfl⟩⟩; (try first | (with_reducible exact ⟨rfl, _, World.drewN_drewN _ _ _⟩) | exact ⟨rfl, _, Eq.trans (World.drewN_drewN _ _ _) (congrArg (World.drewN _) (Nat.add_assoc _ _ _))⟩))))
        go_ret
        exact ⟨rs, dr0⟩
       ·
        replace c10 := Bool.eq_false_iff.mpr c10
        subst c10
        have H1 : ((spec_l24Ready.f k1 l0 (l1.take (x5_1 : Int).toNat) (rd l1 x5_1)).bind fun t340 => (if t340 = true then (spec_l24Order.l0 k1 l0 l1 (wrap64 (x5_1 + 1))) else (some false))) = some r := by rw [if_neg (show ¬ (false = true) by decide)] at H; exact H
        clear H
        have H := H1
        clear H1
        have c12b0 := eq_true (od : 0 ≤ x5_1)
        have c13b0 := eq_true (od : x5_1 ≤ (l1.length : Int))
        replace H := Option.bind_eq_some_iff.mp H
        obtain ⟨t340, A140, H⟩ := H
        replace H : (if t340 = true then (spec_l24Order.l0 k1 l0 l1 (wrap64 (x5_1 + 1))) else (some false)) = some r := H
        have A14 := Aside0.mk A140
        clear A140
        by_cases c15 : t340 = true
        ·
         subst c15
         have H1 : (spec_l24Order.l0 k1 l0 l1 (wrap64 (x5_1 + 1))) = some r := by rw [if_pos rfl] at H; exact H
         clear H
         have H := H1
         clear H1
         have H' := Aside0.mk H
         clear H
         have p333 : 0 ≤ (x5_1 : Int) := od
         have q333 : x5_1 < (l1.length : Int) := od
         obtain ⟨ad333, e333, hx333_0⟩ := Kd.at_int HR1.out x5_1 p333 q333
         cases e333
         replace p333 := eq_true p333
         replace q333 := eq_true q333
         (obtain ⟨i016, hi016, _, hsz16, _⟩ := info_parts info2; obtain ⟨hcut16, hA16, hC16⟩ := print_take_of (P := Try.prog) (Value.int .i64) 0 27 2 .i64 Try.underlying27 hi016 hsz16 (some ad333) c1 l1 x5_1 (od) (od) HC1.out; have HR335 := Aside0.mk (Kd.C_of_reads (h1 := fun _ => rfl) (hA16 _ (Kd.reads_of_C HR1.out))); have HC335 := Aside0.mk hC16; clear hA16 hC16 hi016 hsz16; have p336 : 0 ≤ (x5_1 : Int) := od; have q336 : x5_1 < (l1.length : Int) := od; obtain ⟨ad336, e336, hx336_0⟩ := Kd.at_int HR1.out x5_1 p336 q336; obtain rfl : ad333 = ad336 := (by injection e336); replace p336 := eq_true p336; replace q336 := eq_true q336)
         (obtain ⟨i017, hi017, _, hsz17, _⟩ := info_parts info2; obtain ⟨hcut17, hA17, hC17⟩ := print_take_of (P := Try.prog) (Value.int .i64) 0 27 2 .i64 Try.underlying27 hi017 hsz17 (some ad333) c1 l1 x5_1 (od) (od) HC1.out; have HR338 := Aside0.mk (Kd.C_of_reads (h1 := fun _ => rfl) (hA17 _ (Kd.reads_of_C HR1.out))); have HC338 := Aside0.mk hC17; clear hA17 hC17 hi017 hsz17; have p339 : 0 ≤ (x5_1 : Int) := od; have q339 : x5_1 < (l1.length : Int) := od; obtain ⟨ad339, e339, hx339_0⟩ := Kd.at_int HR1.out x5_1 p339 q339; obtain rfl : ad333 = ad339 := (by injection e339); replace p339 := eq_true p339; replace q339 := eq_true q339)
         go_wp2
         repeat (go_quiet (first | (go_at_call 62; (try simp only [Go.IntWalk.i64_left]); (with_reducible refine (spec_l00In.calls (rd l1 x5_1) 0 (wrap64 ((l0.length : Int) - 1)) true _ A5.out).mono ?_); rintro e w' ⟨rfl, ⟨nd, rfl⟩⟩; (try first | (with_reducible exact ⟨rfl, _, World.drewN_drewN _ _ _⟩) | exact ⟨rfl, _, Eq.trans (World.drewN_drewN _ _ _) (congrArg (World.drewN _) (Nat.add_assoc _ _ _))⟩); skip) | (go_at_call 99; (try rw [show (Value.slice (some ad333) (x5_1).toNat c1 : Value) = Value.slice (some ad333) (l1.take (x5_1 : Int).toNat).length c1 from by rw [List.length_take, Nat.min_eq_left (Int.toNat_le.mpr (od))]]); (with_reducible refine (spec_l00Has.calls k1 _ _ (l1.take (x5_1 : Int).toNat) (rd l1 x5_1) false _ ?side1 ?side2 A9.out).mono ?_); (case side1 => exact mvC HR335.out); (case side2 => exact HC335.out); rintro e w' ⟨rfl, ⟨nd, rfl⟩⟩; (try first | (with_reducible exact ⟨rfl, _, World.drewN_drewN _ _ _⟩) | exact ⟨rfl, _, Eq.trans (World.drewN_drewN _ _ _) (congrArg (World.drewN _) (Nat.add_assoc _ _ _))⟩); skip) | (go_at_call 87; (try rw [show (Value.slice (some ad333) (x5_1).toNat c1 : Value) = Value.slice (some ad333) (l1.take (x5_1 : Int).toNat).length c1 from by rw [List.length_take, Nat.min_eq_left (Int.toNat_le.mpr (od))]]); (with_reducible refine (spec_l24Ready.calls k1 _ _ l0 _ _ (l1.take (x5_1 : Int).toNat) (rd l1 x5_1) true _ ?side1 ?side2 ?side3 ?side4 A14.out).mono ?_); (case side1 => exact mvC HR0.out); (case side2 => exact HC0.out); (case side3 => exact mvC HR338.out); (case side4 => exact HC338.out); rintro e w' ⟨rfl, ⟨nd, rfl⟩⟩; (try first | (with_reducible exact ⟨rfl, _, World.drewN_drewN _ _ _⟩) | exact ⟨rfl, _, Eq.trans (World.drewN_drewN _ _ _) (congrArg (World.drewN _) (Nat.add_assoc _ _ _))⟩))); try go_wp2_with (first | (go_at_call 62; (try simp only [Go.IntWalk.i64_left]); (with_reducible refine (spec_l00In.calls (rd l1 x5_1) 0 (wrap64 ((l0.length : Int) - 1)) true _ A5.out).mono ?_); rintro e w' ⟨rfl, ⟨nd, rfl⟩⟩; (try first | (with_reducible exact ⟨rfl, _, World.drewN_drewN _ _ _⟩) | exact ⟨rfl, _, Eq.trans (World.drewN_drewN _ _ _) (congrArg (World.drewN _) (Nat.add_assoc _ _ _))⟩); skip) | (go_at_call 99; (try rw [show (Value.slice (some ad333) (x5_1).toNat c1 : Value) = Value.slice (some ad333) (l1.take (x5_1 : Int).toNat).length c1 from by rw [List.length_take, Nat.min_eq_left (Int.toNat_le.mpr (od))]]); (with_reducible refine (spec_l00Has.calls k1 _ _ (l1.take (x5_1 : Int).toNat) (rd l1 x5_1) false _ ?side1 ?side2 A9.out).mono ?_); (case side1 => exact mvC HR335.out); (case side2 => exact HC335.out); rintro e w' ⟨rfl, ⟨nd, rfl⟩⟩; (try first | (with_reducible exact ⟨rfl, _, World.drewN_drewN _ _ _⟩) | exact ⟨rfl, _, Eq.trans (World.drewN_drewN _ _ _) (congrArg (World.drewN _) (Nat.add_assoc _ _ _))⟩); skip) | (go_at_call 87; (try rw [show (Value.slice (some ad333) (x5_1).toNat c1 : Value) = Value.slice (some ad333) (l1.take (x5_1 : Int).toNat).length c1 from by rw [List.length_take, Nat.min_eq_left (Int.toNat_le.mpr (od))]]); (with_reducible refine (spec_l24Ready.calls k1 _ _ l0 _ _ (l1.take (x5_1 : Int).toNat) (rd l1 x5_1) true _ ?side1 ?side2 ?side3 ?side4 A14.out).mono ?_); (case side1 => exact mvC HR0.out); (case side2 => exact HC0.out); (case side3 => exact mvC HR338.out); (case side4 => exact HC338.out); rintro e w' ⟨rfl, ⟨nd, rfl⟩⟩; (try first | (with_reducible exact ⟨rfl, _, World.drewN_drewN _ _ _⟩) | exact ⟨rfl, _, Eq.trans (World.drewN_drewN _ _ _) (congrArg (World.drewN _) (Nat.add_assoc _ _ _))⟩))))
         go_roundg k1
         case measure => have := HK1.out; omega
         case rel => exact ⟨(wrap64 (x5_1 + 1)), rs, H', ⟨by have := HK1.out; omega⟩, dr0⟩
        ·
         replace c15 := Bool.eq_false_iff.mpr c15
         subst c15
         have H1 : (some false) = some r := by rw [if_neg (show ¬ (false = true) by decide)] at H; exact H
         clear H
         have H := H1
         clear H1
         obtain rfl := Option.some.inj H
         have p333 : 0 ≤ (x5_1 : Int) := od
         have q333 : x5_1 < (l1.length : Int) := od
         obtain ⟨ad333, e333, hx333_0⟩ := Kd.at_int HR1.out x5_1 p333 q333
         cases e333
         replace p333 := eq_true p333
         replace q333 := eq_true q333
         (obtain ⟨i018, hi018, _, hsz18, _⟩ := info_parts info2; obtain ⟨hcut18, hA18, hC18⟩ := print_take_of (P := Try.prog) (Value.int .i64) 0 27 2 .i64 Try.underlying27 hi018 hsz18 (some ad333) c1 l1 x5_1 (od) (od) HC1.out; have HR335 := Aside0.mk (Kd.C_of_reads (h1 := fun _ => rfl) (hA18 _ (Kd.reads_of_C HR1.out))); have HC335 := Aside0.mk hC18; clear hA18 hC18 hi018 hsz18; have p336 : 0 ≤ (x5_1 : Int) := od; have q336 : x5_1 < (l1.length : Int) := od; obtain ⟨ad336, e336, hx336_0⟩ := Kd.at_int HR1.out x5_1 p336 q336; obtain rfl : ad333 = ad336 := (by injection e336); replace p336 := eq_true p336; replace q336 := eq_true q336)
         (obtain ⟨i019, hi019, _, hsz19, _⟩ := info_parts info2; obtain ⟨hcut19, hA19, hC19⟩ := print_take_of (P := Try.prog) (Value.int .i64) 0 27 2 .i64 Try.underlying27 hi019 hsz19 (some ad333) c1 l1 x5_1 (od) (od) HC1.out; have HR338 := Aside0.mk (Kd.C_of_reads (h1 := fun _ => rfl) (hA19 _ (Kd.reads_of_C HR1.out))); have HC338 := Aside0.mk hC19; clear hA19 hC19 hi019 hsz19; have p339 : 0 ≤ (x5_1 : Int) := od; have q339 : x5_1 < (l1.length : Int) := od; obtain ⟨ad339, e339, hx339_0⟩ := Kd.at_int HR1.out x5_1 p339 q339; obtain rfl : ad333 = ad339 := (by injection e339); replace p339 := eq_true p339; replace q339 := eq_true q339)
         go_wp2
         repeat (go_quiet (first | (go_at_call 62; (try simp only [Go.IntWalk.i64_left]); (with_reducible refine (spec_l00In.calls (rd l1 x5_1) 0 (wrap64 ((l0.length : Int) - 1)) true _ A5.out).mono ?_); rintro e w' ⟨rfl, ⟨nd, rfl⟩⟩; (try first | (with_reducible exact ⟨rfl, _, World.drewN_drewN _ _ _⟩) | exact ⟨rfl, _, Eq.trans (World.drewN_drewN _ _ _) (congrArg (World.drewN _) (Nat.add_assoc _ _ _))⟩); skip) | (go_at_call 99; (try rw [show (Value.slice (some ad333) (x5_1).toNat c1 : Value) = Value.slice (some ad333) (l1.take (x5_1 : Int).toNat).length c1 from by rw [List.length_take, Nat.min_eq_left (Int.toNat_le.mpr (od))]]); (with_reducible refine (spec_l00Has.calls k1 _ _ (l1.take (x5_1 : Int).toNat) (rd l1 x5_1) false _ ?side1 ?side2 A9.out).mono ?_); (case side1 => exact mvC HR335.out); (case side2 => exact HC335.out); rintro e w' ⟨rfl, ⟨nd, rfl⟩⟩; (try first | (with_reducible exact ⟨rfl, _, World.drewN_drewN _ _ _⟩) | exact ⟨rfl, _, Eq.trans (World.drewN_drewN _ _ _) (congrArg (World.drewN _) (Nat.add_assoc _ _ _))⟩); skip) | (go_at_call 87; (try rw [show (Value.slice (some ad333) (x5_1).toNat c1 : Value) = Value.slice (some ad333) (l1.take (x5_1 : Int).toNat).length c1 from by rw [List.length_take, Nat.min_eq_left (Int.toNat_le.mpr (od))]]); (with_reducible refine (spec_l24Ready.calls k1 _ _ l0 _ _ (l1.take (x5_1 : Int).toNat) (rd l1 x5_1) false _ ?side1 ?side2 ?side3 ?side4 A14.out).mono ?_); (case side1 => exact mvC HR0.out); (case side2 => exact HC0.out); (case side3 => exact mvC HR338.out); (case side4 => exact HC338.out); rintro e w' ⟨rfl, ⟨nd, rfl⟩⟩; (try first | (with_reducible exact ⟨rfl, _, World.drewN_drewN _ _ _⟩) | exact ⟨rfl, _, Eq.trans (World.drewN_drewN _ _ _) (congrArg (World.drewN _) (Nat.add_assoc _ _ _))⟩))); try go_wp2_with (first | (go_at_call 62; (try simp only [Go.IntWalk.i64_left]); (with_reducible refine (spec_l00In.calls (rd l1 x5_1) 0 (wrap64 ((l0.length : Int) - 1)) true _ A5.out).mono ?_); rintro e w' ⟨rfl, ⟨nd, rfl⟩⟩; (try first | (with_reducible exact ⟨rfl, _, World.drewN_drewN _ _ _⟩) | exact ⟨rfl, _, Eq.trans (World.drewN_drewN _ _ _) (congrArg (World.drewN _) (Nat.add_assoc _ _ _))⟩); skip) | (go_at_call 99; (try rw [show (Value.slice (some ad333) (x5_1).toNat c1 : Value) = Value.slice (some ad333) (l1.take (x5_1 : Int).toNat).length c1 from by rw [List.length_take, Nat.min_eq_left (Int.toNat_le.mpr (od))]]); (with_reducible refine (spec_l00Has.calls k1 _ _ (l1.take (x5_1 : Int).toNat) (rd l1 x5_1) false _ ?side1 ?side2 A9.out).mono ?_); (case side1 => exact mvC HR335.out); (case side2 => exact HC335.out); rintro e w' ⟨rfl, ⟨nd, rfl⟩⟩; (try first | (with_reducible exact ⟨rfl, _, World.drewN_drewN _ _ _⟩) | exact ⟨rfl, _, Eq.trans (World.drewN_drewN _ _ _) (congrArg (World.drewN _) (Nat.add_assoc _ _ _))⟩); skip) | (go_at_call 87; (try rw [show (Value.slice (some ad333) (x5_1).toNat c1 : Value) = Value.slice (some ad333) (l1.take (x5_1 : Int).toNat).length c1 from by rw [List.length_take, Nat.min_eq_left (Int.toNat_le.mpr (od))]]); (with_reducible refine (spec_l24Ready.calls k1 _ _ l0 _ _ (l1.take (x5_1 : Int).toNat) (rd l1 x5_1) false _ ?side1 ?side2 ?side3 ?side4 A14.out).mono ?_); (case side1 => exact mvC HR0.out); (case side2 => exact HC0.out); (case side3 => exact mvC HR338.out); (case side4 => exact HC338.out); rintro e w' ⟨rfl, ⟨nd, rfl⟩⟩; (try first | (with_reducible exact ⟨rfl, _, World.drewN_drewN _ _ _⟩) | exact ⟨rfl, _, Eq.trans (World.drewN_drewN _ _ _) (congrArg (World.drewN _) (Nat.add_assoc _ _ _))⟩))))
         go_ret
         exact ⟨rs, dr0⟩
      ·
       rw [if_neg c8] at H
       exact absurd H (by simp)
     ·
      replace c6 := Bool.eq_false_iff.mpr c6
      subst c6
      have H1 : (some false) = some r := by rw [if_neg (show ¬ (false = true) by decide)] at H; exact H
      clear H
      have H := H1
      clear H1
      obtain rfl := Option.some.inj H
      have p333 : 0 ≤ (x5_1 : Int) := od
      have q333 : x5_1 < (l1.length : Int) := od
      obtain ⟨ad333, e333, hx333_0⟩ := Kd.at_int HR1.out x5_1 p333 q333
      cases e333
      replace p333 := eq_true p333
      replace q333 := eq_true q333
      go_wp2
      repeat (go_quiet (first | (go_at_call 62; (try simp only [Go.IntWalk.i64_left]); (with_reducible refine (spec_l00In.calls (rd l1 x5_1) 0 (wrap64 ((l0.length : Int) - 1)) false _ A5.out).mono ?_); rintro e w' ⟨rfl, ⟨nd, rfl⟩⟩; (try first | (with_reducible exact ⟨rfl, _, World.drewN_drewN _ _ _⟩) | exact ⟨rfl, _, Eq.trans (World.drewN_drewN _ _ _) (congrArg (World.drewN _) (Nat.add_assoc _ _ _))⟩))); try go_wp2_with (first | (go_at_call 62; (try simp only [Go.IntWalk.i64_left]); (with_reducible refine (spec_l00In.calls (rd l1 x5_1) 0 (wrap64 ((l0.length : Int) - 1)) false _ A5.out).mono ?_); rintro e w' ⟨rfl, ⟨nd, rfl⟩⟩; (try first | (with_reducible exact ⟨rfl, _, World.drewN_drewN _ _ _⟩) | exact ⟨rfl, _, Eq.trans (World.drewN_drewN _ _ _) (congrArg (World.drewN _) (Nat.add_assoc _ _ _))⟩))))
      go_ret
      exact ⟨rs, dr0⟩
    ·
     rw [if_neg c4] at H
     exact absurd H (by simp)
   ·
    rw [if_neg c3] at H
    have c3b0 : decide (x5_1 < (l1.length : Int)) = false := decide_eq_false c3
    clear c3
    obtain rfl := Option.some.inj H
    go_wp2
    repeat (go_quiet (fail); try go_wp2)
    go_ret
    exact ⟨rs, dr0⟩

/-! ### spec_l24Query: function 48 -/
def spec_l24Query.f (k : Nat) (l0 : List (S34)) (l1 : List Int) (a2 : Int) : Option (Int) := (spec_l24Ok.f k l0).bind fun t341 => (if t341 = true then ((spec_l00In.f a2 1 1000000).bind fun t342 => (if t342 = true then ((spec_l24Order.f k l0 l1).bind fun t343 => (if t343 = true then (some 0) else (some 7))) else (some 2))) else (some 1))
theorem spec_l24Query.mono : ∀ a0 a1 a2 k, LeO (spec_l24Query.f k a0 a1 a2) (spec_l24Query.f (k + 1) a0 a1 a2) := by
 intro a0 a1 a2 k
 unfold spec_l24Query.f
 repeat' first
  | (with_reducible exact spec_l24Ok.mono _ _)
  | (with_reducible exact spec_l24Order.mono _ _ _)
  | (with_reducible exact LeO.refl _)
  | (with_reducible exact LeO.none _)
  | (with_reducible refine LeO.ite ?_ ?_)
  | (with_reducible refine LeO.bind ?_ (fun _ => ?_))
  | exact spec_l24Ok.mono _ _
  | exact spec_l24Order.mono _ _ _
  | exact LeO.none _
  | refine LeO.ite ?_ ?_
  | refine LeO.bind ?_ (fun _ => ?_)
set_option maxHeartbeats 8000000 in
set_option maxRecDepth 100000 in
theorem spec_l24Query.calls (k : Nat) (A0 : Option Addr) (c0 : Nat) (l0 : List (S34)) (A1 : Option Addr) (c1 : Nat) (l1 : List Int) (a2 : Int) (r : Int) (w : World) (hr0 : Kd.C k34 w A0 l0.length l0) (hc0 : l0.length ≤ c0) (hr1 : Kd.C (Kd.int .i64) w A1 l1.length l1) (hc1 : l1.length ≤ c1) (h : spec_l24Query.f k l0 l1 a2 = some r) :
  Calls Try.prog 48 #[.slice A0 l0.length c0, .slice A1 l1.length c1, .int .i64 a2] w fun e w' => e = .returned (.int .i64 r) ∧ Below w.heap.size w w' := by
 have HR0 := Aside0.mk hr0
 have HC0 := Aside0.mk hc0
 clear hr0 hc0
 have HR1 := Aside0.mk hr1
 have HC1 := Aside0.mk hc1
 clear hr1 hc1
 have HB := Aside0.mk (Below.refl w.heap.size w)
 have H : ((spec_l24Ok.f k l0).bind fun t341 => (if t341 = true then ((spec_l00In.f a2 1 1000000).bind fun t342 => (if t342 = true then ((spec_l24Order.f k l0 l1).bind fun t343 => (if t343 = true then (some 0) else (some 7))) else (some 2))) else (some 1))) = some r := h
 clear h
 replace H := Option.bind_eq_some_iff.mp H
 obtain ⟨t341, A40, H⟩ := H
 replace H : (if t341 = true then ((spec_l00In.f a2 1 1000000).bind fun t342 => (if t342 = true then ((spec_l24Order.f k l0 l1).bind fun t343 => (if t343 = true then (some 0) else (some 7))) else (some 2))) else (some 1)) = some r := H
 have A4 := Aside0.mk A40
 clear A40
 by_cases c5 : t341 = true
 ·
  subst c5
  have H1 : ((spec_l00In.f a2 1 1000000).bind fun t342 => (if t342 = true then ((spec_l24Order.f k l0 l1).bind fun t343 => (if t343 = true then (some 0) else (some 7))) else (some 2))) = some r := by rw [if_pos rfl] at H; exact H
  clear H
  have H := H1
  clear H1
  replace H := Option.bind_eq_some_iff.mp H
  obtain ⟨t342, A60, H⟩ := H
  replace H : (if t342 = true then ((spec_l24Order.f k l0 l1).bind fun t343 => (if t343 = true then (some 0) else (some 7))) else (some 2)) = some r := H
  have A6 := Aside0.mk A60
  clear A60
  by_cases c7 : t342 = true
  ·
   subst c7
   have H1 : ((spec_l24Order.f k l0 l1).bind fun t343 => (if t343 = true then (some 0) else (some 7))) = some r := by rw [if_pos rfl] at H; exact H
   clear H
   have H := H1
   clear H1
   replace H := Option.bind_eq_some_iff.mp H
   obtain ⟨t343, A80, H⟩ := H
   replace H : (if t343 = true then (some 0) else (some 7)) = some r := H
   have A8 := Aside0.mk A80
   clear A80
   by_cases c9 : t343 = true
   ·
    subst c9
    have H1 : (some 0) = some r := by rw [if_pos rfl] at H; exact H
    clear H
    have H := H1
    clear H1
    obtain rfl := Option.some.inj H
    go_enter Try.func48, Try.ntmps48
    go_wp2_with (first | ((with_reducible refine gate_callee (f := 61) rfl ?_); refine goesA_ (some 8) Try.func61 #[.slice A0 l0.length c0] ?_; (with_reducible refine (spec_l24Ok.calls k _ _ l0 true _ ?side1 ?side2 A4.out).mono ?_); (case side1 => exact mvC HR0.out); (case side2 => exact HC0.out); rintro e w10 ⟨rfl, hb⟩; refine ⟨_, rfl, ?_⟩; have n0_ := Aside0.mk (below_step (mvB HB.out) hb); clear HB; revert n0_; intro HB; (try clear hb)) | ((with_reducible refine gate_callee (f := 62) rfl ?_); refine goesA_ (some 11) Try.func62 #[.int .i64 a2, .int .i64 1, .int .i64 1000000] ?_; (with_reducible refine (spec_l00In.calls a2 1 1000000 true _ A6.out).mono ?_); rintro e w' ⟨rfl, ⟨nd, rfl⟩⟩; refine ⟨_, rfl, ?_⟩) | ((with_reducible refine gate_callee (f := 86) rfl ?_); refine goesA_ (some 15) Try.func86 #[.slice A0 l0.length c0, .slice A1 l1.length c1] ?_; (with_reducible refine (spec_l24Order.calls k _ _ l0 _ _ l1 true _ ?side1 ?side2 ?side3 ?side4 A8.out).mono ?_); (case side1 => exact mvC (Kd.C_below HR0.out (mvB HB.out))); (case side2 => exact HC0.out); (case side3 => exact mvC (Kd.C_below HR1.out (mvB HB.out))); (case side4 => exact HC1.out); rintro e w' ⟨rfl, ⟨nd, rfl⟩⟩; refine ⟨_, rfl, ?_⟩))
    go_ret
    exact ⟨by first | rfl | (simp [errW_none, errW_some] <;> rfl) | (simp [*, errW_none, errW_some] <;> rfl), mvB HB.out⟩
   ·
    replace c9 := Bool.eq_false_iff.mpr c9
    subst c9
    have H1 : (some 7) = some r := by rw [if_neg (show ¬ (false = true) by decide)] at H; exact H
    clear H
    have H := H1
    clear H1
    obtain rfl := Option.some.inj H
    go_enter Try.func48, Try.ntmps48
    go_wp2_with (first | ((with_reducible refine gate_callee (f := 61) rfl ?_); refine goesA_ (some 8) Try.func61 #[.slice A0 l0.length c0] ?_; (with_reducible refine (spec_l24Ok.calls k _ _ l0 true _ ?side1 ?side2 A4.out).mono ?_); (case side1 => exact mvC HR0.out); (case side2 => exact HC0.out); rintro e w11 ⟨rfl, hb⟩; refine ⟨_, rfl, ?_⟩; have n0_ := Aside0.mk (below_step (mvB HB.out) hb); clear HB; revert n0_; intro HB; (try clear hb)) | ((with_reducible refine gate_callee (f := 62) rfl ?_); refine goesA_ (some 11) Try.func62 #[.int .i64 a2, .int .i64 1, .int .i64 1000000] ?_; (with_reducible refine (spec_l00In.calls a2 1 1000000 true _ A6.out).mono ?_); rintro e w' ⟨rfl, ⟨nd, rfl⟩⟩; refine ⟨_, rfl, ?_⟩) | ((with_reducible refine gate_callee (f := 86) rfl ?_); refine goesA_ (some 15) Try.func86 #[.slice A0 l0.length c0, .slice A1 l1.length c1] ?_; (with_reducible refine (spec_l24Order.calls k _ _ l0 _ _ l1 false _ ?side1 ?side2 ?side3 ?side4 A8.out).mono ?_); (case side1 => exact mvC (Kd.C_below HR0.out (mvB HB.out))); (case side2 => exact HC0.out); (case side3 => exact mvC (Kd.C_below HR1.out (mvB HB.out))); (case side4 => exact HC1.out); rintro e w' ⟨rfl, ⟨nd, rfl⟩⟩; refine ⟨_, rfl, ?_⟩))
    go_ret
    exact ⟨by first | rfl | (simp [errW_none, errW_some] <;> rfl) | (simp [*, errW_none, errW_some] <;> rfl), mvB HB.out⟩
  ·
   replace c7 := Bool.eq_false_iff.mpr c7
   subst c7
   have H1 : (some 2) = some r := by rw [if_neg (show ¬ (false = true) by decide)] at H; exact H
   clear H
   have H := H1
   clear H1
   obtain rfl := Option.some.inj H
   go_enter Try.func48, Try.ntmps48
   go_wp2_with (first | ((with_reducible refine gate_callee (f := 61) rfl ?_); refine goesA_ (some 8) Try.func61 #[.slice A0 l0.length c0] ?_; (with_reducible refine (spec_l24Ok.calls k _ _ l0 true _ ?side1 ?side2 A4.out).mono ?_); (case side1 => exact mvC HR0.out); (case side2 => exact HC0.out); rintro e w12 ⟨rfl, hb⟩; refine ⟨_, rfl, ?_⟩; have n0_ := Aside0.mk (below_step (mvB HB.out) hb); clear HB; revert n0_; intro HB; (try clear hb)) | ((with_reducible refine gate_callee (f := 62) rfl ?_); refine goesA_ (some 11) Try.func62 #[.int .i64 a2, .int .i64 1, .int .i64 1000000] ?_; (with_reducible refine (spec_l00In.calls a2 1 1000000 false _ A6.out).mono ?_); rintro e w' ⟨rfl, ⟨nd, rfl⟩⟩; refine ⟨_, rfl, ?_⟩))
   go_ret
   exact ⟨by first | rfl | (simp [errW_none, errW_some] <;> rfl) | (simp [*, errW_none, errW_some] <;> rfl), mvB HB.out⟩
 ·
  replace c5 := Bool.eq_false_iff.mpr c5
  subst c5
  have H1 : (some 1) = some r := by rw [if_neg (show ¬ (false = true) by decide)] at H; exact H
  clear H
  have H := H1
  clear H1
  obtain rfl := Option.some.inj H
  go_enter Try.func48, Try.ntmps48
  go_wp2_with (first | ((with_reducible refine gate_callee (f := 61) rfl ?_); refine goesA_ (some 8) Try.func61 #[.slice A0 l0.length c0] ?_; (with_reducible refine (spec_l24Ok.calls k _ _ l0 false _ ?side1 ?side2 A4.out).mono ?_); (case side1 => exact mvC HR0.out); (case side2 => exact HC0.out); rintro e w13 ⟨rfl, hb⟩; refine ⟨_, rfl, ?_⟩; have n0_ := Aside0.mk (below_step (mvB HB.out) hb); clear HB; revert n0_; intro HB; (try clear hb)))
  go_ret
  exact ⟨by first | rfl | (simp [errW_none, errW_some] <;> rfl) | (simp [*, errW_none, errW_some] <;> rfl), mvB HB.out⟩

/-! ### spec_l24Years: function 49 -/
def spec_l24Years.l0 : Nat → List (S34) → List Int → Int → List Int → Int → Int → Option (List Int)
 | 0, _, _, _, _, _, _ => none
 | k + 1, x0, x1, x2, x7, x8, x9 => if x9 < (x1.length : Int) then (if 0 ≤ x9 then (if 0 ≤ (rd x1 x9) then (if (rd x1 x9) < (x0.length : Int) then (if x2 = 0 then (none) else (if x7.length < 17592186044416 then (spec_l24Years.l0 k x0 x1 x2 (x7 ++ [wrap64 (Int.tdiv (wrap64 ((wrap64 ((wrap64 (x8 + ((rd_T34 x0 (rd x1 x9)).f1))) + x2)) - 1)) x2)]) (wrap64 (x8 + ((rd_T34 x0 (rd x1 x9)).f1))) (wrap64 (x9 + 1))) else (none))) else (none)) else (none)) else (none)) else (some x7)
def spec_l24Years.f (k : Nat) (l0 : List (S34)) (l1 : List Int) (a2 : Int) : Option (List Int) := spec_l24Years.l0 k l0 l1 a2 (([] : List Int)) 0 0
theorem spec_l24Years.mono_l : ∀ k, (∀ y0 y1 y2 y3 y4 y5, LeO (spec_l24Years.l0 k y0 y1 y2 y3 y4 y5) (spec_l24Years.l0 (k + 1) y0 y1 y2 y3 y4 y5))
 | 0 => fun _ _ _ _ _ _ r h => by simp [spec_l24Years.l0] at h
 | k + 1 => by
  have ih0 := spec_l24Years.mono_l k
  ·
   intro y0 y1 y2 y3 y4 y5
   unfold spec_l24Years.l0
   repeat' first
   | (with_reducible exact ih0 _ _ _ _ _ _)
   | (with_reducible exact LeO.refl _)
   | (with_reducible exact LeO.none _)
   | (with_reducible refine LeO.ite ?_ ?_)
   | (with_reducible refine LeO.bind ?_ (fun _ => ?_))
   | exact ih0 _ _ _ _ _ _
   | exact LeO.none _
   | refine LeO.ite ?_ ?_
   | refine LeO.bind ?_ (fun _ => ?_)
theorem spec_l24Years.mono : ∀ a0 a1 a2 k, LeO (spec_l24Years.f k a0 a1 a2) (spec_l24Years.f (k + 1) a0 a1 a2) := by
 intro a0 a1 a2 k
 have ih0 := spec_l24Years.mono_l k
 unfold spec_l24Years.f
 repeat' first
  | (with_reducible exact ih0 _ _ _ _ _ _)
  | (with_reducible exact LeO.refl _)
  | (with_reducible exact LeO.none _)
  | (with_reducible refine LeO.ite ?_ ?_)
  | (with_reducible refine LeO.bind ?_ (fun _ => ?_))
  | exact ih0 _ _ _ _ _ _
  | exact LeO.none _
  | refine LeO.ite ?_ ?_
  | refine LeO.bind ?_ (fun _ => ?_)
set_option maxHeartbeats 8000000 in
set_option maxRecDepth 100000 in
theorem spec_l24Years.calls (k : Nat) (A0 : Option Addr) (c0 : Nat) (l0 : List (S34)) (A1 : Option Addr) (c1 : Nat) (l1 : List Int) (a2 : Int) (r : List Int) (w : World) (hr0 : Kd.C k34 w A0 l0.length l0) (hc0 : l0.length ≤ c0) (hr1 : Kd.C (Kd.int .i64) w A1 l1.length l1) (hc1 : l1.length ≤ c1) (h : spec_l24Years.f k l0 l1 a2 = some r) :
  Calls Try.prog 49 #[.slice A0 l0.length c0, .slice A1 l1.length c1, .int .i64 a2] w fun e w' => ∃ v0_ : Value, e = .returned (v0_) ∧ Kd.R (Kd.int .i64) 2 w' w.heap.size (fun _ => True) v0_ r ∧ Below w.heap.size w w' := by
 have HR0 := Aside0.mk hr0
 have HC0 := Aside0.mk hc0
 clear hr0 hc0
 have HR1 := Aside0.mk hr1
 have HC1 := Aside0.mk hc1
 clear hr1 hc1
 have HB := Aside0.mk (Below.refl w.heap.size w)
 have H : (spec_l24Years.l0 k l0 l1 a2 (([] : List Int)) 0 0) = some r := h
 clear h
 obtain ⟨y344, hy344⟩ : ∃ y_ : List Int, y_ = (([] : List Int)) := ⟨_, rfl⟩
 replace H : (spec_l24Years.l0 k l0 l1 a2 y344 0 0) = some r := by first | (rw [hy344]; with_reducible exact H) | (have H2_ := (Option.bind_some _ _).symm.trans H; rw [hy344]; with_reducible exact H2_) | (have H2_ := (Option.bind_some _ _).symm.trans H; with_reducible exact H2_) | with_reducible exact H | (rw [hy344]; exact H) | exact H
 have Ny344 := Aside0.mk hy344
 clear hy344
 have H' := Aside0.mk H
 clear H
 go_enter Try.func49, Try.ntmps49
 go_wp2_with (first | ((with_reducible refine gate_dst (N := 10) rfl ?_); refine Kd.R_lit (Kd.int .i64) _ 2 ?hg (N := 10) ?hd (xs := ([] : List Int)) (inner := []) (ok := fun _ => True) (okp := fun _ => True) ?hr ?hp (fun _ hk => hk) trivial (Below.refl _ _) (Nat.le_refl _) (by simp) ?_; (case hd => rfl); (case hg => rfl); (case hr => first | (go_simp; done) | (go_simp; rfl)); (case hp => exact (Reps.none _ _)); intro v345 w4 ho5 hb hg_ hnew_; clear hg_ hnew_; (first | rw [← Ny344.out] at ho5 | (simp only [Int.reduceToNat] at ho5; rw [← Ny344.out] at ho5)); have n0_ := Aside0.mk (Kd.R_lower ho5 (below_size (mvB HB.out))); have n1_ := Aside0.mk (below_step (mvB HB.out) hb); clear HB; revert n0_ n1_; intro HO346 HB; clear hb ho5))
 go_loopg [7, 8, 9] k (fun kq v7 v8 v9 w' => ∃ (x7_1 : List Int) (x8_1 : Int) (x9_1 : Int), v8 = .int .i64 x8_1 ∧ v9 = .int .i64 x9_1 ∧ Aside0 (spec_l24Years.l0 kq l0 l1 a2 x7_1 x8_1 x9_1 = some r) ∧ Aside0 (kq ≤ k) ∧ Aside0 (Kd.R (Kd.int .i64) 2 w' w.heap.size (fun _ => True) v7 x7_1) ∧ Aside0 (Below w.heap.size w w'))
 case atStart => exact ⟨(y344), (0), (0), rs, rs, H', ⟨Nat.le_refl _⟩, ⟨mv HO346.out⟩, ⟨mvB HB.out⟩⟩
 case round =>
  clear H'
  obtain ⟨x7_1, x8_1, x9_1, rfl, rfl, HA, HK1, HO_7, HB⟩ := hrel
  cases gk with
  | zero => exact absurd HA.out (by simp [spec_l24Years.l0])
  | succ k1 =>
   have H := HA.out
   clear HA
   simp only [spec_l24Years.l0] at H
   by_cases c6 : x9_1 < (l1.length : Int)
   ·
    rw [if_pos c6] at H
    have c6b0 : decide (x9_1 < (l1.length : Int)) = true := decide_eq_true c6
    clear c6
    by_cases c7 : 0 ≤ x9_1
    ·
     rw [if_pos c7] at H
     have c7b0 : decide (0 ≤ x9_1) = true := decide_eq_true c7
     clear c7
     by_cases c8 : 0 ≤ (rd l1 x9_1)
     ·
      rw [if_pos c8] at H
      have c8b0 : decide (0 ≤ (rd l1 x9_1)) = true := decide_eq_true c8
      clear c8
      by_cases c9 : (rd l1 x9_1) < (l0.length : Int)
      ·
       rw [if_pos c9] at H
       have c9b0 : decide ((rd l1 x9_1) < (l0.length : Int)) = true := decide_eq_true c9
       clear c9
       by_cases c10 : a2 = 0
       ·
        rw [if_pos c10] at H
        exact absurd H (by simp)
       ·
        rw [if_neg c10] at H
        have c10b0 : (a2 == 0) = false := beq_eq_false_iff_ne.mpr c10
        have c10b1 : (a2 != 0) = true := bne_iff_ne.mpr c10
        by_cases c11 : x7_1.length < 17592186044416
        ·
         rw [if_pos c11] at H
         have LMc11 := Aside0.mk c11
         clear c11
         obtain ⟨y349, hy349⟩ : ∃ y_ : List Int, y_ = (x7_1 ++ [wrap64 (Int.tdiv (wrap64 ((wrap64 ((wrap64 (x8_1 + ((rd_T34 l0 (rd l1 x9_1)).f1))) + a2)) - 1)) a2)]) := ⟨_, rfl⟩
         replace H : (spec_l24Years.l0 k1 l0 l1 a2 y349 (wrap64 (x8_1 + ((rd_T34 l0 (rd l1 x9_1)).f1))) (wrap64 (x9_1 + 1))) = some r := by first | (rw [hy349]; with_reducible exact H) | (have H2_ := (Option.bind_some _ _).symm.trans H; rw [hy349]; with_reducible exact H2_) | (have H2_ := (Option.bind_some _ _).symm.trans H; with_reducible exact H2_) | with_reducible exact H | (rw [hy349]; exact H) | exact H
         have Ny349 := Aside0.mk hy349
         clear hy349
         have H' := Aside0.mk H
         clear H
         have p347 : 0 ≤ (x9_1 : Int) := od
         have q347 : x9_1 < (l1.length : Int) := od
         obtain ⟨ad347, e347, hx347_0⟩ := Kd.at_int HR1.out x9_1 p347 q347
         cases e347
         replace hx347_0 := (HB.out.cell (World.block_lt_of_cell? w _ hx347_0)).trans hx347_0
         replace p347 := eq_true p347
         replace q347 := eq_true q347
         have p348 : 0 ≤ ((rd l1 x9_1) : Int) := od
         have q348 : (rd l1 x9_1) < (l0.length : Int) := od
         obtain ⟨ad348, A348_3, c348_3, e348, hx348_0, hx348_1, hx348_2, hx348_3, hl348_3, hi348_3⟩ := at_T34 HR0.out (rd l1 x9_1) p348 q348
         cases e348
         replace hx348_0 := (HB.out.cell (World.block_lt_of_cell? w _ hx348_0)).trans hx348_0
         replace hx348_1 := (HB.out.cell (World.block_lt_of_cell? w _ hx348_1)).trans hx348_1
         replace hx348_2 := (HB.out.cell (World.block_lt_of_cell? w _ hx348_2)).trans hx348_2
         replace hx348_3 := (HB.out.cell (World.block_lt_of_cell? w _ hx348_3)).trans hx348_3
         have HR348_3 := Aside0.mk hi348_3
         have HC348_3 := Aside0.mk hl348_3
         clear hi348_3 hl348_3
         replace p348 := eq_true p348
         replace q348 := eq_true q348
         go_wp2_with (first | ((with_reducible refine gate_builtin (b := .append) (xs := #[.tmp 27, .tmp 34]) rfl ?_); at_builtin; refine Kd.R_append (Kd.int .i64) (w0 := w) w.heap.size rfl (.tmp 27) (.tmp 34) 27 2 (.int .i64 0) 8 rfl Try.underlying27 info2 rfl (by decide) (by omega) u7 x7_1 (wrap64 (Int.tdiv (wrap64 ((wrap64 ((wrap64 (x8_1 + ((rd_T34 l0 (rd l1 x9_1)).f1))) + a2)) - 1)) a2)) [.int .i64 (wrap64 (Int.tdiv (wrap64 ((wrap64 ((wrap64 (x8_1 + ((rd_T34 l0 (rd l1 x9_1)).f1))) + a2)) - 1)) a2))] (fun _ => True) (fun _ => False) rfl rfl ?aP (fun _ hk => hk.elim) ?aF ?aO ?aB ?aS ?aL ?_; (case aP => exact rfl); (case aB => exact (mvB HB.out)); (case aF => exact (fun _ _ => trivial)); (case aO => exact (mv HO_7.out)); (case aS => exact (below_size (mvB HB.out))); (case aL => have := LMc11.out; omega); intro v350 w12 ho hb hg hat; rw [← Ny349.out] at ho; have n0_ := Aside0.mk (hb); have n1_ := Aside0.mk (ho); clear HB HO_7; revert n0_ n1_; intro HB HO351; clear ho hb hg hat))
         go_roundg k1
         case measure => have := HK1.out; omega
         case rel => exact ⟨(y349), (wrap64 (x8_1 + ((rd_T34 l0 (rd l1 x9_1)).f1))), (wrap64 (x9_1 + 1)), rs, rs, H', ⟨by have := HK1.out; omega⟩, ⟨mv HO351.out⟩, ⟨mvB HB.out⟩⟩
        ·
         rw [if_neg c11] at H
         exact absurd H (by simp)
      ·
       rw [if_neg c9] at H
       exact absurd H (by simp)
     ·
      rw [if_neg c8] at H
      exact absurd H (by simp)
    ·
     rw [if_neg c7] at H
     exact absurd H (by simp)
   ·
    rw [if_neg c6] at H
    have c6b0 : decide (x9_1 < (l1.length : Int)) = false := decide_eq_false c6
    clear c6
    obtain rfl := Option.some.inj H
    go_wp2
    go_ret
    exact ⟨_, by first | rfl | (simp [errW_none, errW_some] <;> rfl) | (simp [*, errW_none, errW_some] <;> rfl), mv HO_7.out, mvB HB.out⟩

/-! ### spec_YearsOf: function 13 -/
def spec_YearsOf.f (k : Nat) (l0 : List (S34)) (l1 : List Int) (a2 : Int) : Option (List Int × Int) := (spec_l24Query.f k l0 l1 a2).bind fun t352 => (if t352 = 0 then ((spec_l24Years.f k l0 l1 a2).bind fun t353 => (some (t353, 0))) else (some (([] : List Int), t352)))
theorem spec_YearsOf.mono : ∀ a0 a1 a2 k, LeO (spec_YearsOf.f k a0 a1 a2) (spec_YearsOf.f (k + 1) a0 a1 a2) := by
 intro a0 a1 a2 k
 unfold spec_YearsOf.f
 repeat' first
  | (with_reducible exact spec_l24Query.mono _ _ _ _)
  | (with_reducible exact spec_l24Years.mono _ _ _ _)
  | (with_reducible exact LeO.refl _)
  | (with_reducible exact LeO.none _)
  | (with_reducible refine LeO.ite ?_ ?_)
  | (with_reducible refine LeO.bind ?_ (fun _ => ?_))
  | exact spec_l24Query.mono _ _ _ _
  | exact spec_l24Years.mono _ _ _ _
  | exact LeO.none _
  | refine LeO.ite ?_ ?_
  | refine LeO.bind ?_ (fun _ => ?_)
set_option maxHeartbeats 8000000 in
set_option maxRecDepth 100000 in
theorem spec_YearsOf.calls (k : Nat) (A0 : Option Addr) (c0 : Nat) (l0 : List (S34)) (A1 : Option Addr) (c1 : Nat) (l1 : List Int) (a2 : Int) (r1 : List Int) (r2 : Int) (w : World) (hr0 : Kd.C k34 w A0 l0.length l0) (hc0 : l0.length ≤ c0) (hr1 : Kd.C (Kd.int .i64) w A1 l1.length l1) (hc1 : l1.length ≤ c1) (h : spec_YearsOf.f k l0 l1 a2 = some (r1, r2)) :
  Calls Try.prog 13 #[.slice A0 l0.length c0, .slice A1 l1.length c1, .int .i64 a2] w fun e w' => ∃ v0_ : Value, e = .returned (.tuple #[v0_, .int .i64 r2]) ∧ Kd.R (Kd.int .i64) 2 w' w.heap.size (fun _ => True) v0_ r1 ∧ Below w.heap.size w w' := by
 have HR0 := Aside0.mk hr0
 have HC0 := Aside0.mk hc0
 clear hr0 hc0
 have HR1 := Aside0.mk hr1
 have HC1 := Aside0.mk hc1
 clear hr1 hc1
 have HB := Aside0.mk (Below.refl w.heap.size w)
 have H : ((spec_l24Query.f k l0 l1 a2).bind fun t352 => (if t352 = 0 then ((spec_l24Years.f k l0 l1 a2).bind fun t353 => (some (t353, 0))) else (some (([] : List Int), t352)))) = some (r1, r2) := h
 clear h
 replace H := Option.bind_eq_some_iff.mp H
 obtain ⟨t352, A40, H⟩ := H
 replace H : (if t352 = 0 then ((spec_l24Years.f k l0 l1 a2).bind fun t353 => (some (t353, 0))) else (some (([] : List Int), t352))) = some (r1, r2) := H
 have A4 := Aside0.mk A40
 clear A40
 by_cases c5 : t352 = 0
 ·
  rw [if_pos c5] at H
  have c5b0 : (t352 == 0) = true := beq_iff_eq.mpr c5
  have c5b1 : (t352 != 0) = false := bne_eq_false_iff_eq.mpr c5
  clear c5
  replace H := Option.bind_eq_some_iff.mp H
  obtain ⟨t353, A60, H⟩ := H
  replace H : (some (t353, 0)) = some (r1, r2) := H
  have A6 := Aside0.mk A60
  clear A60
  simp only [Option.some.injEq, Prod.mk.injEq] at H
  obtain ⟨rfl, rfl⟩ := H
  go_enter Try.func13, Try.ntmps13
  go_wp2_with (first | ((with_reducible refine gate_callee (f := 48) rfl ?_); refine goesA_ (some 12) Try.func48 #[.slice A0 l0.length c0, .slice A1 l1.length c1, .int .i64 a2] ?_; (with_reducible refine (spec_l24Query.calls k _ _ l0 _ _ l1 a2 t352 _ ?side1 ?side2 ?side3 ?side4 A4.out).mono ?_); (case side1 => exact mvC HR0.out); (case side2 => exact HC0.out); (case side3 => exact mvC HR1.out); (case side4 => exact HC1.out); rintro e w7 ⟨rfl, hb⟩; refine ⟨_, rfl, ?_⟩; have n0_ := Aside0.mk (below_step (mvB HB.out) hb); clear HB; revert n0_; intro HB; (try clear hb)) | ((with_reducible refine gate_callee (f := 49) rfl ?_); refine goesA_ (some 19) Try.func49 #[.slice A0 l0.length c0, .slice A1 l1.length c1, .int .i64 a2] ?_; (with_reducible refine (spec_l24Years.calls k _ _ l0 _ _ l1 a2 t353 _ ?side1 ?side2 ?side3 ?side4 A6.out).mono ?_); (case side1 => exact mvC (Kd.C_below HR0.out HB.out)); (case side2 => exact HC0.out); (case side3 => exact mvC (Kd.C_below HR1.out HB.out)); (case side4 => exact HC1.out); rintro e w8 ⟨v354, rfl, ho0, hb⟩; refine ⟨_, rfl, ?_⟩; have n0_ := Aside0.mk (Kd.R_lower ho0 (below_size (mvB HB.out))); have n1_ := Aside0.mk (below_step (mvB HB.out) hb); clear HB; revert n0_ n1_; intro HO355 HB; (try clear hb); (try clear ho0)))
  go_ret2
  exact ⟨_, by first | rfl | (simp [errW_none, errW_some] <;> rfl) | (simp [*, errW_none, errW_some] <;> rfl), mv HO355.out, mvB HB.out⟩
 ·
  rw [if_neg c5] at H
  have c5b0 : (t352 == 0) = false := beq_eq_false_iff_ne.mpr c5
  have c5b1 : (t352 != 0) = true := bne_iff_ne.mpr c5
  simp only [Option.some.injEq, Prod.mk.injEq] at H
  obtain ⟨rfl, rfl⟩ := H
  go_enter Try.func13, Try.ntmps13
  go_wp2_with (first | ((with_reducible refine gate_callee (f := 48) rfl ?_); refine goesA_ (some 12) Try.func48 #[.slice A0 l0.length c0, .slice A1 l1.length c1, .int .i64 a2] ?_; (with_reducible refine (spec_l24Query.calls k _ _ l0 _ _ l1 a2 t352 _ ?side1 ?side2 ?side3 ?side4 A4.out).mono ?_); (case side1 => exact mvC HR0.out); (case side2 => exact HC0.out); (case side3 => exact mvC HR1.out); (case side4 => exact HC1.out); rintro e w9 ⟨rfl, hb⟩; refine ⟨_, rfl, ?_⟩; have n0_ := Aside0.mk (below_step (mvB HB.out) hb); clear HB; revert n0_; intro HB; (try clear hb)))
  go_ret2
  exact ⟨_, by first | rfl | (simp [errW_none, errW_some] <;> rfl) | (simp [*, errW_none, errW_some] <;> rfl), by first | exact Kd.R_nil _ _ _ _ _ | exact Kd.N_nil _ _ _ _ _ | exact Kd.V_nil _ _ _ _ _ | exact Kd.Q_nil _ _ _ _ _ | exact Kd.S_nil _ _ _ _ _, mvB HB.out⟩

/-! ### spec_l24DrawOrder: function 50 -/
def spec_l24DrawOrder.l0 : Nat → List (S34) → List Int → Int → List Int → Int → Int → Option (List Int × Int × Int)
 | 0, _, _, _, _, _, _ => none
 | k + 1, x1, x5, x6, x1000, x1001, x1002 => if x6 < (x1.length : Int) then ((spec_l24Ok.f k x1).bind fun t359 => (if t359 = true then ((spec_l24Ready.f k x1 x5 x6).bind fun t360 => (if t360 = true then ((spec_l00Src_one.f x1000 x1001 x1002 4).bind fun bt361 => (if bt361.1 = true then (spec_l24DrawOrder.l0 k x1 x5 (wrap64 (x6 + 1)) x1000 bt361.2.1 bt361.2.2) else (if x5.length < 17592186044416 then (spec_l24DrawOrder.l0 k x1 (x5 ++ [x6]) (wrap64 (x6 + 1)) x1000 bt361.2.1 bt361.2.2) else (none)))) else (spec_l24DrawOrder.l0 k x1 x5 (wrap64 (x6 + 1)) x1000 x1001 x1002))) else (spec_l24DrawOrder.l0 k x1 x5 (wrap64 (x6 + 1)) x1000 x1001 x1002))) else ((spec_l00Src_pick.f x1000 x1001 x1002 12).bind fun bt367 => (if bt367.1 = 0 then ((spec_l00Src_among.f x1000 bt367.2.1 bt367.2.2 (([(-1), 0, 9] : List Int))).bind fun bt373 => (if x5.length < 17592186044416 then (some ((x5 ++ [bt373.1]), bt373.2.1, bt373.2.2)) else (none))) else (if bt367.1 = 1 then (if (x5.length : Int) > 1 then (if 0 < (x5.length : Int) then (if 1 < (x5.length : Int) then (some (((x5.set (0 : Int).toNat (rd x5 1)).set (1 : Int).toNat (rd x5 0)), bt367.2.1, bt367.2.2)) else (none)) else (none)) else (some (x5, bt367.2.1, bt367.2.2))) else (some (x5, bt367.2.1, bt367.2.2)))))
def spec_l24DrawOrder.f (k : Nat) (s0_0 : List Int) (s0_1 : Int) (s0_2 : Int) (l1 : List (S34)) : Option (List Int × Int × Int) := spec_l24DrawOrder.l0 k l1 (([] : List Int)) 0 s0_0 s0_1 s0_2
theorem spec_l24DrawOrder.mono_l : ∀ k, (∀ y0 y1 y2 y3 y4 y5, LeO (spec_l24DrawOrder.l0 k y0 y1 y2 y3 y4 y5) (spec_l24DrawOrder.l0 (k + 1) y0 y1 y2 y3 y4 y5))
 | 0 => fun _ _ _ _ _ _ r h => by simp [spec_l24DrawOrder.l0] at h
 | k + 1 => by
  have ih0 := spec_l24DrawOrder.mono_l k
  ·
   intro y0 y1 y2 y3 y4 y5
   unfold spec_l24DrawOrder.l0
   repeat' first
   | (with_reducible exact ih0 _ _ _ _ _ _)
   | (with_reducible exact spec_l24Ok.mono _ _)
   | (with_reducible exact spec_l24Ready.mono _ _ _ _)
   | (with_reducible exact LeO.refl _)
   | (with_reducible exact LeO.none _)
   | (with_reducible refine LeO.ite ?_ ?_)
   | (with_reducible refine LeO.bind ?_ (fun _ => ?_))
   | exact ih0 _ _ _ _ _ _
   | exact spec_l24Ok.mono _ _
   | exact spec_l24Ready.mono _ _ _ _
   | exact LeO.none _
   | refine LeO.ite ?_ ?_
   | refine LeO.bind ?_ (fun _ => ?_)
theorem spec_l24DrawOrder.mono : ∀ a0 a1 a2 a3 k, LeO (spec_l24DrawOrder.f k a0 a1 a2 a3) (spec_l24DrawOrder.f (k + 1) a0 a1 a2 a3) := by
 intro a0 a1 a2 a3 k
 have ih0 := spec_l24DrawOrder.mono_l k
 unfold spec_l24DrawOrder.f
 repeat' first
  | (with_reducible exact ih0 _ _ _ _ _ _)
  | (with_reducible exact spec_l24Ok.mono _ _)
  | (with_reducible exact spec_l24Ready.mono _ _ _ _)
  | (with_reducible exact LeO.refl _)
  | (with_reducible exact LeO.none _)
  | (with_reducible refine LeO.ite ?_ ?_)
  | (with_reducible refine LeO.bind ?_ (fun _ => ?_))
  | exact ih0 _ _ _ _ _ _
  | exact spec_l24Ok.mono _ _
  | exact spec_l24Ready.mono _ _ _ _
  | exact LeO.none _
  | refine LeO.ite ?_ ?_
  | refine LeO.bind ?_ (fun _ => ?_)
set_option maxHeartbeats 8000000 in
set_option maxRecDepth 100000 in
theorem spec_l24DrawOrder.calls (k : Nat) (g : Nat) (s0_0 : List Int) (s0_1 : Int) (s0_2 : Int) (A1 : Option Addr) (c1 : Nat) (l1 : List (S34)) (r1 : List Int) (r2 : Int) (r3 : Int) (w0 w : World) (hI : IsS103 w0 w g s0_0 s0_1 s0_2) (hB : Below w0.heap.size w0 w) (hr1 : ∀ W_, KeepBut w W_ g none → Kd.C k34 W_ A1 l1.length l1) (hc1 : l1.length ≤ c1) (h : spec_l24DrawOrder.f k s0_0 s0_1 s0_2 l1 = some (r1, r2, r3)) :
  Calls Try.prog 50 #[.pointer (some ⟨g, 0, none⟩), .slice A1 l1.length c1] w fun e w' => ∃ v0_ : Value, e = .returned (v0_) ∧ Kd.R (Kd.int .i64) 2 w' w.heap.size (fun _ => True) v0_ r1 ∧ IsS103 w0 w' g s0_0 r2 r3 ∧ Below w0.heap.size w0 w' ∧ KeepBut w w' g none := by
 have HR1 := Aside0.mk hr1
 have HC1 := Aside0.mk hc1
 clear hr1 hc1
 have HI0 := Aside0.mk hI
 have HK := Aside0.mk (KeepBut.refl w g none)
 have HL := Aside0.mk hB.size
 clear hI
 have HW0 := Aside0.mk hB.size
 have HB := Aside0.mk hB
 clear hB
 have H : (spec_l24DrawOrder.l0 k l1 (([] : List Int)) 0 s0_0 s0_1 s0_2) = some (r1, r2, r3) := h
 clear h
 obtain ⟨y356, hy356⟩ : ∃ y_ : List Int, y_ = (([] : List Int)) := ⟨_, rfl⟩
 replace H : (spec_l24DrawOrder.l0 k l1 y356 0 s0_0 s0_1 s0_2) = some (r1, r2, r3) := by first | (rw [hy356]; with_reducible exact H) | (have H2_ := (Option.bind_some _ _).symm.trans H; rw [hy356]; with_reducible exact H2_) | (have H2_ := (Option.bind_some _ _).symm.trans H; with_reducible exact H2_) | with_reducible exact H | (rw [hy356]; exact H) | exact H
 have Ny356 := Aside0.mk hy356
 clear hy356
 have H' := Aside0.mk H
 clear H
 go_enter Try.func50, Try.ntmps50
 go_wp2_with (first | ((with_reducible refine gate_dst (N := 8) rfl ?_); refine Kd.R_lit (Kd.int .i64) _ 2 ?hg (N := 8) ?hd (xs := ([] : List Int)) (inner := []) (ok := fun _ => True) (okp := fun _ => True) ?hr ?hp (fun _ hk => hk) trivial (Below.refl _ _) (Nat.le_refl _) (by simp) ?_; (case hd => rfl); (case hg => rfl); (case hr => first | (go_simp; done) | (go_simp; rfl)); (case hp => exact (Reps.none _ _)); intro v357 w3 ho4 hb hg_ hnew_; clear hg_ hnew_; (first | rw [← Ny356.out] at ho4 | (simp only [Int.reduceToNat] at ho4; rw [← Ny356.out] at ho4)); have n0_ := Aside0.mk (Kd.R_lower ho4 (keep_size (w := w) (g := g) (row := none) (mvK HK.out))); have n1_ := Aside0.mk (IsS103.below (by repeat (first | (with_reducible first | exact HI0.out | apply IsS103.alloc | apply IsS103.drewN | apply IsS103.drew | apply IsS103.set_1 | apply IsS103.set_2) | exact HI0.out)) hb); have n2_ := Aside0.mk (KeepBut.trans (mvK HK.out) (KeepBut.of_below hb g none) (.inl rfl)); have n3_ := Aside0.mk (below_step (by repeat (first | (with_reducible first | exact HB.out | apply below_alloc | apply pw_below_drewN | apply below_drew1 | refine below_set ?_ (IsS103.ge HI0.out)) | exact HB.out)) hb); clear HI0 HK HB; revert n0_ n1_ n2_ n3_; intro HO358 HI0 HK HB; clear hb ho4))
 go_loopg [5, 6] k (fun kq v5 v6 w' => ∃ (x5_1 : List Int) (x6_1 : Int) (x1001_1 : Int) (x1002_1 : Int), v6 = .int .i64 x6_1 ∧ Aside0 (spec_l24DrawOrder.l0 kq l1 x5_1 x6_1 s0_0 x1001_1 x1002_1 = some (r1, r2, r3)) ∧ Aside0 (kq ≤ k) ∧ Aside0 (Kd.R (Kd.int .i64) 2 w' w.heap.size (fun _ => True) v5 x5_1) ∧ Aside0 (IsS103 w0 w' g s0_0 x1001_1 x1002_1) ∧ Aside0 (KeepBut w w' g none) ∧ Aside0 (Below w0.heap.size w0 w'))
 case atStart => exact ⟨(y356), (0), (s0_1), (s0_2), rs, H', ⟨Nat.le_refl _⟩, ⟨mv HO358.out⟩, ⟨by repeat (first | (with_reducible first | exact HI0.out | apply IsS103.alloc | apply IsS103.drewN | apply IsS103.drew | apply IsS103.set_1 | apply IsS103.set_2) | exact HI0.out)⟩, ⟨mvK HK.out⟩, ⟨by repeat (first | (with_reducible first | exact HB.out | apply below_alloc | apply pw_below_drewN | apply below_drew1 | refine below_set ?_ (IsS103.ge HI0.out)) | exact HB.out)⟩⟩
 case round =>
  clear H'
  obtain ⟨x5_1, x6_1, x1001_1, x1002_1, rfl, HA, HK1, HO_5, HI0, HK, HB⟩ := hrel
  cases gk with
  | zero => exact absurd HA.out (by simp [spec_l24DrawOrder.l0])
  | succ k1 =>
   have H := HA.out
   clear HA
   simp only [spec_l24DrawOrder.l0] at H
   by_cases c5 : x6_1 < (l1.length : Int)
   ·
    rw [if_pos c5] at H
    have c5b0 : decide (x6_1 < (l1.length : Int)) = true := decide_eq_true c5
    clear c5
    replace H := Option.bind_eq_some_iff.mp H
    obtain ⟨t359, A60, H⟩ := H
    replace H : (if t359 = true then ((spec_l24Ready.f k1 l1 x5_1 x6_1).bind fun t360 => (if t360 = true then ((spec_l00Src_one.f s0_0 x1001_1 x1002_1 4).bind fun bt361 => (if bt361.1 = true then (spec_l24DrawOrder.l0 k1 l1 x5_1 (wrap64 (x6_1 + 1)) s0_0 bt361.2.1 bt361.2.2) else (if x5_1.length < 17592186044416 then (spec_l24DrawOrder.l0 k1 l1 (x5_1 ++ [x6_1]) (wrap64 (x6_1 + 1)) s0_0 bt361.2.1 bt361.2.2) else (none)))) else (spec_l24DrawOrder.l0 k1 l1 x5_1 (wrap64 (x6_1 + 1)) s0_0 x1001_1 x1002_1))) else (spec_l24DrawOrder.l0 k1 l1 x5_1 (wrap64 (x6_1 + 1)) s0_0 x1001_1 x1002_1)) = some (r1, r2, r3) := H
    have A6 := Aside0.mk A60
    clear A60
    by_cases c7 : t359 = true
    ·
     subst c7
     have H1 : ((spec_l24Ready.f k1 l1 x5_1 x6_1).bind fun t360 => (if t360 = true then ((spec_l00Src_one.f s0_0 x1001_1 x1002_1 4).bind fun bt361 => (if bt361.1 = true then (spec_l24DrawOrder.l0 k1 l1 x5_1 (wrap64 (x6_1 + 1)) s0_0 bt361.2.1 bt361.2.2) else (if x5_1.length < 17592186044416 then (spec_l24DrawOrder.l0 k1 l1 (x5_1 ++ [x6_1]) (wrap64 (x6_1 + 1)) s0_0 bt361.2.1 bt361.2.2) else (none)))) else (spec_l24DrawOrder.l0 k1 l1 x5_1 (wrap64 (x6_1 + 1)) s0_0 x1001_1 x1002_1))) = some (r1, r2, r3) := by rw [if_pos rfl] at H; exact H
     clear H
     have H := H1
     clear H1
     replace H := Option.bind_eq_some_iff.mp H
     obtain ⟨t360, A80, H⟩ := H
     replace H : (if t360 = true then ((spec_l00Src_one.f s0_0 x1001_1 x1002_1 4).bind fun bt361 => (if bt361.1 = true then (spec_l24DrawOrder.l0 k1 l1 x5_1 (wrap64 (x6_1 + 1)) s0_0 bt361.2.1 bt361.2.2) else (if x5_1.length < 17592186044416 then (spec_l24DrawOrder.l0 k1 l1 (x5_1 ++ [x6_1]) (wrap64 (x6_1 + 1)) s0_0 bt361.2.1 bt361.2.2) else (none)))) else (spec_l24DrawOrder.l0 k1 l1 x5_1 (wrap64 (x6_1 + 1)) s0_0 x1001_1 x1002_1)) = some (r1, r2, r3) := H
     have A8 := Aside0.mk A80
     clear A80
     by_cases c9 : t360 = true
     ·
      subst c9
      have H1 : ((spec_l00Src_one.f s0_0 x1001_1 x1002_1 4).bind fun bt361 => (if bt361.1 = true then (spec_l24DrawOrder.l0 k1 l1 x5_1 (wrap64 (x6_1 + 1)) s0_0 bt361.2.1 bt361.2.2) else (if x5_1.length < 17592186044416 then (spec_l24DrawOrder.l0 k1 l1 (x5_1 ++ [x6_1]) (wrap64 (x6_1 + 1)) s0_0 bt361.2.1 bt361.2.2) else (none)))) = some (r1, r2, r3) := by rw [if_pos rfl] at H; exact H
      clear H
      have H := H1
      clear H1
      replace H := Option.bind_eq_some_iff.mp H
      obtain ⟨⟨t361, t362, t363⟩, A100, H⟩ := H
      replace H : (if t361 = true then (spec_l24DrawOrder.l0 k1 l1 x5_1 (wrap64 (x6_1 + 1)) s0_0 t362 t363) else (if x5_1.length < 17592186044416 then (spec_l24DrawOrder.l0 k1 l1 (x5_1 ++ [x6_1]) (wrap64 (x6_1 + 1)) s0_0 t362 t363) else (none))) = some (r1, r2, r3) := H
      have A10 := Aside0.mk A100
      clear A100
      by_cases c11 : t361 = true
      ·
       subst c11
       have H1 : (spec_l24DrawOrder.l0 k1 l1 x5_1 (wrap64 (x6_1 + 1)) s0_0 t362 t363) = some (r1, r2, r3) := by rw [if_pos rfl] at H; exact H
       clear H
       have H := H1
       clear H1
       have H' := Aside0.mk H
       clear H
       go_wp2_with (first | ((with_reducible refine gate_callee (f := 61) rfl ?_); refine goesA_ (some 16) Try.func61 #[.slice A1 l1.length c1] ?_; (with_reducible refine (spec_l24Ok.calls k1 _ _ l1 true _ ?side1 ?side2 A6.out).mono ?_); (case side1 => exact Kd.C_foot_now HR1.out (mvK HK.out)); (case side2 => exact HC1.out); rintro e w12 ⟨rfl, hb⟩; refine ⟨_, rfl, ?_⟩; have n0_ := Aside0.mk (Kd.R_below (mv HO_5.out) hb); have n1_ := Aside0.mk (IsS103.below (by repeat (first | (with_reducible first | exact HI0.out | apply IsS103.alloc | apply IsS103.drewN | apply IsS103.drew | apply IsS103.set_1 | apply IsS103.set_2) | exact HI0.out)) hb); have n2_ := Aside0.mk (KeepBut.trans (mvK HK.out) (KeepBut.of_below hb g none) (.inl rfl)); have n3_ := Aside0.mk (below_step (by repeat (first | (with_reducible first | exact HB.out | apply below_alloc | apply pw_below_drewN | apply below_drew1 | refine below_set ?_ (IsS103.ge HI0.out)) | exact HB.out)) hb); clear HO_5 HI0 HK HB; revert n0_ n1_ n2_ n3_; intro HO_5 HI0 HK HB; (try clear hb); (try clear hk); (try clear hi); obtain ⟨Ao13, co13, eo13⟩ := Kd.R_slice HO_5.out; subst eo13) | (go_at_call 87; (with_reducible refine (spec_l24Ready.calls k1 _ _ l1 _ _ x5_1 x6_1 true _ ?side1 ?side2 ?side3 ?side4 A8.out).mono ?_); (case side1 => exact Kd.C_foot_now HR1.out (mvK HK.out)); (case side2 => exact HC1.out); (case side3 => exact mvC (Kd.R_reads' HO_5.out).2.2); (case side4 => exact (Kd.R_reads' HO_5.out).2.1); rintro e w' ⟨rfl, ⟨nd, rfl⟩⟩) | (go_at_call 88; (with_reducible refine (spec_l00Src_one.calls g s0_0 x1001_1 x1002_1 4 true t362 t363 w0 _ ?side1 ?side2 A10.out).mono ?_); (case side1 => repeat (first | (with_reducible first | exact HI0.out | apply IsS103.alloc | apply IsS103.drewN | apply IsS103.drew | apply IsS103.set_1 | apply IsS103.set_2) | exact HI0.out)); (case side2 => repeat (first | (with_reducible first | exact HB.out | apply below_alloc | apply pw_below_drewN | apply below_drew1 | refine below_set ?_ (IsS103.ge HI0.out)) | exact HB.out)); rintro e w14 ⟨rfl, hi, hb, hk⟩; have n0_ := Aside0.mk (Kd.R_mono (Kd.R_keep (IsS103.apart (show IsS103 w0 _ g s0_0 x1001_1 x1002_1 from by repeat (first | (with_reducible first | exact HI0.out | apply IsS103.alloc | apply IsS103.drewN | apply IsS103.drew | apply IsS103.set_1 | apply IsS103.set_2) | exact HI0.out)) (mv HO_5.out) (by decide)) hk (fun _ h => h.2)) (fun _ h => h.1)); have n1_ := Aside0.mk (KeepBut.trans (mvK HK.out) hk (.inl rfl)); have n2_ := Aside0.mk (hb); have n3_ := Aside0.mk (hi); clear HO_5 HK HB HI0; revert n0_ n1_ n2_ n3_; intro HO_5 HK HB HI0; (try clear hb); (try clear hk); (try clear hi)))
       go_roundg k1
       case measure => have := HK1.out; omega
       case rel => exact ⟨(x5_1), (wrap64 (x6_1 + 1)), (t362), (t363), rs, H', ⟨by have := HK1.out; omega⟩, ⟨mv HO_5.out⟩, ⟨by repeat (first | (with_reducible first | exact HI0.out | apply IsS103.alloc | apply IsS103.drewN | apply IsS103.drew | apply IsS103.set_1 | apply IsS103.set_2) | exact HI0.out)⟩, ⟨mvK HK.out⟩, ⟨by repeat (first | (with_reducible first | exact HB.out | apply below_alloc | apply pw_below_drewN | apply below_drew1 | refine below_set ?_ (IsS103.ge HI0.out)) | exact HB.out)⟩⟩
      ·
       replace c11 := Bool.eq_false_iff.mpr c11
       subst c11
       have H1 : (if x5_1.length < 17592186044416 then (spec_l24DrawOrder.l0 k1 l1 (x5_1 ++ [x6_1]) (wrap64 (x6_1 + 1)) s0_0 t362 t363) else (none)) = some (r1, r2, r3) := by rw [if_neg (show ¬ (false = true) by decide)] at H; exact H
       clear H
       have H := H1
       clear H1
       by_cases c15 : x5_1.length < 17592186044416
       ·
        rw [if_pos c15] at H
        have LMc15 := Aside0.mk c15
        clear c15
        obtain ⟨y364, hy364⟩ : ∃ y_ : List Int, y_ = (x5_1 ++ [x6_1]) := ⟨_, rfl⟩
        replace H : (spec_l24DrawOrder.l0 k1 l1 y364 (wrap64 (x6_1 + 1)) s0_0 t362 t363) = some (r1, r2, r3) := by first | (rw [hy364]; with_reducible exact H) | (have H2_ := (Option.bind_some _ _).symm.trans H; rw [hy364]; with_reducible exact H2_) | (have H2_ := (Option.bind_some _ _).symm.trans H; with_reducible exact H2_) | with_reducible exact H | (rw [hy364]; exact H) | exact H
        have Ny364 := Aside0.mk hy364
        clear hy364
        have H' := Aside0.mk H
        clear H
        go_wp2_with (first | ((with_reducible refine gate_callee (f := 61) rfl ?_); refine goesA_ (some 16) Try.func61 #[.slice A1 l1.length c1] ?_; (with_reducible refine (spec_l24Ok.calls k1 _ _ l1 true _ ?side1 ?side2 A6.out).mono ?_); (case side1 => exact Kd.C_foot_now HR1.out (mvK HK.out)); (case side2 => exact HC1.out); rintro e w16 ⟨rfl, hb⟩; refine ⟨_, rfl, ?_⟩; have n0_ := Aside0.mk (Kd.R_below (mv HO_5.out) hb); have n1_ := Aside0.mk (IsS103.below (by repeat (first | (with_reducible first | exact HI0.out | apply IsS103.alloc | apply IsS103.drewN | apply IsS103.drew | apply IsS103.set_1 | apply IsS103.set_2) | exact HI0.out)) hb); have n2_ := Aside0.mk (KeepBut.trans (mvK HK.out) (KeepBut.of_below hb g none) (.inl rfl)); have n3_ := Aside0.mk (below_step (by repeat (first | (with_reducible first | exact HB.out | apply below_alloc | apply pw_below_drewN | apply below_drew1 | refine below_set ?_ (IsS103.ge HI0.out)) | exact HB.out)) hb); clear HO_5 HI0 HK HB; revert n0_ n1_ n2_ n3_; intro HO_5 HI0 HK HB; (try clear hb); (try clear hk); (try clear hi); obtain ⟨Ao17, co17, eo17⟩ := Kd.R_slice HO_5.out; subst eo17) | (go_at_call 87; (with_reducible refine (spec_l24Ready.calls k1 _ _ l1 _ _ x5_1 x6_1 true _ ?side1 ?side2 ?side3 ?side4 A8.out).mono ?_); (case side1 => exact Kd.C_foot_now HR1.out (mvK HK.out)); (case side2 => exact HC1.out); (case side3 => exact mvC (Kd.R_reads' HO_5.out).2.2); (case side4 => exact (Kd.R_reads' HO_5.out).2.1); rintro e w' ⟨rfl, ⟨nd, rfl⟩⟩) | (go_at_call 88; (with_reducible refine (spec_l00Src_one.calls g s0_0 x1001_1 x1002_1 4 false t362 t363 w0 _ ?side1 ?side2 A10.out).mono ?_); (case side1 => repeat (first | (with_reducible first | exact HI0.out | apply IsS103.alloc | apply IsS103.drewN | apply IsS103.drew | apply IsS103.set_1 | apply IsS103.set_2) | exact HI0.out)); (case side2 => repeat (first | (with_reducible first | exact HB.out | apply below_alloc | apply pw_below_drewN | apply below_drew1 | refine below_set ?_ (IsS103.ge HI0.out)) | exact HB.out)); rintro e w18 ⟨rfl, hi, hb, hk⟩; have n0_ := Aside0.mk (Kd.R_mono (Kd.R_keep (IsS103.apart (show IsS103 w0 _ g s0_0 x1001_1 x1002_1 from by repeat (first | (with_reducible first | exact HI0.out | apply IsS103.alloc | apply IsS103.drewN | apply IsS103.drew | apply IsS103.set_1 | apply IsS103.set_2) | exact HI0.out)) (mv HO_5.out) (by decide)) hk (fun _ h => h.2)) (fun _ h => h.1)); have n1_ := Aside0.mk (KeepBut.trans (mvK HK.out) hk (.inl rfl)); have n2_ := Aside0.mk (hb); have n3_ := Aside0.mk (hi); clear HO_5 HK HB HI0; revert n0_ n1_ n2_ n3_; intro HO_5 HK HB HI0; (try clear hb); (try clear hk); (try clear hi)) | ((with_reducible refine gate_builtin (b := .append) (xs := #[.tmp 28, .tmp 30]) rfl ?_); at_builtin; refine Kd.R_append (Kd.int .i64) w.heap.size rfl (.tmp 28) (.tmp 30) 27 2 (.int .i64 0) 8 rfl Try.underlying27 info2 rfl (by decide) (by omega) (.slice Ao17 x5_1.length co17) x5_1 x6_1 [.int .i64 x6_1] (fun _ => True) (fun _ => False) rfl rfl ?aP (fun _ hk => hk.elim) ?aF ?aO (Below.refl _ _) ?aS ?aL ?_; (case aP => exact rfl); (case aF => exact (fun _ _ => trivial)); (case aO => exact (mv HO_5.out)); (case aS => exact (keep_size (w := w) (g := g) (row := none) (mvK HK.out))); (case aL => have := LMc15.out; omega); intro v365 w19 ho hb hg hat; rw [← Ny364.out] at ho; have n0_ := Aside0.mk (IsS103.grown (by repeat (first | (with_reducible first | exact HI0.out | apply IsS103.alloc | apply IsS103.drewN | apply IsS103.drew | apply IsS103.set_1 | apply IsS103.set_2) | exact HI0.out)) hg (IsS103.own_ne HI0.out HO_5.out (by decide))); have n1_ := Aside0.mk (below_weaken (by repeat (first | (with_reducible first | exact HB.out | apply below_alloc | apply pw_below_drewN | apply below_drew1 | refine below_set ?_ (IsS103.ge HI0.out)) | exact HB.out)) HL.out hb); have n2_ := Aside0.mk (KeepBut.trans (mvK HK.out) (KeepBut.of_grown hg g) (Kd.R_base2 HO_5.out)); have n3_ := Aside0.mk (ho); clear HI0 HB HK HO_5; revert n0_ n1_ n2_ n3_; intro HI0 HB HK HO366; clear ho hb hg hat))
        go_roundg k1
        case measure => have := HK1.out; omega
        case rel => exact ⟨(y364), (wrap64 (x6_1 + 1)), (t362), (t363), rs, H', ⟨by have := HK1.out; omega⟩, ⟨mv HO366.out⟩, ⟨by repeat (first | (with_reducible first | exact HI0.out | apply IsS103.alloc | apply IsS103.drewN | apply IsS103.drew | apply IsS103.set_1 | apply IsS103.set_2) | exact HI0.out)⟩, ⟨mvK HK.out⟩, ⟨by repeat (first | (with_reducible first | exact HB.out | apply below_alloc | apply pw_below_drewN | apply below_drew1 | refine below_set ?_ (IsS103.ge HI0.out)) | exact HB.out)⟩⟩
       ·
        rw [if_neg c15] at H
        exact absurd H (by simp)
     ·
      replace c9 := Bool.eq_false_iff.mpr c9
      subst c9
      have H1 : (spec_l24DrawOrder.l0 k1 l1 x5_1 (wrap64 (x6_1 + 1)) s0_0 x1001_1 x1002_1) = some (r1, r2, r3) := by rw [if_neg (show ¬ (false = true) by decide)] at H; exact H
      clear H
      have H := H1
      clear H1
      have H' := Aside0.mk H
      clear H
      go_wp2_with (first | ((with_reducible refine gate_callee (f := 61) rfl ?_); refine goesA_ (some 16) Try.func61 #[.slice A1 l1.length c1] ?_; (with_reducible refine (spec_l24Ok.calls k1 _ _ l1 true _ ?side1 ?side2 A6.out).mono ?_); (case side1 => exact Kd.C_foot_now HR1.out (mvK HK.out)); (case side2 => exact HC1.out); rintro e w20 ⟨rfl, hb⟩; refine ⟨_, rfl, ?_⟩; have n0_ := Aside0.mk (Kd.R_below (mv HO_5.out) hb); have n1_ := Aside0.mk (IsS103.below (by repeat (first | (with_reducible first | exact HI0.out | apply IsS103.alloc | apply IsS103.drewN | apply IsS103.drew | apply IsS103.set_1 | apply IsS103.set_2) | exact HI0.out)) hb); have n2_ := Aside0.mk (KeepBut.trans (mvK HK.out) (KeepBut.of_below hb g none) (.inl rfl)); have n3_ := Aside0.mk (below_step (by repeat (first | (with_reducible first | exact HB.out | apply below_alloc | apply pw_below_drewN | apply below_drew1 | refine below_set ?_ (IsS103.ge HI0.out)) | exact HB.out)) hb); clear HO_5 HI0 HK HB; revert n0_ n1_ n2_ n3_; intro HO_5 HI0 HK HB; (try clear hb); obtain ⟨Ao21, co21, eo21⟩ := Kd.R_slice HO_5.out; subst eo21) | (go_at_call 87; (with_reducible refine (spec_l24Ready.calls k1 _ _ l1 _ _ x5_1 x6_1 false _ ?side1 ?side2 ?side3 ?side4 A8.out).mono ?_); (case side1 => exact Kd.C_foot_now HR1.out (mvK HK.out)); (case side2 => exact HC1.out); (case side3 => exact mvC (Kd.R_reads' HO_5.out).2.2); (case side4 => exact (Kd.R_reads' HO_5.out).2.1); rintro e w' ⟨rfl, ⟨nd, rfl⟩⟩))
      go_roundg k1
      case measure => have := HK1.out; omega
      case rel => exact ⟨(x5_1), (wrap64 (x6_1 + 1)), (x1001_1), (x1002_1), rs, H', ⟨by have := HK1.out; omega⟩, ⟨mv HO_5.out⟩, ⟨by repeat (first | (with_reducible first | exact HI0.out | apply IsS103.alloc | apply IsS103.drewN | apply IsS103.drew | apply IsS103.set_1 | apply IsS103.set_2) | exact HI0.out)⟩, ⟨mvK HK.out⟩, ⟨by repeat (first | (with_reducible first | exact HB.out | apply below_alloc | apply pw_below_drewN | apply below_drew1 | refine below_set ?_ (IsS103.ge HI0.out)) | exact HB.out)⟩⟩
    ·
     replace c7 := Bool.eq_false_iff.mpr c7
     subst c7
     have H1 : (spec_l24DrawOrder.l0 k1 l1 x5_1 (wrap64 (x6_1 + 1)) s0_0 x1001_1 x1002_1) = some (r1, r2, r3) := by rw [if_neg (show ¬ (false = true) by decide)] at H; exact H
     clear H
     have H := H1
     clear H1
     have H' := Aside0.mk H
     clear H
     go_wp2_with (first | ((with_reducible refine gate_callee (f := 61) rfl ?_); refine goesA_ (some 16) Try.func61 #[.slice A1 l1.length c1] ?_; (with_reducible refine (spec_l24Ok.calls k1 _ _ l1 false _ ?side1 ?side2 A6.out).mono ?_); (case side1 => exact Kd.C_foot_now HR1.out (mvK HK.out)); (case side2 => exact HC1.out); rintro e w22 ⟨rfl, hb⟩; refine ⟨_, rfl, ?_⟩; have n0_ := Aside0.mk (Kd.R_below (mv HO_5.out) hb); have n1_ := Aside0.mk (IsS103.below (by repeat (first | (with_reducible first | exact HI0.out | apply IsS103.alloc | apply IsS103.drewN | apply IsS103.drew | apply IsS103.set_1 | apply IsS103.set_2) | exact HI0.out)) hb); have n2_ := Aside0.mk (KeepBut.trans (mvK HK.out) (KeepBut.of_below hb g none) (.inl rfl)); have n3_ := Aside0.mk (below_step (by repeat (first | (with_reducible first | exact HB.out | apply below_alloc | apply pw_below_drewN | apply below_drew1 | refine below_set ?_ (IsS103.ge HI0.out)) | exact HB.out)) hb); clear HO_5 HI0 HK HB; revert n0_ n1_ n2_ n3_; intro HO_5 HI0 HK HB; (try clear hb)))
     go_roundg k1
     case measure => have := HK1.out; omega
     case rel => exact ⟨(x5_1), (wrap64 (x6_1 + 1)), (x1001_1), (x1002_1), rs, H', ⟨by have := HK1.out; omega⟩, ⟨mv HO_5.out⟩, ⟨by repeat (first | (with_reducible first | exact HI0.out | apply IsS103.alloc | apply IsS103.drewN | apply IsS103.drew | apply IsS103.set_1 | apply IsS103.set_2) | exact HI0.out)⟩, ⟨mvK HK.out⟩, ⟨by repeat (first | (with_reducible first | exact HB.out | apply below_alloc | apply pw_below_drewN | apply below_drew1 | refine below_set ?_ (IsS103.ge HI0.out)) | exact HB.out)⟩⟩
   ·
    rw [if_neg c5] at H
    have c5b0 : decide (x6_1 < (l1.length : Int)) = false := decide_eq_false c5
    clear c5
    replace H := Option.bind_eq_some_iff.mp H
    obtain ⟨⟨t367, t368, t369⟩, A230, H⟩ := H
    replace H : (if t367 = 0 then ((spec_l00Src_among.f s0_0 t368 t369 (([(-1), 0, 9] : List Int))).bind fun bt373 => (if x5_1.length < 17592186044416 then (some ((x5_1 ++ [bt373.1]), bt373.2.1, bt373.2.2)) else (none))) else (if t367 = 1 then (if (x5_1.length : Int) > 1 then (if 0 < (x5_1.length : Int) then (if 1 < (x5_1.length : Int) then (some (((x5_1.set (0 : Int).toNat (rd x5_1 1)).set (1 : Int).toNat (rd x5_1 0)), t368, t369)) else (none)) else (none)) else (some (x5_1, t368, t369))) else (some (x5_1, t368, t369)))) = some (r1, r2, r3) := H
    have A23 := Aside0.mk A230
    clear A230
    by_cases c24 : t367 = 0
    ·
     rw [if_pos c24] at H
     have c24b0 : (t367 == 0) = true := beq_iff_eq.mpr c24
     have c24b1 : (t367 != 0) = false := bne_eq_false_iff_eq.mpr c24
     clear c24
     obtain ⟨y370, hy370⟩ : ∃ y_ : List Int, y_ = (([(-1), 0, 9] : List Int)) := ⟨_, rfl⟩
     replace H : ((spec_l00Src_among.f s0_0 t368 t369 y370).bind fun bt373 => (if x5_1.length < 17592186044416 then (some ((x5_1 ++ [bt373.1]), bt373.2.1, bt373.2.2)) else (none))) = some (r1, r2, r3) := by first | (rw [hy370]; with_reducible exact H) | (have H2_ := (Option.bind_some _ _).symm.trans H; rw [hy370]; with_reducible exact H2_) | (have H2_ := (Option.bind_some _ _).symm.trans H; with_reducible exact H2_) | with_reducible exact H | (rw [hy370]; exact H) | exact H
     have Ny370 := Aside0.mk hy370
     clear hy370
     replace H := Option.bind_eq_some_iff.mp H
     obtain ⟨⟨t373, t374, t375⟩, A250, H⟩ := H
     replace H : (if x5_1.length < 17592186044416 then (some ((x5_1 ++ [t373]), t374, t375)) else (none)) = some (r1, r2, r3) := H
     have A25 := Aside0.mk A250
     clear A250
     by_cases c26 : x5_1.length < 17592186044416
     ·
      rw [if_pos c26] at H
      have LMc26 := Aside0.mk c26
      clear c26
      obtain ⟨y376, hy376⟩ : ∃ y_ : List Int, y_ = (x5_1 ++ [t373]) := ⟨_, rfl⟩
      replace H : (some (y376, t374, t375)) = some (r1, r2, r3) := by first | (rw [hy376]; with_reducible exact H) | (have H2_ := (Option.bind_some _ _).symm.trans H; rw [hy376]; with_reducible exact H2_) | (have H2_ := (Option.bind_some _ _).symm.trans H; with_reducible exact H2_) | with_reducible exact H | (rw [hy376]; exact H) | exact H
      have Ny376 := Aside0.mk hy376
      clear hy376
      simp only [Option.some.injEq, Prod.mk.injEq] at H
      obtain ⟨rfl, rfl, rfl⟩ := H
      go_wp2_with (first | ((with_reducible refine gate_callee (f := 77) rfl ?_); refine goesA_ (some 33) Try.func77 #[.pointer (some ⟨g, 0, none⟩), .int .i64 12] ?_; (with_reducible refine (spec_l00Src_pick.calls g s0_0 x1001_1 x1002_1 12 t367 t368 t369 w0 _ ?side1 ?side2 A23.out).mono ?_); (case side1 => repeat (first | (with_reducible first | exact HI0.out | apply IsS103.alloc | apply IsS103.drewN | apply IsS103.drew | apply IsS103.set_1 | apply IsS103.set_2) | exact HI0.out)); (case side2 => repeat (first | (with_reducible first | exact HB.out | apply below_alloc | apply pw_below_drewN | apply below_drew1 | refine below_set ?_ (IsS103.ge HI0.out)) | exact HB.out)); rintro e w27 ⟨rfl, hi, hb, hk⟩; refine ⟨_, rfl, ?_⟩; have n0_ := Aside0.mk (Kd.R_mono (Kd.R_keep (IsS103.apart (show IsS103 w0 _ g s0_0 x1001_1 x1002_1 from by repeat (first | (with_reducible first | exact HI0.out | apply IsS103.alloc | apply IsS103.drewN | apply IsS103.drew | apply IsS103.set_1 | apply IsS103.set_2) | exact HI0.out)) (mv HO_5.out) (by decide)) hk (fun _ h => h.2)) (fun _ h => h.1)); have n1_ := Aside0.mk (KeepBut.trans (mvK HK.out) hk (.inl rfl)); have n2_ := Aside0.mk (hb); have n3_ := Aside0.mk (hi); clear HO_5 HK HB HI0; revert n0_ n1_ n2_ n3_; intro HO_5 HK HB HI0; (try clear hb); (try clear hk); (try clear hi)) | ((with_reducible refine gate_dst (N := 38) rfl ?_); refine Kd.R_lit (Kd.int .i64) _ 2 ?hg (N := 38) ?hd (xs := ([(-1), 0, 9] : List Int)) (inner := [.int .i64 (-1), .int .i64 0, .int .i64 9]) (ok := fun _ => True) (okp := fun _ => True) ?hr ?hp (fun _ hk => hk) trivial (Below.refl _ _) (Nat.le_refl _) (by simp) ?_; (case hd => rfl); (case hg => rfl); (case hr => first | (go_simp; done) | (go_simp; rfl)); (case hp => exact (Reps.one (show Kd.M (Kd.int .i64) _ _ _ (-1) [.int .i64 (-1)] from rfl) (Reps.one (show Kd.M (Kd.int .i64) _ _ _ 0 [.int .i64 0] from rfl) (Reps.one (show Kd.M (Kd.int .i64) _ _ _ 9 [.int .i64 9] from rfl) (Reps.none _ _))))); intro v371 w28 ho29 hb hg_ hnew_; clear hg_ hnew_; (first | rw [← Ny370.out] at ho29 | (simp only [Int.reduceToNat] at ho29; rw [← Ny370.out] at ho29)); have n0_ := Aside0.mk (Kd.R_elder' (mv HO_5.out) (Kd.R_base ho29) hb); have n1_ := Aside0.mk (Kd.R_lower (Kd.R_new' ho29 (Kd.R_lt (mv HO_5.out))) (keep_size (w := w) (g := g) (row := none) (mvK HK.out))); have n2_ := Aside0.mk (IsS103.below (by repeat (first | (with_reducible first | exact HI0.out | apply IsS103.alloc | apply IsS103.drewN | apply IsS103.drew | apply IsS103.set_1 | apply IsS103.set_2) | exact HI0.out)) hb); have n3_ := Aside0.mk (KeepBut.trans (mvK HK.out) (KeepBut.of_below hb g none) (.inl rfl)); have n4_ := Aside0.mk (below_step (by repeat (first | (with_reducible first | exact HB.out | apply below_alloc | apply pw_below_drewN | apply below_drew1 | refine below_set ?_ (IsS103.ge HI0.out)) | exact HB.out)) hb); clear HO_5 HI0 HK HB; revert n0_ n1_ n2_ n3_ n4_; intro HO_5 HO372 HI0 HK HB; clear hb ho29; obtain ⟨Ao30, co30, eo30⟩ := Kd.R_slice HO372.out; subst eo30) | ((with_reducible refine gate_callee (f := 40) rfl ?_); refine goesA_ (some 39) Try.func40 #[.pointer (some ⟨g, 0, none⟩), .slice Ao30 y370.length co30] ?_; (with_reducible refine (spec_l00Src_among.calls g s0_0 t368 t369 _ _ y370 t373 t374 t375 w0 _ ?side1 ?side2 ?side3 ?side4 ?side5 A25.out).mono ?_); (case side1 => repeat (first | (with_reducible first | exact HI0.out | apply IsS103.alloc | apply IsS103.drewN | apply IsS103.drew | apply IsS103.set_1 | apply IsS103.set_2) | exact HI0.out)); (case side2 => repeat (first | (with_reducible first | exact HB.out | apply below_alloc | apply pw_below_drewN | apply below_drew1 | refine below_set ?_ (IsS103.ge HI0.out)) | exact HB.out)); (case side3 => exact mvC (Kd.R_reads' HO372.out).2.2); (case side4 => exact (Kd.R_reads' HO372.out).2.1); (case side5 => exact far_slice (IsS103.own_ne HI0.out HO372.out (by decide))); rintro e w31 ⟨rfl, hi, hb, hk⟩; refine ⟨_, rfl, ?_⟩; have n0_ := Aside0.mk (Kd.R_mono (Kd.R_keep (IsS103.apart (show IsS103 w0 _ g s0_0 t368 t369 from by repeat (first | (with_reducible first | exact HI0.out | apply IsS103.alloc | apply IsS103.drewN | apply IsS103.drew | apply IsS103.set_1 | apply IsS103.set_2) | exact HI0.out)) (mv HO_5.out) (by decide)) hk (fun _ h => h.2)) (fun _ h => h.1)); have n1_ := Aside0.mk (Kd.R_mono (Kd.R_keep (IsS103.apart (show IsS103 w0 _ g s0_0 t368 t369 from by repeat (first | (with_reducible first | exact HI0.out | apply IsS103.alloc | apply IsS103.drewN | apply IsS103.drew | apply IsS103.set_1 | apply IsS103.set_2) | exact HI0.out)) (mv HO372.out) (by decide)) hk (fun _ h => h.2)) (fun _ h => h.1)); have n2_ := Aside0.mk (KeepBut.trans (mvK HK.out) hk (.inl rfl)); have n3_ := Aside0.mk (hb); have n4_ := Aside0.mk (hi); clear HO_5 HO372 HK HB HI0; revert n0_ n1_ n2_ n3_ n4_; intro HO_5 HO372 HK HB HI0; (try clear hb); (try clear hk); (try clear hi)) | ((with_reducible refine gate_builtin (b := .append) (xs := #[.tmp 36, .tmp 40]) rfl ?_); at_builtin; refine Kd.R_append (Kd.int .i64) w.heap.size rfl (.tmp 36) (.tmp 40) 27 2 (.int .i64 0) 8 rfl Try.underlying27 info2 rfl (by decide) (by omega) u5 x5_1 t373 [.int .i64 t373] (fun k_ => some k_ ≠ (.slice Ao30 y370.length co30 : Value).ownBlock) (fun _ => False) rfl rfl ?aP (fun _ hk => hk.elim) ?aF ?aO (Below.refl _ _) ?aS ?aL ?_; (case aP => exact rfl); (case aF => exact (fun k_ hk => Kd.fresh' (Kd.R_lt (mv HO372.out)) k_ hk)); (case aO => exact (by (with_reducible repeat (first | apply Kd.R_alloc | apply Kd.R_drewN | apply Kd.R_drew)); exact Kd.R_mono HO_5.out (fun _ hk => hk.2))); (case aS => exact (keep_size (w := w) (g := g) (row := none) (mvK HK.out))); (case aL => have := LMc26.out; omega); intro v377 w32 ho hb hg hat; rw [← Ny376.out] at ho; have n0_ := Aside0.mk (IsS103.grown (by repeat (first | (with_reducible first | exact HI0.out | apply IsS103.alloc | apply IsS103.drewN | apply IsS103.drew | apply IsS103.set_1 | apply IsS103.set_2) | exact HI0.out)) hg (IsS103.own_ne HI0.out HO_5.out (by decide))); have n1_ := Aside0.mk (Kd.R_after (ok := (fun _ => True)) (mv HO372.out) hg hat); have n2_ := Aside0.mk (below_weaken (by repeat (first | (with_reducible first | exact HB.out | apply below_alloc | apply pw_below_drewN | apply below_drew1 | refine below_set ?_ (IsS103.ge HI0.out)) | exact HB.out)) HL.out hb); have n3_ := Aside0.mk (KeepBut.trans (mvK HK.out) (KeepBut.of_grown hg g) (Kd.R_base2 HO_5.out)); have n4_ := Aside0.mk (ho); clear HI0 HO372 HB HK HO_5; revert n0_ n1_ n2_ n3_ n4_; intro HI0 HO372 HB HK HO378; clear ho hb hg hat))
      go_ret
      exact ⟨_, by first | rfl | (simp [errW_none, errW_some] <;> rfl) | (simp [*, errW_none, errW_some] <;> rfl), by (with_reducible repeat (first | apply Kd.R_alloc | apply Kd.R_drewN | apply Kd.R_drew)); exact Kd.R_mono HO378.out (fun _ hk => trivial), by repeat (first | (with_reducible first | exact HI0.out | apply IsS103.alloc | apply IsS103.drewN | apply IsS103.drew | apply IsS103.set_1 | apply IsS103.set_2) | exact HI0.out), by repeat (first | (with_reducible first | exact HB.out | apply below_alloc | apply pw_below_drewN | apply below_drew1 | refine below_set ?_ (IsS103.ge HI0.out)) | exact HB.out), mvK HK.out⟩
     ·
      rw [if_neg c26] at H
      exact absurd H (by simp)
    ·
     rw [if_neg c24] at H
     have c24b0 : (t367 == 0) = false := beq_eq_false_iff_ne.mpr c24
     have c24b1 : (t367 != 0) = true := bne_iff_ne.mpr c24
     by_cases c33 : t367 = 1
     ·
      rw [if_pos c33] at H
      have c33b0 : (t367 == 1) = true := beq_iff_eq.mpr c33
      have c33b1 : (t367 != 1) = false := bne_eq_false_iff_eq.mpr c33
      clear c33
      by_cases c34 : (x5_1.length : Int) > 1
      ·
       rw [if_pos c34] at H
       have c34b0 : decide (1 < (x5_1.length : Int)) = true := decide_eq_true c34
       have c34b1 : decide (1 < x5_1.length) = true := decide_eq_true (by omega)
       clear c34
       by_cases c35 : 0 < (x5_1.length : Int)
       ·
        rw [if_pos c35] at H
        have c35b0 : decide (0 < (x5_1.length : Int)) = true := decide_eq_true c35
        have c35b1 : decide (0 < x5_1.length) = true := decide_eq_true (by omega)
        clear c35
        by_cases c36 : 1 < (x5_1.length : Int)
        ·
         rw [if_pos c36] at H
         have c36b0 : decide (1 < (x5_1.length : Int)) = true := decide_eq_true c36
         have c36b1 : decide (1 < x5_1.length) = true := decide_eq_true (by omega)
         clear c36
         obtain ⟨y381, hy381⟩ : ∃ y_ : List Int, y_ = (x5_1.set (0 : Int).toNat (rd x5_1 1)) := ⟨_, rfl⟩
         replace H : (some ((y381.set (1 : Int).toNat (rd x5_1 0)), t368, t369)) = some (r1, r2, r3) := by first | (rw [hy381]; with_reducible exact H) | (have H2_ := (Option.bind_some _ _).symm.trans H; rw [hy381]; with_reducible exact H2_) | (have H2_ := (Option.bind_some _ _).symm.trans H; with_reducible exact H2_) | with_reducible exact H | (rw [hy381]; exact H) | exact H
         have Ny381 := Aside0.mk hy381
         clear hy381
         obtain ⟨y382, hy382⟩ : ∃ y_ : List Int, y_ = (y381.set (1 : Int).toNat (rd x5_1 0)) := ⟨_, rfl⟩
         replace H : (some (y382, t368, t369)) = some (r1, r2, r3) := by first | (rw [hy382]; with_reducible exact H) | (have H2_ := (Option.bind_some _ _).symm.trans H; rw [hy382]; with_reducible exact H2_) | (have H2_ := (Option.bind_some _ _).symm.trans H; with_reducible exact H2_) | with_reducible exact H | (rw [hy382]; exact H) | exact H
         have Ny382 := Aside0.mk hy382
         clear hy382
         simp only [Option.some.injEq, Prod.mk.injEq] at H
         obtain ⟨rfl, rfl, rfl⟩ := H
         go_wp2_with (first | ((with_reducible refine gate_callee (f := 77) rfl ?_); refine goesA_ (some 33) Try.func77 #[.pointer (some ⟨g, 0, none⟩), .int .i64 12] ?_; (with_reducible refine (spec_l00Src_pick.calls g s0_0 x1001_1 x1002_1 12 t367 t368 t369 w0 _ ?side1 ?side2 A23.out).mono ?_); (case side1 => repeat (first | (with_reducible first | exact HI0.out | apply IsS103.alloc | apply IsS103.drewN | apply IsS103.drew | apply IsS103.set_1 | apply IsS103.set_2) | exact HI0.out)); (case side2 => repeat (first | (with_reducible first | exact HB.out | apply below_alloc | apply pw_below_drewN | apply below_drew1 | refine below_set ?_ (IsS103.ge HI0.out)) | exact HB.out)); rintro e w39 ⟨rfl, hi, hb, hk⟩; refine ⟨_, rfl, ?_⟩; have n0_ := Aside0.mk (Kd.R_mono (Kd.R_keep (IsS103.apart (show IsS103 w0 _ g s0_0 x1001_1 x1002_1 from by repeat (first | (with_reducible first | exact HI0.out | apply IsS103.alloc | apply IsS103.drewN | apply IsS103.drew | apply IsS103.set_1 | apply IsS103.set_2) | exact HI0.out)) (mv HO_5.out) (by decide)) hk (fun _ h => h.2)) (fun _ h => h.1)); have n1_ := Aside0.mk (KeepBut.trans (mvK HK.out) hk (.inl rfl)); have n2_ := Aside0.mk (hb); have n3_ := Aside0.mk (hi); clear HO_5 HK HB HI0; revert n0_ n1_ n2_ n3_; intro HO_5 HK HB HI0; (try clear hb); (try clear hk); (try clear hi); obtain ⟨Ao40, co40, eo40⟩ := Kd.R_slice HO_5.out; subst eo40; have p379 : 0 ≤ (0 : Int) := (by omega); have q379 : 0 < (x5_1.length : Int) := od; obtain ⟨ad379, e379, hx379_0⟩ := Kd.at_int (Kd.R_reads' HO_5.out).2.2 0 p379 q379; cases e379; have qi379 : (0 < x5_1.length) = True := eq_true (by omega); (try rw [show ((0 : Int)).toNat = 0 from rfl] at hx379_0); (try rw [Addr.add_zero'] at hx379_0); replace p379 := eq_true p379; replace q379 := eq_true q379; have p380 : 0 ≤ (1 : Int) := (by omega); have q380 : 1 < (x5_1.length : Int) := od; obtain ⟨ad380, e380, hx380_0⟩ := Kd.at_int (Kd.R_reads' HO_5.out).2.2 1 p380 q380; obtain rfl : ad379 = ad380 := (by injection e380); (try simp only [show (1 : Int).toNat = 1 from rfl, Nat.reduceMul, Nat.reduceEqDiff, Go.Addr.add, ↓reduceIte] at hx380_0); have qi380 : (1 < x5_1.length) = True := eq_true (by omega); (try rw [show ((1 : Int)).toNat = 1 from rfl] at hx380_0); replace p380 := eq_true p380; replace q380 := eq_true q380; have p37 : 0 ≤ (0 : Int) := (by omega); have q37 : (0 : Int) < ((x5_1.length : Int) : Int) := od; have qi37 : (0 < x5_1.length) = True := eq_true (by omega); obtain ⟨go37, co37, eo37, gb37, gl37, cl37, HG37⟩ := Kd.R_form HO_5.out (by omega); (first | cases eo37 | (injection eo37 with ea_ en_ ec_; (first | subst ea_ | (injection ea_ with ea_; subst ea_)); subst ec_; clear en_)); have GB37 := Aside0.mk gb37; have GG37 := Aside0.mk HG37; clear gb37 gl37 HG37; (first | simp only [add_plain] at hx379_0 | skip); (first | simp only [add_plain] at hx380_0 | skip); obtain ⟨hx37_0, hf37_0⟩ := Kd.R_celln 0 HO_5.out (0 : Int) p37 q37; (try rw [show ((0 : Int)).toNat = 0 from rfl] at hx37_0); (try simp only [Nat.reduceMul, Nat.zero_mul, Nat.zero_add, Nat.reduceAdd] at hx37_0); (try rw [show ((0 : Int)).toNat = 0 from rfl] at hf37_0); (try simp only [Nat.reduceMul, Nat.zero_mul, Nat.zero_add, Nat.reduceAdd] at hf37_0); replace p37 := eq_true p37; replace q37 := eq_true q37; obtain ⟨hy41_, hz41_⟩ := Kd.R_celln 0 HO_5.out (0 : Int) (by omega) (od); (try simp only [Int.reduceToNat, Int.toNat_zero, Int.toNat_ofNat, Nat.reduceMul, Nat.zero_mul, Nat.zero_add] at hy41_ hz41_); (try rw [show ((0 : Int)).toNat = 0 from rfl] at hy41_); (try rw [show ((0 : Int)).toNat = 0 from rfl] at hz41_); have HP41 := Kd.R_putg HO_5.out (0 : Int) (rd x5_1 1)) | ((with_reducible refine gate_store (t := 2) (p := 54) rfl ?_); refine store_event (t := 2) (p := 54) (v := ?vo_w42) (w1 := (w39.setCell ⟨go37, (0 : Int).toNat, none⟩ (.int .i64 (rd x5_1 1)))) ?hg ?ho ?hn ?hr ?_; (case ho => rfl); (case hg => rfl); (case hn => rfl); (case hr => first | (go_simp; done) | (go_simp; rfl)); intro w42 hw; have hg : w39.grownBy w42 (some go37) := (by rw [hw]; exact HP41.2); have hp_ : Kd.R (Kd.int .i64) 2 w42 w.heap.size (fun _ => True) (.slice (some ⟨go37, 0, none⟩) x5_1.length co40) y381 := (by rw [hw, Ny381.out]; exact HP41.1); clear HP41; have n0_ := Aside0.mk (hp_); have n1_ := Aside0.mk (IsS103.grown (by repeat (first | (with_reducible first | exact HI0.out | apply IsS103.alloc | apply IsS103.drewN | apply IsS103.drew | apply IsS103.set_1 | apply IsS103.set_2) | exact HI0.out)) hg (IsS103.own_ne HI0.out HO_5.out (by decide))); have n2_ := Aside0.mk ((by rw [hw]; exact below_set (HB.out) (Nat.le_trans HL.out GB37.out) : Below w0.heap.size w0 w42)); have n3_ := Aside0.mk (KeepBut.trans (mvK HK.out) (KeepBut.of_grown hg g) (Kd.R_base2 HO_5.out)); clear HO_5 HI0 HB HK; revert n0_ n1_ n2_ n3_; intro HO_5 HI0 HB HK; clear hg hw hp_; have p38 : 0 ≤ (1 : Int) := (by omega); have q38 : (1 : Int) < ((x5_1.length : Int) : Int) := od; have qi38 : (1 < x5_1.length) = True := eq_true (by omega); obtain ⟨hx38_0, hf38_0⟩ := Kd.R_celln 0 HO_5.out (1 : Int) p38 q38; (try rw [show ((1 : Int)).toNat = 1 from rfl] at hx38_0); (try simp only [Nat.reduceMul, Nat.zero_mul, Nat.zero_add, Nat.reduceAdd] at hx38_0); (try rw [show ((1 : Int)).toNat = 1 from rfl] at hf38_0); (try simp only [Nat.reduceMul, Nat.zero_mul, Nat.zero_add, Nat.reduceAdd] at hf38_0); replace p38 := eq_true p38; replace q38 := eq_true q38; obtain ⟨hy43_, hz43_⟩ := Kd.R_celln 0 HO_5.out (1 : Int) (by omega) (od); (try simp only [Int.reduceToNat, Int.toNat_zero, Int.toNat_ofNat, Nat.reduceMul, Nat.zero_mul, Nat.zero_add] at hy43_ hz43_); (try rw [show ((1 : Int)).toNat = 1 from rfl] at hy43_); (try rw [show ((1 : Int)).toNat = 1 from rfl] at hz43_); have HP43 := Kd.R_putg HO_5.out (1 : Int) (rd x5_1 0)) | ((with_reducible refine gate_store (t := 2) (p := 57) rfl ?_); refine store_event (t := 2) (p := 57) (v := ?vo_w44) (w1 := (w42.setCell ⟨go37, (1 : Int).toNat, none⟩ (.int .i64 (rd x5_1 0)))) ?hg ?ho ?hn ?hr ?_; (case ho => rfl); (case hg => rfl); (case hn => rfl); (case hr => first | (go_simp; done) | (go_simp; rfl)); intro w44 hw; have hg : w42.grownBy w44 (some go37) := (by rw [hw]; exact HP43.2); have hp_ : Kd.R (Kd.int .i64) 2 w44 w.heap.size (fun _ => True) (.slice (some ⟨go37, 0, none⟩) x5_1.length co40) y382 := (by rw [hw, Ny382.out]; exact HP43.1); clear HP43; have n0_ := Aside0.mk (hp_); have n1_ := Aside0.mk (IsS103.grown (by repeat (first | (with_reducible first | exact HI0.out | apply IsS103.alloc | apply IsS103.drewN | apply IsS103.drew | apply IsS103.set_1 | apply IsS103.set_2) | exact HI0.out)) hg (IsS103.own_ne HI0.out HO_5.out (by decide))); have n2_ := Aside0.mk ((by rw [hw]; exact below_set (HB.out) (Nat.le_trans HL.out GB37.out) : Below w0.heap.size w0 w44)); have n3_ := Aside0.mk (KeepBut.trans (mvK HK.out) (KeepBut.of_grown hg g) (Kd.R_base2 HO_5.out)); clear HO_5 HI0 HB HK; revert n0_ n1_ n2_ n3_; intro HO_5 HI0 HB HK; clear hg hw hp_))
         go_ret
         exact ⟨_, by first | rfl | (simp [errW_none, errW_some] <;> rfl) | (simp [*, errW_none, errW_some] <;> rfl), mv HO_5.out, by repeat (first | (with_reducible first | exact HI0.out | apply IsS103.alloc | apply IsS103.drewN | apply IsS103.drew | apply IsS103.set_1 | apply IsS103.set_2) | exact HI0.out), by repeat (first | (with_reducible first | exact HB.out | apply below_alloc | apply pw_below_drewN | apply below_drew1 | refine below_set ?_ (IsS103.ge HI0.out)) | exact HB.out), mvK HK.out⟩
        ·
         rw [if_neg c36] at H
         exact absurd H (by simp)
       ·
        rw [if_neg c35] at H
        exact absurd H (by simp)
      ·
       rw [if_neg c34] at H
       have c34b0 : decide (1 < (x5_1.length : Int)) = false := decide_eq_false c34
       have c34b1 : decide (1 < x5_1.length) = false := decide_eq_false (by omega)
       clear c34
       simp only [Option.some.injEq, Prod.mk.injEq] at H
       obtain ⟨rfl, rfl, rfl⟩ := H
       go_wp2_with (first | ((with_reducible refine gate_callee (f := 77) rfl ?_); refine goesA_ (some 33) Try.func77 #[.pointer (some ⟨g, 0, none⟩), .int .i64 12] ?_; (with_reducible refine (spec_l00Src_pick.calls g s0_0 x1001_1 x1002_1 12 t367 t368 t369 w0 _ ?side1 ?side2 A23.out).mono ?_); (case side1 => repeat (first | (with_reducible first | exact HI0.out | apply IsS103.alloc | apply IsS103.drewN | apply IsS103.drew | apply IsS103.set_1 | apply IsS103.set_2) | exact HI0.out)); (case side2 => repeat (first | (with_reducible first | exact HB.out | apply below_alloc | apply pw_below_drewN | apply below_drew1 | refine below_set ?_ (IsS103.ge HI0.out)) | exact HB.out)); rintro e w45 ⟨rfl, hi, hb, hk⟩; refine ⟨_, rfl, ?_⟩; have n0_ := Aside0.mk (Kd.R_mono (Kd.R_keep (IsS103.apart (show IsS103 w0 _ g s0_0 x1001_1 x1002_1 from by repeat (first | (with_reducible first | exact HI0.out | apply IsS103.alloc | apply IsS103.drewN | apply IsS103.drew | apply IsS103.set_1 | apply IsS103.set_2) | exact HI0.out)) (mv HO_5.out) (by decide)) hk (fun _ h => h.2)) (fun _ h => h.1)); have n1_ := Aside0.mk (KeepBut.trans (mvK HK.out) hk (.inl rfl)); have n2_ := Aside0.mk (hb); have n3_ := Aside0.mk (hi); clear HO_5 HK HB HI0; revert n0_ n1_ n2_ n3_; intro HO_5 HK HB HI0; (try clear hb); (try clear hk); (try clear hi); obtain ⟨Ao46, co46, eo46⟩ := Kd.R_slice HO_5.out; subst eo46))
       go_ret
       exact ⟨_, by first | rfl | (simp [errW_none, errW_some] <;> rfl) | (simp [*, errW_none, errW_some] <;> rfl), mv HO_5.out, by repeat (first | (with_reducible first | exact HI0.out | apply IsS103.alloc | apply IsS103.drewN | apply IsS103.drew | apply IsS103.set_1 | apply IsS103.set_2) | exact HI0.out), by repeat (first | (with_reducible first | exact HB.out | apply below_alloc | apply pw_below_drewN | apply below_drew1 | refine below_set ?_ (IsS103.ge HI0.out)) | exact HB.out), mvK HK.out⟩
     ·
      rw [if_neg c33] at H
      have c33b0 : (t367 == 1) = false := beq_eq_false_iff_ne.mpr c33
      have c33b1 : (t367 != 1) = true := bne_iff_ne.mpr c33
      simp only [Option.some.injEq, Prod.mk.injEq] at H
      obtain ⟨rfl, rfl, rfl⟩ := H
      go_wp2_with (first | ((with_reducible refine gate_callee (f := 77) rfl ?_); refine goesA_ (some 33) Try.func77 #[.pointer (some ⟨g, 0, none⟩), .int .i64 12] ?_; (with_reducible refine (spec_l00Src_pick.calls g s0_0 x1001_1 x1002_1 12 t367 t368 t369 w0 _ ?side1 ?side2 A23.out).mono ?_); (case side1 => repeat (first | (with_reducible first | exact HI0.out | apply IsS103.alloc | apply IsS103.drewN | apply IsS103.drew | apply IsS103.set_1 | apply IsS103.set_2) | exact HI0.out)); (case side2 => repeat (first | (with_reducible first | exact HB.out | apply below_alloc | apply pw_below_drewN | apply below_drew1 | refine below_set ?_ (IsS103.ge HI0.out)) | exact HB.out)); rintro e w47 ⟨rfl, hi, hb, hk⟩; refine ⟨_, rfl, ?_⟩; have n0_ := Aside0.mk (Kd.R_mono (Kd.R_keep (IsS103.apart (show IsS103 w0 _ g s0_0 x1001_1 x1002_1 from by repeat (first | (with_reducible first | exact HI0.out | apply IsS103.alloc | apply IsS103.drewN | apply IsS103.drew | apply IsS103.set_1 | apply IsS103.set_2) | exact HI0.out)) (mv HO_5.out) (by decide)) hk (fun _ h => h.2)) (fun _ h => h.1)); have n1_ := Aside0.mk (KeepBut.trans (mvK HK.out) hk (.inl rfl)); have n2_ := Aside0.mk (hb); have n3_ := Aside0.mk (hi); clear HO_5 HK HB HI0; revert n0_ n1_ n2_ n3_; intro HO_5 HK HB HI0; (try clear hb); (try clear hk); (try clear hi)))
      go_ret
      exact ⟨_, by first | rfl | (simp [errW_none, errW_some] <;> rfl) | (simp [*, errW_none, errW_some] <;> rfl), mv HO_5.out, by repeat (first | (with_reducible first | exact HI0.out | apply IsS103.alloc | apply IsS103.drewN | apply IsS103.drew | apply IsS103.set_1 | apply IsS103.set_2) | exact HI0.out), by repeat (first | (with_reducible first | exact HB.out | apply below_alloc | apply pw_below_drewN | apply below_drew1 | refine below_set ?_ (IsS103.ge HI0.out)) | exact HB.out), mvK HK.out⟩

/-! ### spec_DrawPayBackYear: function 14 -/
def spec_DrawPayBackYear.f (k : Nat) (l0 : List Int) : Option ((List (S34)) × List Int × Int) := (spec_l00From.f l0).bind fun bt383 => ((spec_l24Draw.f k bt383.1 bt383.2.1 bt383.2.2).bind fun bt387 => ((spec_l24DrawOrder.f k bt383.1 bt387.2.1 bt387.2.2 bt387.1).bind fun bt392 => ((spec_l24DrawYearly.f bt383.1 bt392.2.1 bt392.2.2).bind fun bt397 => (some (bt387.1, bt392.1, bt397.1)))))
theorem spec_DrawPayBackYear.mono : ∀ a0 k, LeO (spec_DrawPayBackYear.f k a0) (spec_DrawPayBackYear.f (k + 1) a0) := by
 intro a0 k
 unfold spec_DrawPayBackYear.f
 repeat' first
  | (with_reducible exact spec_l24Draw.mono _ _ _ _)
  | (with_reducible exact spec_l24DrawOrder.mono _ _ _ _ _)
  | (with_reducible exact LeO.refl _)
  | (with_reducible exact LeO.none _)
  | (with_reducible refine LeO.ite ?_ ?_)
  | (with_reducible refine LeO.bind ?_ (fun _ => ?_))
  | exact spec_l24Draw.mono _ _ _ _
  | exact spec_l24DrawOrder.mono _ _ _ _ _
  | exact LeO.none _
  | refine LeO.ite ?_ ?_
  | refine LeO.bind ?_ (fun _ => ?_)
set_option maxHeartbeats 8000000 in
set_option maxRecDepth 100000 in
theorem spec_DrawPayBackYear.calls (k : Nat) (A0 : Option Addr) (c0 : Nat) (l0 : List Int) (r1 : List (S34)) (r2 : List Int) (r3 : Int) (w : World) (hr0 : Kd.C (Kd.int .u8) w A0 l0.length l0) (hc0 : l0.length ≤ c0) (h : spec_DrawPayBackYear.f k l0 = some (r1, r2, r3)) :
  Calls Try.prog 14 #[.slice A0 l0.length c0] w fun e w' => ∃ v0_ v1_ : Value, e = .returned (.tuple #[v0_, v1_, .int .i64 r3]) ∧ Kd.S k34 34 w' w.heap.size (fun _ => True) v0_ r1 ∧ Kd.R (Kd.int .i64) 2 w' w.heap.size (fun _ => True) v1_ r2 ∧ Below w.heap.size w w' := by
 have HR0 := Aside0.mk hr0
 have HC0 := Aside0.mk hc0
 clear hr0 hc0
 have HB := Aside0.mk (Below.refl w.heap.size w)
 have H : ((spec_l00From.f l0).bind fun bt383 => ((spec_l24Draw.f k bt383.1 bt383.2.1 bt383.2.2).bind fun bt387 => ((spec_l24DrawOrder.f k bt383.1 bt387.2.1 bt387.2.2 bt387.1).bind fun bt392 => ((spec_l24DrawYearly.f bt383.1 bt392.2.1 bt392.2.2).bind fun bt397 => (some (bt387.1, bt392.1, bt397.1)))))) = some (r1, r2, r3) := h
 clear h
 replace H := Option.bind_eq_some_iff.mp H
 obtain ⟨⟨t383, t384, t385⟩, A20, H⟩ := H
 replace H : ((spec_l24Draw.f k t383 t384 t385).bind fun bt387 => ((spec_l24DrawOrder.f k t383 bt387.2.1 bt387.2.2 bt387.1).bind fun bt392 => ((spec_l24DrawYearly.f t383 bt392.2.1 bt392.2.2).bind fun bt397 => (some (bt387.1, bt392.1, bt397.1))))) = some (r1, r2, r3) := H
 have A2 := Aside0.mk A20
 clear A20
 replace H := Option.bind_eq_some_iff.mp H
 obtain ⟨⟨t387, t390, t391⟩, A30, H⟩ := H
 replace H : ((spec_l24DrawOrder.f k t383 t390 t391 t387).bind fun bt392 => ((spec_l24DrawYearly.f t383 bt392.2.1 bt392.2.2).bind fun bt397 => (some (t387, bt392.1, bt397.1)))) = some (r1, r2, r3) := H
 have A3 := Aside0.mk A30
 clear A30
 replace H := Option.bind_eq_some_iff.mp H
 obtain ⟨⟨t392, t395, t396⟩, A40, H⟩ := H
 replace H : ((spec_l24DrawYearly.f t383 t395 t396).bind fun bt397 => (some (t387, t392, bt397.1))) = some (r1, r2, r3) := H
 have A4 := Aside0.mk A40
 clear A40
 replace H := Option.bind_eq_some_iff.mp H
 obtain ⟨⟨t397, t398, t399⟩, A50, H⟩ := H
 replace H : (some (t387, t392, t397)) = some (r1, r2, r3) := H
 have A5 := Aside0.mk A50
 clear A50
 simp only [Option.some.injEq, Prod.mk.injEq] at H
 obtain ⟨rfl, rfl, rfl⟩ := H
 go_enter Try.func14, Try.ntmps14
 go_wp2_with (first | ((with_reducible refine gate_callee (f := 37) rfl ?_); refine goesA_ (some 9) Try.func37 #[.slice A0 l0.length c0] ?_; (with_reducible refine (spec_l00From.calls _ _ l0 t383 t384 t385 w _ ?side1 ?side2 ?side3 A2.out).mono ?_); (case side1 => repeat (first | (with_reducible first | exact HB.out | apply below_alloc | apply pw_below_drewN | apply below_drew1) | exact HB.out)); (case side2 => exact HR0.out); (case side3 => exact HC0.out); rintro e w6 ⟨g386, rfl, hi, hb, hb2⟩; refine ⟨_, rfl, ?_⟩; have n0_ := Aside0.mk (hb); have n1_ := Aside0.mk (hi); clear HB; revert n0_ n1_; intro HB HI386; (try clear hb); (try clear hb2); (try clear hk); (try clear hi)) | ((with_reducible refine gate_callee (f := 38) rfl ?_); refine goesA_ (some 11) Try.func38 #[.pointer (some ⟨g386, 0, none⟩)] ?_; (with_reducible refine (spec_l24Draw.calls k g386 t383 t384 t385 t387 t390 t391 w _ ?side1 ?side2 A3.out).mono ?_); (case side1 => repeat (first | (with_reducible first | exact HI386.out | apply IsS103.alloc | apply IsS103.drewN | apply IsS103.drew | apply IsS103.set_1 | apply IsS103.set_2) | exact HI386.out)); (case side2 => repeat (first | (with_reducible first | exact HB.out | apply below_alloc | apply pw_below_drewN | apply below_drew1 | refine below_set ?_ (IsS103.ge HI386.out)) | exact HB.out)); rintro e w7 ⟨v388, rfl, ho0, hi, hb, hk⟩; refine ⟨_, rfl, ?_⟩; have n0_ := Aside0.mk (Kd.S_lower ho0 (below_size (by repeat (first | (with_reducible first | exact HB.out | apply below_alloc | apply pw_below_drewN | apply below_drew1 | refine below_set ?_ (IsS103.ge HI386.out)) | exact HB.out)))); have n1_ := Aside0.mk (hb); have n2_ := Aside0.mk (hi); clear HB HI386; revert n0_ n1_ n2_; intro HO389 HB HI386; (try clear hb); (try clear hb2); (try clear hk); (try clear hi); (try clear ho0); obtain ⟨Ao8, co8, eo8⟩ := Kd.S_slice HO389.out; subst eo8) | ((with_reducible refine gate_callee (f := 50) rfl ?_); refine goesA_ (some 14) Try.func50 #[.pointer (some ⟨g386, 0, none⟩), .slice Ao8 t387.length co8] ?_; (with_reducible refine (spec_l24DrawOrder.calls k g386 t383 t390 t391 _ _ t387 t392 t395 t396 w _ ?side1 ?side2 ?side3 ?side4 A4.out).mono ?_); (case side1 => repeat (first | (with_reducible first | exact HI386.out | apply IsS103.alloc | apply IsS103.drewN | apply IsS103.drew | apply IsS103.set_1 | apply IsS103.set_2) | exact HI386.out)); (case side2 => repeat (first | (with_reducible first | exact HB.out | apply below_alloc | apply pw_below_drewN | apply below_drew1 | refine below_set ?_ (IsS103.ge HI386.out)) | exact HB.out)); (case side3 => exact Kd.C_foot_own ((Kd.S_R (IsS103.apartS (show IsS103 w _ g386 t383 t390 t391 from by repeat (first | (with_reducible first | exact HI386.out | apply IsS103.alloc | apply IsS103.drewN | apply IsS103.drew | apply IsS103.set_1 | apply IsS103.set_2) | exact HI386.out)) (mv HO389.out) (by decide)))) (fun _ h_ => h_.2)); (case side4 => exact (Kd.S_reads' HO389.out).2.1); rintro e w9 ⟨v393, rfl, ho0, hi, hb, hk⟩; refine ⟨_, rfl, ?_⟩; have n0_ := Aside0.mk (Kd.S_mono (Kd.S_keep (IsS103.apartS (show IsS103 w _ g386 t383 t390 t391 from by repeat (first | (with_reducible first | exact HI386.out | apply IsS103.alloc | apply IsS103.drewN | apply IsS103.drew | apply IsS103.set_1 | apply IsS103.set_2) | exact HI386.out)) (mv HO389.out) (by decide)) hk (fun _ h => h.2)) (fun _ h => h.1)); have n1_ := Aside0.mk (Kd.R_lower ho0 (below_size (by repeat (first | (with_reducible first | exact HB.out | apply below_alloc | apply pw_below_drewN | apply below_drew1 | refine below_set ?_ (IsS103.ge HI386.out)) | exact HB.out)))); have n2_ := Aside0.mk (hb); have n3_ := Aside0.mk (hi); clear HO389 HB HI386; revert n0_ n1_ n2_ n3_; intro HO389 HO394 HB HI386; (try clear hb); (try clear hb2); (try clear hk); (try clear hi); (try clear ho0)) | ((with_reducible refine gate_callee (f := 39) rfl ?_); refine goesA_ (some 18) Try.func39 #[.pointer (some ⟨g386, 0, none⟩)] ?_; (with_reducible refine (spec_l24DrawYearly.calls g386 t383 t395 t396 t397 t398 t399 w _ ?side1 ?side2 A5.out).mono ?_); (case side1 => repeat (first | (with_reducible first | exact HI386.out | apply IsS103.alloc | apply IsS103.drewN | apply IsS103.drew | apply IsS103.set_1 | apply IsS103.set_2) | exact HI386.out)); (case side2 => repeat (first | (with_reducible first | exact HB.out | apply below_alloc | apply pw_below_drewN | apply below_drew1 | refine below_set ?_ (IsS103.ge HI386.out)) | exact HB.out)); rintro e w10 ⟨rfl, hi, hb, hk⟩; refine ⟨_, rfl, ?_⟩; have n0_ := Aside0.mk (Kd.S_mono (Kd.S_keep (IsS103.apartS (show IsS103 w _ g386 t383 t395 t396 from by repeat (first | (with_reducible first | exact HI386.out | apply IsS103.alloc | apply IsS103.drewN | apply IsS103.drew | apply IsS103.set_1 | apply IsS103.set_2) | exact HI386.out)) (mv HO389.out) (by decide)) hk (fun _ h => h.2)) (fun _ h => h.1)); have n1_ := Aside0.mk (Kd.R_mono (Kd.R_keep (IsS103.apart (show IsS103 w _ g386 t383 t395 t396 from by repeat (first | (with_reducible first | exact HI386.out | apply IsS103.alloc | apply IsS103.drewN | apply IsS103.drew | apply IsS103.set_1 | apply IsS103.set_2) | exact HI386.out)) (mv HO394.out) (by decide)) hk (fun _ h => h.2)) (fun _ h => h.1)); have n2_ := Aside0.mk (hb); have n3_ := Aside0.mk (hi); clear HO389 HO394 HB HI386; revert n0_ n1_ n2_ n3_; intro HO389 HO394 HB HI386; (try clear hb); (try clear hb2); (try clear hk); (try clear hi)))
 go_ret3
 exact ⟨_, _, by first | rfl | (simp [errW_none, errW_some] <;> rfl) | (simp [*, errW_none, errW_some] <;> rfl), mv HO389.out, mv HO394.out, by repeat (first | (with_reducible first | exact HB.out | apply below_alloc | apply pw_below_drewN | apply below_drew1 | refine below_set ?_ (IsS103.ge HI386.out)) | exact HB.out)⟩

end Go.Proofs.Ytmbiapefigcgnaa.PFnPlans
