-- written by a program of this session (mkp.py) out of the translation; Lean checks it. -- squeezed
import Derived.Test.YtffodlggihmonaaDoorPFnSwitchingx0
import Derived.Test.YtffodlggihmonaaDoorPFnSwitchingx1
import Derived.Test.YtffodlggihmonaaDoorPFnSwitchingx4
import Derived.Test.YtffodlggihmonaaDoorPFnSwitchingx5
import Derived.Test.YtffodlggihmonaaDoorPFnSwitchingx6
import Derived.Test.YtffodlggihmonaaDoorPFnSwitchingx7
import Derived.Test.YtffodlggihmonaaDoorPFnSwitchingx8
import Derived.Test.YtffodlggihmonaaDoorPFnSwitchingx11
namespace Go.Proofs.YtffodlggihmonaaDoor.PFnSwitching
open Go.RowKit Go.Proofs.YtffodlggihmonaaDoorW.PrintWords Go.Proofs.YtffodlggihmonaaDoorW.PrintLast Go.Proofs.YtffodlggihmonaaDoorW.PrintMore
attribute [local go_sem] bin_leq bin_gtr bin_geq max2_int min2_int max_two min_two max_three min_three max_four min_four   -- for this text's walks alone
set_option linter.unusedVariables false
set_option linter.unusedSimpArgs false

set_option maxHeartbeats 8000000 in
set_option maxRecDepth 100000 in
theorem laws_FnSwitching.calls (k : Nat) (A0 : Option Addr) (c0 : Nat) (l0 : List Int) (A1 : Option Addr) (c1 : Nat) (l1 : List Int) (r : Bool) (hr_ : r = true) (w : World) (hT : LenW w) (hr0 : Kd.C (Kd.int .u8) w A0 l0.length l0) (hc0 : l0.length ≤ c0) (hr1 : Kd.C (Kd.int .u8) w A1 l1.length l1) (hc1 : l1.length ≤ c1) (h : laws_FnSwitching.f k l0 l1 = some r) :
  Calls Tryd.prog 3 #[.slice A0 l0.length c0, .slice A1 l1.length c1] w fun e w' => e = .returned (.bool r) ∧ Below w.heap.size w w' := by
 have HT_ := Aside0.mk hT
 clear hT
 have HR0 := Aside0.mk hr0
 have HC0 := Aside0.mk hc0
 clear hr0 hc0
 have HR1 := Aside0.mk hr1
 have HC1 := Aside0.mk hc1
 clear hr1 hc1
 have HB := Aside0.mk (Below.refl w.heap.size w)
 have H : ((laws_r8Long.f l0 l1).bind fun t255 => (if t255 = true then (some true) else ((laws_r8At.f l1 0 4).bind fun t256 => ((spec_R8Rules.f k l0 (wrap64 (2 + t256))).bind fun t257 => (laws_FnSwitching.l0 k l1 (wrap64 (2 + t256)) t257 (([] : List Bool)) (([] : List Bool)) 0 0))))) = some r := h
 clear h
 replace H := Option.bind_eq_some_iff.mp H
 obtain ⟨t255, A30, H⟩ := H
 replace H : (if t255 = true then (some true) else ((laws_r8At.f l1 0 4).bind fun t256 => ((spec_R8Rules.f k l0 (wrap64 (2 + t256))).bind fun t257 => (laws_FnSwitching.l0 k l1 (wrap64 (2 + t256)) t257 (([] : List Bool)) (([] : List Bool)) 0 0)))) = some r := H
 have A3 := Aside0.mk A30
 clear A30
 by_cases c4 : t255 = true
 ·
  subst c4
  have H1 : (some true) = some r := by rw [if_pos rfl] at H; exact H
  clear H
  have H := H1
  clear H1
  obtain rfl := Option.some.inj H
  go_enter Tryd.func3, Tryd.ntmps3
  go_wp2_with (first | (go_at_call 6; (with_reducible refine (laws_r8Long.calls _ _ l0 _ _ l1 true _ ?side1 ?side2 ?side3 ?side4 A3.out).mono ?_); (case side1 => exact mvC HR0.out); (case side2 => exact HC0.out); (case side3 => exact mvC HR1.out); (case side4 => exact HC1.out); rintro e w' ⟨rfl, ⟨nd, rfl⟩⟩; (try first | exact ⟨rfl, _, World.drewN_drewN _ _ _⟩ | exact ⟨rfl, _, Eq.trans (World.drewN_drewN _ _ _) (congrArg (World.drewN _) (Nat.add_assoc _ _ _))⟩)))
  repeat (go_quiet (first | (go_at_call 6; (with_reducible refine (laws_r8Long.calls _ _ l0 _ _ l1 true _ ?side1 ?side2 ?side3 ?side4 A3.out).mono ?_); (case side1 => exact mvC HR0.out); (case side2 => exact HC0.out); (case side3 => exact mvC HR1.out); (case side4 => exact HC1.out); rintro e w' ⟨rfl, ⟨nd, rfl⟩⟩; (try first | exact ⟨rfl, _, World.drewN_drewN _ _ _⟩ | exact ⟨rfl, _, Eq.trans (World.drewN_drewN _ _ _) (congrArg (World.drewN _) (Nat.add_assoc _ _ _))⟩))); try go_wp2_with (first | (go_at_call 6; (with_reducible refine (laws_r8Long.calls _ _ l0 _ _ l1 true _ ?side1 ?side2 ?side3 ?side4 A3.out).mono ?_); (case side1 => exact mvC HR0.out); (case side2 => exact HC0.out); (case side3 => exact mvC HR1.out); (case side4 => exact HC1.out); rintro e w' ⟨rfl, ⟨nd, rfl⟩⟩; (try first | exact ⟨rfl, _, World.drewN_drewN _ _ _⟩ | exact ⟨rfl, _, Eq.trans (World.drewN_drewN _ _ _) (congrArg (World.drewN _) (Nat.add_assoc _ _ _))⟩))))
  go_ret
  exact ⟨by first | rfl | (simp [errW_none, errW_some] <;> rfl) | (simp [*, errW_none, errW_some] <;> rfl), mvB HB.out⟩
 ·
  replace c4 := Bool.eq_false_iff.mpr c4
  subst c4
  have H1 : ((laws_r8At.f l1 0 4).bind fun t256 => ((spec_R8Rules.f k l0 (wrap64 (2 + t256))).bind fun t257 => (laws_FnSwitching.l0 k l1 (wrap64 (2 + t256)) t257 (([] : List Bool)) (([] : List Bool)) 0 0))) = some r := by rw [if_neg (show ¬ (false = true) by decide)] at H; exact H
  clear H
  have H := H1
  clear H1
  replace H := Option.bind_eq_some_iff.mp H
  obtain ⟨t256, A50, H⟩ := H
  replace H : ((spec_R8Rules.f k l0 (wrap64 (2 + t256))).bind fun t257 => (laws_FnSwitching.l0 k l1 (wrap64 (2 + t256)) t257 (([] : List Bool)) (([] : List Bool)) 0 0)) = some r := H
  have A5 := Aside0.mk A50
  clear A50
  replace H := Option.bind_eq_some_iff.mp H
  obtain ⟨t257, A60, H⟩ := H
  replace H : (laws_FnSwitching.l0 k l1 (wrap64 (2 + t256)) t257 (([] : List Bool)) (([] : List Bool)) 0 0) = some r := H
  have A6 := Aside0.mk A60
  clear A60
  obtain ⟨y260, hy260⟩ : ∃ y_ : List Bool, y_ = (([] : List Bool)) := ⟨_, rfl⟩
  replace H : (laws_FnSwitching.l0 k l1 (wrap64 (2 + t256)) t257 y260 (([] : List Bool)) 0 0) = some r := by first | (rw [hy260]; with_reducible exact H) | (have H2_ := (Option.bind_some _ _).symm.trans H; rw [hy260]; with_reducible exact H2_) | (have H2_ := (Option.bind_some _ _).symm.trans H; with_reducible exact H2_) | with_reducible exact H | (rw [hy260]; exact H) | exact H
  have Ny260 := Aside0.mk hy260
  clear hy260
  obtain ⟨y263, hy263⟩ : ∃ y_ : List Bool, y_ = (([] : List Bool)) := ⟨_, rfl⟩
  replace H : (laws_FnSwitching.l0 k l1 (wrap64 (2 + t256)) t257 y260 y263 0 0) = some r := by first | (rw [hy263]; with_reducible exact H) | (have H2_ := (Option.bind_some _ _).symm.trans H; rw [hy263]; with_reducible exact H2_) | (have H2_ := (Option.bind_some _ _).symm.trans H; with_reducible exact H2_) | with_reducible exact H | (rw [hy263]; exact H) | exact H
  have Ny263 := Aside0.mk hy263
  clear hy263
  have H' := Aside0.mk H
  clear H
  go_enter Tryd.func3, Tryd.ntmps3
  go_wp2_with (first | (go_at_call 6; (with_reducible refine (laws_r8Long.calls _ _ l0 _ _ l1 false _ ?side1 ?side2 ?side3 ?side4 A3.out).mono ?_); (case side1 => exact mvC HR0.out); (case side2 => exact HC0.out); (case side3 => exact mvC HR1.out); (case side4 => exact HC1.out); rintro e w' ⟨rfl, ⟨nd, rfl⟩⟩; (try first | exact ⟨rfl, _, World.drewN_drewN _ _ _⟩ | exact ⟨rfl, _, Eq.trans (World.drewN_drewN _ _ _) (congrArg (World.drewN _) (Nat.add_assoc _ _ _))⟩)) | (go_at_call 7; (with_reducible refine (laws_r8At.calls _ _ l1 0 4 t256 _ ?side1 ?side2 A5.out).mono ?_); (case side1 => exact mvC HR1.out); (case side2 => exact HC1.out); rintro e w' ⟨rfl, ⟨nd, rfl⟩⟩; (try first | exact ⟨rfl, _, World.drewN_drewN _ _ _⟩ | exact ⟨rfl, _, Eq.trans (World.drewN_drewN _ _ _) (congrArg (World.drewN _) (Nat.add_assoc _ _ _))⟩)) | (go_at_call 8; (try simp only [Go.IntWalk.i64_left]); (with_reducible refine (spec_R8Rules.calls k _ _ l0 (wrap64 (2 + t256)) t257 _ ?side1 ?side2 A6.out).mono ?_); (case side1 => exact mvC HR0.out); (case side2 => exact HC0.out); rintro e w7 ⟨v258, rfl, ho0, hb⟩; have n0_ := Aside0.mk (Kd.R_lower ho0 (below_size (mvB HB.out))); have n1_ := Aside0.mk (below_step (mvB HB.out) hb); clear HB; revert n0_ n1_; intro HO259 HB; (try clear hb); (try clear hk); (try clear ho0)) | ((with_reducible refine gate_dst (N := 42) rfl ?_); (try (refine gate_guard (by rfl) ?_; dsimp only)); refine Kd.R_lit Kd.bool _ 4 ?hg (N := 42) ?hd (xs := ([] : List Bool)) (inner := []) (ok := fun _ => True) (okp := fun _ => True) ?hr ?hp (fun _ hk => hk) trivial (Below.refl _ _) (Nat.le_refl _) (by simp) ?_; (case hd => rfl); (case hg => rfl); (case hr => first | (go_simp; done) | (go_simp; rfl)); (case hp => exact (Reps.none _ _)); intro v261 w8 ho9 hb hg_ hnew_; clear hg_ hnew_; (first | rw [← Ny260.out] at ho9 | (simp only [Int.reduceToNat] at ho9; rw [← Ny260.out] at ho9)); have n0_ := Aside0.mk (Kd.R_below (mv HO259.out) hb); have n1_ := Aside0.mk (Kd.R_lower ho9 (below_size (mvB HB.out))); have n2_ := Aside0.mk (below_step (mvB HB.out) hb); clear HO259 HB; revert n0_ n1_ n2_; intro HO259 HO262 HB; clear hb ho9) | ((with_reducible refine gate_dst (N := 43) rfl ?_); (try (refine gate_guard (by rfl) ?_; dsimp only)); refine Kd.R_lit Kd.bool _ 4 ?hg (N := 43) ?hd (xs := ([] : List Bool)) (inner := []) (ok := fun _ => True) (okp := fun _ => True) ?hr ?hp (fun _ hk => hk) trivial (Below.refl _ _) (Nat.le_refl _) (by simp) ?_; (case hd => rfl); (case hg => rfl); (case hr => first | (go_simp; done) | (go_simp; rfl)); (case hp => exact (Reps.none _ _)); intro v264 w10 ho11 hb hg_ hnew_; clear hg_ hnew_; (first | rw [← Ny263.out] at ho11 | (simp only [Int.reduceToNat] at ho11; rw [← Ny263.out] at ho11)); have n0_ := Aside0.mk (Kd.R_below (mv HO259.out) hb); have n1_ := Aside0.mk (Kd.R_elder' (mv HO262.out) (Kd.R_base ho11) hb); have n2_ := Aside0.mk (Kd.R_lower (Kd.R_new' ho11 (Kd.R_lt (mv HO262.out))) (below_size (mvB HB.out))); have n3_ := Aside0.mk (below_step (mvB HB.out) hb); clear HO259 HO262 HB; revert n0_ n1_ n2_ n3_; intro HO259 HO262 HO265 HB; clear hb ho11))
  repeat (go_quiet (first | (go_at_call 6; (with_reducible refine (laws_r8Long.calls _ _ l0 _ _ l1 false _ ?side1 ?side2 ?side3 ?side4 A3.out).mono ?_); (case side1 => exact mvC HR0.out); (case side2 => exact HC0.out); (case side3 => exact mvC HR1.out); (case side4 => exact HC1.out); rintro e w' ⟨rfl, ⟨nd, rfl⟩⟩; (try first | exact ⟨rfl, _, World.drewN_drewN _ _ _⟩ | exact ⟨rfl, _, Eq.trans (World.drewN_drewN _ _ _) (congrArg (World.drewN _) (Nat.add_assoc _ _ _))⟩)) | (go_at_call 7; (with_reducible refine (laws_r8At.calls _ _ l1 0 4 t256 _ ?side1 ?side2 A5.out).mono ?_); (case side1 => exact mvC HR1.out); (case side2 => exact HC1.out); rintro e w' ⟨rfl, ⟨nd, rfl⟩⟩; (try first | exact ⟨rfl, _, World.drewN_drewN _ _ _⟩ | exact ⟨rfl, _, Eq.trans (World.drewN_drewN _ _ _) (congrArg (World.drewN _) (Nat.add_assoc _ _ _))⟩)) | (go_at_call 8; (try simp only [Go.IntWalk.i64_left]); (with_reducible refine (spec_R8Rules.calls k _ _ l0 (wrap64 (2 + t256)) t257 _ ?side1 ?side2 A6.out).mono ?_); (case side1 => exact mvC HR0.out); (case side2 => exact HC0.out); rintro e w7 ⟨v258, rfl, ho0, hb⟩; have n0_ := Aside0.mk (Kd.R_lower ho0 (below_size (mvB HB.out))); have n1_ := Aside0.mk (below_step (mvB HB.out) hb); clear HB; revert n0_ n1_; intro HO259 HB; (try clear hb); (try clear hk); (try clear ho0)) | ((with_reducible refine gate_dst (N := 42) rfl ?_); (try (refine gate_guard (by rfl) ?_; dsimp only)); refine Kd.R_lit Kd.bool _ 4 ?hg (N := 42) ?hd (xs := ([] : List Bool)) (inner := []) (ok := fun _ => True) (okp := fun _ => True) ?hr ?hp (fun _ hk => hk) trivial (Below.refl _ _) (Nat.le_refl _) (by simp) ?_; (case hd => rfl); (case hg => rfl); (case hr => first | (go_simp; done) | (go_simp; rfl)); (case hp => exact (Reps.none _ _)); intro v261 w8 ho9 hb hg_ hnew_; clear hg_ hnew_; (first | rw [← Ny260.out] at ho9 | (simp only [Int.reduceToNat] at ho9; rw [← Ny260.out] at ho9)); have n0_ := Aside0.mk (Kd.R_below (mv HO259.out) hb); have n1_ := Aside0.mk (Kd.R_lower ho9 (below_size (mvB HB.out))); have n2_ := Aside0.mk (below_step (mvB HB.out) hb); clear HO259 HB; revert n0_ n1_ n2_; intro HO259 HO262 HB; clear hb ho9) | ((with_reducible refine gate_dst (N := 43) rfl ?_); (try (refine gate_guard (by rfl) ?_; dsimp only)); refine Kd.R_lit Kd.bool _ 4 ?hg (N := 43) ?hd (xs := ([] : List Bool)) (inner := []) (ok := fun _ => True) (okp := fun _ => True) ?hr ?hp (fun _ hk => hk) trivial (Below.refl _ _) (Nat.le_refl _) (by simp) ?_; (case hd => rfl); (case hg => rfl); (case hr => first | (go_simp; done) | (go_simp; rfl)); (case hp => exact (Reps.none _ _)); intro v264 w10 ho11 hb hg_ hnew_; clear hg_ hnew_; (first | rw [← Ny263.out] at ho11 | (simp only [Int.reduceToNat] at ho11; rw [← Ny263.out] at ho11)); have n0_ := Aside0.mk (Kd.R_below (mv HO259.out) hb); have n1_ := Aside0.mk (Kd.R_elder' (mv HO262.out) (Kd.R_base ho11) hb); have n2_ := Aside0.mk (Kd.R_lower (Kd.R_new' ho11 (Kd.R_lt (mv HO262.out))) (below_size (mvB HB.out))); have n3_ := Aside0.mk (below_step (mvB HB.out) hb); clear HO259 HO262 HB; revert n0_ n1_ n2_ n3_; intro HO259 HO262 HO265 HB; clear hb ho11)); try go_wp2_with (first | (go_at_call 6; (with_reducible refine (laws_r8Long.calls _ _ l0 _ _ l1 false _ ?side1 ?side2 ?side3 ?side4 A3.out).mono ?_); (case side1 => exact mvC HR0.out); (case side2 => exact HC0.out); (case side3 => exact mvC HR1.out); (case side4 => exact HC1.out); rintro e w' ⟨rfl, ⟨nd, rfl⟩⟩; (try first | exact ⟨rfl, _, World.drewN_drewN _ _ _⟩ | exact ⟨rfl, _, Eq.trans (World.drewN_drewN _ _ _) (congrArg (World.drewN _) (Nat.add_assoc _ _ _))⟩)) | (go_at_call 7; (with_reducible refine (laws_r8At.calls _ _ l1 0 4 t256 _ ?side1 ?side2 A5.out).mono ?_); (case side1 => exact mvC HR1.out); (case side2 => exact HC1.out); rintro e w' ⟨rfl, ⟨nd, rfl⟩⟩; (try first | exact ⟨rfl, _, World.drewN_drewN _ _ _⟩ | exact ⟨rfl, _, Eq.trans (World.drewN_drewN _ _ _) (congrArg (World.drewN _) (Nat.add_assoc _ _ _))⟩)) | (go_at_call 8; (try simp only [Go.IntWalk.i64_left]); (with_reducible refine (spec_R8Rules.calls k _ _ l0 (wrap64 (2 + t256)) t257 _ ?side1 ?side2 A6.out).mono ?_); (case side1 => exact mvC HR0.out); (case side2 => exact HC0.out); rintro e w7 ⟨v258, rfl, ho0, hb⟩; have n0_ := Aside0.mk (Kd.R_lower ho0 (below_size (mvB HB.out))); have n1_ := Aside0.mk (below_step (mvB HB.out) hb); clear HB; revert n0_ n1_; intro HO259 HB; (try clear hb); (try clear hk); (try clear ho0)) | ((with_reducible refine gate_dst (N := 42) rfl ?_); (try (refine gate_guard (by rfl) ?_; dsimp only)); refine Kd.R_lit Kd.bool _ 4 ?hg (N := 42) ?hd (xs := ([] : List Bool)) (inner := []) (ok := fun _ => True) (okp := fun _ => True) ?hr ?hp (fun _ hk => hk) trivial (Below.refl _ _) (Nat.le_refl _) (by simp) ?_; (case hd => rfl); (case hg => rfl); (case hr => first | (go_simp; done) | (go_simp; rfl)); (case hp => exact (Reps.none _ _)); intro v261 w8 ho9 hb hg_ hnew_; clear hg_ hnew_; (first | rw [← Ny260.out] at ho9 | (simp only [Int.reduceToNat] at ho9; rw [← Ny260.out] at ho9)); have n0_ := Aside0.mk (Kd.R_below (mv HO259.out) hb); have n1_ := Aside0.mk (Kd.R_lower ho9 (below_size (mvB HB.out))); have n2_ := Aside0.mk (below_step (mvB HB.out) hb); clear HO259 HB; revert n0_ n1_ n2_; intro HO259 HO262 HB; clear hb ho9) | ((with_reducible refine gate_dst (N := 43) rfl ?_); (try (refine gate_guard (by rfl) ?_; dsimp only)); refine Kd.R_lit Kd.bool _ 4 ?hg (N := 43) ?hd (xs := ([] : List Bool)) (inner := []) (ok := fun _ => True) (okp := fun _ => True) ?hr ?hp (fun _ hk => hk) trivial (Below.refl _ _) (Nat.le_refl _) (by simp) ?_; (case hd => rfl); (case hg => rfl); (case hr => first | (go_simp; done) | (go_simp; rfl)); (case hp => exact (Reps.none _ _)); intro v264 w10 ho11 hb hg_ hnew_; clear hg_ hnew_; (first | rw [← Ny263.out] at ho11 | (simp only [Int.reduceToNat] at ho11; rw [← Ny263.out] at ho11)); have n0_ := Aside0.mk (Kd.R_below (mv HO259.out) hb); have n1_ := Aside0.mk (Kd.R_elder' (mv HO262.out) (Kd.R_base ho11) hb); have n2_ := Aside0.mk (Kd.R_lower (Kd.R_new' ho11 (Kd.R_lt (mv HO262.out))) (below_size (mvB HB.out))); have n3_ := Aside0.mk (below_step (mvB HB.out) hb); clear HO259 HO262 HB; revert n0_ n1_ n2_ n3_; intro HO259 HO262 HO265 HB; clear hb ho11)))
  go_loopg [7, 8, 9, 10] k (fun kq v7 v8 v9 v10 w' => ∃ (x7_1 : List Bool) (x8_1 : List Bool) (x9_1 : Int) (x10_1 : Int), v9 = .int .i64 x9_1 ∧ v10 = .int .i64 x10_1 ∧ Aside0 (laws_FnSwitching.l0 kq l1 (wrap64 (2 + t256)) t257 x7_1 x8_1 x9_1 x10_1 = some r) ∧ Aside0 (kq ≤ k) ∧ Aside0 (Kd.R k51 51 w' w.heap.size (fun _ => True) v258 t257) ∧ Aside0 (Kd.R Kd.bool 4 w' w.heap.size (fun k_ => some k_ ≠ (v8 : Value).ownBlock) v7 x7_1) ∧ Aside0 (Kd.R Kd.bool 4 w' w.heap.size (fun k_ => some k_ ≠ (v7 : Value).ownBlock) v8 x8_1) ∧ Aside0 (Below w.heap.size w w'))
  case atStart => exact ⟨(y260), (y263), (0), (0), rs, rs, H', ⟨Nat.le_refl _⟩, ⟨mv HO259.out⟩, ⟨by (with_reducible repeat (first | apply Kd.R_alloc | apply Kd.R_drewN | apply Kd.R_drew)); exact Kd.R_mono HO262.out (fun _ hk => hk.2)⟩, ⟨by (with_reducible repeat (first | apply Kd.R_alloc | apply Kd.R_drewN | apply Kd.R_drew)); exact Kd.R_mono HO265.out (fun _ hk => hk.2)⟩, ⟨mvB HB.out⟩⟩
  case round =>
   clear H'
   try clear c4
   obtain ⟨x7_1, x8_1, x9_1, x10_1, rfl, rfl, HA, HK1, HO_6, HO_7, HO_8, HB⟩ := hrel
   cases gk with
   | zero => exact absurd HA.out (by simp [laws_FnSwitching.l0])
   | succ k1 =>
    have H := HA.out
    clear HA
    simp only [laws_FnSwitching.l0] at H
    by_cases c12 : x10_1 < (wrap64 (2 + t256))
    ·
     rw [if_pos c12] at H
     have c12b0 : decide (x10_1 < (wrap64 (2 + t256))) = true := decide_eq_true c12
     clear c12
     replace H := Option.bind_eq_some_iff.mp H
     obtain ⟨t266, A130, H⟩ := H
     replace H : (if x7_1.length < 140737488355328 then ((some (x7_1 ++ [(t266 == 0)] : List Bool)).bind fun y267 => ((laws_r8At.f l1 (wrap64 (10 + x10_1)) 2).bind fun t270 => (if x8_1.length < 140737488355328 then ((some (x8_1 ++ [(t270 == 0)] : List Bool)).bind fun y271 => (if 0 ≤ x10_1 then (if x10_1 < (y267.length : Int) then (if x10_1 < (y271.length : Int) then (if ((rdOf false y267 x10_1) != (rdOf false y271 x10_1)) = true then (laws_FnSwitching.l0 k1 l1 (wrap64 (2 + t256)) t257 y267 y271 (wrap64 (x9_1 + 1)) (wrap64 (x10_1 + 1))) else (laws_FnSwitching.l0 k1 l1 (wrap64 (2 + t256)) t257 y267 y271 x9_1 (wrap64 (x10_1 + 1)))) else (none)) else (none)) else (none))) else (none)))) else (none)) = some r := H
     have A13 := Aside0.mk A130
     clear A130
     by_cases c14 : x7_1.length < 140737488355328
     ·
      rw [if_pos c14] at H
      have LMc14 := Aside0.mk c14
      clear c14
      obtain ⟨y267, hy267⟩ : ∃ y_ : List Bool, y_ = (x7_1 ++ [(t266 == 0)]) := ⟨_, rfl⟩
      replace H : ((laws_r8At.f l1 (wrap64 (10 + x10_1)) 2).bind fun t270 => (if x8_1.length < 140737488355328 then ((some (x8_1 ++ [(t270 == 0)] : List Bool)).bind fun y271 => (if 0 ≤ x10_1 then (if x10_1 < (y267.length : Int) then (if x10_1 < (y271.length : Int) then (if ((rdOf false y267 x10_1) != (rdOf false y271 x10_1)) = true then (laws_FnSwitching.l0 k1 l1 (wrap64 (2 + t256)) t257 y267 y271 (wrap64 (x9_1 + 1)) (wrap64 (x10_1 + 1))) else (laws_FnSwitching.l0 k1 l1 (wrap64 (2 + t256)) t257 y267 y271 x9_1 (wrap64 (x10_1 + 1)))) else (none)) else (none)) else (none))) else (none))) = some r := by first | (rw [hy267]; with_reducible exact H) | (have H2_ := (Option.bind_some _ _).symm.trans H; rw [hy267]; with_reducible exact H2_) | (have H2_ := (Option.bind_some _ _).symm.trans H; with_reducible exact H2_) | with_reducible exact H | (rw [hy267]; exact H) | exact H
      have Ny267 := Aside0.mk hy267
      clear hy267
      replace H := Option.bind_eq_some_iff.mp H
      obtain ⟨t270, A150, H⟩ := H
      replace H : (if x8_1.length < 140737488355328 then ((some (x8_1 ++ [(t270 == 0)] : List Bool)).bind fun y271 => (if 0 ≤ x10_1 then (if x10_1 < (y267.length : Int) then (if x10_1 < (y271.length : Int) then (if ((rdOf false y267 x10_1) != (rdOf false y271 x10_1)) = true then (laws_FnSwitching.l0 k1 l1 (wrap64 (2 + t256)) t257 y267 y271 (wrap64 (x9_1 + 1)) (wrap64 (x10_1 + 1))) else (laws_FnSwitching.l0 k1 l1 (wrap64 (2 + t256)) t257 y267 y271 x9_1 (wrap64 (x10_1 + 1)))) else (none)) else (none)) else (none))) else (none)) = some r := H
      have A15 := Aside0.mk A150
      clear A150
      by_cases c16 : x8_1.length < 140737488355328
      ·
       rw [if_pos c16] at H
       have LMc16 := Aside0.mk c16
       clear c16
       obtain ⟨y271, hy271⟩ : ∃ y_ : List Bool, y_ = (x8_1 ++ [(t270 == 0)]) := ⟨_, rfl⟩
       replace H : (if 0 ≤ x10_1 then (if x10_1 < (y267.length : Int) then (if x10_1 < (y271.length : Int) then (if ((rdOf false y267 x10_1) != (rdOf false y271 x10_1)) = true then (laws_FnSwitching.l0 k1 l1 (wrap64 (2 + t256)) t257 y267 y271 (wrap64 (x9_1 + 1)) (wrap64 (x10_1 + 1))) else (laws_FnSwitching.l0 k1 l1 (wrap64 (2 + t256)) t257 y267 y271 x9_1 (wrap64 (x10_1 + 1)))) else (none)) else (none)) else (none)) = some r := by first | (rw [hy271]; with_reducible exact H) | (have H2_ := (Option.bind_some _ _).symm.trans H; rw [hy271]; with_reducible exact H2_) | (have H2_ := (Option.bind_some _ _).symm.trans H; with_reducible exact H2_) | with_reducible exact H | (rw [hy271]; exact H) | exact H
       have Ny271 := Aside0.mk hy271
       clear hy271
       by_cases c17 : 0 ≤ x10_1
       ·
        rw [if_pos c17] at H
        have c17b0 : decide (0 ≤ x10_1) = true := decide_eq_true c17
        clear c17
        by_cases c18 : x10_1 < (y267.length : Int)
        ·
         rw [if_pos c18] at H
         have c18b0 : decide (x10_1 < (y267.length : Int)) = true := decide_eq_true c18
         clear c18
         by_cases c19 : x10_1 < (y271.length : Int)
         ·
          rw [if_pos c19] at H
          have c19b0 : decide (x10_1 < (y271.length : Int)) = true := decide_eq_true c19
          clear c19
          by_cases c20 : ((rdOf false y267 x10_1) != (rdOf false y271 x10_1)) = true
          ·
           rw [if_pos c20] at H
           have c20b0 : ((rdOf false y267 x10_1) != (rdOf false y271 x10_1)) = true := c20
           (try (have c20b1 : decide ((rdOf false y267 x10_1) = (rdOf false y271 x10_1)) = false := by simpa using c20))
           (try (have c20b2 : ((rdOf false y267 x10_1) == (rdOf false y271 x10_1)) = false := by simpa using c20))
           (try (have c20b3 : ¬ ((rdOf false y267 x10_1) = (rdOf false y271 x10_1)) := by simpa using c20))
           clear c20
           have H' := Aside0.mk H
           clear H
           go_wp2_with (first | (go_at_call 7; (try simp only [Go.IntWalk.i64_left]); (with_reducible refine (laws_r8At.calls _ _ l1 (wrap64 (1 + x10_1)) 2 t266 _ ?side1 ?side2 A13.out).mono ?_); (case side1 => exact mvC (Kd.C_below HR1.out HB.out)); (case side2 => exact HC1.out); rintro e w' ⟨rfl, ⟨nd, rfl⟩⟩; (try first | exact ⟨rfl, _, World.drewN_drewN _ _ _⟩ | exact ⟨rfl, _, Eq.trans (World.drewN_drewN _ _ _) (congrArg (World.drewN _) (Nat.add_assoc _ _ _))⟩)) | ((with_reducible refine gate_builtin (b := .append) (xs := #[.tmp 49, .tmp 55]) rfl ?_); (try (refine gate_guard (by rfl) ?_; dsimp only)); at_builtin; refine Kd.R_append Kd.bool (w0 := w) w.heap.size rfl (.tmp 49) (.tmp 55) 27 4 (.bool false) 1 rfl Tryd.underlying27 info4 rfl (by decide) (by omega) u7 x7_1 (t266 == 0) [.bool (t266 == 0)] (fun k_ => some k_ ≠ (u8 : Value).ownBlock) (fun _ => False) rfl rfl ?aP (fun _ hk => hk.elim) ?aF ?aO ?aB ?aS ?aL ?_; (case aP => exact rfl); (case aB => exact (mvB HB.out)); (case aF => exact (fun k_ hk => Kd.fresh' (Kd.R_lt (mv HO_8.out)) k_ hk)); (case aO => exact (mv HO_7.out)); (case aS => exact (below_size (mvB HB.out))); (case aL => have := LMc14.out; omega); intro v268 w21 ho hb hg hat; rw [← Ny267.out] at ho; have n0_ := Aside0.mk (Kd.R_over' (mv HO_6.out) (Kd.R_typed (mv HO_7.out)) (by decide) hg); have n1_ := Aside0.mk (Kd.R_after (ok := (fun _ => True)) (by (with_reducible repeat (first | apply Kd.R_alloc | apply Kd.R_drewN | apply Kd.R_drew)); exact Kd.R_mono HO_8.out (fun _ hk => ⟨trivial, hk⟩)) hg hat); have n2_ := Aside0.mk (hb); have n3_ := Aside0.mk (ho); clear HO_6 HO_8 HB HO_7; revert n0_ n1_ n2_ n3_; intro HO_6 HO_8 HB HO269; clear ho hb hg hat) | (go_at_call 7; (try simp only [Go.IntWalk.i64_left]); (with_reducible refine (laws_r8At.calls _ _ l1 (wrap64 (10 + x10_1)) 2 t270 _ ?side1 ?side2 A15.out).mono ?_); (case side1 => exact mvC (Kd.C_below HR1.out HB.out)); (case side2 => exact HC1.out); rintro e w' ⟨rfl, ⟨nd, rfl⟩⟩; (try first | exact ⟨rfl, _, World.drewN_drewN _ _ _⟩ | exact ⟨rfl, _, Eq.trans (World.drewN_drewN _ _ _) (congrArg (World.drewN _) (Nat.add_assoc _ _ _))⟩)) | ((with_reducible refine gate_builtin (b := .append) (xs := #[.tmp 57, .tmp 63]) rfl ?_); (try (refine gate_guard (by rfl) ?_; dsimp only)); at_builtin; refine Kd.R_append Kd.bool (w0 := w) w.heap.size rfl (.tmp 57) (.tmp 63) 27 4 (.bool false) 1 rfl Tryd.underlying27 info4 rfl (by decide) (by omega) u8 x8_1 (t270 == 0) [.bool (t270 == 0)] (fun k_ => some k_ ≠ (v268 : Value).ownBlock) (fun _ => False) rfl rfl ?aP (fun _ hk => hk.elim) ?aF ?aO ?aB ?aS ?aL ?_; (case aP => exact rfl); (case aB => exact (mvB HB.out)); (case aF => exact (fun k_ hk => Kd.fresh' (Kd.R_lt (mv HO269.out)) k_ hk)); (case aO => exact (by (with_reducible repeat (first | apply Kd.R_alloc | apply Kd.R_drewN | apply Kd.R_drew)); exact Kd.R_mono HO_8.out (fun _ hk => hk.2))); (case aS => exact (below_size (mvB HB.out))); (case aL => have := LMc16.out; omega); intro v272 w22 ho hb hg hat; rw [← Ny271.out] at ho; have n0_ := Aside0.mk (Kd.R_over' (mv HO_6.out) (Kd.R_typed (mv HO_8.out)) (by decide) hg); have n1_ := Aside0.mk (Kd.R_after (ok := (fun _ => True)) (by (with_reducible repeat (first | apply Kd.R_alloc | apply Kd.R_drewN | apply Kd.R_drew)); exact Kd.R_mono HO269.out (fun _ hk => ⟨trivial, hk⟩)) hg hat); have n2_ := Aside0.mk (hb); have n3_ := Aside0.mk (ho); clear HO_6 HO269 HB HO_8; revert n0_ n1_ n2_ n3_; intro HO_6 HO269 HB HO273; clear ho hb hg hat; obtain ⟨Ao23, co23, eo23⟩ := Kd.R_slice HO269.out; subst eo23; have p274 : 0 ≤ (x10_1 : Int) := od; have q274 : x10_1 < (y267.length : Int) := od; obtain ⟨ad274, e274, hx274_0⟩ := Kd.at_bool (Kd.R_reads' HO269.out).2.2 x10_1 p274 q274; cases e274; replace p274 := eq_true p274; replace q274 := eq_true q274; obtain ⟨Ao24, co24, eo24⟩ := Kd.R_slice HO273.out; subst eo24; have p275 : 0 ≤ (x10_1 : Int) := od; have q275 : x10_1 < (y271.length : Int) := od; obtain ⟨ad275, e275, hx275_0⟩ := Kd.at_bool (Kd.R_reads' HO273.out).2.2 x10_1 p275 q275; cases e275; replace p275 := eq_true p275; replace q275 := eq_true q275))
           repeat (go_quiet (first | (go_at_call 7; (try simp only [Go.IntWalk.i64_left]); (with_reducible refine (laws_r8At.calls _ _ l1 (wrap64 (1 + x10_1)) 2 t266 _ ?side1 ?side2 A13.out).mono ?_); (case side1 => exact mvC (Kd.C_below HR1.out HB.out)); (case side2 => exact HC1.out); rintro e w' ⟨rfl, ⟨nd, rfl⟩⟩; (try first | exact ⟨rfl, _, World.drewN_drewN _ _ _⟩ | exact ⟨rfl, _, Eq.trans (World.drewN_drewN _ _ _) (congrArg (World.drewN _) (Nat.add_assoc _ _ _))⟩)) | ((with_reducible refine gate_builtin (b := .append) (xs := #[.tmp 49, .tmp 55]) rfl ?_); (try (refine gate_guard (by rfl) ?_; dsimp only)); at_builtin; refine Kd.R_append Kd.bool (w0 := w) w.heap.size rfl (.tmp 49) (.tmp 55) 27 4 (.bool false) 1 rfl Tryd.underlying27 info4 rfl (by decide) (by omega) u7 x7_1 (t266 == 0) [.bool (t266 == 0)] (fun k_ => some k_ ≠ (u8 : Value).ownBlock) (fun _ => False) rfl rfl ?aP (fun _ hk => hk.elim) ?aF ?aO ?aB ?aS ?aL ?_; (case aP => exact rfl); (case aB => exact (mvB HB.out)); (case aF => exact (fun k_ hk => Kd.fresh' (Kd.R_lt (mv HO_8.out)) k_ hk)); (case aO => exact (mv HO_7.out)); (case aS => exact (below_size (mvB HB.out))); (case aL => have := LMc14.out; omega); intro v268 w21 ho hb hg hat; rw [← Ny267.out] at ho; have n0_ := Aside0.mk (Kd.R_over' (mv HO_6.out) (Kd.R_typed (mv HO_7.out)) (by decide) hg); have n1_ := Aside0.mk (Kd.R_after (ok := (fun _ => True)) (by (with_reducible repeat (first | apply Kd.R_alloc | apply Kd.R_drewN | apply Kd.R_drew)); exact Kd.R_mono HO_8.out (fun _ hk => ⟨trivial, hk⟩)) hg hat); have n2_ := Aside0.mk (hb); have n3_ := Aside0.mk (ho); clear HO_6 HO_8 HB HO_7; revert n0_ n1_ n2_ n3_; intro HO_6 HO_8 HB HO269; clear ho hb hg hat) | (go_at_call 7; (try simp only [Go.IntWalk.i64_left]); (with_reducible refine (laws_r8At.calls _ _ l1 (wrap64 (10 + x10_1)) 2 t270 _ ?side1 ?side2 A15.out).mono ?_); (case side1 => exact mvC (Kd.C_below HR1.out HB.out)); (case side2 => exact HC1.out); rintro e w' ⟨rfl, ⟨nd, rfl⟩⟩; (try first | exact ⟨rfl, _, World.drewN_drewN _ _ _⟩ | exact ⟨rfl, _, Eq.trans (World.drewN_drewN _ _ _) (congrArg (World.drewN _) (Nat.add_assoc _ _ _))⟩)) | ((with_reducible refine gate_builtin (b := .append) (xs := #[.tmp 57, .tmp 63]) rfl ?_); (try (refine gate_guard (by rfl) ?_; dsimp only)); at_builtin; refine Kd.R_append Kd.bool (w0 := w) w.heap.size rfl (.tmp 57) (.tmp 63) 27 4 (.bool false) 1 rfl Tryd.underlying27 info4 rfl (by decide) (by omega) u8 x8_1 (t270 == 0) [.bool (t270 == 0)] (fun k_ => some k_ ≠ (v268 : Value).ownBlock) (fun _ => False) rfl rfl ?aP (fun _ hk => hk.elim) ?aF ?aO ?aB ?aS ?aL ?_; (case aP => exact rfl); (case aB => exact (mvB HB.out)); (case aF => exact (fun k_ hk => Kd.fresh' (Kd.R_lt (mv HO269.out)) k_ hk)); (case aO => exact (by (with_reducible repeat (first | apply Kd.R_alloc | apply Kd.R_drewN | apply Kd.R_drew)); exact Kd.R_mono HO_8.out (fun _ hk => hk.2))); (case aS => exact (below_size (mvB HB.out))); (case aL => have := LMc16.out; omega); intro v272 w22 ho hb hg hat; rw [← Ny271.out] at ho; have n0_ := Aside0.mk (Kd.R_over' (mv HO_6.out) (Kd.R_typed (mv HO_8.out)) (by decide) hg); have n1_ := Aside0.mk (Kd.R_after (ok := (fun _ => True)) (by (with_reducible repeat (first | apply Kd.R_alloc | apply Kd.R_drewN | apply Kd.R_drew)); exact Kd.R_mono HO269.out (fun _ hk => ⟨trivial, hk⟩)) hg hat); have n2_ := Aside0.mk (hb); have n3_ := Aside0.mk (ho); clear HO_6 HO269 HB HO_8; revert n0_ n1_ n2_ n3_; intro HO_6 HO269 HB HO273; clear ho hb hg hat; obtain ⟨Ao23, co23, eo23⟩ := Kd.R_slice HO269.out; subst eo23; have p274 : 0 ≤ (x10_1 : Int) := od; have q274 : x10_1 < (y267.length : Int) := od; obtain ⟨ad274, e274, hx274_0⟩ := Kd.at_bool (Kd.R_reads' HO269.out).2.2 x10_1 p274 q274; cases e274; replace p274 := eq_true p274; replace q274 := eq_true q274; obtain ⟨Ao24, co24, eo24⟩ := Kd.R_slice HO273.out; subst eo24; have p275 : 0 ≤ (x10_1 : Int) := od; have q275 : x10_1 < (y271.length : Int) := od; obtain ⟨ad275, e275, hx275_0⟩ := Kd.at_bool (Kd.R_reads' HO273.out).2.2 x10_1 p275 q275; cases e275; replace p275 := eq_true p275; replace q275 := eq_true q275)); try go_wp2_with (first | (go_at_call 7; (try simp only [Go.IntWalk.i64_left]); (with_reducible refine (laws_r8At.calls _ _ l1 (wrap64 (1 + x10_1)) 2 t266 _ ?side1 ?side2 A13.out).mono ?_); (case side1 => exact mvC (Kd.C_below HR1.out HB.out)); (case side2 => exact HC1.out); rintro e w' ⟨rfl, ⟨nd, rfl⟩⟩; (try first | exact ⟨rfl, _, World.drewN_drewN _ _ _⟩ | exact ⟨rfl, _, Eq.trans (World.drewN_drewN _ _ _) (congrArg (World.drewN _) (Nat.add_assoc _ _ _))⟩)) | ((with_reducible refine gate_builtin (b := .append) (xs := #[.tmp 49, .tmp 55]) rfl ?_); (try (refine gate_guard (by rfl) ?_; dsimp only)); at_builtin; refine Kd.R_append Kd.bool (w0 := w) w.heap.size rfl (.tmp 49) (.tmp 55) 27 4 (.bool false) 1 rfl Tryd.underlying27 info4 rfl (by decide) (by omega) u7 x7_1 (t266 == 0) [.bool (t266 == 0)] (fun k_ => some k_ ≠ (u8 : Value).ownBlock) (fun _ => False) rfl rfl ?aP (fun _ hk => hk.elim) ?aF ?aO ?aB ?aS ?aL ?_; (case aP => exact rfl); (case aB => exact (mvB HB.out)); (case aF => exact (fun k_ hk => Kd.fresh' (Kd.R_lt (mv HO_8.out)) k_ hk)); (case aO => exact (mv HO_7.out)); (case aS => exact (below_size (mvB HB.out))); (case aL => have := LMc14.out; omega); intro v268 w21 ho hb hg hat; rw [← Ny267.out] at ho; have n0_ := Aside0.mk (Kd.R_over' (mv HO_6.out) (Kd.R_typed (mv HO_7.out)) (by decide) hg); have n1_ := Aside0.mk (Kd.R_after (ok := (fun _ => True)) (by (with_reducible repeat (first | apply Kd.R_alloc | apply Kd.R_drewN | apply Kd.R_drew)); exact Kd.R_mono HO_8.out (fun _ hk => ⟨trivial, hk⟩)) hg hat); have n2_ := Aside0.mk (hb); have n3_ := Aside0.mk (ho); clear HO_6 HO_8 HB HO_7; revert n0_ n1_ n2_ n3_; intro HO_6 HO_8 HB HO269; clear ho hb hg hat) | (go_at_call 7; (try simp only [Go.IntWalk.i64_left]); (with_reducible refine (laws_r8At.calls _ _ l1 (wrap64 (10 + x10_1)) 2 t270 _ ?side1 ?side2 A15.out).mono ?_); (case side1 => exact mvC (Kd.C_below HR1.out HB.out)); (case side2 => exact HC1.out); rintro e w' ⟨rfl, ⟨nd, rfl⟩⟩; (try first | exact ⟨rfl, _, World.drewN_drewN _ _ _⟩ | exact ⟨rfl, _, Eq.trans (World.drewN_drewN _ _ _) (congrArg (World.drewN _) (Nat.add_assoc _ _ _))⟩)) | ((with_reducible refine gate_builtin (b := .append) (xs := #[.tmp 57, .tmp 63]) rfl ?_); (try (refine gate_guard (by rfl) ?_; dsimp only)); at_builtin; refine Kd.R_append Kd.bool (w0 := w) w.heap.size rfl (.tmp 57) (.tmp 63) 27 4 (.bool false) 1 rfl Tryd.underlying27 info4 rfl (by decide) (by omega) u8 x8_1 (t270 == 0) [.bool (t270 == 0)] (fun k_ => some k_ ≠ (v268 : Value).ownBlock) (fun _ => False) rfl rfl ?aP (fun _ hk => hk.elim) ?aF ?aO ?aB ?aS ?aL ?_; (case aP => exact rfl); (case aB => exact (mvB HB.out)); (case aF => exact (fun k_ hk => Kd.fresh' (Kd.R_lt (mv HO269.out)) k_ hk)); (case aO => exact (by (with_reducible repeat (first | apply Kd.R_alloc | apply Kd.R_drewN | apply Kd.R_drew)); exact Kd.R_mono HO_8.out (fun _ hk => hk.2))); (case aS => exact (below_size (mvB HB.out))); (case aL => have := LMc16.out; omega); intro v272 w22 ho hb hg hat; rw [← Ny271.out] at ho; have n0_ := Aside0.mk (Kd.R_over' (mv HO_6.out) (Kd.R_typed (mv HO_8.out)) (by decide) hg); have n1_ := Aside0.mk (Kd.R_after (ok := (fun _ => True)) (by (with_reducible repeat (first | apply Kd.R_alloc | apply Kd.R_drewN | apply Kd.R_drew)); exact Kd.R_mono HO269.out (fun _ hk => ⟨trivial, hk⟩)) hg hat); have n2_ := Aside0.mk (hb); have n3_ := Aside0.mk (ho); clear HO_6 HO269 HB HO_8; revert n0_ n1_ n2_ n3_; intro HO_6 HO269 HB HO273; clear ho hb hg hat; obtain ⟨Ao23, co23, eo23⟩ := Kd.R_slice HO269.out; subst eo23; have p274 : 0 ≤ (x10_1 : Int) := od; have q274 : x10_1 < (y267.length : Int) := od; obtain ⟨ad274, e274, hx274_0⟩ := Kd.at_bool (Kd.R_reads' HO269.out).2.2 x10_1 p274 q274; cases e274; replace p274 := eq_true p274; replace q274 := eq_true q274; obtain ⟨Ao24, co24, eo24⟩ := Kd.R_slice HO273.out; subst eo24; have p275 : 0 ≤ (x10_1 : Int) := od; have q275 : x10_1 < (y271.length : Int) := od; obtain ⟨ad275, e275, hx275_0⟩ := Kd.at_bool (Kd.R_reads' HO273.out).2.2 x10_1 p275 q275; cases e275; replace p275 := eq_true p275; replace q275 := eq_true q275)))
           go_roundg k1
           case measure => have := HK1.out; omega
           case rel => exact ⟨(y267), (y271), (wrap64 (x9_1 + 1)), (wrap64 (x10_1 + 1)), rs, rs, H', ⟨by have := HK1.out; omega⟩, ⟨mv HO_6.out⟩, ⟨by (with_reducible repeat (first | apply Kd.R_alloc | apply Kd.R_drewN | apply Kd.R_drew)); exact Kd.R_mono HO269.out (fun _ hk => hk.2)⟩, ⟨mv HO273.out⟩, ⟨mvB HB.out⟩⟩
          ·
           rw [if_neg c20] at H
           have c20b0 : ((rdOf false y267 x10_1) != (rdOf false y271 x10_1)) = false := by simpa using c20
           (try (have c20b1 : decide ((rdOf false y267 x10_1) = (rdOf false y271 x10_1)) = true := by simpa using c20))
           (try (have c20b2 : ((rdOf false y267 x10_1) == (rdOf false y271 x10_1)) = true := by simpa using c20))
           clear c20
           have H' := Aside0.mk H
           clear H
           go_wp2_with (first | (go_at_call 7; (try simp only [Go.IntWalk.i64_left]); (with_reducible refine (laws_r8At.calls _ _ l1 (wrap64 (1 + x10_1)) 2 t266 _ ?side1 ?side2 A13.out).mono ?_); (case side1 => exact mvC (Kd.C_below HR1.out HB.out)); (case side2 => exact HC1.out); rintro e w' ⟨rfl, ⟨nd, rfl⟩⟩; (try first | exact ⟨rfl, _, World.drewN_drewN _ _ _⟩ | exact ⟨rfl, _, Eq.trans (World.drewN_drewN _ _ _) (congrArg (World.drewN _) (Nat.add_assoc _ _ _))⟩)) | ((with_reducible refine gate_builtin (b := .append) (xs := #[.tmp 49, .tmp 55]) rfl ?_); (try (refine gate_guard (by rfl) ?_; dsimp only)); at_builtin; refine Kd.R_append Kd.bool (w0 := w) w.heap.size rfl (.tmp 49) (.tmp 55) 27 4 (.bool false) 1 rfl Tryd.underlying27 info4 rfl (by decide) (by omega) u7 x7_1 (t266 == 0) [.bool (t266 == 0)] (fun k_ => some k_ ≠ (u8 : Value).ownBlock) (fun _ => False) rfl rfl ?aP (fun _ hk => hk.elim) ?aF ?aO ?aB ?aS ?aL ?_; (case aP => exact rfl); (case aB => exact (mvB HB.out)); (case aF => exact (fun k_ hk => Kd.fresh' (Kd.R_lt (mv HO_8.out)) k_ hk)); (case aO => exact (mv HO_7.out)); (case aS => exact (below_size (mvB HB.out))); (case aL => have := LMc14.out; omega); intro v268 w25 ho hb hg hat; rw [← Ny267.out] at ho; have n0_ := Aside0.mk (Kd.R_over' (mv HO_6.out) (Kd.R_typed (mv HO_7.out)) (by decide) hg); have n1_ := Aside0.mk (Kd.R_after (ok := (fun _ => True)) (by (with_reducible repeat (first | apply Kd.R_alloc | apply Kd.R_drewN | apply Kd.R_drew)); exact Kd.R_mono HO_8.out (fun _ hk => ⟨trivial, hk⟩)) hg hat); have n2_ := Aside0.mk (hb); have n3_ := Aside0.mk (ho); clear HO_6 HO_8 HB HO_7; revert n0_ n1_ n2_ n3_; intro HO_6 HO_8 HB HO269; clear ho hb hg hat) | (go_at_call 7; (try simp only [Go.IntWalk.i64_left]); (with_reducible refine (laws_r8At.calls _ _ l1 (wrap64 (10 + x10_1)) 2 t270 _ ?side1 ?side2 A15.out).mono ?_); (case side1 => exact mvC (Kd.C_below HR1.out HB.out)); (case side2 => exact HC1.out); rintro e w' ⟨rfl, ⟨nd, rfl⟩⟩; (try first | exact ⟨rfl, _, World.drewN_drewN _ _ _⟩ | exact ⟨rfl, _, Eq.trans (World.drewN_drewN _ _ _) (congrArg (World.drewN _) (Nat.add_assoc _ _ _))⟩)) | ((with_reducible refine gate_builtin (b := .append) (xs := #[.tmp 57, .tmp 63]) rfl ?_); (try (refine gate_guard (by rfl) ?_; dsimp only)); at_builtin; refine Kd.R_append Kd.bool (w0 := w) w.heap.size rfl (.tmp 57) (.tmp 63) 27 4 (.bool false) 1 rfl Tryd.underlying27 info4 rfl (by decide) (by omega) u8 x8_1 (t270 == 0) [.bool (t270 == 0)] (fun k_ => some k_ ≠ (v268 : Value).ownBlock) (fun _ => False) rfl rfl ?aP (fun _ hk => hk.elim) ?aF ?aO ?aB ?aS ?aL ?_; (case aP => exact rfl); (case aB => exact (mvB HB.out)); (case aF => exact (fun k_ hk => Kd.fresh' (Kd.R_lt (mv HO269.out)) k_ hk)); (case aO => exact (by (with_reducible repeat (first | apply Kd.R_alloc | apply Kd.R_drewN | apply Kd.R_drew)); exact Kd.R_mono HO_8.out (fun _ hk => hk.2))); (case aS => exact (below_size (mvB HB.out))); (case aL => have := LMc16.out; omega); intro v272 w26 ho hb hg hat; rw [← Ny271.out] at ho; have n0_ := Aside0.mk (Kd.R_over' (mv HO_6.out) (Kd.R_typed (mv HO_8.out)) (by decide) hg); have n1_ := Aside0.mk (Kd.R_after (ok := (fun _ => True)) (by (with_reducible repeat (first | apply Kd.R_alloc | apply Kd.R_drewN | apply Kd.R_drew)); exact Kd.R_mono HO269.out (fun _ hk => ⟨trivial, hk⟩)) hg hat); have n2_ := Aside0.mk (hb); have n3_ := Aside0.mk (ho); clear HO_6 HO269 HB HO_8; revert n0_ n1_ n2_ n3_; intro HO_6 HO269 HB HO273; clear ho hb hg hat; obtain ⟨Ao27, co27, eo27⟩ := Kd.R_slice HO269.out; subst eo27; have p274 : 0 ≤ (x10_1 : Int) := od; have q274 : x10_1 < (y267.length : Int) := od; obtain ⟨ad274, e274, hx274_0⟩ := Kd.at_bool (Kd.R_reads' HO269.out).2.2 x10_1 p274 q274; cases e274; replace p274 := eq_true p274; replace q274 := eq_true q274; obtain ⟨Ao28, co28, eo28⟩ := Kd.R_slice HO273.out; subst eo28; have p275 : 0 ≤ (x10_1 : Int) := od; have q275 : x10_1 < (y271.length : Int) := od; obtain ⟨ad275, e275, hx275_0⟩ := Kd.at_bool (Kd.R_reads' HO273.out).2.2 x10_1 p275 q275; cases e275; replace p275 := eq_true p275; replace q275 := eq_true q275))
           repeat (go_quiet (first | (go_at_call 7; (try simp only [Go.IntWalk.i64_left]); (with_reducible refine (laws_r8At.calls _ _ l1 (wrap64 (1 + x10_1)) 2 t266 _ ?side1 ?side2 A13.out).mono ?_); (case side1 => exact mvC (Kd.C_below HR1.out HB.out)); (case side2 => exact HC1.out); rintro e w' ⟨rfl, ⟨nd, rfl⟩⟩; (try first | exact ⟨rfl, _, World.drewN_drewN _ _ _⟩ | exact ⟨rfl, _, Eq.trans (World.drewN_drewN _ _ _) (congrArg (World.drewN _) (Nat.add_assoc _ _ _))⟩)) | ((with_reducible refine gate_builtin (b := .append) (xs := #[.tmp 49, .tmp 55]) rfl ?_); (try (refine gate_guard (by rfl) ?_; dsimp only)); at_builtin; refine Kd.R_append Kd.bool (w0 := w) w.heap.size rfl (.tmp 49) (.tmp 55) 27 4 (.bool false) 1 rfl Tryd.underlying27 info4 rfl (by decide) (by omega) u7 x7_1 (t266 == 0) [.bool (t266 == 0)] (fun k_ => some k_ ≠ (u8 : Value).ownBlock) (fun _ => False) rfl rfl ?aP (fun _ hk => hk.elim) ?aF ?aO ?aB ?aS ?aL ?_; (case aP => exact rfl); (case aB => exact (mvB HB.out)); (case aF => exact (fun k_ hk => Kd.fresh' (Kd.R_lt (mv HO_8.out)) k_ hk)); (case aO => exact (mv HO_7.out)); (case aS => exact (below_size (mvB HB.out))); (case aL => have := LMc14.out; omega); intro v268 w25 ho hb hg hat; rw [← Ny267.out] at ho; have n0_ := Aside0.mk (Kd.R_over' (mv HO_6.out) (Kd.R_typed (mv HO_7.out)) (by decide) hg); have n1_ := Aside0.mk (Kd.R_after (ok := (fun _ => True)) (by (with_reducible repeat (first | apply Kd.R_alloc | apply Kd.R_drewN | apply Kd.R_drew)); exact Kd.R_mono HO_8.out (fun _ hk => ⟨trivial, hk⟩)) hg hat); have n2_ := Aside0.mk (hb); have n3_ := Aside0.mk (ho); clear HO_6 HO_8 HB HO_7; revert n0_ n1_ n2_ n3_; intro HO_6 HO_8 HB HO269; clear ho hb hg hat) | (go_at_call 7; (try simp only [Go.IntWalk.i64_left]); (with_reducible refine (laws_r8At.calls _ _ l1 (wrap64 (10 + x10_1)) 2 t270 _ ?side1 ?side2 A15.out).mono ?_); (case side1 => exact mvC (Kd.C_below HR1.out HB.out)); (case side2 => exact HC1.out); rintro e w' ⟨rfl, ⟨nd, rfl⟩⟩; (try first | exact ⟨rfl, _, World.drewN_drewN _ _ _⟩ | exact ⟨rfl, _, Eq.trans (World.drewN_drewN _ _ _) (congrArg (World.drewN _) (Nat.add_assoc _ _ _))⟩)) | ((with_reducible refine gate_builtin (b := .append) (xs := #[.tmp 57, .tmp 63]) rfl ?_); (try (refine gate_guard (by rfl) ?_; dsimp only)); at_builtin; refine Kd.R_append Kd.bool (w0 := w) w.heap.size rfl (.tmp 57) (.tmp 63) 27 4 (.bool false) 1 rfl Tryd.underlying27 info4 rfl (by decide) (by omega) u8 x8_1 (t270 == 0) [.bool (t270 == 0)] (fun k_ => some k_ ≠ (v268 : Value).ownBlock) (fun _ => False) rfl rfl ?aP (fun _ hk => hk.elim) ?aF ?aO ?aB ?aS ?aL ?_; (case aP => exact rfl); (case aB => exact (mvB HB.out)); (case aF => exact (fun k_ hk => Kd.fresh' (Kd.R_lt (mv HO269.out)) k_ hk)); (case aO => exact (by (with_reducible repeat (first | apply Kd.R_alloc | apply Kd.R_drewN | apply Kd.R_drew)); exact Kd.R_mono HO_8.out (fun _ hk => hk.2))); (case aS => exact (below_size (mvB HB.out))); (case aL => have := LMc16.out; omega); intro v272 w26 ho hb hg hat; rw [← Ny271.out] at ho; have n0_ := Aside0.mk (Kd.R_over' (mv HO_6.out) (Kd.R_typed (mv HO_8.out)) (by decide) hg); have n1_ := Aside0.mk (Kd.R_after (ok := (fun _ => True)) (by (with_reducible repeat (first | apply Kd.R_alloc | apply Kd.R_drewN | apply Kd.R_drew)); exact Kd.R_mono HO269.out (fun _ hk => ⟨trivial, hk⟩)) hg hat); have n2_ := Aside0.mk (hb); have n3_ := Aside0.mk (ho); clear HO_6 HO269 HB HO_8; revert n0_ n1_ n2_ n3_; intro HO_6 HO269 HB HO273; clear ho hb hg hat; obtain ⟨Ao27, co27, eo27⟩ := Kd.R_slice HO269.out; subst eo27; have p274 : 0 ≤ (x10_1 : Int) := od; have q274 : x10_1 < (y267.length : Int) := od; obtain ⟨ad274, e274, hx274_0⟩ := Kd.at_bool (Kd.R_reads' HO269.out).2.2 x10_1 p274 q274; cases e274; replace p274 := eq_true p274; replace q274 := eq_true q274; obtain ⟨Ao28, co28, eo28⟩ := Kd.R_slice HO273.out; subst eo28; have p275 : 0 ≤ (x10_1 : Int) := od; have q275 : x10_1 < (y271.length : Int) := od; obtain ⟨ad275, e275, hx275_0⟩ := Kd.at_bool (Kd.R_reads' HO273.out).2.2 x10_1 p275 q275; cases e275; replace p275 := eq_true p275; replace q275 := eq_true q275)); try go_wp2_with (first | (go_at_call 7; (try simp only [Go.IntWalk.i64_left]); (with_reducible refine (laws_r8At.calls _ _ l1 (wrap64 (1 + x10_1)) 2 t266 _ ?side1 ?side2 A13.out).mono ?_); (case side1 => exact mvC (Kd.C_below HR1.out HB.out)); (case side2 => exact HC1.out); rintro e w' ⟨rfl, ⟨nd, rfl⟩⟩; (try first | exact ⟨rfl, _, World.drewN_drewN _ _ _⟩ | exact ⟨rfl, _, Eq.trans (World.drewN_drewN _ _ _) (congrArg (World.drewN _) (Nat.add_assoc _ _ _))⟩)) | ((with_reducible refine gate_builtin (b := .append) (xs := #[.tmp 49, .tmp 55]) rfl ?_); (try (refine gate_guard (by rfl) ?_; dsimp only)); at_builtin; refine Kd.R_append Kd.bool (w0 := w) w.heap.size rfl (.tmp 49) (.tmp 55) 27 4 (.bool false) 1 rfl Tryd.underlying27 info4 rfl (by decide) (by omega) u7 x7_1 (t266 == 0) [.bool (t266 == 0)] (fun k_ => some k_ ≠ (u8 : Value).ownBlock) (fun _ => False) rfl rfl ?aP (fun _ hk => hk.elim) ?aF ?aO ?aB ?aS ?aL ?_; (case aP => exact rfl); (case aB => exact (mvB HB.out)); (case aF => exact (fun k_ hk => Kd.fresh' (Kd.R_lt (mv HO_8.out)) k_ hk)); (case aO => exact (mv HO_7.out)); (case aS => exact (below_size (mvB HB.out))); (case aL => have := LMc14.out; omega); intro v268 w25 ho hb hg hat; rw [← Ny267.out] at ho; have n0_ := Aside0.mk (Kd.R_over' (mv HO_6.out) (Kd.R_typed (mv HO_7.out)) (by decide) hg); have n1_ := Aside0.mk (Kd.R_after (ok := (fun _ => True)) (by (with_reducible repeat (first | apply Kd.R_alloc | apply Kd.R_drewN | apply Kd.R_drew)); exact Kd.R_mono HO_8.out (fun _ hk => ⟨trivial, hk⟩)) hg hat); have n2_ := Aside0.mk (hb); have n3_ := Aside0.mk (ho); clear HO_6 HO_8 HB HO_7; revert n0_ n1_ n2_ n3_; intro HO_6 HO_8 HB HO269; clear ho hb hg hat) | (go_at_call 7; (try simp only [Go.IntWalk.i64_left]); (with_reducible refine (laws_r8At.calls _ _ l1 (wrap64 (10 + x10_1)) 2 t270 _ ?side1 ?side2 A15.out).mono ?_); (case side1 => exact mvC (Kd.C_below HR1.out HB.out)); (case side2 => exact HC1.out); rintro e w' ⟨rfl, ⟨nd, rfl⟩⟩; (try first | exact ⟨rfl, _, World.drewN_drewN _ _ _⟩ | exact ⟨rfl, _, Eq.trans (World.drewN_drewN _ _ _) (congrArg (World.drewN _) (Nat.add_assoc _ _ _))⟩)) | ((with_reducible refine gate_builtin (b := .append) (xs := #[.tmp 57, .tmp 63]) rfl ?_); (try (refine gate_guard (by rfl) ?_; dsimp only)); at_builtin; refine Kd.R_append Kd.bool (w0 := w) w.heap.size rfl (.tmp 57) (.tmp 63) 27 4 (.bool false) 1 rfl Tryd.underlying27 info4 rfl (by decide) (by omega) u8 x8_1 (t270 == 0) [.bool (t270 == 0)] (fun k_ => some k_ ≠ (v268 : Value).ownBlock) (fun _ => False) rfl rfl ?aP (fun _ hk => hk.elim) ?aF ?aO ?aB ?aS ?aL ?_; (case aP => exact rfl); (case aB => exact (mvB HB.out)); (case aF => exact (fun k_ hk => Kd.fresh' (Kd.R_lt (mv HO269.out)) k_ hk)); (case aO => exact (by (with_reducible repeat (first | apply Kd.R_alloc | apply Kd.R_drewN | apply Kd.R_drew)); exact Kd.R_mono HO_8.out (fun _ hk => hk.2))); (case aS => exact (below_size (mvB HB.out))); (case aL => have := LMc16.out; omega); intro v272 w26 ho hb hg hat; rw [← Ny271.out] at ho; have n0_ := Aside0.mk (Kd.R_over' (mv HO_6.out) (Kd.R_typed (mv HO_8.out)) (by decide) hg); have n1_ := Aside0.mk (Kd.R_after (ok := (fun _ => True)) (by (with_reducible repeat (first | apply Kd.R_alloc | apply Kd.R_drewN | apply Kd.R_drew)); exact Kd.R_mono HO269.out (fun _ hk => ⟨trivial, hk⟩)) hg hat); have n2_ := Aside0.mk (hb); have n3_ := Aside0.mk (ho); clear HO_6 HO269 HB HO_8; revert n0_ n1_ n2_ n3_; intro HO_6 HO269 HB HO273; clear ho hb hg hat; obtain ⟨Ao27, co27, eo27⟩ := Kd.R_slice HO269.out; subst eo27; have p274 : 0 ≤ (x10_1 : Int) := od; have q274 : x10_1 < (y267.length : Int) := od; obtain ⟨ad274, e274, hx274_0⟩ := Kd.at_bool (Kd.R_reads' HO269.out).2.2 x10_1 p274 q274; cases e274; replace p274 := eq_true p274; replace q274 := eq_true q274; obtain ⟨Ao28, co28, eo28⟩ := Kd.R_slice HO273.out; subst eo28; have p275 : 0 ≤ (x10_1 : Int) := od; have q275 : x10_1 < (y271.length : Int) := od; obtain ⟨ad275, e275, hx275_0⟩ := Kd.at_bool (Kd.R_reads' HO273.out).2.2 x10_1 p275 q275; cases e275; replace p275 := eq_true p275; replace q275 := eq_true q275)))
           go_roundg k1
           case measure => have := HK1.out; omega
           case rel => exact ⟨(y267), (y271), (x9_1), (wrap64 (x10_1 + 1)), rs, rs, H', ⟨by have := HK1.out; omega⟩, ⟨mv HO_6.out⟩, ⟨by (with_reducible repeat (first | apply Kd.R_alloc | apply Kd.R_drewN | apply Kd.R_drew)); exact Kd.R_mono HO269.out (fun _ hk => hk.2)⟩, ⟨mv HO273.out⟩, ⟨mvB HB.out⟩⟩
         ·
          rw [if_neg c19] at H
          exact absurd H (by simp)
        ·
         rw [if_neg c18] at H
         exact absurd H (by simp)
       ·
        rw [if_neg c17] at H
        exact absurd H (by simp)
      ·
       rw [if_neg c16] at H
       exact absurd H (by simp)
     ·
      rw [if_neg c14] at H
      exact absurd H (by simp)
    ·
     rw [if_neg c12] at H
     have c12b0 : decide (x10_1 < (wrap64 (2 + t256))) = false := decide_eq_false c12
     clear c12
     replace H := Option.bind_eq_some_iff.mp H
     obtain ⟨⟨t276, t277⟩, A290, H⟩ := H
     replace H : ((impl_CountAllowed.f k1 (wrap64 (2 + t256)) t257).bind fun bt280 => ((impl_CountReached.f k1 x7_1 t257).bind fun bt282 => ((impl_BrokenRules.f k1 x7_1 t257).bind fun bt284 => ((impl_NextOrders.f k1 x7_1 t257).bind fun bt288 => (if t277 = 0 then (if bt280.2 = 0 then (if bt280.1 < 0 then (laws_FnSwitching.j1 k1 t257 x7_1 x8_1 x9_1 t276 t277 bt284.1 bt288.1 true) else (if bt282.2 = 0 then (if bt282.1 < 1 then (laws_FnSwitching.j1 k1 t257 x7_1 x8_1 x9_1 t276 t277 bt284.1 bt288.1 true) else (if bt282.1 > (wrap64 (bt280.1 + 1)) then (laws_FnSwitching.j1 k1 t257 x7_1 x8_1 x9_1 t276 t277 bt284.1 bt288.1 true) else (if bt284.2 = 0 then (if (bt284.1.length : Int) = 0 then (if bt282.1 > bt280.1 then (laws_FnSwitching.j1 k1 t257 x7_1 x8_1 x9_1 t276 t277 bt284.1 bt288.1 true) else (if bt288.2 = 0 then (if (bt288.1.length : Int) > (wrap64 (2 + t256)) then (laws_FnSwitching.j1 k1 t257 x7_1 x8_1 x9_1 t276 t277 bt284.1 bt288.1 true) else (laws_FnSwitching.j1 k1 t257 x7_1 x8_1 x9_1 t276 t277 bt284.1 bt288.1 (decide ((wrap64 (bt282.1 - 1)) < (bt288.1.length : Int))))) else (laws_FnSwitching.j1 k1 t257 x7_1 x8_1 x9_1 t276 t277 bt284.1 bt288.1 true))) else (if bt288.2 = 0 then (if (bt288.1.length : Int) > (wrap64 (2 + t256)) then (laws_FnSwitching.j1 k1 t257 x7_1 x8_1 x9_1 t276 t277 bt284.1 bt288.1 true) else (laws_FnSwitching.j1 k1 t257 x7_1 x8_1 x9_1 t276 t277 bt284.1 bt288.1 (decide ((wrap64 (bt282.1 - 1)) < (bt288.1.length : Int))))) else (laws_FnSwitching.j1 k1 t257 x7_1 x8_1 x9_1 t276 t277 bt284.1 bt288.1 true))) else (laws_FnSwitching.j1 k1 t257 x7_1 x8_1 x9_1 t276 t277 bt284.1 bt288.1 true)))) else (laws_FnSwitching.j1 k1 t257 x7_1 x8_1 x9_1 t276 t277 bt284.1 bt288.1 true))) else (laws_FnSwitching.j1 k1 t257 x7_1 x8_1 x9_1 t276 t277 bt284.1 bt288.1 true)) else (if t277 = 3 then (if bt280.2 = 0 then (if bt280.1 < 0 then (laws_FnSwitching.j1 k1 t257 x7_1 x8_1 x9_1 t276 t277 bt284.1 bt288.1 true) else (if bt282.2 = 0 then (if bt282.1 < 1 then (laws_FnSwitching.j1 k1 t257 x7_1 x8_1 x9_1 t276 t277 bt284.1 bt288.1 true) else (if bt282.1 > (wrap64 (bt280.1 + 1)) then (laws_FnSwitching.j1 k1 t257 x7_1 x8_1 x9_1 t276 t277 bt284.1 bt288.1 true) else (if bt284.2 = 0 then (if (bt284.1.length : Int) = 0 then (if bt282.1 > bt280.1 then (laws_FnSwitching.j1 k1 t257 x7_1 x8_1 x9_1 t276 t277 bt284.1 bt288.1 true) else (if bt288.2 = 0 then (if (bt288.1.length : Int) > (wrap64 (2 + t256)) then (laws_FnSwitching.j1 k1 t257 x7_1 x8_1 x9_1 t276 t277 bt284.1 bt288.1 true) else (laws_FnSwitching.j1 k1 t257 x7_1 x8_1 x9_1 t276 t277 bt284.1 bt288.1 (decide ((wrap64 (bt282.1 - 1)) < (bt288.1.length : Int))))) else (laws_FnSwitching.j1 k1 t257 x7_1 x8_1 x9_1 t276 t277 bt284.1 bt288.1 true))) else (if bt288.2 = 0 then (if (bt288.1.length : Int) > (wrap64 (2 + t256)) then (laws_FnSwitching.j1 k1 t257 x7_1 x8_1 x9_1 t276 t277 bt284.1 bt288.1 true) else (laws_FnSwitching.j1 k1 t257 x7_1 x8_1 x9_1 t276 t277 bt284.1 bt288.1 (decide ((wrap64 (bt282.1 - 1)) < (bt288.1.length : Int))))) else (laws_FnSwitching.j1 k1 t257 x7_1 x8_1 x9_1 t276 t277 bt284.1 bt288.1 true))) else (laws_FnSwitching.j1 k1 t257 x7_1 x8_1 x9_1 t276 t277 bt284.1 bt288.1 true)))) else (laws_FnSwitching.j1 k1 t257 x7_1 x8_1 x9_1 t276 t277 bt284.1 bt288.1 true))) else (laws_FnSwitching.j1 k1 t257 x7_1 x8_1 x9_1 t276 t277 bt284.1 bt288.1 true)) else (laws_FnSwitching.j1 k1 t257 x7_1 x8_1 x9_1 t276 t277 bt284.1 bt288.1 true))))))) = some r := H
     have A29 := Aside0.mk A290
     clear A290
     replace H := Option.bind_eq_some_iff.mp H
     obtain ⟨⟨t280, t281⟩, A300, H⟩ := H
     replace H : ((impl_CountReached.f k1 x7_1 t257).bind fun bt282 => ((impl_BrokenRules.f k1 x7_1 t257).bind fun bt284 => ((impl_NextOrders.f k1 x7_1 t257).bind fun bt288 => (if t277 = 0 then (if t281 = 0 then (if t280 < 0 then (laws_FnSwitching.j1 k1 t257 x7_1 x8_1 x9_1 t276 t277 bt284.1 bt288.1 true) else (if bt282.2 = 0 then (if bt282.1 < 1 then (laws_FnSwitching.j1 k1 t257 x7_1 x8_1 x9_1 t276 t277 bt284.1 bt288.1 true) else (if bt282.1 > (wrap64 (t280 + 1)) then (laws_FnSwitching.j1 k1 t257 x7_1 x8_1 x9_1 t276 t277 bt284.1 bt288.1 true) else (if bt284.2 = 0 then (if (bt284.1.length : Int) = 0 then (if bt282.1 > t280 then (laws_FnSwitching.j1 k1 t257 x7_1 x8_1 x9_1 t276 t277 bt284.1 bt288.1 true) else (if bt288.2 = 0 then (if (bt288.1.length : Int) > (wrap64 (2 + t256)) then (laws_FnSwitching.j1 k1 t257 x7_1 x8_1 x9_1 t276 t277 bt284.1 bt288.1 true) else (laws_FnSwitching.j1 k1 t257 x7_1 x8_1 x9_1 t276 t277 bt284.1 bt288.1 (decide ((wrap64 (bt282.1 - 1)) < (bt288.1.length : Int))))) else (laws_FnSwitching.j1 k1 t257 x7_1 x8_1 x9_1 t276 t277 bt284.1 bt288.1 true))) else (if bt288.2 = 0 then (if (bt288.1.length : Int) > (wrap64 (2 + t256)) then (laws_FnSwitching.j1 k1 t257 x7_1 x8_1 x9_1 t276 t277 bt284.1 bt288.1 true) else (laws_FnSwitching.j1 k1 t257 x7_1 x8_1 x9_1 t276 t277 bt284.1 bt288.1 (decide ((wrap64 (bt282.1 - 1)) < (bt288.1.length : Int))))) else (laws_FnSwitching.j1 k1 t257 x7_1 x8_1 x9_1 t276 t277 bt284.1 bt288.1 true))) else (laws_FnSwitching.j1 k1 t257 x7_1 x8_1 x9_1 t276 t277 bt284.1 bt288.1 true)))) else (laws_FnSwitching.j1 k1 t257 x7_1 x8_1 x9_1 t276 t277 bt284.1 bt288.1 true))) else (laws_FnSwitching.j1 k1 t257 x7_1 x8_1 x9_1 t276 t277 bt284.1 bt288.1 true)) else (if t277 = 3 then (if t281 = 0 then (if t280 < 0 then (laws_FnSwitching.j1 k1 t257 x7_1 x8_1 x9_1 t276 t277 bt284.1 bt288.1 true) else (if bt282.2 = 0 then (if bt282.1 < 1 then (laws_FnSwitching.j1 k1 t257 x7_1 x8_1 x9_1 t276 t277 bt284.1 bt288.1 true) else (if bt282.1 > (wrap64 (t280 + 1)) then (laws_FnSwitching.j1 k1 t257 x7_1 x8_1 x9_1 t276 t277 bt284.1 bt288.1 true) else (if bt284.2 = 0 then (if (bt284.1.length : Int) = 0 then (if bt282.1 > t280 then (laws_FnSwitching.j1 k1 t257 x7_1 x8_1 x9_1 t276 t277 bt284.1 bt288.1 true) else (if bt288.2 = 0 then (if (bt288.1.length : Int) > (wrap64 (2 + t256)) then (laws_FnSwitching.j1 k1 t257 x7_1 x8_1 x9_1 t276 t277 bt284.1 bt288.1 true) else (laws_FnSwitching.j1 k1 t257 x7_1 x8_1 x9_1 t276 t277 bt284.1 bt288.1 (decide ((wrap64 (bt282.1 - 1)) < (bt288.1.length : Int))))) else (laws_FnSwitching.j1 k1 t257 x7_1 x8_1 x9_1 t276 t277 bt284.1 bt288.1 true))) else (if bt288.2 = 0 then (if (bt288.1.length : Int) > (wrap64 (2 + t256)) then (laws_FnSwitching.j1 k1 t257 x7_1 x8_1 x9_1 t276 t277 bt284.1 bt288.1 true) else (laws_FnSwitching.j1 k1 t257 x7_1 x8_1 x9_1 t276 t277 bt284.1 bt288.1 (decide ((wrap64 (bt282.1 - 1)) < (bt288.1.length : Int))))) else (laws_FnSwitching.j1 k1 t257 x7_1 x8_1 x9_1 t276 t277 bt284.1 bt288.1 true))) else (laws_FnSwitching.j1 k1 t257 x7_1 x8_1 x9_1 t276 t277 bt284.1 bt288.1 true)))) else (laws_FnSwitching.j1 k1 t257 x7_1 x8_1 x9_1 t276 t277 bt284.1 bt288.1 true))) else (laws_FnSwitching.j1 k1 t257 x7_1 x8_1 x9_1 t276 t277 bt284.1 bt288.1 true)) else (laws_FnSwitching.j1 k1 t257 x7_1 x8_1 x9_1 t276 t277 bt284.1 bt288.1 true)))))) = some r := H
     have A30 := Aside0.mk A300
     clear A300
     replace H := Option.bind_eq_some_iff.mp H
     obtain ⟨⟨t282, t283⟩, A310, H⟩ := H
     replace H : ((impl_BrokenRules.f k1 x7_1 t257).bind fun bt284 => ((impl_NextOrders.f k1 x7_1 t257).bind fun bt288 => (if t277 = 0 then (if t281 = 0 then (if t280 < 0 then (laws_FnSwitching.j1 k1 t257 x7_1 x8_1 x9_1 t276 t277 bt284.1 bt288.1 true) else (if t283 = 0 then (if t282 < 1 then (laws_FnSwitching.j1 k1 t257 x7_1 x8_1 x9_1 t276 t277 bt284.1 bt288.1 true) else (if t282 > (wrap64 (t280 + 1)) then (laws_FnSwitching.j1 k1 t257 x7_1 x8_1 x9_1 t276 t277 bt284.1 bt288.1 true) else (if bt284.2 = 0 then (if (bt284.1.length : Int) = 0 then (if t282 > t280 then (laws_FnSwitching.j1 k1 t257 x7_1 x8_1 x9_1 t276 t277 bt284.1 bt288.1 true) else (if bt288.2 = 0 then (if (bt288.1.length : Int) > (wrap64 (2 + t256)) then (laws_FnSwitching.j1 k1 t257 x7_1 x8_1 x9_1 t276 t277 bt284.1 bt288.1 true) else (laws_FnSwitching.j1 k1 t257 x7_1 x8_1 x9_1 t276 t277 bt284.1 bt288.1 (decide ((wrap64 (t282 - 1)) < (bt288.1.length : Int))))) else (laws_FnSwitching.j1 k1 t257 x7_1 x8_1 x9_1 t276 t277 bt284.1 bt288.1 true))) else (if bt288.2 = 0 then (if (bt288.1.length : Int) > (wrap64 (2 + t256)) then (laws_FnSwitching.j1 k1 t257 x7_1 x8_1 x9_1 t276 t277 bt284.1 bt288.1 true) else (laws_FnSwitching.j1 k1 t257 x7_1 x8_1 x9_1 t276 t277 bt284.1 bt288.1 (decide ((wrap64 (t282 - 1)) < (bt288.1.length : Int))))) else (laws_FnSwitching.j1 k1 t257 x7_1 x8_1 x9_1 t276 t277 bt284.1 bt288.1 true))) else (laws_FnSwitching.j1 k1 t257 x7_1 x8_1 x9_1 t276 t277 bt284.1 bt288.1 true)))) else (laws_FnSwitching.j1 k1 t257 x7_1 x8_1 x9_1 t276 t277 bt284.1 bt288.1 true))) else (laws_FnSwitching.j1 k1 t257 x7_1 x8_1 x9_1 t276 t277 bt284.1 bt288.1 true)) else (if t277 = 3 then (if t281 = 0 then (if t280 < 0 then (laws_FnSwitching.j1 k1 t257 x7_1 x8_1 x9_1 t276 t277 bt284.1 bt288.1 true) else (if t283 = 0 then (if t282 < 1 then (laws_FnSwitching.j1 k1 t257 x7_1 x8_1 x9_1 t276 t277 bt284.1 bt288.1 true) else (if t282 > (wrap64 (t280 + 1)) then (laws_FnSwitching.j1 k1 t257 x7_1 x8_1 x9_1 t276 t277 bt284.1 bt288.1 true) else (if bt284.2 = 0 then (if (bt284.1.length : Int) = 0 then (if t282 > t280 then (laws_FnSwitching.j1 k1 t257 x7_1 x8_1 x9_1 t276 t277 bt284.1 bt288.1 true) else (if bt288.2 = 0 then (if (bt288.1.length : Int) > (wrap64 (2 + t256)) then (laws_FnSwitching.j1 k1 t257 x7_1 x8_1 x9_1 t276 t277 bt284.1 bt288.1 true) else (laws_FnSwitching.j1 k1 t257 x7_1 x8_1 x9_1 t276 t277 bt284.1 bt288.1 (decide ((wrap64 (t282 - 1)) < (bt288.1.length : Int))))) else (laws_FnSwitching.j1 k1 t257 x7_1 x8_1 x9_1 t276 t277 bt284.1 bt288.1 true))) else (if bt288.2 = 0 then (if (bt288.1.length : Int) > (wrap64 (2 + t256)) then (laws_FnSwitching.j1 k1 t257 x7_1 x8_1 x9_1 t276 t277 bt284.1 bt288.1 true) else (laws_FnSwitching.j1 k1 t257 x7_1 x8_1 x9_1 t276 t277 bt284.1 bt288.1 (decide ((wrap64 (t282 - 1)) < (bt288.1.length : Int))))) else (laws_FnSwitching.j1 k1 t257 x7_1 x8_1 x9_1 t276 t277 bt284.1 bt288.1 true))) else (laws_FnSwitching.j1 k1 t257 x7_1 x8_1 x9_1 t276 t277 bt284.1 bt288.1 true)))) else (laws_FnSwitching.j1 k1 t257 x7_1 x8_1 x9_1 t276 t277 bt284.1 bt288.1 true))) else (laws_FnSwitching.j1 k1 t257 x7_1 x8_1 x9_1 t276 t277 bt284.1 bt288.1 true)) else (laws_FnSwitching.j1 k1 t257 x7_1 x8_1 x9_1 t276 t277 bt284.1 bt288.1 true))))) = some r := H
     have A31 := Aside0.mk A310
     clear A310
     replace H := Option.bind_eq_some_iff.mp H
     obtain ⟨⟨t284, t285⟩, A320, H⟩ := H
     replace H : ((impl_NextOrders.f k1 x7_1 t257).bind fun bt288 => (if t277 = 0 then (if t281 = 0 then (if t280 < 0 then (laws_FnSwitching.j1 k1 t257 x7_1 x8_1 x9_1 t276 t277 t284 bt288.1 true) else (if t283 = 0 then (if t282 < 1 then (laws_FnSwitching.j1 k1 t257 x7_1 x8_1 x9_1 t276 t277 t284 bt288.1 true) else (if t282 > (wrap64 (t280 + 1)) then (laws_FnSwitching.j1 k1 t257 x7_1 x8_1 x9_1 t276 t277 t284 bt288.1 true) else (if t285 = 0 then (if (t284.length : Int) = 0 then (if t282 > t280 then (laws_FnSwitching.j1 k1 t257 x7_1 x8_1 x9_1 t276 t277 t284 bt288.1 true) else (if bt288.2 = 0 then (if (bt288.1.length : Int) > (wrap64 (2 + t256)) then (laws_FnSwitching.j1 k1 t257 x7_1 x8_1 x9_1 t276 t277 t284 bt288.1 true) else (laws_FnSwitching.j1 k1 t257 x7_1 x8_1 x9_1 t276 t277 t284 bt288.1 (decide ((wrap64 (t282 - 1)) < (bt288.1.length : Int))))) else (laws_FnSwitching.j1 k1 t257 x7_1 x8_1 x9_1 t276 t277 t284 bt288.1 true))) else (if bt288.2 = 0 then (if (bt288.1.length : Int) > (wrap64 (2 + t256)) then (laws_FnSwitching.j1 k1 t257 x7_1 x8_1 x9_1 t276 t277 t284 bt288.1 true) else (laws_FnSwitching.j1 k1 t257 x7_1 x8_1 x9_1 t276 t277 t284 bt288.1 (decide ((wrap64 (t282 - 1)) < (bt288.1.length : Int))))) else (laws_FnSwitching.j1 k1 t257 x7_1 x8_1 x9_1 t276 t277 t284 bt288.1 true))) else (laws_FnSwitching.j1 k1 t257 x7_1 x8_1 x9_1 t276 t277 t284 bt288.1 true)))) else (laws_FnSwitching.j1 k1 t257 x7_1 x8_1 x9_1 t276 t277 t284 bt288.1 true))) else (laws_FnSwitching.j1 k1 t257 x7_1 x8_1 x9_1 t276 t277 t284 bt288.1 true)) else (if t277 = 3 then (if t281 = 0 then (if t280 < 0 then (laws_FnSwitching.j1 k1 t257 x7_1 x8_1 x9_1 t276 t277 t284 bt288.1 true) else (if t283 = 0 then (if t282 < 1 then (laws_FnSwitching.j1 k1 t257 x7_1 x8_1 x9_1 t276 t277 t284 bt288.1 true) else (if t282 > (wrap64 (t280 + 1)) then (laws_FnSwitching.j1 k1 t257 x7_1 x8_1 x9_1 t276 t277 t284 bt288.1 true) else (if t285 = 0 then (if (t284.length : Int) = 0 then (if t282 > t280 then (laws_FnSwitching.j1 k1 t257 x7_1 x8_1 x9_1 t276 t277 t284 bt288.1 true) else (if bt288.2 = 0 then (if (bt288.1.length : Int) > (wrap64 (2 + t256)) then (laws_FnSwitching.j1 k1 t257 x7_1 x8_1 x9_1 t276 t277 t284 bt288.1 true) else (laws_FnSwitching.j1 k1 t257 x7_1 x8_1 x9_1 t276 t277 t284 bt288.1 (decide ((wrap64 (t282 - 1)) < (bt288.1.length : Int))))) else (laws_FnSwitching.j1 k1 t257 x7_1 x8_1 x9_1 t276 t277 t284 bt288.1 true))) else (if bt288.2 = 0 then (if (bt288.1.length : Int) > (wrap64 (2 + t256)) then (laws_FnSwitching.j1 k1 t257 x7_1 x8_1 x9_1 t276 t277 t284 bt288.1 true) else (laws_FnSwitching.j1 k1 t257 x7_1 x8_1 x9_1 t276 t277 t284 bt288.1 (decide ((wrap64 (t282 - 1)) < (bt288.1.length : Int))))) else (laws_FnSwitching.j1 k1 t257 x7_1 x8_1 x9_1 t276 t277 t284 bt288.1 true))) else (laws_FnSwitching.j1 k1 t257 x7_1 x8_1 x9_1 t276 t277 t284 bt288.1 true)))) else (laws_FnSwitching.j1 k1 t257 x7_1 x8_1 x9_1 t276 t277 t284 bt288.1 true))) else (laws_FnSwitching.j1 k1 t257 x7_1 x8_1 x9_1 t276 t277 t284 bt288.1 true)) else (laws_FnSwitching.j1 k1 t257 x7_1 x8_1 x9_1 t276 t277 t284 bt288.1 true)))) = some r := H
     have A32 := Aside0.mk A320
     clear A320
     replace H := Option.bind_eq_some_iff.mp H
     obtain ⟨⟨t288, t289⟩, A330, H⟩ := H
     replace H : (if t277 = 0 then (if t281 = 0 then (if t280 < 0 then (laws_FnSwitching.j1 k1 t257 x7_1 x8_1 x9_1 t276 t277 t284 t288 true) else (if t283 = 0 then (if t282 < 1 then (laws_FnSwitching.j1 k1 t257 x7_1 x8_1 x9_1 t276 t277 t284 t288 true) else (if t282 > (wrap64 (t280 + 1)) then (laws_FnSwitching.j1 k1 t257 x7_1 x8_1 x9_1 t276 t277 t284 t288 true) else (if t285 = 0 then (if (t284.length : Int) = 0 then (if t282 > t280 then (laws_FnSwitching.j1 k1 t257 x7_1 x8_1 x9_1 t276 t277 t284 t288 true) else (if t289 = 0 then (if (t288.length : Int) > (wrap64 (2 + t256)) then (laws_FnSwitching.j1 k1 t257 x7_1 x8_1 x9_1 t276 t277 t284 t288 true) else (laws_FnSwitching.j1 k1 t257 x7_1 x8_1 x9_1 t276 t277 t284 t288 (decide ((wrap64 (t282 - 1)) < (t288.length : Int))))) else (laws_FnSwitching.j1 k1 t257 x7_1 x8_1 x9_1 t276 t277 t284 t288 true))) else (if t289 = 0 then (if (t288.length : Int) > (wrap64 (2 + t256)) then (laws_FnSwitching.j1 k1 t257 x7_1 x8_1 x9_1 t276 t277 t284 t288 true) else (laws_FnSwitching.j1 k1 t257 x7_1 x8_1 x9_1 t276 t277 t284 t288 (decide ((wrap64 (t282 - 1)) < (t288.length : Int))))) else (laws_FnSwitching.j1 k1 t257 x7_1 x8_1 x9_1 t276 t277 t284 t288 true))) else (laws_FnSwitching.j1 k1 t257 x7_1 x8_1 x9_1 t276 t277 t284 t288 true)))) else (laws_FnSwitching.j1 k1 t257 x7_1 x8_1 x9_1 t276 t277 t284 t288 true))) else (laws_FnSwitching.j1 k1 t257 x7_1 x8_1 x9_1 t276 t277 t284 t288 true)) else (if t277 = 3 then (if t281 = 0 then (if t280 < 0 then (laws_FnSwitching.j1 k1 t257 x7_1 x8_1 x9_1 t276 t277 t284 t288 true) else (if t283 = 0 then (if t282 < 1 then (laws_FnSwitching.j1 k1 t257 x7_1 x8_1 x9_1 t276 t277 t284 t288 true) else (if t282 > (wrap64 (t280 + 1)) then (laws_FnSwitching.j1 k1 t257 x7_1 x8_1 x9_1 t276 t277 t284 t288 true) else (if t285 = 0 then (if (t284.length : Int) = 0 then (if t282 > t280 then (laws_FnSwitching.j1 k1 t257 x7_1 x8_1 x9_1 t276 t277 t284 t288 true) else (if t289 = 0 then (if (t288.length : Int) > (wrap64 (2 + t256)) then (laws_FnSwitching.j1 k1 t257 x7_1 x8_1 x9_1 t276 t277 t284 t288 true) else (laws_FnSwitching.j1 k1 t257 x7_1 x8_1 x9_1 t276 t277 t284 t288 (decide ((wrap64 (t282 - 1)) < (t288.length : Int))))) else (laws_FnSwitching.j1 k1 t257 x7_1 x8_1 x9_1 t276 t277 t284 t288 true))) else (if t289 = 0 then (if (t288.length : Int) > (wrap64 (2 + t256)) then (laws_FnSwitching.j1 k1 t257 x7_1 x8_1 x9_1 t276 t277 t284 t288 true) else (laws_FnSwitching.j1 k1 t257 x7_1 x8_1 x9_1 t276 t277 t284 t288 (decide ((wrap64 (t282 - 1)) < (t288.length : Int))))) else (laws_FnSwitching.j1 k1 t257 x7_1 x8_1 x9_1 t276 t277 t284 t288 true))) else (laws_FnSwitching.j1 k1 t257 x7_1 x8_1 x9_1 t276 t277 t284 t288 true)))) else (laws_FnSwitching.j1 k1 t257 x7_1 x8_1 x9_1 t276 t277 t284 t288 true))) else (laws_FnSwitching.j1 k1 t257 x7_1 x8_1 x9_1 t276 t277 t284 t288 true)) else (laws_FnSwitching.j1 k1 t257 x7_1 x8_1 x9_1 t276 t277 t284 t288 true))) = some r := H
     have A33 := Aside0.mk A330
     clear A330
     have HC34 := Aside0.mk H
     clear H
     obtain ⟨Ao35, co35, eo35⟩ := Kd.R_slice HO_7.out
     subst eo35
     obtain ⟨Ao36, co36, eo36⟩ := Kd.R_slice HO_8.out
     subst eo36
     obtain ⟨Ao37, co37, eo37⟩ := Kd.R_slice HO_6.out
     subst eo37
     go_upto_region 20 with (first | (go_at_call 9; (with_reducible refine (impl_ShortestOrders.calls k1 _ _ x7_1 _ _ x8_1 _ _ t257 t276 t277 _ ?side1 ?side2 ?side3 ?side4 ?side5 ?side6 A29.out).mono ?_); (case side1 => exact mvC (Kd.R_reads' HO_7.out).2.2); (case side2 => exact (Kd.R_reads' HO_7.out).2.1); (case side3 => exact mvC (Kd.R_reads' HO_8.out).2.2); (case side4 => exact (Kd.R_reads' HO_8.out).2.1); (case side5 => exact mvC (Kd.R_reads' HO_6.out).2.2); (case side6 => exact (Kd.R_reads' HO_6.out).2.1); rintro e w38 ⟨v278, rfl, ho0, hb⟩; have n0_ := Aside0.mk (Kd.R_below (mv HO_6.out) hb); have n1_ := Aside0.mk (Kd.R_below (mv HO_7.out) hb); have n2_ := Aside0.mk (Kd.R_below (mv HO_8.out) hb); have n3_ := Aside0.mk (Kd.R_lower ho0 (below_size (mvB HB.out))); have n4_ := Aside0.mk (below_step (mvB HB.out) hb); clear HO_6 HO_7 HO_8 HB; revert n0_ n1_ n2_ n3_ n4_; intro HO_6 HO_7 HO_8 HO279 HB; (try clear hb); (try clear ho0)) | (go_at_call 10; (try simp only [Go.IntWalk.i64_left]); (with_reducible refine (impl_CountAllowed.calls k1 (wrap64 (2 + t256)) _ _ t257 t280 t281 _ ?side1 ?side2 A30.out).mono ?_); (case side1 => exact mvC (Kd.R_reads' HO_6.out).2.2); (case side2 => exact (Kd.R_reads' HO_6.out).2.1); rintro e w39 ⟨rfl, hb⟩; have n0_ := Aside0.mk (Kd.R_below (mv HO_6.out) hb); have n1_ := Aside0.mk (Kd.R_below (mv HO_7.out) hb); have n2_ := Aside0.mk (Kd.R_below (mv HO_8.out) hb); have n3_ := Aside0.mk (Kd.R_below (mv HO279.out) hb); have n4_ := Aside0.mk (below_step (mvB HB.out) hb); clear HO_6 HO_7 HO_8 HO279 HB; revert n0_ n1_ n2_ n3_ n4_; intro HO_6 HO_7 HO_8 HO279 HB; (try clear hb)) | (go_at_call 11; (with_reducible refine (impl_CountReached.calls k1 _ _ x7_1 _ _ t257 t282 t283 _ ?side1 ?side2 ?side3 ?side4 A31.out).mono ?_); (case side1 => exact mvC (Kd.R_reads' HO_7.out).2.2); (case side2 => exact (Kd.R_reads' HO_7.out).2.1); (case side3 => exact mvC (Kd.R_reads' HO_6.out).2.2); (case side4 => exact (Kd.R_reads' HO_6.out).2.1); rintro e w40 ⟨rfl, hb⟩; have n0_ := Aside0.mk (Kd.R_below (mv HO_6.out) hb); have n1_ := Aside0.mk (Kd.R_below (mv HO_7.out) hb); have n2_ := Aside0.mk (Kd.R_below (mv HO_8.out) hb); have n3_ := Aside0.mk (Kd.R_below (mv HO279.out) hb); have n4_ := Aside0.mk (below_step (mvB HB.out) hb); clear HO_6 HO_7 HO_8 HO279 HB; revert n0_ n1_ n2_ n3_ n4_; intro HO_6 HO_7 HO_8 HO279 HB; (try clear hb)) | (go_at_call 12; (with_reducible refine (impl_BrokenRules.calls k1 _ _ x7_1 _ _ t257 t284 t285 _ ?side1 ?side2 ?side3 ?side4 A32.out).mono ?_); (case side1 => exact mvC (Kd.R_reads' HO_7.out).2.2); (case side2 => exact (Kd.R_reads' HO_7.out).2.1); (case side3 => exact mvC (Kd.R_reads' HO_6.out).2.2); (case side4 => exact (Kd.R_reads' HO_6.out).2.1); rintro e w41 ⟨v286, rfl, ho0, hb⟩; have n0_ := Aside0.mk (Kd.R_below (mv HO_6.out) hb); have n1_ := Aside0.mk (Kd.R_below (mv HO_7.out) hb); have n2_ := Aside0.mk (Kd.R_below (mv HO_8.out) hb); have n3_ := Aside0.mk (Kd.R_elder' (mv HO279.out) (Kd.R_base ho0) hb); have n4_ := Aside0.mk (Kd.R_lower (Kd.R_new' ho0 (Kd.R_lt (mv HO279.out))) (below_size (mvB HB.out))); have n5_ := Aside0.mk (below_step (mvB HB.out) hb); clear HO_6 HO_7 HO_8 HO279 HB; revert n0_ n1_ n2_ n3_ n4_ n5_; intro HO_6 HO_7 HO_8 HO279 HO287 HB; (try clear hb); (try clear ho0)) | (go_at_call 13; (with_reducible refine (impl_NextOrders.calls k1 _ _ x7_1 _ _ t257 t288 t289 _ ?side1 ?side2 ?side3 ?side4 A33.out).mono ?_); (case side1 => exact mvC (Kd.R_reads' HO_7.out).2.2); (case side2 => exact (Kd.R_reads' HO_7.out).2.1); (case side3 => exact mvC (Kd.R_reads' HO_6.out).2.2); (case side4 => exact (Kd.R_reads' HO_6.out).2.1); rintro e w42 ⟨v290, rfl, ho0, hb⟩; have n0_ := Aside0.mk (Kd.R_below (mv HO_6.out) hb); have n1_ := Aside0.mk (Kd.R_below (mv HO_7.out) hb); have n2_ := Aside0.mk (Kd.R_below (mv HO_8.out) hb); have n3_ := Aside0.mk (Kd.R_elder' (mv HO279.out) (Kd.R_base ho0) hb); have n4_ := Aside0.mk (Kd.R_elder' (mv HO287.out) (Kd.R_base ho0) hb); have n5_ := Aside0.mk (Kd.R_lower (Kd.R_new' (Kd.R_new' ho0 (Kd.R_lt (mv HO279.out))) (Kd.R_lt (mv HO287.out))) (below_size (mvB HB.out))); have n6_ := Aside0.mk (below_step (mvB HB.out) hb); clear HO_6 HO_7 HO_8 HO279 HO287 HB; revert n0_ n1_ n2_ n3_ n4_ n5_ n6_; intro HO_6 HO_7 HO_8 HO279 HO287 HO291 HB; (try clear hb); (try clear ho0)))
     repeat (go_quiet (first | (go_at_call 9; (with_reducible refine (impl_ShortestOrders.calls k1 _ _ x7_1 _ _ x8_1 _ _ t257 t276 t277 _ ?side1 ?side2 ?side3 ?side4 ?side5 ?side6 A29.out).mono ?_); (case side1 => exact mvC (Kd.R_reads' HO_7.out).2.2); (case side2 => exact (Kd.R_reads' HO_7.out).2.1); (case side3 => exact mvC (Kd.R_reads' HO_8.out).2.2); (case side4 => exact (Kd.R_reads' HO_8.out).2.1); (case side5 => exact mvC (Kd.R_reads' HO_6.out).2.2); (case side6 => exact (Kd.R_reads' HO_6.out).2.1); rintro e w38 ⟨v278, rfl, ho0, hb⟩; have n0_ := Aside0.mk (Kd.R_below (mv HO_6.out) hb); have n1_ := Aside0.mk (Kd.R_below (mv HO_7.out) hb); have n2_ := Aside0.mk (Kd.R_below (mv HO_8.out) hb); have n3_ := Aside0.mk (Kd.R_lower ho0 (below_size (mvB HB.out))); have n4_ := Aside0.mk (below_step (mvB HB.out) hb); clear HO_6 HO_7 HO_8 HB; revert n0_ n1_ n2_ n3_ n4_; intro HO_6 HO_7 HO_8 HO279 HB; (try clear hb); (try clear ho0)) | (go_at_call 10; (try simp only [Go.IntWalk.i64_left]); (with_reducible refine (impl_CountAllowed.calls k1 (wrap64 (2 + t256)) _ _ t257 t280 t281 _ ?side1 ?side2 A30.out).mono ?_); (case side1 => exact mvC (Kd.R_reads' HO_6.out).2.2); (case side2 => exact (Kd.R_reads' HO_6.out).2.1); rintro e w39 ⟨rfl, hb⟩; have n0_ := Aside0.mk (Kd.R_below (mv HO_6.out) hb); have n1_ := Aside0.mk (Kd.R_below (mv HO_7.out) hb); have n2_ := Aside0.mk (Kd.R_below (mv HO_8.out) hb); have n3_ := Aside0.mk (Kd.R_below (mv HO279.out) hb); have n4_ := Aside0.mk (below_step (mvB HB.out) hb); clear HO_6 HO_7 HO_8 HO279 HB; revert n0_ n1_ n2_ n3_ n4_; intro HO_6 HO_7 HO_8 HO279 HB; (try clear hb)) | (go_at_call 11; (with_reducible refine (impl_CountReached.calls k1 _ _ x7_1 _ _ t257 t282 t283 _ ?side1 ?side2 ?side3 ?side4 A31.out).mono ?_); (case side1 => exact mvC (Kd.R_reads' HO_7.out).2.2); (case side2 => exact (Kd.R_reads' HO_7.out).2.1); (case side3 => exact mvC (Kd.R_reads' HO_6.out).2.2); (case side4 => exact (Kd.R_reads' HO_6.out).2.1); rintro e w40 ⟨rfl, hb⟩; have n0_ := Aside0.mk (Kd.R_below (mv HO_6.out) hb); have n1_ := Aside0.mk (Kd.R_below (mv HO_7.out) hb); have n2_ := Aside0.mk (Kd.R_below (mv HO_8.out) hb); have n3_ := Aside0.mk (Kd.R_below (mv HO279.out) hb); have n4_ := Aside0.mk (below_step (mvB HB.out) hb); clear HO_6 HO_7 HO_8 HO279 HB; revert n0_ n1_ n2_ n3_ n4_; intro HO_6 HO_7 HO_8 HO279 HB; (try clear hb)) | (go_at_call 12; (with_reducible refine (impl_BrokenRules.calls k1 _ _ x7_1 _ _ t257 t284 t285 _ ?side1 ?side2 ?side3 ?side4 A32.out).mono ?_); (case side1 => exact mvC (Kd.R_reads' HO_7.out).2.2); (case side2 => exact (Kd.R_reads' HO_7.out).2.1); (case side3 => exact mvC (Kd.R_reads' HO_6.out).2.2); (case side4 => exact (Kd.R_reads' HO_6.out).2.1); rintro e w41 ⟨v286, rfl, ho0, hb⟩; have n0_ := Aside0.mk (Kd.R_below (mv HO_6.out) hb); have n1_ := Aside0.mk (Kd.R_below (mv HO_7.out) hb); have n2_ := Aside0.mk (Kd.R_below (mv HO_8.out) hb); have n3_ := Aside0.mk (Kd.R_elder' (mv HO279.out) (Kd.R_base ho0) hb); have n4_ := Aside0.mk (Kd.R_lower (Kd.R_new' ho0 (Kd.R_lt (mv HO279.out))) (below_size (mvB HB.out))); have n5_ := Aside0.mk (below_step (mvB HB.out) hb); clear HO_6 HO_7 HO_8 HO279 HB; revert n0_ n1_ n2_ n3_ n4_ n5_; intro HO_6 HO_7 HO_8 HO279 HO287 HB; (try clear hb); (try clear ho0)) | (go_at_call 13; (with_reducible refine (impl_NextOrders.calls k1 _ _ x7_1 _ _ t257 t288 t289 _ ?side1 ?side2 ?side3 ?side4 A33.out).mono ?_); (case side1 => exact mvC (Kd.R_reads' HO_7.out).2.2); (case side2 => exact (Kd.R_reads' HO_7.out).2.1); (case side3 => exact mvC (Kd.R_reads' HO_6.out).2.2); (case side4 => exact (Kd.R_reads' HO_6.out).2.1); rintro e w42 ⟨v290, rfl, ho0, hb⟩; have n0_ := Aside0.mk (Kd.R_below (mv HO_6.out) hb); have n1_ := Aside0.mk (Kd.R_below (mv HO_7.out) hb); have n2_ := Aside0.mk (Kd.R_below (mv HO_8.out) hb); have n3_ := Aside0.mk (Kd.R_elder' (mv HO279.out) (Kd.R_base ho0) hb); have n4_ := Aside0.mk (Kd.R_elder' (mv HO287.out) (Kd.R_base ho0) hb); have n5_ := Aside0.mk (Kd.R_lower (Kd.R_new' (Kd.R_new' ho0 (Kd.R_lt (mv HO279.out))) (Kd.R_lt (mv HO287.out))) (below_size (mvB HB.out))); have n6_ := Aside0.mk (below_step (mvB HB.out) hb); clear HO_6 HO_7 HO_8 HO279 HO287 HB; revert n0_ n1_ n2_ n3_ n4_ n5_ n6_; intro HO_6 HO_7 HO_8 HO279 HO287 HO291 HB; (try clear hb); (try clear ho0))); go_upto_region 20 with (first | (go_at_call 9; (with_reducible refine (impl_ShortestOrders.calls k1 _ _ x7_1 _ _ x8_1 _ _ t257 t276 t277 _ ?side1 ?side2 ?side3 ?side4 ?side5 ?side6 A29.out).mono ?_); (case side1 => exact mvC (Kd.R_reads' HO_7.out).2.2); (case side2 => exact (Kd.R_reads' HO_7.out).2.1); (case side3 => exact mvC (Kd.R_reads' HO_8.out).2.2); (case side4 => exact (Kd.R_reads' HO_8.out).2.1); (case side5 => exact mvC (Kd.R_reads' HO_6.out).2.2); (case side6 => exact (Kd.R_reads' HO_6.out).2.1); rintro e w38 ⟨v278, rfl, ho0, hb⟩; have n0_ := Aside0.mk (Kd.R_below (mv HO_6.out) hb); have n1_ := Aside0.mk (Kd.R_below (mv HO_7.out) hb); have n2_ := Aside0.mk (Kd.R_below (mv HO_8.out) hb); have n3_ := Aside0.mk (Kd.R_lower ho0 (below_size (mvB HB.out))); have n4_ := Aside0.mk (below_step (mvB HB.out) hb); clear HO_6 HO_7 HO_8 HB; revert n0_ n1_ n2_ n3_ n4_; intro HO_6 HO_7 HO_8 HO279 HB; (try clear hb); (try clear ho0)) | (go_at_call 10; (try simp only [Go.IntWalk.i64_left]); (with_reducible refine (impl_CountAllowed.calls k1 (wrap64 (2 + t256)) _ _ t257 t280 t281 _ ?side1 ?side2 A30.out).mono ?_); (case side1 => exact mvC (Kd.R_reads' HO_6.out).2.2); (case side2 => exact (Kd.R_reads' HO_6.out).2.1); rintro e w39 ⟨rfl, hb⟩; have n0_ := Aside0.mk (Kd.R_below (mv HO_6.out) hb); have n1_ := Aside0.mk (Kd.R_below (mv HO_7.out) hb); have n2_ := Aside0.mk (Kd.R_below (mv HO_8.out) hb); have n3_ := Aside0.mk (Kd.R_below (mv HO279.out) hb); have n4_ := Aside0.mk (below_step (mvB HB.out) hb); clear HO_6 HO_7 HO_8 HO279 HB; revert n0_ n1_ n2_ n3_ n4_; intro HO_6 HO_7 HO_8 HO279 HB; (try clear hb)) | (go_at_call 11; (with_reducible refine (impl_CountReached.calls k1 _ _ x7_1 _ _ t257 t282 t283 _ ?side1 ?side2 ?side3 ?side4 A31.out).mono ?_); (case side1 => exact mvC (Kd.R_reads' HO_7.out).2.2); (case side2 => exact (Kd.R_reads' HO_7.out).2.1); (case side3 => exact mvC (Kd.R_reads' HO_6.out).2.2); (case side4 => exact (Kd.R_reads' HO_6.out).2.1); rintro e w40 ⟨rfl, hb⟩; have n0_ := Aside0.mk (Kd.R_below (mv HO_6.out) hb); have n1_ := Aside0.mk (Kd.R_below (mv HO_7.out) hb); have n2_ := Aside0.mk (Kd.R_below (mv HO_8.out) hb); have n3_ := Aside0.mk (Kd.R_below (mv HO279.out) hb); have n4_ := Aside0.mk (below_step (mvB HB.out) hb); clear HO_6 HO_7 HO_8 HO279 HB; revert n0_ n1_ n2_ n3_ n4_; intro HO_6 HO_7 HO_8 HO279 HB; (try clear hb)) | (go_at_call 12; (with_reducible refine (impl_BrokenRules.calls k1 _ _ x7_1 _ _ t257 t284 t285 _ ?side1 ?side2 ?side3 ?side4 A32.out).mono ?_); (case side1 => exact mvC (Kd.R_reads' HO_7.out).2.2); (case side2 => exact (Kd.R_reads' HO_7.out).2.1); (case side3 => exact mvC (Kd.R_reads' HO_6.out).2.2); (case side4 => exact (Kd.R_reads' HO_6.out).2.1); rintro e w41 ⟨v286, rfl, ho0, hb⟩; have n0_ := Aside0.mk (Kd.R_below (mv HO_6.out) hb); have n1_ := Aside0.mk (Kd.R_below (mv HO_7.out) hb); have n2_ := Aside0.mk (Kd.R_below (mv HO_8.out) hb); have n3_ := Aside0.mk (Kd.R_elder' (mv HO279.out) (Kd.R_base ho0) hb); have n4_ := Aside0.mk (Kd.R_lower (Kd.R_new' ho0 (Kd.R_lt (mv HO279.out))) (below_size (mvB HB.out))); have n5_ := Aside0.mk (below_step (mvB HB.out) hb); clear HO_6 HO_7 HO_8 HO279 HB; revert n0_ n1_ n2_ n3_ n4_ n5_; intro HO_6 HO_7 HO_8 HO279 HO287 HB; (try clear hb); (try clear ho0)) | (go_at_call 13; (with_reducible refine (impl_NextOrders.calls k1 _ _ x7_1 _ _ t257 t288 t289 _ ?side1 ?side2 ?side3 ?side4 A33.out).mono ?_); (case side1 => exact mvC (Kd.R_reads' HO_7.out).2.2); (case side2 => exact (Kd.R_reads' HO_7.out).2.1); (case side3 => exact mvC (Kd.R_reads' HO_6.out).2.2); (case side4 => exact (Kd.R_reads' HO_6.out).2.1); rintro e w42 ⟨v290, rfl, ho0, hb⟩; have n0_ := Aside0.mk (Kd.R_below (mv HO_6.out) hb); have n1_ := Aside0.mk (Kd.R_below (mv HO_7.out) hb); have n2_ := Aside0.mk (Kd.R_below (mv HO_8.out) hb); have n3_ := Aside0.mk (Kd.R_elder' (mv HO279.out) (Kd.R_base ho0) hb); have n4_ := Aside0.mk (Kd.R_elder' (mv HO287.out) (Kd.R_base ho0) hb); have n5_ := Aside0.mk (Kd.R_lower (Kd.R_new' (Kd.R_new' ho0 (Kd.R_lt (mv HO279.out))) (Kd.R_lt (mv HO287.out))) (below_size (mvB HB.out))); have n6_ := Aside0.mk (below_step (mvB HB.out) hb); clear HO_6 HO_7 HO_8 HO279 HO287 HB; revert n0_ n1_ n2_ n3_ n4_ n5_ n6_; intro HO_6 HO_7 HO_8 HO279 HO287 HO291 HB; (try clear hb); (try clear ho0))))
     (try simp only [Act.put, List.setIfInBounds_toArray, List.set_cons_zero, List.set_cons_succ])
     go_cut [165] (fun v165 wc => ∃ (kq : Nat) (x165_33 : Bool), v165 = .bool x165_33 ∧ Aside0 (laws_FnSwitching.j1 kq t257 x7_1 x8_1 x9_1 t276 t277 t284 t288 x165_33 = some r) ∧ Aside0 (kq ≤ k1) ∧ Aside0 (Kd.R k51 51 wc w.heap.size (fun _ => True) (.slice Ao37 t257.length co37) t257) ∧ Aside0 (Kd.R Kd.bool 4 wc w.heap.size (fun k_ => some k_ ≠ ((.slice Ao36 x8_1.length co36) : Value).ownBlock) (.slice Ao35 x7_1.length co35) x7_1) ∧ Aside0 (Kd.R Kd.bool 4 wc w.heap.size (fun k_ => some k_ ≠ ((.slice Ao35 x7_1.length co35) : Value).ownBlock) (.slice Ao36 x8_1.length co36) x8_1) ∧ Aside0 (Kd.R (Kd.int .i64) 2 wc w.heap.size (fun k_ => some k_ ≠ (v286 : Value).ownBlock ∧ some k_ ≠ (v290 : Value).ownBlock) v278 t276) ∧ Aside0 (Kd.R (Kd.int .i64) 2 wc w.heap.size (fun k_ => some k_ ≠ (v278 : Value).ownBlock ∧ some k_ ≠ (v290 : Value).ownBlock) v286 t284) ∧ Aside0 (Kd.R (Kd.int .i64) 2 wc w.heap.size (fun k_ => some k_ ≠ (v278 : Value).ownBlock ∧ some k_ ≠ (v286 : Value).ownBlock) v290 t288) ∧ Aside0 (Below w.heap.size w wc))
     case first =>
      have H := HC34.out
      clear HC34
      by_cases c43 : t277 = 0
      ·
       rw [if_pos c43] at H
       have c43b0 : (t277 == 0) = true := beq_iff_eq.mpr c43
       have c43b1 : (t277 != 0) = false := bne_eq_false_iff_eq.mpr c43
       clear c43
       (first | rw [c43b0] | (simp only [i64_w, i32_w]; rw [c43b0]) | skip)
       by_cases c44 : t281 = 0
       ·
        rw [if_pos c44] at H
        have c44b0 : (t281 == 0) = true := beq_iff_eq.mpr c44
        have c44b1 : (t281 != 0) = false := bne_eq_false_iff_eq.mpr c44
        clear c44
        by_cases c45 : t280 < 0
        ·
         rw [if_pos c45] at H
         have c45b0 : decide (t280 < 0) = true := decide_eq_true c45
         clear c45
         exact (laws_FnSwitching.no_j1 hr_ _ _ _ _ _ _ _ _ _ H).elim
        ·
         rw [if_neg c45] at H
         have c45b0 : decide (t280 < 0) = false := decide_eq_false c45
         clear c45
         by_cases c46 : t283 = 0
         ·
          rw [if_pos c46] at H
          have c46b0 : (t283 == 0) = true := beq_iff_eq.mpr c46
          have c46b1 : (t283 != 0) = false := bne_eq_false_iff_eq.mpr c46
          clear c46
          by_cases c47 : t282 < 1
          ·
           rw [if_pos c47] at H
           have c47b0 : decide (t282 < 1) = true := decide_eq_true c47
           clear c47
           exact (laws_FnSwitching.no_j1 hr_ _ _ _ _ _ _ _ _ _ H).elim
          ·
           rw [if_neg c47] at H
           have c47b0 : decide (t282 < 1) = false := decide_eq_false c47
           clear c47
           by_cases c48 : t282 > (wrap64 (t280 + 1))
           ·
            rw [if_pos c48] at H
            have c48b0 : decide ((wrap64 (t280 + 1)) < t282) = true := decide_eq_true c48
            clear c48
            exact (laws_FnSwitching.no_j1 hr_ _ _ _ _ _ _ _ _ _ H).elim
           ·
            rw [if_neg c48] at H
            have c48b0 : decide ((wrap64 (t280 + 1)) < t282) = false := decide_eq_false c48
            clear c48
            by_cases c49 : t285 = 0
            ·
             rw [if_pos c49] at H
             have c49b0 : (t285 == 0) = true := beq_iff_eq.mpr c49
             have c49b1 : (t285 != 0) = false := bne_eq_false_iff_eq.mpr c49
             clear c49
             by_cases c50 : (t284.length : Int) = 0
             ·
              rw [if_pos c50] at H
              have c50b0 : ((t284.length : Int) == 0) = true := beq_iff_eq.mpr c50
              have c50b1 : ((t284.length : Int) != 0) = false := bne_eq_false_iff_eq.mpr c50
              clear c50
              by_cases c51 : t282 > t280
              ·
               rw [if_pos c51] at H
               have c51b0 : decide (t280 < t282) = true := decide_eq_true c51
               clear c51
               exact (laws_FnSwitching.no_j1 hr_ _ _ _ _ _ _ _ _ _ H).elim
              ·
               rw [if_neg c51] at H
               have c51b0 : decide (t280 < t282) = false := decide_eq_false c51
               clear c51
               by_cases c53 : t289 = 0
               ·
                rw [if_pos c53] at H
                have c53b0 : (t289 == 0) = true := beq_iff_eq.mpr c53
                have c53b1 : (t289 != 0) = false := bne_eq_false_iff_eq.mpr c53
                clear c53
                by_cases c54 : (t288.length : Int) > (wrap64 (2 + t256))
                ·
                 rw [if_pos c54] at H
                 have c54b0 : decide ((wrap64 (2 + t256)) < (t288.length : Int)) = true := decide_eq_true c54
                 clear c54
                 exact (laws_FnSwitching.no_j1 hr_ _ _ _ _ _ _ _ _ _ H).elim
                ·
                 rw [if_neg c54] at H
                 have c54b0 : decide ((wrap64 (2 + t256)) < (t288.length : Int)) = false := decide_eq_false c54
                 clear c54
                 have H' := Aside0.mk H
                 clear H
                 obtain ⟨Ao57, co57, eo57⟩ := Kd.R_slice HO287.out
                 subst eo57
                 obtain ⟨Ao58, co58, eo58⟩ := Kd.R_slice HO291.out
                 subst eo58
                 go_wp2
                 repeat (go_quiet (fail); try go_wp2)
                 go_meet
                 case rel => exact ⟨_, (decide ((wrap64 (t282 - 1)) < (t288.length : Int))), rs, H', ⟨by have := HK1.out; first | omega | exact Nat.le_refl _⟩, ⟨mv HO_6.out⟩, ⟨mv HO_7.out⟩, ⟨mv HO_8.out⟩, ⟨by (with_reducible repeat (first | apply Kd.R_alloc | apply Kd.R_drewN | apply Kd.R_drew)); exact Kd.R_mono HO279.out (fun _ hk => ⟨hk.1.2, hk.2⟩)⟩, ⟨by (with_reducible repeat (first | apply Kd.R_alloc | apply Kd.R_drewN | apply Kd.R_drew)); exact Kd.R_mono HO287.out (fun _ hk => ⟨hk.1.2, hk.2⟩)⟩, ⟨by (with_reducible repeat (first | apply Kd.R_alloc | apply Kd.R_drewN | apply Kd.R_drew)); exact Kd.R_mono HO291.out (fun _ hk => ⟨hk.1.2, hk.2⟩)⟩, ⟨mvB HB.out⟩⟩
               ·
                rw [if_neg c53] at H
                have c53b0 : (t289 == 0) = false := beq_eq_false_iff_ne.mpr c53
                have c53b1 : (t289 != 0) = true := bne_iff_ne.mpr c53
                exact (laws_FnSwitching.no_j1 hr_ _ _ _ _ _ _ _ _ _ H).elim
             ·
              rw [if_neg c50] at H
              have c50b0 : ((t284.length : Int) == 0) = false := beq_eq_false_iff_ne.mpr c50
              have c50b1 : ((t284.length : Int) != 0) = true := bne_iff_ne.mpr c50
              have c50b2 : ¬ (t284 = []) := fun h_ => c50 (by rw [h_]; rfl)
              by_cases c60 : t289 = 0
              ·
               rw [if_pos c60] at H
               have c60b0 : (t289 == 0) = true := beq_iff_eq.mpr c60
               have c60b1 : (t289 != 0) = false := bne_eq_false_iff_eq.mpr c60
               clear c60
               by_cases c61 : (t288.length : Int) > (wrap64 (2 + t256))
               ·
                rw [if_pos c61] at H
                have c61b0 : decide ((wrap64 (2 + t256)) < (t288.length : Int)) = true := decide_eq_true c61
                clear c61
                exact (laws_FnSwitching.no_j1 hr_ _ _ _ _ _ _ _ _ _ H).elim
               ·
                rw [if_neg c61] at H
                have c61b0 : decide ((wrap64 (2 + t256)) < (t288.length : Int)) = false := decide_eq_false c61
                clear c61
                have H' := Aside0.mk H
                clear H
                obtain ⟨Ao64, co64, eo64⟩ := Kd.R_slice HO287.out
                subst eo64
                obtain ⟨Ao65, co65, eo65⟩ := Kd.R_slice HO291.out
                subst eo65
                go_wp2
                repeat (go_quiet (fail); try go_wp2)
                go_meet
                case rel => exact ⟨_, (decide ((wrap64 (t282 - 1)) < (t288.length : Int))), rs, H', ⟨by have := HK1.out; first | omega | exact Nat.le_refl _⟩, ⟨mv HO_6.out⟩, ⟨mv HO_7.out⟩, ⟨mv HO_8.out⟩, ⟨by (with_reducible repeat (first | apply Kd.R_alloc | apply Kd.R_drewN | apply Kd.R_drew)); exact Kd.R_mono HO279.out (fun _ hk => ⟨hk.1.2, hk.2⟩)⟩, ⟨by (with_reducible repeat (first | apply Kd.R_alloc | apply Kd.R_drewN | apply Kd.R_drew)); exact Kd.R_mono HO287.out (fun _ hk => ⟨hk.1.2, hk.2⟩)⟩, ⟨by (with_reducible repeat (first | apply Kd.R_alloc | apply Kd.R_drewN | apply Kd.R_drew)); exact Kd.R_mono HO291.out (fun _ hk => ⟨hk.1.2, hk.2⟩)⟩, ⟨mvB HB.out⟩⟩
              ·
               rw [if_neg c60] at H
               have c60b0 : (t289 == 0) = false := beq_eq_false_iff_ne.mpr c60
               have c60b1 : (t289 != 0) = true := bne_iff_ne.mpr c60
               exact (laws_FnSwitching.no_j1 hr_ _ _ _ _ _ _ _ _ _ H).elim
            ·
             rw [if_neg c49] at H
             have c49b0 : (t285 == 0) = false := beq_eq_false_iff_ne.mpr c49
             have c49b1 : (t285 != 0) = true := bne_iff_ne.mpr c49
             exact (laws_FnSwitching.no_j1 hr_ _ _ _ _ _ _ _ _ _ H).elim
         ·
          rw [if_neg c46] at H
          have c46b0 : (t283 == 0) = false := beq_eq_false_iff_ne.mpr c46
          have c46b1 : (t283 != 0) = true := bne_iff_ne.mpr c46
          exact (laws_FnSwitching.no_j1 hr_ _ _ _ _ _ _ _ _ _ H).elim
       ·
        rw [if_neg c44] at H
        have c44b0 : (t281 == 0) = false := beq_eq_false_iff_ne.mpr c44
        have c44b1 : (t281 != 0) = true := bne_iff_ne.mpr c44
        exact (laws_FnSwitching.no_j1 hr_ _ _ _ _ _ _ _ _ _ H).elim
      ·
       rw [if_neg c43] at H
       have c43b0 : (t277 == 0) = false := beq_eq_false_iff_ne.mpr c43
       have c43b1 : (t277 != 0) = true := bne_iff_ne.mpr c43
       (first | rw [c43b0] | (simp only [i64_w, i32_w]; rw [c43b0]) | skip)
       by_cases c67 : t277 = 3
       ·
        rw [if_pos c67] at H
        have c67b0 : (t277 == 3) = true := beq_iff_eq.mpr c67
        have c67b1 : (t277 != 3) = false := bne_eq_false_iff_eq.mpr c67
        clear c67
        by_cases c68 : t281 = 0
        ·
         rw [if_pos c68] at H
         have c68b0 : (t281 == 0) = true := beq_iff_eq.mpr c68
         have c68b1 : (t281 != 0) = false := bne_eq_false_iff_eq.mpr c68
         clear c68
         by_cases c69 : t280 < 0
         ·
          rw [if_pos c69] at H
          have c69b0 : decide (t280 < 0) = true := decide_eq_true c69
          clear c69
          exact (laws_FnSwitching.no_j1 hr_ _ _ _ _ _ _ _ _ _ H).elim
         ·
          rw [if_neg c69] at H
          have c69b0 : decide (t280 < 0) = false := decide_eq_false c69
          clear c69
          by_cases c70 : t283 = 0
          ·
           rw [if_pos c70] at H
           have c70b0 : (t283 == 0) = true := beq_iff_eq.mpr c70
           have c70b1 : (t283 != 0) = false := bne_eq_false_iff_eq.mpr c70
           clear c70
           by_cases c71 : t282 < 1
           ·
            rw [if_pos c71] at H
            have c71b0 : decide (t282 < 1) = true := decide_eq_true c71
            clear c71
            exact (laws_FnSwitching.no_j1 hr_ _ _ _ _ _ _ _ _ _ H).elim
           ·
            rw [if_neg c71] at H
            have c71b0 : decide (t282 < 1) = false := decide_eq_false c71
            clear c71
            by_cases c72 : t282 > (wrap64 (t280 + 1))
            ·
             rw [if_pos c72] at H
             have c72b0 : decide ((wrap64 (t280 + 1)) < t282) = true := decide_eq_true c72
             clear c72
             exact (laws_FnSwitching.no_j1 hr_ _ _ _ _ _ _ _ _ _ H).elim
            ·
             rw [if_neg c72] at H
             have c72b0 : decide ((wrap64 (t280 + 1)) < t282) = false := decide_eq_false c72
             clear c72
             by_cases c73 : t285 = 0
             ·
              rw [if_pos c73] at H
              have c73b0 : (t285 == 0) = true := beq_iff_eq.mpr c73
              have c73b1 : (t285 != 0) = false := bne_eq_false_iff_eq.mpr c73
              clear c73
              by_cases c74 : (t284.length : Int) = 0
              ·
               rw [if_pos c74] at H
               have c74b0 : ((t284.length : Int) == 0) = true := beq_iff_eq.mpr c74
               have c74b1 : ((t284.length : Int) != 0) = false := bne_eq_false_iff_eq.mpr c74
               clear c74
               by_cases c75 : t282 > t280
               ·
                rw [if_pos c75] at H
                have c75b0 : decide (t280 < t282) = true := decide_eq_true c75
                clear c75
                exact (laws_FnSwitching.no_j1 hr_ _ _ _ _ _ _ _ _ _ H).elim
               ·
                rw [if_neg c75] at H
                have c75b0 : decide (t280 < t282) = false := decide_eq_false c75
                clear c75
                by_cases c77 : t289 = 0
                ·
                 rw [if_pos c77] at H
                 have c77b0 : (t289 == 0) = true := beq_iff_eq.mpr c77
                 have c77b1 : (t289 != 0) = false := bne_eq_false_iff_eq.mpr c77
                 clear c77
                 by_cases c78 : (t288.length : Int) > (wrap64 (2 + t256))
                 ·
                  rw [if_pos c78] at H
                  have c78b0 : decide ((wrap64 (2 + t256)) < (t288.length : Int)) = true := decide_eq_true c78
                  clear c78
                  exact (laws_FnSwitching.no_j1 hr_ _ _ _ _ _ _ _ _ _ H).elim
                 ·
                  rw [if_neg c78] at H
                  have c78b0 : decide ((wrap64 (2 + t256)) < (t288.length : Int)) = false := decide_eq_false c78
                  clear c78
                  have H' := Aside0.mk H
                  clear H
                  obtain ⟨Ao81, co81, eo81⟩ := Kd.R_slice HO287.out
                  subst eo81
                  obtain ⟨Ao82, co82, eo82⟩ := Kd.R_slice HO291.out
                  subst eo82
                  go_wp2
                  repeat (go_quiet (fail); try go_wp2)
                  go_meet
                  case rel => exact ⟨_, (decide ((wrap64 (t282 - 1)) < (t288.length : Int))), rs, H', ⟨by have := HK1.out; first | omega | exact Nat.le_refl _⟩, ⟨mv HO_6.out⟩, ⟨mv HO_7.out⟩, ⟨mv HO_8.out⟩, ⟨by (with_reducible repeat (first | apply Kd.R_alloc | apply Kd.R_drewN | apply Kd.R_drew)); exact Kd.R_mono HO279.out (fun _ hk => ⟨hk.1.2, hk.2⟩)⟩, ⟨by (with_reducible repeat (first | apply Kd.R_alloc | apply Kd.R_drewN | apply Kd.R_drew)); exact Kd.R_mono HO287.out (fun _ hk => ⟨hk.1.2, hk.2⟩)⟩, ⟨by (with_reducible repeat (first | apply Kd.R_alloc | apply Kd.R_drewN | apply Kd.R_drew)); exact Kd.R_mono HO291.out (fun _ hk => ⟨hk.1.2, hk.2⟩)⟩, ⟨mvB HB.out⟩⟩
                ·
                 rw [if_neg c77] at H
                 have c77b0 : (t289 == 0) = false := beq_eq_false_iff_ne.mpr c77
                 have c77b1 : (t289 != 0) = true := bne_iff_ne.mpr c77
                 exact (laws_FnSwitching.no_j1 hr_ _ _ _ _ _ _ _ _ _ H).elim
              ·
               rw [if_neg c74] at H
               have c74b0 : ((t284.length : Int) == 0) = false := beq_eq_false_iff_ne.mpr c74
               have c74b1 : ((t284.length : Int) != 0) = true := bne_iff_ne.mpr c74
               have c74b2 : ¬ (t284 = []) := fun h_ => c74 (by rw [h_]; rfl)
               by_cases c84 : t289 = 0
               ·
                rw [if_pos c84] at H
                have c84b0 : (t289 == 0) = true := beq_iff_eq.mpr c84
                have c84b1 : (t289 != 0) = false := bne_eq_false_iff_eq.mpr c84
                clear c84
                by_cases c85 : (t288.length : Int) > (wrap64 (2 + t256))
                ·
                 rw [if_pos c85] at H
                 have c85b0 : decide ((wrap64 (2 + t256)) < (t288.length : Int)) = true := decide_eq_true c85
                 clear c85
                 exact (laws_FnSwitching.no_j1 hr_ _ _ _ _ _ _ _ _ _ H).elim
                ·
                 rw [if_neg c85] at H
                 have c85b0 : decide ((wrap64 (2 + t256)) < (t288.length : Int)) = false := decide_eq_false c85
                 clear c85
                 have H' := Aside0.mk H
                 clear H
                 obtain ⟨Ao88, co88, eo88⟩ := Kd.R_slice HO287.out
                 subst eo88
                 obtain ⟨Ao89, co89, eo89⟩ := Kd.R_slice HO291.out
                 subst eo89
                 go_wp2
                 repeat (go_quiet (fail); try go_wp2)
                 go_meet
                 case rel => exact ⟨_, (decide ((wrap64 (t282 - 1)) < (t288.length : Int))), rs, H', ⟨by have := HK1.out; first | omega | exact Nat.le_refl _⟩, ⟨mv HO_6.out⟩, ⟨mv HO_7.out⟩, ⟨mv HO_8.out⟩, ⟨by (with_reducible repeat (first | apply Kd.R_alloc | apply Kd.R_drewN | apply Kd.R_drew)); exact Kd.R_mono HO279.out (fun _ hk => ⟨hk.1.2, hk.2⟩)⟩, ⟨by (with_reducible repeat (first | apply Kd.R_alloc | apply Kd.R_drewN | apply Kd.R_drew)); exact Kd.R_mono HO287.out (fun _ hk => ⟨hk.1.2, hk.2⟩)⟩, ⟨by (with_reducible repeat (first | apply Kd.R_alloc | apply Kd.R_drewN | apply Kd.R_drew)); exact Kd.R_mono HO291.out (fun _ hk => ⟨hk.1.2, hk.2⟩)⟩, ⟨mvB HB.out⟩⟩
               ·
                rw [if_neg c84] at H
                have c84b0 : (t289 == 0) = false := beq_eq_false_iff_ne.mpr c84
                have c84b1 : (t289 != 0) = true := bne_iff_ne.mpr c84
                exact (laws_FnSwitching.no_j1 hr_ _ _ _ _ _ _ _ _ _ H).elim
             ·
              rw [if_neg c73] at H
              have c73b0 : (t285 == 0) = false := beq_eq_false_iff_ne.mpr c73
              have c73b1 : (t285 != 0) = true := bne_iff_ne.mpr c73
              exact (laws_FnSwitching.no_j1 hr_ _ _ _ _ _ _ _ _ _ H).elim
          ·
           rw [if_neg c70] at H
           have c70b0 : (t283 == 0) = false := beq_eq_false_iff_ne.mpr c70
           have c70b1 : (t283 != 0) = true := bne_iff_ne.mpr c70
           exact (laws_FnSwitching.no_j1 hr_ _ _ _ _ _ _ _ _ _ H).elim
        ·
         rw [if_neg c68] at H
         have c68b0 : (t281 == 0) = false := beq_eq_false_iff_ne.mpr c68
         have c68b1 : (t281 != 0) = true := bne_iff_ne.mpr c68
         exact (laws_FnSwitching.no_j1 hr_ _ _ _ _ _ _ _ _ _ H).elim
       ·
        rw [if_neg c67] at H
        have c67b0 : (t277 == 3) = false := beq_eq_false_iff_ne.mpr c67
        have c67b1 : (t277 != 3) = true := bne_iff_ne.mpr c67
        exact (laws_FnSwitching.no_j1 hr_ _ _ _ _ _ _ _ _ _ H).elim
     case rest =>
      exact laws_FnSwitching.p1 hr_ HT_ HR0 HC0 HR1 HC1 A3 A5 A6 Ny260 Ny263 HO262 HO265 HK1 c12b0 A29 A30 A31 A32 A33 HC34 HO259 HO_6 HO_7 HO_8 HO279 HO287 HO291 HB (by assumption) (by assumption) hcut
end Go.Proofs.YtffodlggihmonaaDoor.PFnSwitching
