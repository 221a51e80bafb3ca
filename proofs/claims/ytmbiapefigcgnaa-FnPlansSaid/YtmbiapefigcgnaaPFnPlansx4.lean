-- written by a program of this session (mkp.py) out of the translation; Lean checks it. -- squeezed
import Derived.Shelf.Abstract
import Derived.Deep.RegionLaw
import Derived.Deep.RegionHeld3
import Derived.Test.YtmbiapefigcgnaaPFnPlansx0
import Derived.Test.YtmbiapefigcgnaaPFnPlansx1
import Derived.Test.YtmbiapefigcgnaaPFnPlansx3
namespace Go.Proofs.Ytmbiapefigcgnaa.PFnPlans
open Go.RowKit Go.Proofs.YtmbiapefigcgnaaW.PrintWords Go.Proofs.YtmbiapefigcgnaaW.PrintLast Go.Proofs.YtmbiapefigcgnaaW.PrintMore
attribute [local go_sem] bin_leq bin_gtr bin_geq max2_int min2_int max_two min_two max_three min_three max_four min_four   -- for this text's walks alone
set_option linter.unusedVariables false
set_option linter.unusedSimpArgs false

/-! ### spec_DrawBestPlan: function 10 -/
def spec_DrawBestPlan.f (k : Nat) (l0 : List Int) : Option ((List (S34)) × Int × Int × Int) := (spec_l00From.f l0).bind fun bt231 => ((spec_l24Draw.f k bt231.1 bt231.2.1 bt231.2.2).bind fun bt235 => ((spec_l24DrawYearly.f bt231.1 bt235.2.1 bt235.2.2).bind fun bt240 => ((spec_l00Src_among.f bt231.1 bt240.2.1 bt240.2.2 (([1, 3, 5, 10, 11, 0, 6] : List Int))).bind fun bt246 => ((spec_l00Src_among.f bt231.1 bt246.2.1 bt246.2.2 (([1, 20, 200, 1000, 2000, 0, 20001] : List Int))).bind fun bt252 => (some (bt235.1, bt240.1, bt246.1, bt252.1))))))
theorem spec_DrawBestPlan.mono : ∀ a0 k, LeO (spec_DrawBestPlan.f k a0) (spec_DrawBestPlan.f (k + 1) a0) := by
 intro a0 k
 unfold spec_DrawBestPlan.f
 repeat' first
  | (with_reducible exact spec_l24Draw.mono _ _ _ _)
  | (with_reducible exact LeO.refl _)
  | (with_reducible exact LeO.none _)
  | (with_reducible refine LeO.ite ?_ ?_)
  | (with_reducible refine LeO.bind ?_ (fun _ => ?_))
  | exact spec_l24Draw.mono _ _ _ _
  | exact LeO.none _
  | refine LeO.ite ?_ ?_
  | refine LeO.bind ?_ (fun _ => ?_)
set_option maxHeartbeats 8000000 in
set_option maxRecDepth 100000 in
theorem spec_DrawBestPlan.calls (k : Nat) (A0 : Option Addr) (c0 : Nat) (l0 : List Int) (r1 : List (S34)) (r2 : Int) (r3 : Int) (r4 : Int) (w : World) (hr0 : Kd.C (Kd.int .u8) w A0 l0.length l0) (hc0 : l0.length ≤ c0) (h : spec_DrawBestPlan.f k l0 = some (r1, r2, r3, r4)) :
  Calls Try.prog 10 #[.slice A0 l0.length c0] w fun e w' => ∃ v0_ : Value, e = .returned (.tuple #[v0_, .int .i64 r2, .int .i64 r3, .int .i64 r4]) ∧ Kd.S k34 34 w' w.heap.size (fun _ => True) v0_ r1 ∧ Below w.heap.size w w' := by
 have HR0 := Aside0.mk hr0
 have HC0 := Aside0.mk hc0
 clear hr0 hc0
 have HB := Aside0.mk (Below.refl w.heap.size w)
 have H : ((spec_l00From.f l0).bind fun bt231 => ((spec_l24Draw.f k bt231.1 bt231.2.1 bt231.2.2).bind fun bt235 => ((spec_l24DrawYearly.f bt231.1 bt235.2.1 bt235.2.2).bind fun bt240 => ((spec_l00Src_among.f bt231.1 bt240.2.1 bt240.2.2 (([1, 3, 5, 10, 11, 0, 6] : List Int))).bind fun bt246 => ((spec_l00Src_among.f bt231.1 bt246.2.1 bt246.2.2 (([1, 20, 200, 1000, 2000, 0, 20001] : List Int))).bind fun bt252 => (some (bt235.1, bt240.1, bt246.1, bt252.1))))))) = some (r1, r2, r3, r4) := h
 clear h
 replace H := Option.bind_eq_some_iff.mp H
 obtain ⟨⟨t231, t232, t233⟩, A20, H⟩ := H
 replace H : ((spec_l24Draw.f k t231 t232 t233).bind fun bt235 => ((spec_l24DrawYearly.f t231 bt235.2.1 bt235.2.2).bind fun bt240 => ((spec_l00Src_among.f t231 bt240.2.1 bt240.2.2 (([1, 3, 5, 10, 11, 0, 6] : List Int))).bind fun bt246 => ((spec_l00Src_among.f t231 bt246.2.1 bt246.2.2 (([1, 20, 200, 1000, 2000, 0, 20001] : List Int))).bind fun bt252 => (some (bt235.1, bt240.1, bt246.1, bt252.1)))))) = some (r1, r2, r3, r4) := H
 have A2 := Aside0.mk A20
 clear A20
 replace H := Option.bind_eq_some_iff.mp H
 obtain ⟨⟨t235, t238, t239⟩, A30, H⟩ := H
 replace H : ((spec_l24DrawYearly.f t231 t238 t239).bind fun bt240 => ((spec_l00Src_among.f t231 bt240.2.1 bt240.2.2 (([1, 3, 5, 10, 11, 0, 6] : List Int))).bind fun bt246 => ((spec_l00Src_among.f t231 bt246.2.1 bt246.2.2 (([1, 20, 200, 1000, 2000, 0, 20001] : List Int))).bind fun bt252 => (some (t235, bt240.1, bt246.1, bt252.1))))) = some (r1, r2, r3, r4) := H
 have A3 := Aside0.mk A30
 clear A30
 replace H := Option.bind_eq_some_iff.mp H
 obtain ⟨⟨t240, t241, t242⟩, A40, H⟩ := H
 replace H : ((spec_l00Src_among.f t231 t241 t242 (([1, 3, 5, 10, 11, 0, 6] : List Int))).bind fun bt246 => ((spec_l00Src_among.f t231 bt246.2.1 bt246.2.2 (([1, 20, 200, 1000, 2000, 0, 20001] : List Int))).bind fun bt252 => (some (t235, t240, bt246.1, bt252.1)))) = some (r1, r2, r3, r4) := H
 have A4 := Aside0.mk A40
 clear A40
 obtain ⟨y243, hy243⟩ : ∃ y_ : List Int, y_ = (([1, 3, 5, 10, 11, 0, 6] : List Int)) := ⟨_, rfl⟩
 replace H : ((spec_l00Src_among.f t231 t241 t242 y243).bind fun bt246 => ((spec_l00Src_among.f t231 bt246.2.1 bt246.2.2 (([1, 20, 200, 1000, 2000, 0, 20001] : List Int))).bind fun bt252 => (some (t235, t240, bt246.1, bt252.1)))) = some (r1, r2, r3, r4) := by first | (rw [hy243]; with_reducible exact H) | (have H2_ := (Option.bind_some _ _).symm.trans H; rw [hy243]; with_reducible exact H2_) | (have H2_ := (Option.bind_some _ _).symm.trans H; with_reducible exact H2_) | with_reducible exact H | (rw [hy243]; exact H) | exact H
 have Ny243 := Aside0.mk hy243
 clear hy243
 replace H := Option.bind_eq_some_iff.mp H
 obtain ⟨⟨t246, t247, t248⟩, A50, H⟩ := H
 replace H : ((spec_l00Src_among.f t231 t247 t248 (([1, 20, 200, 1000, 2000, 0, 20001] : List Int))).bind fun bt252 => (some (t235, t240, t246, bt252.1))) = some (r1, r2, r3, r4) := H
 have A5 := Aside0.mk A50
 clear A50
 obtain ⟨y249, hy249⟩ : ∃ y_ : List Int, y_ = (([1, 20, 200, 1000, 2000, 0, 20001] : List Int)) := ⟨_, rfl⟩
 replace H : ((spec_l00Src_among.f t231 t247 t248 y249).bind fun bt252 => (some (t235, t240, t246, bt252.1))) = some (r1, r2, r3, r4) := by first | (rw [hy249]; with_reducible exact H) | (have H2_ := (Option.bind_some _ _).symm.trans H; rw [hy249]; with_reducible exact H2_) | (have H2_ := (Option.bind_some _ _).symm.trans H; with_reducible exact H2_) | with_reducible exact H | (rw [hy249]; exact H) | exact H
 have Ny249 := Aside0.mk hy249
 clear hy249
 replace H := Option.bind_eq_some_iff.mp H
 obtain ⟨⟨t252, t253, t254⟩, A60, H⟩ := H
 replace H : (some (t235, t240, t246, t252)) = some (r1, r2, r3, r4) := H
 have A6 := Aside0.mk A60
 clear A60
 simp only [Option.some.injEq, Prod.mk.injEq] at H
 obtain ⟨rfl, rfl, rfl, rfl⟩ := H
 go_enter Try.func10, Try.ntmps10
 go_wp2_with (first | ((with_reducible refine gate_callee (f := 37) rfl ?_); refine goesA_ (some 11) Try.func37 #[.slice A0 l0.length c0] ?_; (with_reducible refine (spec_l00From.calls _ _ l0 t231 t232 t233 w _ ?side1 ?side2 ?side3 A2.out).mono ?_); (case side1 => repeat (first | (with_reducible first | exact HB.out | apply below_alloc | apply pw_below_drewN | apply below_drew1) | exact HB.out)); (case side2 => exact HR0.out); (case side3 => exact HC0.out); rintro e w7 ⟨g234, rfl, hi, hb, hb2⟩; refine ⟨_, rfl, ?_⟩; have n0_ := Aside0.mk (hb); have n1_ := Aside0.mk (hi); clear HB; revert n0_ n1_; intro HB HI234; (try clear hb); (try clear hb2); (try clear hk); (try clear hi)) | ((with_reducible refine gate_callee (f := 38) rfl ?_); refine goesA_ (some 13) Try.func38 #[.pointer (some ⟨g234, 0, none⟩)] ?_; (with_reducible refine (spec_l24Draw.calls k g234 t231 t232 t233 t235 t238 t239 w _ ?side1 ?side2 A3.out).mono ?_); (case side1 => repeat (first | (with_reducible first | exact HI234.out | apply IsS103.alloc | apply IsS103.drewN | apply IsS103.drew | apply IsS103.set_1 | apply IsS103.set_2) | exact HI234.out)); (case side2 => repeat (first | (with_reducible first | exact HB.out | apply below_alloc | apply pw_below_drewN | apply below_drew1 | refine below_set ?_ (IsS103.ge HI234.out)) | exact HB.out)); rintro e w8 ⟨v236, rfl, ho0, hi, hb, hk⟩; refine ⟨_, rfl, ?_⟩; have n0_ := Aside0.mk (Kd.S_lower ho0 (below_size (by repeat (first | (with_reducible first | exact HB.out | apply below_alloc | apply pw_below_drewN | apply below_drew1 | refine below_set ?_ (IsS103.ge HI234.out)) | exact HB.out)))); have n1_ := Aside0.mk (hb); have n2_ := Aside0.mk (hi); clear HB HI234; revert n0_ n1_ n2_; intro HO237 HB HI234; (try clear hb); (try clear hb2); (try clear hk); (try clear hi); (try clear ho0)) | ((with_reducible refine gate_callee (f := 39) rfl ?_); refine goesA_ (some 15) Try.func39 #[.pointer (some ⟨g234, 0, none⟩)] ?_; (with_reducible refine (spec_l24DrawYearly.calls g234 t231 t238 t239 t240 t241 t242 w _ ?side1 ?side2 A4.out).mono ?_); (case side1 => repeat (first | (with_reducible first | exact HI234.out | apply IsS103.alloc | apply IsS103.drewN | apply IsS103.drew | apply IsS103.set_1 | apply IsS103.set_2) | exact HI234.out)); (case side2 => repeat (first | (with_reducible first | exact HB.out | apply below_alloc | apply pw_below_drewN | apply below_drew1 | refine below_set ?_ (IsS103.ge HI234.out)) | exact HB.out)); rintro e w9 ⟨rfl, hi, hb, hk⟩; refine ⟨_, rfl, ?_⟩; have n0_ := Aside0.mk (Kd.S_mono (Kd.S_keep (IsS103.apartS (show IsS103 w _ g234 t231 t238 t239 from by repeat (first | (with_reducible first | exact HI234.out | apply IsS103.alloc | apply IsS103.drewN | apply IsS103.drew | apply IsS103.set_1 | apply IsS103.set_2) | exact HI234.out)) (mv HO237.out) (by decide)) hk (fun _ h => h.2)) (fun _ h => h.1)); have n1_ := Aside0.mk (hb); have n2_ := Aside0.mk (hi); clear HO237 HB HI234; revert n0_ n1_ n2_; intro HO237 HB HI234; (try clear hb); (try clear hb2); (try clear hk); (try clear hi)) | ((with_reducible refine gate_dst (N := 17) rfl ?_); refine Kd.R_lit (Kd.int .i64) _ 2 ?hg (N := 17) ?hd (xs := ([1, 3, 5, 10, 11, 0, 6] : List Int)) (inner := [.int .i64 1, .int .i64 3, .int .i64 5, .int .i64 10, .int .i64 11, .int .i64 0, .int .i64 6]) (ok := fun _ => True) (okp := fun _ => True) ?hr ?hp (fun _ hk => hk) trivial (Below.refl _ _) (Nat.le_refl _) (by simp) ?_; (case hd => rfl); (case hg => rfl); (case hr => first | (go_simp; done) | (go_simp; rfl)); (case hp => exact (Reps.one (show Kd.M (Kd.int .i64) _ _ _ 1 [.int .i64 1] from rfl) (Reps.one (show Kd.M (Kd.int .i64) _ _ _ 3 [.int .i64 3] from rfl) (Reps.one (show Kd.M (Kd.int .i64) _ _ _ 5 [.int .i64 5] from rfl) (Reps.one (show Kd.M (Kd.int .i64) _ _ _ 10 [.int .i64 10] from rfl) (Reps.one (show Kd.M (Kd.int .i64) _ _ _ 11 [.int .i64 11] from rfl) (Reps.one (show Kd.M (Kd.int .i64) _ _ _ 0 [.int .i64 0] from rfl) (Reps.one (show Kd.M (Kd.int .i64) _ _ _ 6 [.int .i64 6] from rfl) (Reps.none _ _))))))))); intro v244 w10 ho11 hb hg_ hnew_; clear hg_ hnew_; (first | rw [← Ny243.out] at ho11 | (simp only [Int.reduceToNat] at ho11; rw [← Ny243.out] at ho11)); have n0_ := Aside0.mk (Kd.S_below (mv HO237.out) hb); have n1_ := Aside0.mk (Kd.R_lower ho11 (below_size (by repeat (first | (with_reducible first | exact HB.out | apply below_alloc | apply pw_below_drewN | apply below_drew1 | refine below_set ?_ (IsS103.ge HI234.out)) | exact HB.out)))); have n2_ := Aside0.mk (IsS103.below (by repeat (first | (with_reducible first | exact HI234.out | apply IsS103.alloc | apply IsS103.drewN | apply IsS103.drew | apply IsS103.set_1 | apply IsS103.set_2) | exact HI234.out)) hb); have n3_ := Aside0.mk (below_step (by repeat (first | (with_reducible first | exact HB.out | apply below_alloc | apply pw_below_drewN | apply below_drew1 | refine below_set ?_ (IsS103.ge HI234.out)) | exact HB.out)) hb); clear HO237 HI234 HB; revert n0_ n1_ n2_ n3_; intro HO237 HO245 HI234 HB; clear hb ho11; obtain ⟨Ao12, co12, eo12⟩ := Kd.R_slice HO245.out; subst eo12) | ((with_reducible refine gate_callee (f := 40) rfl ?_); refine goesA_ (some 18) Try.func40 #[.pointer (some ⟨g234, 0, none⟩), .slice Ao12 y243.length co12] ?_; (with_reducible refine (spec_l00Src_among.calls g234 t231 t241 t242 _ _ y243 t246 t247 t248 w _ ?side1 ?side2 ?side3 ?side4 ?side5 A5.out).mono ?_); (case side1 => repeat (first | (with_reducible first | exact HI234.out | apply IsS103.alloc | apply IsS103.drewN | apply IsS103.drew | apply IsS103.set_1 | apply IsS103.set_2) | exact HI234.out)); (case side2 => repeat (first | (with_reducible first | exact HB.out | apply below_alloc | apply pw_below_drewN | apply below_drew1 | refine below_set ?_ (IsS103.ge HI234.out)) | exact HB.out)); (case side3 => exact mvC (Kd.R_reads' HO245.out).2.2); (case side4 => exact (Kd.R_reads' HO245.out).2.1); (case side5 => exact far_slice (IsS103.own_ne HI234.out HO245.out (by decide))); rintro e w13 ⟨rfl, hi, hb, hk⟩; refine ⟨_, rfl, ?_⟩; have n0_ := Aside0.mk (Kd.S_mono (Kd.S_keep (IsS103.apartS (show IsS103 w _ g234 t231 t241 t242 from by repeat (first | (with_reducible first | exact HI234.out | apply IsS103.alloc | apply IsS103.drewN | apply IsS103.drew | apply IsS103.set_1 | apply IsS103.set_2) | exact HI234.out)) (mv HO237.out) (by decide)) hk (fun _ h => h.2)) (fun _ h => h.1)); have n1_ := Aside0.mk (Kd.R_mono (Kd.R_keep (IsS103.apart (show IsS103 w _ g234 t231 t241 t242 from by repeat (first | (with_reducible first | exact HI234.out | apply IsS103.alloc | apply IsS103.drewN | apply IsS103.drew | apply IsS103.set_1 | apply IsS103.set_2) | exact HI234.out)) (mv HO245.out) (by decide)) hk (fun _ h => h.2)) (fun _ h => h.1)); have n2_ := Aside0.mk (hb); have n3_ := Aside0.mk (hi); clear HO237 HO245 HB HI234; revert n0_ n1_ n2_ n3_; intro HO237 HO245 HB HI234; (try clear hb); (try clear hb2); (try clear hk); (try clear hi)) | ((with_reducible refine gate_dst (N := 23) rfl ?_); refine Kd.R_lit (Kd.int .i64) _ 2 ?hg (N := 23) ?hd (xs := ([1, 20, 200, 1000, 2000, 0, 20001] : List Int)) (inner := [.int .i64 1, .int .i64 20, .int .i64 200, .int .i64 1000, .int .i64 2000, .int .i64 0, .int .i64 20001]) (ok := fun _ => True) (okp := fun _ => True) ?hr ?hp (fun _ hk => hk) trivial (Below.refl _ _) (Nat.le_refl _) (by simp) ?_; (case hd => rfl); (case hg => rfl); (case hr => first | (go_simp; done) | (go_simp; rfl)); (case hp => exact (Reps.one (show Kd.M (Kd.int .i64) _ _ _ 1 [.int .i64 1] from rfl) (Reps.one (show Kd.M (Kd.int .i64) _ _ _ 20 [.int .i64 20] from rfl) (Reps.one (show Kd.M (Kd.int .i64) _ _ _ 200 [.int .i64 200] from rfl) (Reps.one (show Kd.M (Kd.int .i64) _ _ _ 1000 [.int .i64 1000] from rfl) (Reps.one (show Kd.M (Kd.int .i64) _ _ _ 2000 [.int .i64 2000] from rfl) (Reps.one (show Kd.M (Kd.int .i64) _ _ _ 0 [.int .i64 0] from rfl) (Reps.one (show Kd.M (Kd.int .i64) _ _ _ 20001 [.int .i64 20001] from rfl) (Reps.none _ _))))))))); intro v250 w14 ho15 hb hg_ hnew_; clear hg_ hnew_; (first | rw [← Ny249.out] at ho15 | (simp only [Int.reduceToNat] at ho15; rw [← Ny249.out] at ho15)); have n0_ := Aside0.mk (Kd.S_below (mv HO237.out) hb); have n1_ := Aside0.mk (Kd.R_elder' (mv HO245.out) (Kd.R_base ho15) hb); have n2_ := Aside0.mk (Kd.R_lower (Kd.R_new' ho15 (Kd.R_lt (mv HO245.out))) (below_size (by repeat (first | (with_reducible first | exact HB.out | apply below_alloc | apply pw_below_drewN | apply below_drew1 | refine below_set ?_ (IsS103.ge HI234.out)) | exact HB.out)))); have n3_ := Aside0.mk (IsS103.below (by repeat (first | (with_reducible first | exact HI234.out | apply IsS103.alloc | apply IsS103.drewN | apply IsS103.drew | apply IsS103.set_1 | apply IsS103.set_2) | exact HI234.out)) hb); have n4_ := Aside0.mk (below_step (by repeat (first | (with_reducible first | exact HB.out | apply below_alloc | apply pw_below_drewN | apply below_drew1 | refine below_set ?_ (IsS103.ge HI234.out)) | exact HB.out)) hb); clear HO237 HO245 HI234 HB; revert n0_ n1_ n2_ n3_ n4_; intro HO237 HO245 HO251 HI234 HB; clear hb ho15; obtain ⟨Ao16, co16, eo16⟩ := Kd.R_slice HO251.out; subst eo16) | ((with_reducible refine gate_callee (f := 40) rfl ?_); refine goesA_ (some 24) Try.func40 #[.pointer (some ⟨g234, 0, none⟩), .slice Ao16 y249.length co16] ?_; (with_reducible refine (spec_l00Src_among.calls g234 t231 t247 t248 _ _ y249 t252 t253 t254 w _ ?side1 ?side2 ?side3 ?side4 ?side5 A6.out).mono ?_); (case side1 => repeat (first | (with_reducible first | exact HI234.out | apply IsS103.alloc | apply IsS103.drewN | apply IsS103.drew | apply IsS103.set_1 | apply IsS103.set_2) | exact HI234.out)); (case side2 => repeat (first | (with_reducible first | exact HB.out | apply below_alloc | apply pw_below_drewN | apply below_drew1 | refine below_set ?_ (IsS103.ge HI234.out)) | exact HB.out)); (case side3 => exact mvC (Kd.R_reads' HO251.out).2.2); (case side4 => exact (Kd.R_reads' HO251.out).2.1); (case side5 => exact far_slice (IsS103.own_ne HI234.out HO251.out (by decide))); rintro e w17 ⟨rfl, hi, hb, hk⟩; refine ⟨_, rfl, ?_⟩; have n0_ := Aside0.mk (Kd.S_mono (Kd.S_keep (IsS103.apartS (show IsS103 w _ g234 t231 t247 t248 from by repeat (first | (with_reducible first | exact HI234.out | apply IsS103.alloc | apply IsS103.drewN | apply IsS103.drew | apply IsS103.set_1 | apply IsS103.set_2) | exact HI234.out)) (mv HO237.out) (by decide)) hk (fun _ h => h.2)) (fun _ h => h.1)); have n1_ := Aside0.mk (Kd.R_mono (Kd.R_keep (IsS103.apart (show IsS103 w _ g234 t231 t247 t248 from by repeat (first | (with_reducible first | exact HI234.out | apply IsS103.alloc | apply IsS103.drewN | apply IsS103.drew | apply IsS103.set_1 | apply IsS103.set_2) | exact HI234.out)) (mv HO245.out) (by decide)) hk (fun _ h => h.2)) (fun _ h => h.1)); have n2_ := Aside0.mk (Kd.R_mono (Kd.R_keep (IsS103.apart (show IsS103 w _ g234 t231 t247 t248 from by repeat (first | (with_reducible first | exact HI234.out | apply IsS103.alloc | apply IsS103.drewN | apply IsS103.drew | apply IsS103.set_1 | apply IsS103.set_2) | exact HI234.out)) (mv HO251.out) (by decide)) hk (fun _ h => h.2)) (fun _ h => h.1)); have n3_ := Aside0.mk (hb); have n4_ := Aside0.mk (hi); clear HO237 HO245 HO251 HB HI234; revert n0_ n1_ n2_ n3_ n4_; intro HO237 HO245 HO251 HB HI234; (try clear hb); (try clear hb2); (try clear hk); (try clear hi)))
 refine bodyPost_ret (results_list (rs := [.tmp 2, .tmp 3, .tmp 4, .tmp 5]) rfl (by simp) (.tmp (.tmp (.tmp (.tmp .nil))))) rfl ?_
 exact ⟨_, by first | rfl | (simp [errW_none, errW_some] <;> rfl) | (simp [*, errW_none, errW_some] <;> rfl), mv HO237.out, by repeat (first | (with_reducible first | exact HB.out | apply below_alloc | apply pw_below_drewN | apply below_drew1 | refine below_set ?_ (IsS103.ge HI234.out)) | exact HB.out)⟩

/-! ### impl_within: function 43 -/
def impl_within.f (a0 : Int) (a1 : Int) (a2 : Int) : Option (Bool) := if a0 ≥ a1 then (some (decide (a0 ≤ a2))) else (some false)
set_option maxHeartbeats 8000000 in
set_option maxRecDepth 100000 in
theorem impl_within.calls (a0 : Int) (a1 : Int) (a2 : Int) (r : Bool) (w : World) (h : impl_within.f a0 a1 a2 = some r) :
  Calls Try.prog 43 #[.int .i64 a0, .int .i64 a1, .int .i64 a2] w fun e w' => e = .returned (.bool r) ∧ Drawn0 w w' := by
 have H : (if a0 ≥ a1 then (some (decide (a0 ≤ a2))) else (some false)) = some r := h
 clear h
 by_cases c4 : a0 ≥ a1
 ·
  rw [if_pos c4] at H
  have c4b0 : decide (a1 ≤ a0) = true := decide_eq_true c4
  clear c4
  obtain rfl := Option.some.inj H
  go_enter Try.func43, Try.ntmps43
  go_wp2
  go_ret
  exact ⟨rs, dr0⟩
 ·
  rw [if_neg c4] at H
  have c4b0 : decide (a1 ≤ a0) = false := decide_eq_false c4
  clear c4
  obtain rfl := Option.some.inj H
  go_enter Try.func43, Try.ntmps43
  go_wp2
  go_ret
  exact ⟨rs, dr0⟩

/-! ### slices_Index_int64_int64: function 108 -/
def slices_Index_int64_int64.l0 : Nat → List Int → Int → Int → Int → Option (Int)
 | 0, _, _, _, _ => none
 | k + 1, x0, x1, x7, x8 => if x8 < x7 then (if 0 ≤ x8 then (if x8 < (x0.length : Int) then (if x1 = (rd x0 x8) then (some x8) else (slices_Index_int64_int64.l0 k x0 x1 x7 (wrap64 (x8 + 1)))) else (none)) else (none)) else (some (-1))
def slices_Index_int64_int64.f (k : Nat) (l0 : List Int) (a1 : Int) : Option (Int) := slices_Index_int64_int64.l0 k l0 a1 (l0.length : Int) 0
theorem slices_Index_int64_int64.mono_l : ∀ k, (∀ y0 y1 y2 y3, LeO (slices_Index_int64_int64.l0 k y0 y1 y2 y3) (slices_Index_int64_int64.l0 (k + 1) y0 y1 y2 y3))
 | 0 => fun _ _ _ _ r h => by simp [slices_Index_int64_int64.l0] at h
 | k + 1 => by
  have ih0 := slices_Index_int64_int64.mono_l k
  ·
   intro y0 y1 y2 y3
   unfold slices_Index_int64_int64.l0
   repeat' first
   | (with_reducible exact ih0 _ _ _ _)
   | (with_reducible exact LeO.refl _)
   | (with_reducible exact LeO.none _)
   | (with_reducible refine LeO.ite ?_ ?_)
   | (with_reducible refine LeO.bind ?_ (fun _ => ?_))
   | exact ih0 _ _ _ _
   | exact LeO.none _
   | refine LeO.ite ?_ ?_
   | refine LeO.bind ?_ (fun _ => ?_)
theorem slices_Index_int64_int64.mono : ∀ a0 a1 k, LeO (slices_Index_int64_int64.f k a0 a1) (slices_Index_int64_int64.f (k + 1) a0 a1) := by
 intro a0 a1 k
 have ih0 := slices_Index_int64_int64.mono_l k
 unfold slices_Index_int64_int64.f
 repeat' first
  | (with_reducible exact ih0 _ _ _ _)
  | (with_reducible exact LeO.refl _)
  | (with_reducible exact LeO.none _)
  | (with_reducible refine LeO.ite ?_ ?_)
  | (with_reducible refine LeO.bind ?_ (fun _ => ?_))
  | exact ih0 _ _ _ _
  | exact LeO.none _
  | refine LeO.ite ?_ ?_
  | refine LeO.bind ?_ (fun _ => ?_)
set_option maxHeartbeats 8000000 in
set_option maxRecDepth 100000 in
theorem slices_Index_int64_int64.calls (k : Nat) (A0 : Option Addr) (c0 : Nat) (l0 : List Int) (a1 : Int) (r : Int) (w : World) (hr0 : Kd.C (Kd.int .i64) w A0 l0.length l0) (hc0 : l0.length ≤ c0) (h : slices_Index_int64_int64.f k l0 a1 = some r) :
  Calls Try.prog 108 #[.slice A0 l0.length c0, .int .i64 a1] w fun e w' => e = .returned (.int .i64 r) ∧ Drawn0 w w' := by
 have HR0 := Aside0.mk hr0
 have HC0 := Aside0.mk hc0
 clear hr0 hc0
 have H : (slices_Index_int64_int64.l0 k l0 a1 (l0.length : Int) 0) = some r := h
 clear h
 have H' := Aside0.mk H
 clear H
 go_enter Try.func108, Try.ntmps108
 go_wp2
 go_loopg [8] k (fun kq v8 w' => ∃ (x8_1 : Int), v8 = .int .i64 x8_1 ∧ Aside0 (slices_Index_int64_int64.l0 kq l0 a1 (l0.length : Int) x8_1 = some r) ∧ Aside0 (kq ≤ k) ∧ Drawn0 w w')
 case atStart => exact ⟨(0), rs, H', ⟨Nat.le_refl _⟩, dr0⟩
 case round =>
  clear H'
  obtain ⟨x8_1, rfl, HA, HK1, ⟨m1, rfl⟩⟩ := hrel
  cases gk with
  | zero => exact absurd HA.out (by simp [slices_Index_int64_int64.l0])
  | succ k1 =>
   have H := HA.out
   clear HA
   simp only [slices_Index_int64_int64.l0] at H
   by_cases c3 : x8_1 < (l0.length : Int)
   ·
    rw [if_pos c3] at H
    have c3b0 : decide (x8_1 < (l0.length : Int)) = true := decide_eq_true c3
    clear c3
    by_cases c4 : 0 ≤ x8_1
    ·
     rw [if_pos c4] at H
     have c4b0 : decide (0 ≤ x8_1) = true := decide_eq_true c4
     clear c4
     by_cases c5 : x8_1 < (l0.length : Int)
     ·
      rw [if_pos c5] at H
      have c5b0 : decide (x8_1 < (l0.length : Int)) = true := decide_eq_true c5
      clear c5
      by_cases c6 : a1 = (rd l0 x8_1)
      ·
       rw [if_pos c6] at H
       have c6b0 : (a1 == (rd l0 x8_1)) = true := beq_iff_eq.mpr c6
       have c6b1 : (a1 != (rd l0 x8_1)) = false := bne_eq_false_iff_eq.mpr c6
       clear c6
       obtain rfl := Option.some.inj H
       have p255 : 0 ≤ (x8_1 : Int) := od
       have q255 : x8_1 < (l0.length : Int) := od
       obtain ⟨ad255, e255, hx255_0⟩ := Kd.at_int HR0.out x8_1 p255 q255
       cases e255
       replace p255 := eq_true p255
       replace q255 := eq_true q255
       go_wp2
       go_ret
       exact ⟨rs, dr0⟩
      ·
       rw [if_neg c6] at H
       have c6b0 : (a1 == (rd l0 x8_1)) = false := beq_eq_false_iff_ne.mpr c6
       have c6b1 : (a1 != (rd l0 x8_1)) = true := bne_iff_ne.mpr c6
       have H' := Aside0.mk H
       clear H
       have p255 : 0 ≤ (x8_1 : Int) := od
       have q255 : x8_1 < (l0.length : Int) := od
       obtain ⟨ad255, e255, hx255_0⟩ := Kd.at_int HR0.out x8_1 p255 q255
       cases e255
       replace p255 := eq_true p255
       replace q255 := eq_true q255
       go_wp2
       go_roundg k1
       case measure => have := HK1.out; omega
       case rel => exact ⟨(wrap64 (x8_1 + 1)), rs, H', ⟨by have := HK1.out; omega⟩, dr0⟩
     ·
      rw [if_neg c5] at H
      exact absurd H (by simp)
    ·
     rw [if_neg c4] at H
     exact absurd H (by simp)
   ·
    rw [if_neg c3] at H
    have c3b0 : decide (x8_1 < (l0.length : Int)) = false := decide_eq_false c3
    clear c3
    obtain rfl := Option.some.inj H
    go_wp2
    go_ret
    exact ⟨rs, dr0⟩

/-! ### slices_Contains_int64_int64: function 74 -/
def slices_Contains_int64_int64.f (k : Nat) (l0 : List Int) (a1 : Int) : Option (Bool) := (slices_Index_int64_int64.f k l0 a1).bind fun t256 => (some (decide (t256 ≥ 0)))
theorem slices_Contains_int64_int64.mono : ∀ a0 a1 k, LeO (slices_Contains_int64_int64.f k a0 a1) (slices_Contains_int64_int64.f (k + 1) a0 a1) := by
 intro a0 a1 k
 unfold slices_Contains_int64_int64.f
 repeat' first
  | (with_reducible exact slices_Index_int64_int64.mono _ _ _)
  | (with_reducible exact LeO.refl _)
  | (with_reducible exact LeO.none _)
  | (with_reducible refine LeO.ite ?_ ?_)
  | (with_reducible refine LeO.bind ?_ (fun _ => ?_))
  | exact slices_Index_int64_int64.mono _ _ _
  | exact LeO.none _
  | refine LeO.ite ?_ ?_
  | refine LeO.bind ?_ (fun _ => ?_)
set_option maxHeartbeats 8000000 in
set_option maxRecDepth 100000 in
theorem slices_Contains_int64_int64.calls (k : Nat) (A0 : Option Addr) (c0 : Nat) (l0 : List Int) (a1 : Int) (r : Bool) (w : World) (hr0 : Kd.C (Kd.int .i64) w A0 l0.length l0) (hc0 : l0.length ≤ c0) (h : slices_Contains_int64_int64.f k l0 a1 = some r) :
  Calls Try.prog 74 #[.slice A0 l0.length c0, .int .i64 a1] w fun e w' => e = .returned (.bool r) ∧ Drawn0 w w' := by
 have HR0 := Aside0.mk hr0
 have HC0 := Aside0.mk hc0
 clear hr0 hc0
 have H : ((slices_Index_int64_int64.f k l0 a1).bind fun t256 => (some (decide (t256 ≥ 0)))) = some r := h
 clear h
 replace H := Option.bind_eq_some_iff.mp H
 obtain ⟨t256, A30, H⟩ := H
 replace H : (some (decide (t256 ≥ 0))) = some r := H
 have A3 := Aside0.mk A30
 clear A30
 obtain rfl := Option.some.inj H
 go_enter Try.func74, Try.ntmps74
 go_wp2_with (first | ((with_reducible refine gate_callee (f := 108) rfl ?_); refine goesA_ (some 7) Try.func108 #[.slice A0 l0.length c0, .int .i64 a1] ?_; (with_reducible refine (slices_Index_int64_int64.calls k _ _ l0 a1 t256 _ ?side1 ?side2 A3.out).mono ?_); (case side1 => exact mvC HR0.out); (case side2 => exact HC0.out); rintro e w' ⟨rfl, ⟨nd, rfl⟩⟩; refine ⟨_, rfl, ?_⟩))
 go_ret
 exact ⟨rs, dr0⟩

-- NOT PRINTED: function 113 (impl_Stage)

/-! ### impl_stageAt: function 81 -/
/-- The first place, from i on, of which p holds; -1. -/
def idxFrom_34 (p : S34 → Bool) (xs : List S34) (i : Nat) : Int := if h : i < xs.length then (if p xs[i] = true then (i : Int) else idxFrom_34 p xs (i + 1)) else -1
termination_by xs.length - i
set_option maxHeartbeats 4000000 in
theorem idx_34.calls (g : Nat) (pre lb : Array Value) (p : S34 → Bool) (A0 : Option Addr) (c0 : Nat) (l0 : List S34) (w : World) (hr0 : Kd.C k34 w A0 l0.length l0)
  (eg : ∀ args w, (callFunc g args).run Try.prog w = .ok (.enter g args) w)
  (hp : ∀ (W : World) (x : S34) (A3 : Option Addr) (c3 : Nat), x ∈ l0 → Kd.C Kd.string W A3 x.f3.length x.f3 → x.f3.length ≤ c3 →  Below w.heap.size w W → Calls Try.prog g (pre ++ #[.agg #[.string x.f0, .int .i64 x.f1, .int .i64 x.f2, .slice A3 x.f3.length c3]] ++ lb) W fun e w' => e = .returned (.bool (p x)) ∧ Below w.heap.size w w') :
  Calls Try.prog 113 #[.slice A0 l0.length c0, .func (.func g) pre lb] w fun e w' => e = .returned (.int .i64 (idxFrom_34 p l0 0)) ∧ Below w.heap.size w w' := by
 have hn : l0.length ≤ 9223372036854775807 := by have := hr0.2.1; omega
 have HR0 := Aside0.mk hr0
 have HP := Aside0.mk hp
 have HN := Aside0.mk hn
 clear hr0 hp hn
 go_enter Try.func113, Try.ntmps113
 go_wp2
 go_loopg [5, 8] l0.length (fun gg _ s8 wr => ∃ kk : Nat, s8 = .int .i64 kk ∧ Aside0 (kk ≤ l0.length) ∧ Aside0 (l0.length - kk ≤ gg) ∧ Aside0 (idxFrom_34 p l0 0 = idxFrom_34 p l0 kk) ∧ Aside0 (Below w.heap.size w wr))
 case atStart => exact ⟨0, rfl, ⟨Nat.zero_le _⟩, ⟨by omega⟩, ⟨rfl⟩, ⟨Below.refl _ w⟩⟩
 case round =>
  obtain ⟨kk, rfl, hkk, hg, hq, hb⟩ := hrel
  by_cases hlt : kk < l0.length
  ·
   have hltz : decide ((kk : Int) < (l0.length : Int)) = true := decide_eq_true (by omega)
   obtain ⟨ad, A3_, c3_, e, hx0, hx1, hx2, hx3, hl3_, hi3_⟩ := at_T34 HR0.out (kk : Int) (by omega) (by omega)
   cases e
   have hxx : rd_T34 l0 (kk : Int) = l0[kk] := by unfold rd_T34; simp [List.getD_eq_getElem?_getD, hlt]
   rw [hxx, Int.toNat_natCast] at hx0
   replace hx0 := (hb.out.cell (World.block_lt_of_cell? w _ hx0)).trans hx0
   rw [hxx, Int.toNat_natCast] at hx1
   replace hx1 := (hb.out.cell (World.block_lt_of_cell? w _ hx1)).trans hx1
   rw [hxx, Int.toNat_natCast] at hx2
   replace hx2 := (hb.out.cell (World.block_lt_of_cell? w _ hx2)).trans hx2
   rw [hxx, Int.toNat_natCast] at hx3
   replace hx3 := (hb.out.cell (World.block_lt_of_cell? w _ hx3)).trans hx3
   rw [hxx] at hl3_ hi3_
   have hcall := HP.out wr l0[kk] A3_ c3_ (List.getElem_mem hlt) (Kd.C_below hi3_ hb.out) hl3_ hb.out
   have hq2 := hq.out
   rw [show idxFrom_34 p l0 kk = if p l0[kk] = true then (kk : Int) else idxFrom_34 p l0 (kk + 1) by rw [idxFrom_34, dif_pos hlt]] at hq2
   clear hxx
   generalize hx : l0[kk] = x at hx0 hx1 hx2 hx3 hcall hq2
   clear hx
   cases hc : p x with
   | true =>
    rw [hc] at hcall hq2
    have hq3 := Aside0.mk hq2
    clear hq2 hc
    go_wp2_with (go_at_fn g; refine hcall.mono ?_; rintro e w' ⟨rfl, hb'⟩)
    go_ret
    refine ⟨?_, hb'⟩
    rw [hq3.out]; rfl
   | false =>
    rw [hc] at hcall hq2
    have hq3 := Aside0.mk hq2
    clear hq2 hc
    go_wp2_with (go_at_fn g; refine hcall.mono ?_; rintro e w' ⟨rfl, hb'⟩)
    go_roundg (l0.length - (kk + 1))
    case measure => have := hg.out; omega
    case rel => exact ⟨kk + 1, by rw [show wrap64 ((kk : Int) + 1) = ((kk + 1 : Nat) : Int) by have := HN.out; unfold wrap64; omega], ⟨by omega⟩, ⟨by omega⟩, ⟨by rw [hq3.out]; rfl⟩, ⟨hb'⟩⟩
  ·
   have hltz : decide ((kk : Int) < (l0.length : Int)) = false := decide_eq_false (by omega)
   go_wp2
   go_ret
   refine ⟨?_, hb.out⟩
   rw [hq.out, idxFrom_34, dif_neg hlt]
   rfl
theorem idxFrom_34_any (p : S34 → Bool) (xs : List S34) (i : Nat) : decide (0 ≤ idxFrom_34 p xs i) = (xs.drop i).any p := by
 rw [idxFrom_34]
 by_cases h : i < xs.length
 ·
  rw [dif_pos h, List.drop_eq_getElem_cons h, List.any_cons]
  cases c : p xs[i] with
  | true => simp
  | false =>
   rw [if_neg (by simp), idxFrom_34_any p xs (i + 1), Bool.false_or]
 ·
  rw [dif_neg h, List.drop_eq_nil_of_le (by omega)]; rfl
termination_by xs.length - i

set_option maxHeartbeats 2000000 in
theorem stageAt_1.calls (x : S34) (A3 : Option Addr) (c3 : Nat) (a : ByteArray) (B : Nat) (w : World) (hB : w.cell? ⟨B, 0, none⟩ = some (.string a)) :
  Calls Try.prog 114 #[.agg #[.string x.f0, .int .i64 x.f1, .int .i64 x.f2, .slice A3 x.f3.length c3], .pointer (some ⟨B, 0, none⟩)] w fun e w' => e = .returned (.bool (x.f0.toList == a.toList)) ∧ Below w.heap.size w w' := by
 have hu := Try.underlying34
 have hB' : ∀ o, (w.alloc o).cell? ⟨B, 0, none⟩ = some (.string a) := fun o => pw_cell_below (below_alloc (Below.refl _ _) o) hB
 clear hB
 generalize hb : (x.f0.toList == a.toList) = b
 go_enter Try.func114, Try.ntmps114
 go_wp2
 go_ret
 exact ⟨by first | rfl | simp [*], by repeat (first | exact Below.refl _ _ | apply pw_below_drewN | apply below_alloc)⟩
/-- The first stage with a name; -1. -/
def stageIx (l0 : List S34) (a : ByteArray) : Int := idxFrom_34 (fun x => x.f0.toList == a.toList) l0 0
def impl_stageAt.f (l0 : List (S34)) (a1 : ByteArray) : Option Int := some (stageIx l0 a1)
set_option maxHeartbeats 2000000 in
theorem stageAt_in.calls (A0 : Option Addr) (c0 : Nat) (l0 : List (S34)) (a1 : ByteArray) (w : World) (hr0 : Kd.C k34 w A0 l0.length l0) :
  Calls Try.prog 81 #[.slice A0 l0.length c0, .string a1] w fun e w' => e = .returned (.int .i64 (stageIx l0 a1)) ∧ Below w.heap.size w w' := by
 have hcall : ∀ (W : World) (B : Nat), Below w.heap.size w W → B < W.heap.size → W.cell? ⟨B, 0, none⟩ = some (.string a1) →
   Calls Try.prog 113 #[.slice A0 l0.length c0, .func (.func 114) #[] #[.pointer (some ⟨B, 0, none⟩)]] W fun e w' => e = .returned (.int .i64 (stageIx l0 a1)) ∧ Below w.heap.size w w' := fun W B hb l1 h1 => by
  refine (idx_34.calls 114 #[] #[.pointer (some ⟨B, 0, none⟩)] (fun x => x.f0.toList == a1.toList) A0 c0 l0 W (Kd.C_below hr0 hb) (enters_ Try.func114 (by kernel_rfl) rfl) (fun V x A3 c3 _ _ _ hV => ?_)).mono fun e w' ⟨he, hb'⟩ => ⟨he, below_then hb hb.size hb'⟩
  exact (stageAt_1.calls x A3 c3 a1 B V ((hV.cell l1).trans h1)).mono fun e w' ⟨he, hb'⟩ => ⟨he, below_then hV hV.size hb'⟩
 clear hr0
 go_enter Try.func81, Try.ntmps81
 go_wp2_with (go_at_call 113; refine (hcall _ _ (below_alloc (Below.refl _ _) _) (by first | (simp; done) | (simp; omega)) (by first | (simp; done) | (simp; omega))).mono ?_; rintro e w' ⟨rfl, hb'⟩)
 go_ret
 exact ⟨rfl, hb'⟩
theorem impl_stageAt.calls (A0 : Option Addr) (c0 : Nat) (l0 : List (S34)) (a1 : ByteArray) (r : Int) (w : World) (hr0 : Kd.C k34 w A0 l0.length l0) (hc0 : l0.length ≤ c0) (h : impl_stageAt.f l0 a1 = some r) :
  Calls Try.prog 81 #[.slice A0 l0.length c0, .string a1] w fun e w' => e = .returned (.int .i64 r) ∧ Below w.heap.size w w' := by
 obtain rfl := Option.some.inj h
 exact stageAt_in.calls A0 c0 l0 a1 w hr0

-- NOT PRINTED: function 121 (slices_IndexFunc_string_string)

-- NOT PRINTED: function 109 (slices_ContainsFunc_string_string)

/-! ### impl_hasNeeds: function 75 -/
theorem index_ex (l : List Int) (a : Int) (hl : l.length ≤ 9223372036854775807) : ∀ d i, i + d = l.length → ∃ k r, slices_Index_int64_int64.l0 k l a (l.length : Int) (i : Int) = some r ∧ decide (r ≥ 0) = (l.drop i).any (fun x => decide (a = x))
 | 0, i, hi => ⟨1, -1, by simp only [slices_Index_int64_int64.l0]; rw [if_neg (by omega)], by rw [List.drop_eq_nil_of_le (by omega)]; rfl⟩
 | d + 1, i, hi => by
  have hlt : i < l.length := by omega
  have hr : rd l (i : Int) = l[i] := by unfold rd; simp [List.getD_eq_getElem?_getD, hlt]
  by_cases c : a = l[i]
  ·
   refine ⟨1, (i : Int), ?_, ?_⟩
   ·
    simp only [slices_Index_int64_int64.l0]
    rw [hr, if_pos (by omega), if_pos (by omega), if_pos (by omega), if_pos c]
   ·
    rw [List.drop_eq_getElem_cons hlt, List.any_cons, decide_eq_true c, Bool.true_or]
    exact decide_eq_true (by omega)
  ·
   obtain ⟨k, r, h1, h2⟩ := index_ex l a hl d (i + 1) (by omega)
   refine ⟨k + 1, r, ?_, ?_⟩
   ·
    simp only [slices_Index_int64_int64.l0]
    rw [hr, if_pos (by omega), if_pos (by omega), if_pos (by omega), if_neg c, show wrap64 ((i : Int) + 1) = ((i + 1 : Nat) : Int) by unfold wrap64; omega]
    exact h1
   ·
    rw [List.drop_eq_getElem_cons hlt, List.any_cons, decide_eq_false c, Bool.false_or]
    exact h2
/-- Is a number in a list? -/
def hasI (l : List Int) (a : Int) : Bool := l.any fun x => decide (a = x)
theorem contains_in.calls (A0 : Option Addr) (c0 : Nat) (l0 : List Int) (a1 : Int) (w : World) (hr0 : Kd.C (Kd.int .i64) w A0 l0.length l0) (hc0 : l0.length ≤ c0) :
  Calls Try.prog 74 #[.slice A0 l0.length c0, .int .i64 a1] w fun e w' => e = .returned (.bool (hasI l0 a1)) ∧ Drawn0 w w' := by
 obtain ⟨k, r, h1, h2⟩ := index_ex l0 a1 (Kd.C_max hr0) l0.length 0 (by omega)
 refine slices_Contains_int64_int64.calls k A0 c0 l0 a1 _ w hr0 hc0 ?_
 unfold slices_Contains_int64_int64.f slices_Index_int64_int64.f
 rw [show slices_Index_int64_int64.l0 k l0 a1 (l0.length : Int) 0 = some r from h1, Option.bind_some, h2]
 rfl
/-- The first place, from i on, of which p holds; -1. -/
def idxFromS (p : ByteArray → Bool) (xs : List ByteArray) (i : Nat) : Int := if h : i < xs.length then (if p xs[i] = true then (i : Int) else idxFromS p xs (i + 1)) else -1
termination_by xs.length - i
set_option maxHeartbeats 2000000 in
theorem idx_str.calls (g : Nat) (lb : Array Value) (p : ByteArray → Bool) (A0 : Option Addr) (c0 : Nat) (l0 : List ByteArray) (w : World) (hr0 : Kd.C Kd.string w A0 l0.length l0)
  (eg : ∀ args w, (callFunc g args).run Try.prog w = .ok (.enter g args) w)
  (hp : ∀ (W : World) (x : ByteArray), x ∈ l0 → Below w.heap.size w W → Calls Try.prog g (#[.string x] ++ lb) W fun e w' => e = .returned (.bool (p x)) ∧ Below w.heap.size w w') :
  Calls Try.prog 121 #[.slice A0 l0.length c0, .func (.func g) #[] lb] w fun e w' => e = .returned (.int .i64 (idxFromS p l0 0)) ∧ Below w.heap.size w w' := by
 have hn : l0.length ≤ 9223372036854775807 := by have := hr0.2.1; omega
 have HR0 := Aside0.mk hr0
 have HP := Aside0.mk hp
 have HN := Aside0.mk hn
 clear hr0 hp hn
 go_enter Try.func121, Try.ntmps121
 go_wp2
 go_loopg [5, 8] l0.length (fun gg _ s8 wr => ∃ kk : Nat, s8 = .int .i64 kk ∧ Aside0 (kk ≤ l0.length) ∧ Aside0 (l0.length - kk ≤ gg) ∧ Aside0 (idxFromS p l0 0 = idxFromS p l0 kk) ∧ Aside0 (Below w.heap.size w wr))
 case atStart => exact ⟨0, rfl, ⟨Nat.zero_le _⟩, ⟨by omega⟩, ⟨rfl⟩, ⟨Below.refl _ w⟩⟩
 case round =>
  obtain ⟨kk, rfl, hkk, hg, hq, hb⟩ := hrel
  by_cases hlt : kk < l0.length
  ·
   have hltz : decide ((kk : Int) < (l0.length : Int)) = true := decide_eq_true (by omega)
   obtain ⟨ad, e, hx⟩ := Kd.at_string (Kd.C_below HR0.out hb.out) (kk : Int) (by omega) (by omega)
   cases e
   have hxx : rdOf ByteArray.empty l0 (kk : Int) = l0[kk] := by unfold rdOf; simp [List.getD_eq_getElem?_getD, hlt]
   rw [hxx, Int.toNat_natCast] at hx
   clear hxx
   have hcall := HP.out wr l0[kk] (List.getElem_mem hlt) hb.out
   have hq2 := hq.out
   rw [show idxFromS p l0 kk = if p l0[kk] = true then (kk : Int) else idxFromS p l0 (kk + 1) by rw [idxFromS, dif_pos hlt]] at hq2
   cases hc : p l0[kk] with
   | true =>
    rw [hc] at hcall hq2
    have hq3 := Aside0.mk hq2
    clear hq2
    go_wp2_with (go_at_fn g; refine hcall.mono ?_; rintro e w' ⟨rfl, hb'⟩)
    go_ret
    refine ⟨?_, hb'⟩
    rw [hq3.out]; rfl
   | false =>
    rw [hc] at hcall hq2
    have hq3 := Aside0.mk hq2
    clear hq2
    go_wp2_with (go_at_fn g; refine hcall.mono ?_; rintro e w' ⟨rfl, hb'⟩)
    go_roundg (l0.length - (kk + 1))
    case measure => have := hg.out; omega
    case rel => exact ⟨kk + 1, by rw [show wrap64 ((kk : Int) + 1) = ((kk + 1 : Nat) : Int) by have := HN.out; unfold wrap64; omega], ⟨by omega⟩, ⟨by omega⟩, ⟨by rw [hq3.out]; rfl⟩, ⟨hb'⟩⟩
  ·
   have hltz : decide ((kk : Int) < (l0.length : Int)) = false := decide_eq_false (by omega)
   go_wp2
   go_ret
   refine ⟨?_, hb.out⟩
   rw [hq.out, idxFromS, dif_neg hlt]
   rfl
theorem idxFromS_any (p : ByteArray → Bool) (xs : List ByteArray) (i : Nat) : decide (0 ≤ idxFromS p xs i) = (xs.drop i).any p := by
 rw [idxFromS]
 by_cases h : i < xs.length
 ·
  rw [dif_pos h, List.drop_eq_getElem_cons h, List.any_cons]
  cases c : p xs[i] with
  | true => simp
  | false =>
   rw [if_neg (by simp), idxFromS_any p xs (i + 1), Bool.false_or]
 ·
  rw [dif_neg h, List.drop_eq_nil_of_le (by omega)]; rfl
termination_by xs.length - i
set_option maxHeartbeats 2000000 in
theorem has_str.calls (g : Nat) (lb : Array Value) (p : ByteArray → Bool) (A0 : Option Addr) (c0 : Nat) (l0 : List ByteArray) (w : World) (hr0 : Kd.C Kd.string w A0 l0.length l0)
  (eg : ∀ args w, (callFunc g args).run Try.prog w = .ok (.enter g args) w)
  (hp : ∀ (W : World) (x : ByteArray), x ∈ l0 → Below w.heap.size w W → Calls Try.prog g (#[.string x] ++ lb) W fun e w' => e = .returned (.bool (p x)) ∧ Below w.heap.size w w') :
  Calls Try.prog 109 #[.slice A0 l0.length c0, .func (.func g) #[] lb] w fun e w' => e = .returned (.bool (l0.any p)) ∧ Below w.heap.size w w' := by
 have hcall := idx_str.calls g lb p A0 c0 l0 w hr0 eg hp
 rw [show l0.any p = decide (0 ≤ idxFromS p l0 0) by rw [idxFromS_any]; rfl]
 clear hr0 hp
 go_enter Try.func109, Try.ntmps109
 go_wp2_with (go_at_call 121; refine hcall.mono ?_; rintro e w' ⟨rfl, hb'⟩)
 go_ret
 exact ⟨rfl, hb'⟩

set_option maxHeartbeats 4000000 in
theorem hasNeeds_1.calls (x : ByteArray) (A0 : Option Addr) (c0 : Nat) (l0 : List (S34)) (A1 : Option Addr) (c1 : Nat) (l1 : List Int) (B1 B0 : Nat) (w : World) (hr0 : Kd.C k34 w A0 l0.length l0) (hr1 : Kd.C (Kd.int .i64) w A1 l1.length l1) (hc1 : l1.length ≤ c1)
  (h1 : w.cell? ⟨B1, 0, none⟩ = some (.slice A1 l1.length c1)) (h0 : w.cell? ⟨B0, 0, none⟩ = some (.slice A0 l0.length c0)) :
  Calls Try.prog 110 #[.string x, .pointer (some ⟨B1, 0, none⟩), .pointer (some ⟨B0, 0, none⟩)] w fun e w' => e = .returned (.bool (!(hasI l1 (stageIx l0 x)))) ∧ Below w.heap.size w w' := by
 have hat : ∀ W, (Below w.heap.size w W ∧ W.cell? ⟨B1, 0, none⟩ = some (.slice A1 l1.length c1) ∧ W.cell? ⟨B0, 0, none⟩ = some (.slice A0 l0.length c0)) → Calls Try.prog 81 #[.slice A0 l0.length c0, .string x] W fun e w' => e = .returned (.int .i64 (stageIx l0 x)) ∧ (Below w.heap.size w w' ∧ w'.cell? ⟨B1, 0, none⟩ = some (.slice A1 l1.length c1) ∧ w'.cell? ⟨B0, 0, none⟩ = some (.slice A0 l0.length c0)) := fun W ⟨hW, g1, g0⟩ =>
  (stageAt_in.calls A0 c0 l0 x W (Kd.C_below hr0 hW)).mono fun e w' ⟨he, hb⟩ => ⟨he, below_then hW hW.size hb, pw_cell_below hb g1, pw_cell_below hb g0⟩
 have hco : ∀ W, (Below w.heap.size w W ∧ W.cell? ⟨B1, 0, none⟩ = some (.slice A1 l1.length c1) ∧ W.cell? ⟨B0, 0, none⟩ = some (.slice A0 l0.length c0)) → Calls Try.prog 74 #[.slice A1 l1.length c1, .int .i64 (stageIx l0 x)] W fun e w' => e = .returned (.bool (hasI l1 (stageIx l0 x))) ∧ (Below w.heap.size w w' ∧ w'.cell? ⟨B1, 0, none⟩ = some (.slice A1 l1.length c1) ∧ w'.cell? ⟨B0, 0, none⟩ = some (.slice A0 l0.length c0)) := fun W ⟨hW, g1, g0⟩ =>
  (contains_in.calls A1 c1 l1 _ W (Kd.C_below hr1 hW) hc1).mono fun e w' ⟨he, ⟨nd, hd⟩⟩ => ⟨he, by subst hd; exact ⟨pw_below_drewN hW nd, g1, g0⟩⟩
 clear hr0 hr1 hc1
 go_enter Try.func110, Try.ntmps110
 go_wp2
 go_region_held3 (fun W => Below w.heap.size w W ∧ W.cell? ⟨B1, 0, none⟩ = some (.slice A1 l1.length c1) ∧ W.cell? ⟨B0, 0, none⟩ = some (.slice A0 l0.length c0)) (first | assumption | exact ⟨below_drew (Below.refl _ _), h1, h0⟩) (first | (go_at_call 81; refine (hat _ (by assumption)).mono ?_; rintro e w' ⟨rfl, hS_⟩) | (go_at_call 74; refine (hco _ (by assumption)).mono ?_; rintro e w' ⟨rfl, hS_⟩))
 go_wp2
 go_ret
 exact ⟨rfl, hS_.1⟩
/-- Is all that a stage needs there? -/
def needsB (l0 : List S34) (l1 : List Int) (a : Int) : Bool := (rd_T34 l0 a).f3.all fun x => hasI l1 (stageIx l0 x)
def impl_hasNeeds.f (l0 : List (S34)) (l1 : List Int) (a2 : Int) : Option Bool := if 0 ≤ a2 then (if a2 < (l0.length : Int) then some (needsB l0 l1 a2) else none) else none
set_option maxHeartbeats 4000000 in
theorem hasNeeds_in.calls (A0 : Option Addr) (c0 : Nat) (l0 : List (S34)) (A1 : Option Addr) (c1 : Nat) (l1 : List Int) (a2 : Int) (w : World) (hr0 : Kd.C k34 w A0 l0.length l0) (hc0 : l0.length ≤ c0) (hr1 : Kd.C (Kd.int .i64) w A1 l1.length l1) (hc1 : l1.length ≤ c1) (q0 : 0 ≤ a2) (q1 : a2 < (l0.length : Int)) :
  Calls Try.prog 75 #[.slice A0 l0.length c0, .slice A1 l1.length c1, .int .i64 a2] w fun e w' => e = .returned (.bool (needsB l0 l1 a2)) ∧ Below w.heap.size w w' := by
 obtain ⟨ad, A3, c3, e, hx0, hx1, hx2, hx3, hl3, hi3⟩ := at_T34 hr0 a2 q0 q1
 cases e
 have hcall : ∀ (W : World) (B1 B0 : Nat), Below w.heap.size w W → B1 < W.heap.size → B0 < W.heap.size → W.cell? ⟨B1, 0, none⟩ = some (.slice A1 l1.length c1) → W.cell? ⟨B0, 0, none⟩ = some (.slice (some ad) l0.length c0) →
   Calls Try.prog 109 #[.slice A3 (rd_T34 l0 a2).f3.length c3, .func (.func 110) #[] #[.pointer (some ⟨B1, 0, none⟩), .pointer (some ⟨B0, 0, none⟩)]] W fun e w' => e = .returned (.bool (!(needsB l0 l1 a2))) ∧ Below w.heap.size w w' := fun W B1 B0 hb l1' l0' h1 h0 => by
  rw [show (!(needsB l0 l1 a2)) = (rd_T34 l0 a2).f3.any (fun x => !(hasI l1 (stageIx l0 x))) by unfold needsB; rw [List.not_all_eq_any_not]]
  refine (has_str.calls 110 #[.pointer (some ⟨B1, 0, none⟩), .pointer (some ⟨B0, 0, none⟩)] (fun x => !(hasI l1 (stageIx l0 x))) A3 c3 _ W (Kd.C_below hi3 hb) (enters_ Try.func110 (by kernel_rfl) rfl) (fun V x _ hV => ?_)).mono fun e w' ⟨he, hb'⟩ => ⟨he, below_then hb hb.size hb'⟩
  have hb2 := below_then hb hb.size hV
  exact (hasNeeds_1.calls x (some ad) c0 l0 A1 c1 l1 B1 B0 V (Kd.C_below hr0 hb2) (Kd.C_below hr1 hb2) hc1 ((hV.cell l1').trans h1) ((hV.cell l0').trans h0)).mono fun e w' ⟨he, hb'⟩ => ⟨he, below_then hV hV.size hb'⟩
 have hx3' := fun o p => pw_cell_below (below_alloc (below_alloc (Below.refl _ _) o) p) hx3
 have q0' := eq_true q0
 have q1' := eq_true q1
 clear hr0 hr1 hc0 hc1 hi3 hl3 hx0 hx1 hx2 hx3 q0 q1
 go_enter Try.func75, Try.ntmps75
 go_wp2_with (go_at_call 109; refine (hcall _ _ _ (below_alloc (below_alloc (Below.refl _ _) _) _) (by first | (simp; done) | (simp; omega)) (by first | (simp; done) | (simp; omega)) (by first | (simp; done) | (simp; omega)) (by first | (simp; done) | (simp; omega))).mono ?_; rintro e w' ⟨rfl, hb'⟩)
 go_ret
 exact ⟨by simp, hb'⟩
theorem impl_hasNeeds.calls (A0 : Option Addr) (c0 : Nat) (l0 : List (S34)) (A1 : Option Addr) (c1 : Nat) (l1 : List Int) (a2 : Int) (r : Bool) (w : World) (hr0 : Kd.C k34 w A0 l0.length l0) (hc0 : l0.length ≤ c0) (hr1 : Kd.C (Kd.int .i64) w A1 l1.length l1) (hc1 : l1.length ≤ c1) (h : impl_hasNeeds.f l0 l1 a2 = some r) :
  Calls Try.prog 75 #[.slice A0 l0.length c0, .slice A1 l1.length c1, .int .i64 a2] w fun e w' => e = .returned (.bool r) ∧ Below w.heap.size w w' := by
 unfold impl_hasNeeds.f at h
 by_cases q0 : 0 ≤ a2
 ·
  rw [if_pos q0] at h
  by_cases q1 : a2 < (l0.length : Int)
  ·
   rw [if_pos q1] at h
   obtain rfl := Option.some.inj h
   exact hasNeeds_in.calls A0 c0 l0 A1 c1 l1 a2 w hr0 hc0 hr1 hc1 q0 q1
  ·
   rw [if_neg q1] at h; cases h
 ·
  rw [if_neg q0] at h; cases h
def inB0 (l0 : List S34) (l1 : List Int) : Bool := l1.all fun x => decide (0 ≤ x) && decide (x < (l0.length : Int))
theorem inB0_at {l0 : List S34} {l1 : List Int} (h : inB0 l0 l1 = true) {x : Int} (hx : x ∈ l1) : 0 ≤ x ∧ x < (l0.length : Int) := by
 unfold inB0 at h
 rw [List.all_eq_true] at h
 have := h x hx
 simpa only [Bool.and_eq_true, decide_eq_true_eq] using this

-- NOT PRINTED: function 105 (slices_IndexFunc_int64_int64)

/-! ### impl_firstOrder: function 70 -/
/-- The first place, from i on, of which p holds; -1. -/
def idxFrom (p : Int → Bool) (xs : List Int) (i : Nat) : Int := if h : i < xs.length then (if p xs[i] = true then (i : Int) else idxFrom p xs (i + 1)) else -1
termination_by xs.length - i
set_option maxHeartbeats 2000000 in
theorem idx_int.calls (g : Nat) (lb : Array Value) (p : Int → Bool) (A0 : Option Addr) (c0 : Nat) (l0 : List Int) (w : World) (hr0 : Kd.C (Kd.int .i64) w A0 l0.length l0)
  (eg : ∀ args w, (callFunc g args).run Try.prog w = .ok (.enter g args) w)
  (hp : ∀ (W : World) (x : Int), x ∈ l0 → Below w.heap.size w W → Calls Try.prog g (#[.int .i64 x] ++ lb) W fun e w' => e = .returned (.bool (p x)) ∧ Below w.heap.size w w') :
  Calls Try.prog 105 #[.slice A0 l0.length c0, .func (.func g) #[] lb] w fun e w' => e = .returned (.int .i64 (idxFrom p l0 0)) ∧ Below w.heap.size w w' := by
 have hn : l0.length ≤ 9223372036854775807 := by have := hr0.2.1; omega
 have HR0 := Aside0.mk hr0
 have HP := Aside0.mk hp
 have HN := Aside0.mk hn
 clear hr0 hp hn
 go_enter Try.func105, Try.ntmps105
 go_wp2
 go_loopg [5, 8] l0.length (fun gg _ s8 wr => ∃ kk : Nat, s8 = .int .i64 kk ∧ Aside0 (kk ≤ l0.length) ∧ Aside0 (l0.length - kk ≤ gg) ∧ Aside0 (idxFrom p l0 0 = idxFrom p l0 kk) ∧ Aside0 (Below w.heap.size w wr))
 case atStart => exact ⟨0, rfl, ⟨Nat.zero_le _⟩, ⟨by omega⟩, ⟨rfl⟩, ⟨Below.refl _ w⟩⟩
 case round =>
  obtain ⟨kk, rfl, hkk, hg, hq, hb⟩ := hrel
  by_cases hlt : kk < l0.length
  ·
   have hltz : decide ((kk : Int) < (l0.length : Int)) = true := decide_eq_true (by omega)
   obtain ⟨ad, e, hx⟩ := Kd.at_int (Kd.C_below HR0.out hb.out) (kk : Int) (by omega) (by omega)
   cases e
   have hxx : rd l0 (kk : Int) = l0[kk] := by unfold rd; simp [List.getD_eq_getElem?_getD, hlt]
   rw [hxx, Int.toNat_natCast] at hx
   clear hxx
   have hcall := HP.out wr l0[kk] (List.getElem_mem hlt) hb.out
   have hq2 := hq.out
   rw [show idxFrom p l0 kk = if p l0[kk] = true then (kk : Int) else idxFrom p l0 (kk + 1) by rw [idxFrom, dif_pos hlt]] at hq2
   cases hc : p l0[kk] with
   | true =>
    rw [hc] at hcall hq2
    have hq3 := Aside0.mk hq2
    clear hq2
    go_wp2_with (go_at_fn g; refine hcall.mono ?_; rintro e w' ⟨rfl, hb'⟩)
    go_ret
    refine ⟨?_, hb'⟩
    rw [hq3.out]; rfl
   | false =>
    rw [hc] at hcall hq2
    have hq3 := Aside0.mk hq2
    clear hq2
    go_wp2_with (go_at_fn g; refine hcall.mono ?_; rintro e w' ⟨rfl, hb'⟩)
    go_roundg (l0.length - (kk + 1))
    case measure => have := hg.out; omega
    case rel => exact ⟨kk + 1, by rw [show wrap64 ((kk : Int) + 1) = ((kk + 1 : Nat) : Int) by have := HN.out; unfold wrap64; omega], ⟨by omega⟩, ⟨by omega⟩, ⟨by rw [hq3.out]; rfl⟩, ⟨hb'⟩⟩
  ·
   have hltz : decide ((kk : Int) < (l0.length : Int)) = false := decide_eq_false (by omega)
   go_wp2
   go_ret
   refine ⟨?_, hb.out⟩
   rw [hq.out, idxFrom, dif_neg hlt]
   rfl
theorem idxFrom_any (p : Int → Bool) (xs : List Int) (i : Nat) : decide (0 ≤ idxFrom p xs i) = (xs.drop i).any p := by
 rw [idxFrom]
 by_cases h : i < xs.length
 ·
  rw [dif_pos h, List.drop_eq_getElem_cons h, List.any_cons]
  cases c : p xs[i] with
  | true => simp
  | false =>
   rw [if_neg (by simp), idxFrom_any p xs (i + 1), Bool.false_or]
 ·
  rw [dif_neg h, List.drop_eq_nil_of_le (by omega)]; rfl
termination_by xs.length - i
set_option maxHeartbeats 2000000 in
theorem has_int.calls (g : Nat) (lb : Array Value) (p : Int → Bool) (A0 : Option Addr) (c0 : Nat) (l0 : List Int) (w : World) (hr0 : Kd.C (Kd.int .i64) w A0 l0.length l0)
  (eg : ∀ args w, (callFunc g args).run Try.prog w = .ok (.enter g args) w)
  (hp : ∀ (W : World) (x : Int), x ∈ l0 → Below w.heap.size w W → Calls Try.prog g (#[.int .i64 x] ++ lb) W fun e w' => e = .returned (.bool (p x)) ∧ Below w.heap.size w w') :
  Calls Try.prog 103 #[.slice A0 l0.length c0, .func (.func g) #[] lb] w fun e w' => e = .returned (.bool (l0.any p)) ∧ Below w.heap.size w w' := by
 have hcall := idx_int.calls g lb p A0 c0 l0 w hr0 eg hp
 rw [show l0.any p = decide (0 ≤ idxFrom p l0 0) by rw [idxFrom_any]; rfl]
 clear hr0 hp
 go_enter Try.func103, Try.ntmps103
 go_wp2_with (go_at_call 105; refine hcall.mono ?_; rintro e w' ⟨rfl, hb'⟩)
 go_ret
 exact ⟨rfl, hb'⟩

/-- May a stage be next, behind those of an order? -/
def foP (l0 : List S34) (o : List Int) (x : Int) : Bool := !(hasI o x) && needsB l0 o x
set_option maxHeartbeats 4000000 in
theorem firstOrder_1.calls (x : Int) (A0 : Option Addr) (c0 : Nat) (l0 : List (S34)) (A1 : Option Addr) (c1 : Nat) (o : List Int) (B1 B0 : Nat) (w : World) (hr0 : Kd.C k34 w A0 l0.length l0) (hc0 : l0.length ≤ c0) (hr1 : Kd.C (Kd.int .i64) w A1 o.length o) (hc1 : o.length ≤ c1)
  (h1 : w.cell? ⟨B1, 0, none⟩ = some (.slice A1 o.length c1)) (h0 : w.cell? ⟨B0, 0, none⟩ = some (.slice A0 l0.length c0)) (q0 : 0 ≤ x) (q1 : x < (l0.length : Int)) :
  Calls Try.prog 106 #[.int .i64 x, .pointer (some ⟨B1, 0, none⟩), .pointer (some ⟨B0, 0, none⟩)] w fun e w' => e = .returned (.bool (foP l0 o x)) ∧ Below w.heap.size w w' := by
 have hat : ∀ W, (Below w.heap.size w W ∧ W.cell? ⟨B1, 0, none⟩ = some (.slice A1 o.length c1) ∧ W.cell? ⟨B0, 0, none⟩ = some (.slice A0 l0.length c0)) → Calls Try.prog 75 #[.slice A0 l0.length c0, .slice A1 o.length c1, .int .i64 x] W fun e w' => e = .returned (.bool (needsB l0 o x)) ∧ (Below w.heap.size w w' ∧ w'.cell? ⟨B1, 0, none⟩ = some (.slice A1 o.length c1) ∧ w'.cell? ⟨B0, 0, none⟩ = some (.slice A0 l0.length c0)) := fun W ⟨hW, g1, g0⟩ =>
  (hasNeeds_in.calls A0 c0 l0 A1 c1 o x W (Kd.C_below hr0 hW) hc0 (Kd.C_below hr1 hW) hc1 q0 q1).mono fun e w' ⟨he, hb⟩ => ⟨he, below_then hW hW.size hb, pw_cell_below hb g1, pw_cell_below hb g0⟩
 have hco : ∀ W, (Below w.heap.size w W ∧ W.cell? ⟨B1, 0, none⟩ = some (.slice A1 o.length c1) ∧ W.cell? ⟨B0, 0, none⟩ = some (.slice A0 l0.length c0)) → Calls Try.prog 74 #[.slice A1 o.length c1, .int .i64 x] W fun e w' => e = .returned (.bool (hasI o x)) ∧ (Below w.heap.size w w' ∧ w'.cell? ⟨B1, 0, none⟩ = some (.slice A1 o.length c1) ∧ w'.cell? ⟨B0, 0, none⟩ = some (.slice A0 l0.length c0)) := fun W ⟨hW, g1, g0⟩ =>
  (contains_in.calls A1 c1 o _ W (Kd.C_below hr1 hW) hc1).mono fun e w' ⟨he, ⟨nd, hd⟩⟩ => ⟨he, by subst hd; exact ⟨pw_below_drewN hW nd, g1, g0⟩⟩
 clear hr0 hr1 hc0 hc1 q0 q1
 unfold foP
 cases hc : hasI o x with
 | true =>
  rw [hc] at hco
  have hS0 := And.intro (Below.refl w.heap.size w) (And.intro h1 h0)
  clear hc hat
  go_enter Try.func106, Try.ntmps106
  go_wp2_with (first | (go_at_call 74; refine (hco _ hS0).mono ?_; rintro e w' ⟨rfl, hSa, hSb, hSc⟩))
  go_ret
  exact ⟨rfl, hSa⟩
 | false =>
  rw [hc] at hco
  have hS0 := And.intro (Below.refl w.heap.size w) (And.intro h1 h0)
  clear hc
  go_enter Try.func106, Try.ntmps106
  go_wp2_with (first | (go_at_call 74; refine (hco _ hS0).mono ?_; rintro e w' ⟨rfl, hSa, hSb, hSc⟩) | (go_at_call 75; refine (hat _ ⟨hSa, hSb, hSc⟩).mono ?_; rintro e w'' ⟨rfl, hSd, hSe, hSf⟩))
  go_ret
  exact ⟨rfl, hSd⟩
/-- The first order of stages, behind an order. -/
def fo (l0 : List S34) (l1 : List Int) : Nat → List Int → Option (List Int)
 | 0, _ => none
 | k + 1, o => if idxFrom (foP l0 o) l1 0 < 0 then some o else if o.length < 17592186044416 then fo l0 l1 k (o ++ [rd l1 (idxFrom (foP l0 o) l1 0)]) else none
theorem fo_mono (l0 : List S34) (l1 : List Int) : ∀ k o, LeO (fo l0 l1 k o) (fo l0 l1 (k + 1) o)
 | 0, o => LeO.none _
 | k + 1, o => by
  unfold fo
  exact LeO.ite (LeO.refl _) (LeO.ite (fo_mono l0 l1 k _) (LeO.refl _))
def impl_firstOrder.f (k : Nat) (l0 : List (S34)) (l1 : List Int) : Option (List Int) := if inB0 l0 l1 = true then fo l0 l1 k [] else none
theorem impl_firstOrder.mono : ∀ a0 a1 k, LeO (impl_firstOrder.f k a0 a1) (impl_firstOrder.f (k + 1) a0 a1) := by
 intro a0 a1 k
 unfold impl_firstOrder.f
 exact LeO.ite (fo_mono a0 a1 k []) (LeO.refl _)
theorem idxFrom_in (p : Int → Bool) (xs : List Int) (i : Nat) : idxFrom p xs i = -1 ∨ ((i : Int) ≤ idxFrom p xs i ∧ idxFrom p xs i < (xs.length : Int)) := by
 rw [idxFrom]
 by_cases h : i < xs.length
 ·
  rw [dif_pos h]
  by_cases c : p xs[i] = true
  ·
   rw [if_pos c]; exact .inr ⟨by omega, by omega⟩
  ·
   rw [if_neg c]
   rcases idxFrom_in p xs (i + 1) with h1 | ⟨h1, h2⟩
   ·
    exact .inl h1
   ·
    exact .inr ⟨by omega, h2⟩
 ·
  rw [dif_neg h]; exact .inl rfl
termination_by xs.length - i
set_option maxHeartbeats 8000000 in
set_option maxRecDepth 100000 in
theorem impl_firstOrder.calls (k : Nat) (A0 : Option Addr) (c0 : Nat) (l0 : List (S34)) (A1 : Option Addr) (c1 : Nat) (l1 : List Int) (r : List Int) (w : World) (hr0 : Kd.C k34 w A0 l0.length l0) (hc0 : l0.length ≤ c0) (hr1 : Kd.C (Kd.int .i64) w A1 l1.length l1) (hc1 : l1.length ≤ c1) (h : impl_firstOrder.f k l0 l1 = some r) :
    Calls Try.prog 70 #[.slice A0 l0.length c0, .slice A1 l1.length c1] w fun e w' => ∃ v0_ : Value, e = .returned (v0_) ∧ Kd.R (Kd.int .i64) 2 w' w.heap.size (fun _ => True) v0_ r ∧ Below w.heap.size w w' := by
  unfold impl_firstOrder.f at h
  by_cases q : inB0 l0 l1 = true
  · rw [if_pos q] at h
    have hcall : ∀ (W : World) (B1 B0 : Nat) (o : List Int) (Ao : Option Addr) (co : Nat), Below w.heap.size w W → Kd.C (Kd.int .i64) W Ao o.length o → o.length ≤ co → B1 < W.heap.size → B0 < W.heap.size → W.cell? ⟨B1, 0, none⟩ = some (.slice Ao o.length co) → W.cell? ⟨B0, 0, none⟩ = some (.slice A0 l0.length c0) →
        Calls Try.prog 105 #[.slice A1 l1.length c1, .func (.func 106) #[] #[.pointer (some ⟨B1, 0, none⟩), .pointer (some ⟨B0, 0, none⟩)]] W fun e w' => e = .returned (.int .i64 (idxFrom (foP l0 o) l1 0)) ∧ Below W.heap.size W w' := fun W B1 B0 o Ao co hb hro hco l1' l0' h1 h0 => by
      refine idx_int.calls 106 #[.pointer (some ⟨B1, 0, none⟩), .pointer (some ⟨B0, 0, none⟩)] (foP l0 o) A1 c1 l1 W (Kd.C_below hr1 hb) (enters_ Try.func106 (by kernel_rfl) rfl) (fun V x hx hV => ?_)
      have hb2 := below_then hb hb.size hV
      exact (firstOrder_1.calls x A0 c0 l0 Ao co o B1 B0 V (Kd.C_below hr0 hb2) hc0 (Kd.C_below hro hV) hco ((hV.cell l1').trans h1) ((hV.cell l0').trans h0) (inB0_at q hx).1 (inB0_at q hx).2).mono fun e w' ⟨he, hb'⟩ => ⟨he, below_then hV hV.size hb'⟩
    have HC := Aside0.mk hcall
    have HR1 := Aside0.mk hr1
    have H0 := Aside0.mk h
    clear hcall hr0 hr1 hc0 hc1 q h
    go_enter Try.func70, Try.ntmps70
    go_wp2
    go_loopg [] k (fun gg wr => ∃ (v : Value) (o : List Int), Aside0 (fo l0 l1 gg o = some r) ∧ Aside0 (wr.heap[w.heap.size + 1]? = some (.cells #[v] 27 (0, 0))) ∧ Aside0 (wr.heap[w.heap.size]? = some (.cells #[.slice A0 l0.length c0] 24 (0, 0))) ∧ Aside0 (Kd.R (Kd.int .i64) 2 wr w.heap.size (fun _ => True) v o) ∧ Aside0 (Below w.heap.size w wr))
    case atStart =>
      refine ⟨_, [], H0, ⟨?_⟩, ⟨?_⟩, ⟨Kd.R_nil _ _ _ _ _⟩, ⟨below_alloc (below_alloc (Below.refl _ _) _) _⟩⟩
      · have := blk_new (w.alloc (.cells #[.slice A0 l0.length c0] 24)) (.cells #[.slice none 0 0] 27)
        simpa using this
      · exact blk_alloc (blk_new w _) _
    case round =>
      obtain ⟨v, o, hf, hB1, hB0, HO, HB⟩ := hrel
      cases gk with
      | zero => exact absurd hf.out (by simp [fo])
      | succ k1 =>
        have h := hf.out
        obtain ⟨Ao, co, rfl, hco, hro⟩ := Kd.R_reads HO.out
        have hcell1 : wr.cell? ⟨w.heap.size + 1, 0, none⟩ = some (.slice Ao o.length co) := (blk_cell hB1.out 0).trans rfl
        have hcell0 : wr.cell? ⟨w.heap.size, 0, none⟩ = some (.slice A0 l0.length c0) := (blk_cell hB0.out 0).trans rfl
        have hc := HC.out wr (w.heap.size + 1) w.heap.size o Ao co HB.out hro hco (blk_lt hB1.out) (blk_lt hB0.out) hcell1 hcell0
        rw [fo] at h
        rcases idxFrom_in (foP l0 o) l1 0 with hi | ⟨hi0, hi1⟩
        · rw [hi] at h hc
          rw [if_pos (by decide)] at h
          obtain rfl := Option.some.inj h
          clear hf h hi hro
          go_wp2_with (go_at_call 105; refine hc.mono ?_; rintro e w' ⟨rfl, hb'⟩; have hcell2 := pw_cell_below hb' hcell1)
          go_ret
          exact ⟨_, rfl, Kd.R_below HO.out hb', below_then HB.out HB.out.size hb'⟩
        · generalize idxFrom (foP l0 o) l1 0 = ix at h hc hi0 hi1
          rw [if_neg (by omega)] at h
          by_cases hlm : o.length < 17592186044416
          · rw [if_pos hlm] at h
            have hf' := Aside0.mk h
            have LM := Aside0.mk hlm
            obtain ⟨ad, e, hx⟩ := Kd.at_int HR1.out ix (by omega) hi1
            cases e
            have hneg : decide (ix < 0) = false := decide_eq_false (by omega)
            have p0 : decide (0 ≤ ix) = true := decide_eq_true (by omega)
            have p1 : decide (ix < (l1.length : Int)) = true := decide_eq_true hi1
            have p0' := eq_true (of_decide_eq_true p0)
            have p1' := eq_true (of_decide_eq_true p1)
            clear hf h hlm hi0 hi1 hro
            go_wp2_with (go_at_call 105; refine hc.mono ?_; rintro e w' ⟨rfl, hb'⟩; have hcell2 := pw_cell_below hb' hcell1; have hcell3 := (below_then HB.out HB.out.size hb'); have hxw := hx)
            have hbw := Aside0.mk (below_then HB.out HB.out.size hb')
            have hcell5 := fun o' => pw_cell_below (below_alloc (Below.refl _ w') o') hcell2
            have hx2 := pw_cell_below hbw.out hx
            go_region_law
              (first | (refine Kd.R_append_step (Kd.int .i64) (w0 := w) w.heap.size (by rfl) (.tmp 13) (.tmp 18) 27 2 (.int .i64 0) 8 rfl Try.underlying27 info2 rfl (by decide) (by omega) (.slice Ao o.length co) o (rd l1 ix) [.int .i64 (rd l1 ix)] (fun _ => True) (fun _ => False) rfl rfl rfl (fun _ hk => hk.elim) (fun _ _ => trivial) (Kd.R_drew (Kd.R_below HO.out hb')) (below_drew hbw.out) (below_drew hbw.out).size (by have := LM.out; omega) ?_; intro v1 w1 ho hb1 hg hat; obtain ⟨A9, c9, h9⟩ := Kd.R_slice ho; rw [List.length_append, List.length_singleton] at h9; subst h9; have hk1 := blk_grown (blk_drew (blk_below hB1.out hb')) hg (Kd.R_ne (Kd.R_below HO.out hb') (blk_below hB1.out hb') (by decide)); have hcell4 := (blk_cell hk1 0).trans rfl; have hfr4 := blk_frozen hk1 0; have hst := hb1.setCell (p := ⟨w.heap.size + 1, 0, none⟩) (Nat.le_succ _) (.slice A9 (o.length + 1) c9)))
            all_goals go_wp2
            all_goals go_roundg k1
            all_goals first
              | exact Nat.lt_succ_self _
              | (refine ⟨_, o ++ [rd l1 ix], hf', ⟨blk_put hk1 0 _ rfl⟩, ⟨blk_far (blk_grown (blk_drew (blk_below hB0.out hb')) hg (Kd.R_ne (Kd.R_below HO.out hb') (blk_below hB0.out hb') (by decide))) (Nat.ne_of_lt (Nat.lt_succ_self _)) _⟩, ⟨Kd.R_set ho hk1 (fun q hq => ?_) 0 _⟩, ⟨hst⟩⟩
                 rcases List.mem_cons.1 hq with h | h
                 · subst h; decide
                 · cases h)
          · rw [if_neg hlm] at h; cases h
  · rw [if_neg q] at h; cases h

/-! ### impl_onlyNameBytes: function 112 -/
def impl_onlyNameBytes.l0 : Nat → ByteArray → Int → Int → Option (Bool)
 | 0, _, _, _ => none
 | k + 1, x0, x6, x7 => if x7 < x6 then (if 0 ≤ x7 then (if x7 < (x0.size : Int) then (if (bt x0 x7) < 97 then (if (bt x0 x7) < 48 then (some false) else (if (bt x0 x7) > 57 then (some false) else (impl_onlyNameBytes.l0 k x0 x6 (wrap64 (x7 + 1))))) else (if (bt x0 x7) > 122 then (if (bt x0 x7) < 48 then (some false) else (if (bt x0 x7) > 57 then (some false) else (impl_onlyNameBytes.l0 k x0 x6 (wrap64 (x7 + 1))))) else (impl_onlyNameBytes.l0 k x0 x6 (wrap64 (x7 + 1))))) else (none)) else (none)) else (some true)
def impl_onlyNameBytes.f (k : Nat) (a0 : ByteArray) : Option (Bool) := impl_onlyNameBytes.l0 k a0 (a0.size : Int) 0
theorem impl_onlyNameBytes.mono_l : ∀ k, (∀ y0 y1 y2, LeO (impl_onlyNameBytes.l0 k y0 y1 y2) (impl_onlyNameBytes.l0 (k + 1) y0 y1 y2))
 | 0 => fun _ _ _ r h => by simp [impl_onlyNameBytes.l0] at h
 | k + 1 => by
  have ih0 := impl_onlyNameBytes.mono_l k
  ·
   intro y0 y1 y2
   unfold impl_onlyNameBytes.l0
   repeat' first
   | (with_reducible exact ih0 _ _ _)
   | (with_reducible exact LeO.refl _)
   | (with_reducible exact LeO.none _)
   | (with_reducible refine LeO.ite ?_ ?_)
   | (with_reducible refine LeO.bind ?_ (fun _ => ?_))
   | exact ih0 _ _ _
   | exact LeO.none _
   | refine LeO.ite ?_ ?_
   | refine LeO.bind ?_ (fun _ => ?_)
theorem impl_onlyNameBytes.mono : ∀ a0 k, LeO (impl_onlyNameBytes.f k a0) (impl_onlyNameBytes.f (k + 1) a0) := by
 intro a0 k
 have ih0 := impl_onlyNameBytes.mono_l k
 unfold impl_onlyNameBytes.f
 repeat' first
  | (with_reducible exact ih0 _ _ _)
  | (with_reducible exact LeO.refl _)
  | (with_reducible exact LeO.none _)
  | (with_reducible refine LeO.ite ?_ ?_)
  | (with_reducible refine LeO.bind ?_ (fun _ => ?_))
  | exact ih0 _ _ _
  | exact LeO.none _
  | refine LeO.ite ?_ ?_
  | refine LeO.bind ?_ (fun _ => ?_)
set_option maxHeartbeats 8000000 in
set_option maxRecDepth 100000 in
theorem impl_onlyNameBytes.calls (k : Nat) (a0 : ByteArray) (r : Bool) (w : World) (h : impl_onlyNameBytes.f k a0 = some r) :
  Calls Try.prog 112 #[.string a0] w fun e w' => e = .returned (.bool r) ∧ Drawn0 w w' := by
 have H : (impl_onlyNameBytes.l0 k a0 (a0.size : Int) 0) = some r := h
 clear h
 have H' := Aside0.mk H
 clear H
 go_enter Try.func112, Try.ntmps112
 go_wp2
 go_loopg [7] k (fun kq v7 w' => ∃ (x7_1 : Int), v7 = .int .i64 x7_1 ∧ Aside0 (impl_onlyNameBytes.l0 kq a0 (a0.size : Int) x7_1 = some r) ∧ Aside0 (kq ≤ k) ∧ Drawn0 w w')
 case atStart => exact ⟨(0), rs, H', ⟨Nat.le_refl _⟩, dr0⟩
 case round =>
  clear H'
  obtain ⟨x7_1, rfl, HA, HK1, ⟨m1, rfl⟩⟩ := hrel
  cases gk with
  | zero => exact absurd HA.out (by simp [impl_onlyNameBytes.l0])
  | succ k1 =>
   have H := HA.out
   clear HA
   simp only [impl_onlyNameBytes.l0] at H
   by_cases c2 : x7_1 < (a0.size : Int)
   ·
    rw [if_pos c2] at H
    have c2b0 : decide (x7_1 < (a0.size : Int)) = true := decide_eq_true c2
    clear c2
    by_cases c3 : 0 ≤ x7_1
    ·
     rw [if_pos c3] at H
     have c3b0 : decide (0 ≤ x7_1) = true := decide_eq_true c3
     clear c3
     by_cases c4 : x7_1 < (a0.size : Int)
     ·
      rw [if_pos c4] at H
      have c4b0 : decide (x7_1 < (a0.size : Int)) = true := decide_eq_true c4
      clear c4
      by_cases c6 : (bt a0 x7_1) < 97
      ·
       rw [if_pos c6] at H
       have c6b0 : decide ((bt a0 x7_1) < 97) = true := decide_eq_true c6
       clear c6
       by_cases c7 : (bt a0 x7_1) < 48
       ·
        rw [if_pos c7] at H
        have c7b0 : decide ((bt a0 x7_1) < 48) = true := decide_eq_true c7
        clear c7
        obtain rfl := Option.some.inj H
        have p5 : 0 ≤ (x7_1 : Int) := od
        have q5 : x7_1 < (a0.size : Int) := od
        have hx5 := bt_at a0 x7_1
        replace p5 := eq_true p5
        replace q5 := eq_true q5
        go_wp2
        go_ret
        exact ⟨rs, dr0⟩
       ·
        rw [if_neg c7] at H
        have c7b0 : decide ((bt a0 x7_1) < 48) = false := decide_eq_false c7
        clear c7
        by_cases c8 : (bt a0 x7_1) > 57
        ·
         rw [if_pos c8] at H
         have c8b0 : decide (57 < (bt a0 x7_1)) = true := decide_eq_true c8
         clear c8
         obtain rfl := Option.some.inj H
         have p5 : 0 ≤ (x7_1 : Int) := od
         have q5 : x7_1 < (a0.size : Int) := od
         have hx5 := bt_at a0 x7_1
         replace p5 := eq_true p5
         replace q5 := eq_true q5
         go_wp2
         go_ret
         exact ⟨rs, dr0⟩
        ·
         rw [if_neg c8] at H
         have c8b0 : decide (57 < (bt a0 x7_1)) = false := decide_eq_false c8
         clear c8
         have H' := Aside0.mk H
         clear H
         have p5 : 0 ≤ (x7_1 : Int) := od
         have q5 : x7_1 < (a0.size : Int) := od
         have hx5 := bt_at a0 x7_1
         replace p5 := eq_true p5
         replace q5 := eq_true q5
         go_wp2
         go_roundg k1
         case measure => have := HK1.out; omega
         case rel => exact ⟨(wrap64 (x7_1 + 1)), rs, H', ⟨by have := HK1.out; omega⟩, dr0⟩
      ·
       rw [if_neg c6] at H
       have c6b0 : decide ((bt a0 x7_1) < 97) = false := decide_eq_false c6
       clear c6
       by_cases c9 : (bt a0 x7_1) > 122
       ·
        rw [if_pos c9] at H
        have c9b0 : decide (122 < (bt a0 x7_1)) = true := decide_eq_true c9
        clear c9
        by_cases c10 : (bt a0 x7_1) < 48
        ·
         rw [if_pos c10] at H
         have c10b0 : decide ((bt a0 x7_1) < 48) = true := decide_eq_true c10
         clear c10
         obtain rfl := Option.some.inj H
         have p5 : 0 ≤ (x7_1 : Int) := od
         have q5 : x7_1 < (a0.size : Int) := od
         have hx5 := bt_at a0 x7_1
         replace p5 := eq_true p5
         replace q5 := eq_true q5
         go_wp2
         go_ret
         exact ⟨rs, dr0⟩
        ·
         rw [if_neg c10] at H
         have c10b0 : decide ((bt a0 x7_1) < 48) = false := decide_eq_false c10
         clear c10
         by_cases c11 : (bt a0 x7_1) > 57
         ·
          rw [if_pos c11] at H
          have c11b0 : decide (57 < (bt a0 x7_1)) = true := decide_eq_true c11
          clear c11
          obtain rfl := Option.some.inj H
          have p5 : 0 ≤ (x7_1 : Int) := od
          have q5 : x7_1 < (a0.size : Int) := od
          have hx5 := bt_at a0 x7_1
          replace p5 := eq_true p5
          replace q5 := eq_true q5
          go_wp2
          go_ret
          exact ⟨rs, dr0⟩
         ·
          rw [if_neg c11] at H
          have c11b0 : decide (57 < (bt a0 x7_1)) = false := decide_eq_false c11
          clear c11
          have H' := Aside0.mk H
          clear H
          have p5 : 0 ≤ (x7_1 : Int) := od
          have q5 : x7_1 < (a0.size : Int) := od
          have hx5 := bt_at a0 x7_1
          replace p5 := eq_true p5
          replace q5 := eq_true q5
          go_wp2
          go_roundg k1
          case measure => have := HK1.out; omega
          case rel => exact ⟨(wrap64 (x7_1 + 1)), rs, H', ⟨by have := HK1.out; omega⟩, dr0⟩
       ·
        rw [if_neg c9] at H
        have c9b0 : decide (122 < (bt a0 x7_1)) = false := decide_eq_false c9
        clear c9
        have H' := Aside0.mk H
        clear H
        have p5 : 0 ≤ (x7_1 : Int) := od
        have q5 : x7_1 < (a0.size : Int) := od
        have hx5 := bt_at a0 x7_1
        replace p5 := eq_true p5
        replace q5 := eq_true q5
        go_wp2
        go_roundg k1
        case measure => have := HK1.out; omega
        case rel => exact ⟨(wrap64 (x7_1 + 1)), rs, H', ⟨by have := HK1.out; omega⟩, dr0⟩
     ·
      rw [if_neg c4] at H
      exact absurd H (by simp)
    ·
     rw [if_neg c3] at H
     exact absurd H (by simp)
   ·
    rw [if_neg c2] at H
    have c2b0 : decide (x7_1 < (a0.size : Int)) = false := decide_eq_false c2
    clear c2
    obtain rfl := Option.some.inj H
    go_wp2
    go_ret
    exact ⟨rs, dr0⟩

end Go.Proofs.Ytmbiapefigcgnaa.PFnPlans
