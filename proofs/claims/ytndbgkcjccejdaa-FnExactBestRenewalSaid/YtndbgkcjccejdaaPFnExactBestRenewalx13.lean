-- written by a program of this session (mkp.py) out of the translation; Lean checks it. -- squeezed
import Derived.Test.YtndbgkcjccejdaaPFnExactBestRenewalx0
import Derived.Test.YtndbgkcjccejdaaPFnExactBestRenewalx1
import Derived.Test.YtndbgkcjccejdaaPFnExactBestRenewalx6
import Derived.Test.YtndbgkcjccejdaaPFnExactBestRenewalx7
import Derived.Test.YtndbgkcjccejdaaPFnExactBestRenewalx11
import Derived.Test.YtndbgkcjccejdaaPFnExactBestRenewalx12
namespace Go.Proofs.Ytndbgkcjccejdaa.PFnExactBestRenewal
open Go.RowKit Go.Proofs.YtndbgkcjccejdaaW.PrintWords Go.Proofs.YtndbgkcjccejdaaW.PrintLast Go.Proofs.YtndbgkcjccejdaaW.PrintMore
attribute [local go_sem] bin_leq bin_gtr bin_geq max2_int min2_int max_two min_two max_three min_three max_four min_four   -- for this text's walks alone
set_option linter.unusedVariables false
set_option linter.unusedSimpArgs false

/-! ### laws_FnExactBestRenewal: function 5 -/
mutual
def laws_FnExactBestRenewal.j0 : Nat → List Int → Int → Int → Int → Int → Int → List Int → Int → Int → List Int → List Int → Int → Int → Bool → List Int → List (S142) → List Int → List (S75) → Option (Bool)
 | 0, _, _, _, _, _, _, _, _, _, _, _, _, _, _, _, _, _, _ => none
 | k + 1, x1, x2, x3, x4, x5, x6, x16, x17, x18, x20, x21, x22, x23, x81, x280000, x280001, x302000, x302001 => if x81 = true then (some false) else ((laws_toNetwork.f k x280000 x280001).bind fun bt311 => ((laws_eqNetwork.f k x302000 x302001 bt311.1 bt311.2).bind fun t317 => (if t317 = true then ((laws_toInt64S.f k x1).bind fun t318 => ((laws_eqInt64S.f k x20 t318).bind fun t321 => (if t321 = true then ((laws_markNetwork.f k x302000 x302001 1).bind fun bt322 => ((laws_markInt64S.f k x20 bt322.1).bind fun bt325 => (if bt325.1 < 0 then (laws_FnExactBestRenewal.j1 k x1 x2 x3 x4 x5 x6 x16 x17 x18 x21 true x280000 x280001) else ((laws_eqInt64S.f k x21 x16).bind fun t327 => (if t327 = true then (if x22 = x17 then (laws_FnExactBestRenewal.j1 k x1 x2 x3 x4 x5 x6 x16 x17 x18 x21 (x23 != x18) x280000 x280001) else (laws_FnExactBestRenewal.j1 k x1 x2 x3 x4 x5 x6 x16 x17 x18 x21 true x280000 x280001)) else (laws_FnExactBestRenewal.j1 k x1 x2 x3 x4 x5 x6 x16 x17 x18 x21 true x280000 x280001)))))) else (some false)))) else (some false))))
def laws_FnExactBestRenewal.j1 : Nat → List Int → Int → Int → Int → Int → Int → List Int → Int → Int → List Int → Bool → List Int → List (S142) → Option (Bool)
 | 0, _, _, _, _, _, _, _, _, _, _, _, _, _ => none
 | k + 1, x1, x2, x3, x4, x5, x6, x16, x17, x18, x21, x115, x280000, x280001 => if x115 = true then (some false) else ((laws_markInt64S.f k x21 1).bind fun bt328 => ((laws_heldInt64S.f k bt328.2 1).bind fun t330 => (if t330 < 0 then (some false) else (if t330 = bt328.1 then ((laws_toNetwork.f k x280000 x280001).bind fun bt331 => ((laws_toInt64S.f k x1).bind fun t337 => ((impl_BestRenewal.f k bt331.1 bt331.2 t337 x2 x3 x4 x5 x6).bind fun bt340 => ((laws_eqInt64S.f k bt340.1 x16).bind fun t345 => (if t345 = true then (if bt340.2.1 = x17 then (laws_FnExactBestRenewal.j2 k bt328.2 bt328.1 (bt340.2.2 != x18)) else (laws_FnExactBestRenewal.j2 k bt328.2 bt328.1 true)) else (laws_FnExactBestRenewal.j2 k bt328.2 bt328.1 true)))))) else (some false)))))
def laws_FnExactBestRenewal.j2 : Nat → List Int → Int → Bool → Option (Bool)
 | 0, _, _, _ => none
 | k + 1, x21, x25, x154 => if x154 = true then (some false) else ((laws_heldInt64S.f k x21 1).bind fun t346 => (if t346 < 0 then (some false) else (if t346 = x25 then (some true) else (some false))))
end
def laws_FnExactBestRenewal.f (k : Nat) (l0_0 : List Int) (l0_1 : List (S142)) (l1 : List Int) (a2 : Int) (a3 : Int) (a4 : Int) (a5 : Int) (a6 : Int) : Option (Bool) := if (l1.length : Int) > 1048576 then (some true) else ((laws_szNetwork.f k l0_0 l0_1 1048576).bind fun t280 => (if t280 < 0 then (some true) else ((laws_toNetwork.f k l0_0 l0_1).bind fun bt281 => ((laws_toInt64S.f k l1).bind fun t287 => ((spec_BestRenewal.f k bt281.1 bt281.2 t287 a2 a3 a4 a5 a6).bind fun bt290 => ((laws_toNetwork.f k l0_0 l0_1).bind fun bt295 => ((laws_toInt64S.f k l1).bind fun t302 => ((impl_BestRenewal.f k bt295.1 bt295.2 t302 a2 a3 a4 a5 a6).bind fun bt305 => ((laws_eqInt64S.f k bt305.1 bt290.1).bind fun t310 => (if t310 = true then (if bt305.2.1 = bt290.2.1 then (laws_FnExactBestRenewal.j0 k l1 a2 a3 a4 a5 a6 bt290.1 bt290.2.1 bt290.2.2 t302 bt305.1 bt305.2.1 bt305.2.2 (bt305.2.2 != bt290.2.2) l0_0 l0_1 bt295.1 bt295.2) else (laws_FnExactBestRenewal.j0 k l1 a2 a3 a4 a5 a6 bt290.1 bt290.2.1 bt290.2.2 t302 bt305.1 bt305.2.1 bt305.2.2 true l0_0 l0_1 bt295.1 bt295.2)) else (laws_FnExactBestRenewal.j0 k l1 a2 a3 a4 a5 a6 bt290.1 bt290.2.1 bt290.2.2 t302 bt305.1 bt305.2.1 bt305.2.2 true l0_0 l0_1 bt295.1 bt295.2)))))))))))
theorem laws_FnExactBestRenewal.mono_l : ∀ k, (∀ y0 y1 y2 y3 y4 y5 y6 y7 y8 y9 y10 y11 y12 y13 y14 y15 y16 y17, LeO (laws_FnExactBestRenewal.j0 k y0 y1 y2 y3 y4 y5 y6 y7 y8 y9 y10 y11 y12 y13 y14 y15 y16 y17) (laws_FnExactBestRenewal.j0 (k + 1) y0 y1 y2 y3 y4 y5 y6 y7 y8 y9 y10 y11 y12 y13 y14 y15 y16 y17)) ∧ (∀ y0 y1 y2 y3 y4 y5 y6 y7 y8 y9 y10 y11 y12, LeO (laws_FnExactBestRenewal.j1 k y0 y1 y2 y3 y4 y5 y6 y7 y8 y9 y10 y11 y12) (laws_FnExactBestRenewal.j1 (k + 1) y0 y1 y2 y3 y4 y5 y6 y7 y8 y9 y10 y11 y12)) ∧ (∀ y0 y1 y2, LeO (laws_FnExactBestRenewal.j2 k y0 y1 y2) (laws_FnExactBestRenewal.j2 (k + 1) y0 y1 y2))
 | 0 => ⟨fun _ _ _ _ _ _ _ _ _ _ _ _ _ _ _ _ _ _ r h => by simp [laws_FnExactBestRenewal.j0] at h, fun _ _ _ _ _ _ _ _ _ _ _ _ _ r h => by simp [laws_FnExactBestRenewal.j1] at h, fun _ _ _ r h => by simp [laws_FnExactBestRenewal.j2] at h⟩
 | k + 1 => by
  obtain ⟨ih0, ih1, ih2⟩ := laws_FnExactBestRenewal.mono_l k
  refine ⟨?_, ?_, ?_⟩
  ·
   intro y0 y1 y2 y3 y4 y5 y6 y7 y8 y9 y10 y11 y12 y13 y14 y15 y16 y17
   unfold laws_FnExactBestRenewal.j0
   repeat' first
   | (with_reducible exact ih0 _ _ _ _ _ _ _ _ _ _ _ _ _ _ _ _ _ _)
   | (with_reducible exact ih1 _ _ _ _ _ _ _ _ _ _ _ _ _)
   | (with_reducible exact ih2 _ _ _)
   | (with_reducible exact impl_BestRenewal.mono _ _ _ _ _ _ _ _ _)
   | (with_reducible exact laws_eqInt64S.mono _ _ _)
   | (with_reducible exact laws_eqNetwork.mono _ _ _ _ _)
   | (with_reducible exact laws_heldInt64S.mono _ _ _)
   | (with_reducible exact laws_markInt64S.mono _ _ _)
   | (with_reducible exact laws_markNetwork.mono _ _ _ _)
   | (with_reducible exact laws_szNetwork.mono _ _ _ _)
   | (with_reducible exact laws_toInt64S.mono _ _)
   | (with_reducible exact laws_toNetwork.mono _ _ _)
   | (with_reducible exact spec_BestRenewal.mono _ _ _ _ _ _ _ _ _)
   | (with_reducible exact LeO.refl _)
   | (with_reducible exact LeO.none _)
   | (with_reducible refine LeO.ite ?_ ?_)
   | (with_reducible refine LeO.bind ?_ (fun _ => ?_))
   | exact ih0 _ _ _ _ _ _ _ _ _ _ _ _ _ _ _ _ _ _
   | exact ih1 _ _ _ _ _ _ _ _ _ _ _ _ _
   | exact ih2 _ _ _
   | exact impl_BestRenewal.mono _ _ _ _ _ _ _ _ _
   | exact laws_eqInt64S.mono _ _ _
   | exact laws_eqNetwork.mono _ _ _ _ _
   | exact laws_heldInt64S.mono _ _ _
   | exact laws_markInt64S.mono _ _ _
   | exact laws_markNetwork.mono _ _ _ _
   | exact laws_szNetwork.mono _ _ _ _
   | exact laws_toInt64S.mono _ _
   | exact laws_toNetwork.mono _ _ _
   | exact spec_BestRenewal.mono _ _ _ _ _ _ _ _ _
   | exact LeO.none _
   | refine LeO.ite ?_ ?_
   | refine LeO.bind ?_ (fun _ => ?_)
  ·
   intro y0 y1 y2 y3 y4 y5 y6 y7 y8 y9 y10 y11 y12
   unfold laws_FnExactBestRenewal.j1
   repeat' first
   | (with_reducible exact ih0 _ _ _ _ _ _ _ _ _ _ _ _ _ _ _ _ _ _)
   | (with_reducible exact ih1 _ _ _ _ _ _ _ _ _ _ _ _ _)
   | (with_reducible exact ih2 _ _ _)
   | (with_reducible exact impl_BestRenewal.mono _ _ _ _ _ _ _ _ _)
   | (with_reducible exact laws_eqInt64S.mono _ _ _)
   | (with_reducible exact laws_eqNetwork.mono _ _ _ _ _)
   | (with_reducible exact laws_heldInt64S.mono _ _ _)
   | (with_reducible exact laws_markInt64S.mono _ _ _)
   | (with_reducible exact laws_markNetwork.mono _ _ _ _)
   | (with_reducible exact laws_szNetwork.mono _ _ _ _)
   | (with_reducible exact laws_toInt64S.mono _ _)
   | (with_reducible exact laws_toNetwork.mono _ _ _)
   | (with_reducible exact spec_BestRenewal.mono _ _ _ _ _ _ _ _ _)
   | (with_reducible exact LeO.refl _)
   | (with_reducible exact LeO.none _)
   | (with_reducible refine LeO.ite ?_ ?_)
   | (with_reducible refine LeO.bind ?_ (fun _ => ?_))
   | exact ih0 _ _ _ _ _ _ _ _ _ _ _ _ _ _ _ _ _ _
   | exact ih1 _ _ _ _ _ _ _ _ _ _ _ _ _
   | exact ih2 _ _ _
   | exact impl_BestRenewal.mono _ _ _ _ _ _ _ _ _
   | exact laws_eqInt64S.mono _ _ _
   | exact laws_eqNetwork.mono _ _ _ _ _
   | exact laws_heldInt64S.mono _ _ _
   | exact laws_markInt64S.mono _ _ _
   | exact laws_markNetwork.mono _ _ _ _
   | exact laws_szNetwork.mono _ _ _ _
   | exact laws_toInt64S.mono _ _
   | exact laws_toNetwork.mono _ _ _
   | exact spec_BestRenewal.mono _ _ _ _ _ _ _ _ _
   | exact LeO.none _
   | refine LeO.ite ?_ ?_
   | refine LeO.bind ?_ (fun _ => ?_)
  ·
   intro y0 y1 y2
   unfold laws_FnExactBestRenewal.j2
   repeat' first
   | (with_reducible exact ih0 _ _ _ _ _ _ _ _ _ _ _ _ _ _ _ _ _ _)
   | (with_reducible exact ih1 _ _ _ _ _ _ _ _ _ _ _ _ _)
   | (with_reducible exact ih2 _ _ _)
   | (with_reducible exact impl_BestRenewal.mono _ _ _ _ _ _ _ _ _)
   | (with_reducible exact laws_eqInt64S.mono _ _ _)
   | (with_reducible exact laws_eqNetwork.mono _ _ _ _ _)
   | (with_reducible exact laws_heldInt64S.mono _ _ _)
   | (with_reducible exact laws_markInt64S.mono _ _ _)
   | (with_reducible exact laws_markNetwork.mono _ _ _ _)
   | (with_reducible exact laws_szNetwork.mono _ _ _ _)
   | (with_reducible exact laws_toInt64S.mono _ _)
   | (with_reducible exact laws_toNetwork.mono _ _ _)
   | (with_reducible exact spec_BestRenewal.mono _ _ _ _ _ _ _ _ _)
   | (with_reducible exact LeO.refl _)
   | (with_reducible exact LeO.none _)
   | (with_reducible refine LeO.ite ?_ ?_)
   | (with_reducible refine LeO.bind ?_ (fun _ => ?_))
   | exact ih0 _ _ _ _ _ _ _ _ _ _ _ _ _ _ _ _ _ _
   | exact ih1 _ _ _ _ _ _ _ _ _ _ _ _ _
   | exact ih2 _ _ _
   | exact impl_BestRenewal.mono _ _ _ _ _ _ _ _ _
   | exact laws_eqInt64S.mono _ _ _
   | exact laws_eqNetwork.mono _ _ _ _ _
   | exact laws_heldInt64S.mono _ _ _
   | exact laws_markInt64S.mono _ _ _
   | exact laws_markNetwork.mono _ _ _ _
   | exact laws_szNetwork.mono _ _ _ _
   | exact laws_toInt64S.mono _ _
   | exact laws_toNetwork.mono _ _ _
   | exact spec_BestRenewal.mono _ _ _ _ _ _ _ _ _
   | exact LeO.none _
   | refine LeO.ite ?_ ?_
   | refine LeO.bind ?_ (fun _ => ?_)
theorem laws_FnExactBestRenewal.mono : ∀ a0 a1 a2 a3 a4 a5 a6 a7 k, LeO (laws_FnExactBestRenewal.f k a0 a1 a2 a3 a4 a5 a6 a7) (laws_FnExactBestRenewal.f (k + 1) a0 a1 a2 a3 a4 a5 a6 a7) := by
 intro a0 a1 a2 a3 a4 a5 a6 a7 k
 obtain ⟨ih0, ih1, ih2⟩ := laws_FnExactBestRenewal.mono_l k
 unfold laws_FnExactBestRenewal.f
 repeat' first
  | (with_reducible exact ih0 _ _ _ _ _ _ _ _ _ _ _ _ _ _ _ _ _ _)
  | (with_reducible exact ih1 _ _ _ _ _ _ _ _ _ _ _ _ _)
  | (with_reducible exact ih2 _ _ _)
  | (with_reducible exact impl_BestRenewal.mono _ _ _ _ _ _ _ _ _)
  | (with_reducible exact laws_eqInt64S.mono _ _ _)
  | (with_reducible exact laws_eqNetwork.mono _ _ _ _ _)
  | (with_reducible exact laws_heldInt64S.mono _ _ _)
  | (with_reducible exact laws_markInt64S.mono _ _ _)
  | (with_reducible exact laws_markNetwork.mono _ _ _ _)
  | (with_reducible exact laws_szNetwork.mono _ _ _ _)
  | (with_reducible exact laws_toInt64S.mono _ _)
  | (with_reducible exact laws_toNetwork.mono _ _ _)
  | (with_reducible exact spec_BestRenewal.mono _ _ _ _ _ _ _ _ _)
  | (with_reducible exact LeO.refl _)
  | (with_reducible exact LeO.none _)
  | (with_reducible refine LeO.ite ?_ ?_)
  | (with_reducible refine LeO.bind ?_ (fun _ => ?_))
  | exact ih0 _ _ _ _ _ _ _ _ _ _ _ _ _ _ _ _ _ _
  | exact ih1 _ _ _ _ _ _ _ _ _ _ _ _ _
  | exact ih2 _ _ _
  | exact impl_BestRenewal.mono _ _ _ _ _ _ _ _ _
  | exact laws_eqInt64S.mono _ _ _
  | exact laws_eqNetwork.mono _ _ _ _ _
  | exact laws_heldInt64S.mono _ _ _
  | exact laws_markInt64S.mono _ _ _
  | exact laws_markNetwork.mono _ _ _ _
  | exact laws_szNetwork.mono _ _ _ _
  | exact laws_toInt64S.mono _ _
  | exact laws_toNetwork.mono _ _ _
  | exact spec_BestRenewal.mono _ _ _ _ _ _ _ _ _
  | exact LeO.none _
  | refine LeO.ite ?_ ?_
  | refine LeO.bind ?_ (fun _ => ?_)
theorem laws_FnExactBestRenewal.no_j0 {r : Bool} (hr : r = true) : ∀ k y0 y1 y2 y3 y4 y5 y6 y7 y8 y9 y10 y11 y12 y14 y15 y16 y17, laws_FnExactBestRenewal.j0 k y0 y1 y2 y3 y4 y5 y6 y7 y8 y9 y10 y11 y12 true y14 y15 y16 y17 = some r → False
  | 0, _, _, _, _, _, _, _, _, _, _, _, _, _, _, _, _, _, h => by simp [laws_FnExactBestRenewal.j0] at h
  | k + 1, _, _, _, _, _, _, _, _, _, _, _, _, _, _, _, _, _, h => by subst hr; simp [laws_FnExactBestRenewal.j0] at h
theorem laws_FnExactBestRenewal.no_j1 {r : Bool} (hr : r = true) : ∀ k y0 y1 y2 y3 y4 y5 y6 y7 y8 y9 y11 y12, laws_FnExactBestRenewal.j1 k y0 y1 y2 y3 y4 y5 y6 y7 y8 y9 true y11 y12 = some r → False
  | 0, _, _, _, _, _, _, _, _, _, _, _, _, h => by simp [laws_FnExactBestRenewal.j1] at h
  | k + 1, _, _, _, _, _, _, _, _, _, _, _, _, h => by subst hr; simp [laws_FnExactBestRenewal.j1] at h
theorem laws_FnExactBestRenewal.no_j2 {r : Bool} (hr : r = true) : ∀ k y0 y1, laws_FnExactBestRenewal.j2 k y0 y1 true = some r → False
  | 0, _, _, h => by simp [laws_FnExactBestRenewal.j2] at h
  | k + 1, _, _, h => by subst hr; simp [laws_FnExactBestRenewal.j2] at h
set_option maxHeartbeats 8000000 in
set_option maxRecDepth 100000 in
theorem laws_FnExactBestRenewal.calls (k : Nat) (A0_0 : Option Addr) (c0_0 : Nat) (l0_0 : List Int) (A0_1 : Option Addr) (c0_1 : Nat) (l0_1 : List (S142)) (A1 : Option Addr) (c1 : Nat) (l1 : List Int) (a2 : Int) (a3 : Int) (a4 : Int) (a5 : Int) (a6 : Int) (r : Bool) (hr_ : r = true) (w : World) (hr0_0 : Kd.C (Kd.int .i64) w A0_0 l0_0.length l0_0) (hc0_0 : l0_0.length ≤ c0_0) (hr0_1 : Kd.C k142 w A0_1 l0_1.length l0_1) (hc0_1 : l0_1.length ≤ c0_1) (hr1 : Kd.C (Kd.int .i64) w A1 l1.length l1) (hc1 : l1.length ≤ c1) (h : laws_FnExactBestRenewal.f k l0_0 l0_1 l1 a2 a3 a4 a5 a6 = some r) :
  Calls Try.prog 5 #[.agg #[.slice A0_0 l0_0.length c0_0, .slice A0_1 l0_1.length c0_1], .slice A1 l1.length c1, .int .i64 a2, .int .i64 a3, .int .i64 a4, .int .i64 a5, .int .i64 a6] w fun e w' => e = .returned (.bool r) ∧ Below w.heap.size w w' := by
 have hu54 := Try.underlying54
 have hu59 := Try.underlying59
 have HR0_0 := Aside0.mk hr0_0
 have HC0_0 := Aside0.mk hc0_0
 clear hr0_0 hc0_0
 have HR0_1 := Aside0.mk hr0_1
 have HC0_1 := Aside0.mk hc0_1
 clear hr0_1 hc0_1
 have HR1 := Aside0.mk hr1
 have HC1 := Aside0.mk hc1
 clear hr1 hc1
 have HB := Aside0.mk (Below.refl w.heap.size w)
 have H : (if (l1.length : Int) > 1048576 then (some true) else ((laws_szNetwork.f k l0_0 l0_1 1048576).bind fun t280 => (if t280 < 0 then (some true) else ((laws_toNetwork.f k l0_0 l0_1).bind fun bt281 => ((laws_toInt64S.f k l1).bind fun t287 => ((spec_BestRenewal.f k bt281.1 bt281.2 t287 a2 a3 a4 a5 a6).bind fun bt290 => ((laws_toNetwork.f k l0_0 l0_1).bind fun bt295 => ((laws_toInt64S.f k l1).bind fun t302 => ((impl_BestRenewal.f k bt295.1 bt295.2 t302 a2 a3 a4 a5 a6).bind fun bt305 => ((laws_eqInt64S.f k bt305.1 bt290.1).bind fun t310 => (if t310 = true then (if bt305.2.1 = bt290.2.1 then (laws_FnExactBestRenewal.j0 k l1 a2 a3 a4 a5 a6 bt290.1 bt290.2.1 bt290.2.2 t302 bt305.1 bt305.2.1 bt305.2.2 (bt305.2.2 != bt290.2.2) l0_0 l0_1 bt295.1 bt295.2) else (laws_FnExactBestRenewal.j0 k l1 a2 a3 a4 a5 a6 bt290.1 bt290.2.1 bt290.2.2 t302 bt305.1 bt305.2.1 bt305.2.2 true l0_0 l0_1 bt295.1 bt295.2)) else (laws_FnExactBestRenewal.j0 k l1 a2 a3 a4 a5 a6 bt290.1 bt290.2.1 bt290.2.2 t302 bt305.1 bt305.2.1 bt305.2.2 true l0_0 l0_1 bt295.1 bt295.2)))))))))))) = some r := h
 clear h
 by_cases c8 : (l1.length : Int) > 1048576
 ·
  rw [if_pos c8] at H
  have c8b0 : decide (1048576 < (l1.length : Int)) = true := decide_eq_true c8
  have c8b1 : decide (1048576 < l1.length) = true := decide_eq_true (by omega)
  clear c8
  obtain rfl := Option.some.inj H
  go_enter Try.func5, Try.ntmps5
  go_wp2_with (first | ((with_reducible refine gate_dst (N := 7) rfl ?_); refine box_event ?hg (N := 7) ?hd (cs := #[.slice A0_0 l0_0.length c0_0, .slice A0_1 l0_1.length c0_1]) (t := 54) ?hr ?_; (case hd => rfl); (case hg => rfl); (case hr => first | (go_simp; done) | (go_simp; rfl)); intro gb279 hg w9 hbox hb; have n0_ := Aside0.mk (below_step (mvB HB.out) hb); have n1_ := Aside0.mk (hbox); have n2_ := Aside0.mk ((by rw [hg]; exact (below_size (mvB HB.out)) : w.heap.size ≤ gb279)); have n3_ := Aside0.mk ((by rw [hg]; exact (below_size (mvB HB.out)) : w.heap.size ≤ gb279)); clear HB; revert n0_ n1_ n2_ n3_; intro HB BK279 GW279 GE279; clear hb hbox hg))
  go_ret
  exact ⟨by first | rfl | (simp [errW_none, errW_some] <;> rfl) | (simp [*, errW_none, errW_some] <;> rfl), by repeat (first | (with_reducible first | exact HB.out | apply below_alloc | apply pw_below_drewN | apply below_drew1 | refine below_set ?_ GE279.out) | exact HB.out)⟩
 ·
  rw [if_neg c8] at H
  have c8b0 : decide (1048576 < (l1.length : Int)) = false := decide_eq_false c8
  have c8b1 : decide (1048576 < l1.length) = false := decide_eq_false (by omega)
  clear c8
  replace H := Option.bind_eq_some_iff.mp H
  obtain ⟨t280, A100, H⟩ := H
  replace H : (if t280 < 0 then (some true) else ((laws_toNetwork.f k l0_0 l0_1).bind fun bt281 => ((laws_toInt64S.f k l1).bind fun t287 => ((spec_BestRenewal.f k bt281.1 bt281.2 t287 a2 a3 a4 a5 a6).bind fun bt290 => ((laws_toNetwork.f k l0_0 l0_1).bind fun bt295 => ((laws_toInt64S.f k l1).bind fun t302 => ((impl_BestRenewal.f k bt295.1 bt295.2 t302 a2 a3 a4 a5 a6).bind fun bt305 => ((laws_eqInt64S.f k bt305.1 bt290.1).bind fun t310 => (if t310 = true then (if bt305.2.1 = bt290.2.1 then (laws_FnExactBestRenewal.j0 k l1 a2 a3 a4 a5 a6 bt290.1 bt290.2.1 bt290.2.2 t302 bt305.1 bt305.2.1 bt305.2.2 (bt305.2.2 != bt290.2.2) l0_0 l0_1 bt295.1 bt295.2) else (laws_FnExactBestRenewal.j0 k l1 a2 a3 a4 a5 a6 bt290.1 bt290.2.1 bt290.2.2 t302 bt305.1 bt305.2.1 bt305.2.2 true l0_0 l0_1 bt295.1 bt295.2)) else (laws_FnExactBestRenewal.j0 k l1 a2 a3 a4 a5 a6 bt290.1 bt290.2.1 bt290.2.2 t302 bt305.1 bt305.2.1 bt305.2.2 true l0_0 l0_1 bt295.1 bt295.2)))))))))) = some r := H
  have A10 := Aside0.mk A100
  clear A100
  by_cases c11 : t280 < 0
  ·
   rw [if_pos c11] at H
   have c11b0 : decide (t280 < 0) = true := decide_eq_true c11
   clear c11
   obtain rfl := Option.some.inj H
   go_enter Try.func5, Try.ntmps5
   go_wp2_with (first | ((with_reducible refine gate_dst (N := 7) rfl ?_); refine box_event ?hg (N := 7) ?hd (cs := #[.slice A0_0 l0_0.length c0_0, .slice A0_1 l0_1.length c0_1]) (t := 54) ?hr ?_; (case hd => rfl); (case hg => rfl); (case hr => first | (go_simp; done) | (go_simp; rfl)); intro gb279 hg w12 hbox hb; have n0_ := Aside0.mk (below_step (mvB HB.out) hb); have n1_ := Aside0.mk (hbox); have n2_ := Aside0.mk ((by rw [hg]; exact (below_size (mvB HB.out)) : w.heap.size ≤ gb279)); have n3_ := Aside0.mk ((by rw [hg]; exact (below_size (mvB HB.out)) : w.heap.size ≤ gb279)); clear HB; revert n0_ n1_ n2_ n3_; intro HB BK279 GW279 GE279; clear hb hbox hg; have hcz13_0 : w12.cell? ⟨gb279, 0, none⟩ = some (.slice A0_0 l0_0.length c0_0) := (blk_cell BK279.out 0).trans rfl; have hcz13_1 : w12.cell? ⟨gb279, 1, none⟩ = some (.slice A0_1 l0_1.length c0_1) := (blk_cell BK279.out 1).trans rfl; have hfz13_0 := blk_frozen BK279.out 0; have hfz13_1 := blk_frozen BK279.out 1) | ((with_reducible refine gate_callee (f := 26) rfl ?_); refine goesA_ (some 35) Try.func26 #[.agg #[.slice A0_0 l0_0.length c0_0, .slice A0_1 l0_1.length c0_1], .int .i64 1048576] ?_; (with_reducible refine (laws_szNetwork.calls k _ _ l0_0 _ _ l0_1 1048576 t280 _ ?side1 ?side2 ?side3 ?side4 A10.out).mono ?_); (case side1 => exact mvC (Kd.C_below HR0_0.out HB.out)); (case side2 => exact HC0_0.out); (case side3 => exact mvC (Kd.C_below HR0_1.out HB.out)); (case side4 => exact HC0_1.out); rintro e w14 ⟨rfl, hb⟩; refine ⟨_, rfl, ?_⟩; have n0_ := Aside0.mk (blk_below (g := gb279) (o := .cells #[.slice A0_0 l0_0.length c0_0, .slice A0_1 l0_1.length c0_1] 54 (0, 0)) (mv BK279.out) hb); have n1_ := Aside0.mk (below_step (by repeat (first | (with_reducible first | exact HB.out | apply below_alloc | apply pw_below_drewN | apply below_drew1 | refine below_set ?_ GE279.out) | exact HB.out)) hb); clear BK279 HB; revert n0_ n1_; intro BK279 HB; (try clear hb)))
   go_ret
   exact ⟨by first | rfl | (simp [errW_none, errW_some] <;> rfl) | (simp [*, errW_none, errW_some] <;> rfl), by repeat (first | (with_reducible first | exact HB.out | apply below_alloc | apply pw_below_drewN | apply below_drew1 | refine below_set ?_ GE279.out) | exact HB.out)⟩
  ·
   rw [if_neg c11] at H
   have c11b0 : decide (t280 < 0) = false := decide_eq_false c11
   clear c11
   replace H := Option.bind_eq_some_iff.mp H
   obtain ⟨⟨t281, t284⟩, A150, H⟩ := H
   replace H : ((laws_toInt64S.f k l1).bind fun t287 => ((spec_BestRenewal.f k t281 t284 t287 a2 a3 a4 a5 a6).bind fun bt290 => ((laws_toNetwork.f k l0_0 l0_1).bind fun bt295 => ((laws_toInt64S.f k l1).bind fun t302 => ((impl_BestRenewal.f k bt295.1 bt295.2 t302 a2 a3 a4 a5 a6).bind fun bt305 => ((laws_eqInt64S.f k bt305.1 bt290.1).bind fun t310 => (if t310 = true then (if bt305.2.1 = bt290.2.1 then (laws_FnExactBestRenewal.j0 k l1 a2 a3 a4 a5 a6 bt290.1 bt290.2.1 bt290.2.2 t302 bt305.1 bt305.2.1 bt305.2.2 (bt305.2.2 != bt290.2.2) l0_0 l0_1 bt295.1 bt295.2) else (laws_FnExactBestRenewal.j0 k l1 a2 a3 a4 a5 a6 bt290.1 bt290.2.1 bt290.2.2 t302 bt305.1 bt305.2.1 bt305.2.2 true l0_0 l0_1 bt295.1 bt295.2)) else (laws_FnExactBestRenewal.j0 k l1 a2 a3 a4 a5 a6 bt290.1 bt290.2.1 bt290.2.2 t302 bt305.1 bt305.2.1 bt305.2.2 true l0_0 l0_1 bt295.1 bt295.2)))))))) = some r := H
   have A15 := Aside0.mk A150
   clear A150
   replace H := Option.bind_eq_some_iff.mp H
   obtain ⟨t287, A160, H⟩ := H
   replace H : ((spec_BestRenewal.f k t281 t284 t287 a2 a3 a4 a5 a6).bind fun bt290 => ((laws_toNetwork.f k l0_0 l0_1).bind fun bt295 => ((laws_toInt64S.f k l1).bind fun t302 => ((impl_BestRenewal.f k bt295.1 bt295.2 t302 a2 a3 a4 a5 a6).bind fun bt305 => ((laws_eqInt64S.f k bt305.1 bt290.1).bind fun t310 => (if t310 = true then (if bt305.2.1 = bt290.2.1 then (laws_FnExactBestRenewal.j0 k l1 a2 a3 a4 a5 a6 bt290.1 bt290.2.1 bt290.2.2 t302 bt305.1 bt305.2.1 bt305.2.2 (bt305.2.2 != bt290.2.2) l0_0 l0_1 bt295.1 bt295.2) else (laws_FnExactBestRenewal.j0 k l1 a2 a3 a4 a5 a6 bt290.1 bt290.2.1 bt290.2.2 t302 bt305.1 bt305.2.1 bt305.2.2 true l0_0 l0_1 bt295.1 bt295.2)) else (laws_FnExactBestRenewal.j0 k l1 a2 a3 a4 a5 a6 bt290.1 bt290.2.1 bt290.2.2 t302 bt305.1 bt305.2.1 bt305.2.2 true l0_0 l0_1 bt295.1 bt295.2))))))) = some r := H
   have A16 := Aside0.mk A160
   clear A160
   replace H := Option.bind_eq_some_iff.mp H
   obtain ⟨⟨t290, t293, t294⟩, A170, H⟩ := H
   replace H : ((laws_toNetwork.f k l0_0 l0_1).bind fun bt295 => ((laws_toInt64S.f k l1).bind fun t302 => ((impl_BestRenewal.f k bt295.1 bt295.2 t302 a2 a3 a4 a5 a6).bind fun bt305 => ((laws_eqInt64S.f k bt305.1 t290).bind fun t310 => (if t310 = true then (if bt305.2.1 = t293 then (laws_FnExactBestRenewal.j0 k l1 a2 a3 a4 a5 a6 t290 t293 t294 t302 bt305.1 bt305.2.1 bt305.2.2 (bt305.2.2 != t294) l0_0 l0_1 bt295.1 bt295.2) else (laws_FnExactBestRenewal.j0 k l1 a2 a3 a4 a5 a6 t290 t293 t294 t302 bt305.1 bt305.2.1 bt305.2.2 true l0_0 l0_1 bt295.1 bt295.2)) else (laws_FnExactBestRenewal.j0 k l1 a2 a3 a4 a5 a6 t290 t293 t294 t302 bt305.1 bt305.2.1 bt305.2.2 true l0_0 l0_1 bt295.1 bt295.2)))))) = some r := H
   have A17 := Aside0.mk A170
   clear A170
   replace H := Option.bind_eq_some_iff.mp H
   obtain ⟨⟨t295, t298⟩, A180, H⟩ := H
   replace H : ((laws_toInt64S.f k l1).bind fun t302 => ((impl_BestRenewal.f k t295 t298 t302 a2 a3 a4 a5 a6).bind fun bt305 => ((laws_eqInt64S.f k bt305.1 t290).bind fun t310 => (if t310 = true then (if bt305.2.1 = t293 then (laws_FnExactBestRenewal.j0 k l1 a2 a3 a4 a5 a6 t290 t293 t294 t302 bt305.1 bt305.2.1 bt305.2.2 (bt305.2.2 != t294) l0_0 l0_1 t295 t298) else (laws_FnExactBestRenewal.j0 k l1 a2 a3 a4 a5 a6 t290 t293 t294 t302 bt305.1 bt305.2.1 bt305.2.2 true l0_0 l0_1 t295 t298)) else (laws_FnExactBestRenewal.j0 k l1 a2 a3 a4 a5 a6 t290 t293 t294 t302 bt305.1 bt305.2.1 bt305.2.2 true l0_0 l0_1 t295 t298))))) = some r := H
   have A18 := Aside0.mk A180
   clear A180
   replace H := Option.bind_eq_some_iff.mp H
   obtain ⟨t302, A190, H⟩ := H
   replace H : ((impl_BestRenewal.f k t295 t298 t302 a2 a3 a4 a5 a6).bind fun bt305 => ((laws_eqInt64S.f k bt305.1 t290).bind fun t310 => (if t310 = true then (if bt305.2.1 = t293 then (laws_FnExactBestRenewal.j0 k l1 a2 a3 a4 a5 a6 t290 t293 t294 t302 bt305.1 bt305.2.1 bt305.2.2 (bt305.2.2 != t294) l0_0 l0_1 t295 t298) else (laws_FnExactBestRenewal.j0 k l1 a2 a3 a4 a5 a6 t290 t293 t294 t302 bt305.1 bt305.2.1 bt305.2.2 true l0_0 l0_1 t295 t298)) else (laws_FnExactBestRenewal.j0 k l1 a2 a3 a4 a5 a6 t290 t293 t294 t302 bt305.1 bt305.2.1 bt305.2.2 true l0_0 l0_1 t295 t298)))) = some r := H
   have A19 := Aside0.mk A190
   clear A190
   replace H := Option.bind_eq_some_iff.mp H
   obtain ⟨⟨t305, t308, t309⟩, A200, H⟩ := H
   replace H : ((laws_eqInt64S.f k t305 t290).bind fun t310 => (if t310 = true then (if t308 = t293 then (laws_FnExactBestRenewal.j0 k l1 a2 a3 a4 a5 a6 t290 t293 t294 t302 t305 t308 t309 (t309 != t294) l0_0 l0_1 t295 t298) else (laws_FnExactBestRenewal.j0 k l1 a2 a3 a4 a5 a6 t290 t293 t294 t302 t305 t308 t309 true l0_0 l0_1 t295 t298)) else (laws_FnExactBestRenewal.j0 k l1 a2 a3 a4 a5 a6 t290 t293 t294 t302 t305 t308 t309 true l0_0 l0_1 t295 t298))) = some r := H
   have A20 := Aside0.mk A200
   clear A200
   have HC21 := Aside0.mk H
   clear H
   go_enter Try.func5, Try.ntmps5
   go_upto_region 11 with (first | ((with_reducible refine gate_dst (N := 7) rfl ?_); refine box_event ?hg (N := 7) ?hd (cs := #[.slice A0_0 l0_0.length c0_0, .slice A0_1 l0_1.length c0_1]) (t := 54) ?hr ?_; (case hd => rfl); (case hg => rfl); (case hr => first | (go_simp; done) | (go_simp; rfl)); intro gb279 hg w22 hbox hb; have n0_ := Aside0.mk (below_step (mvB HB.out) hb); have n1_ := Aside0.mk (hbox); have n2_ := Aside0.mk ((by rw [hg]; exact (below_size (mvB HB.out)) : w.heap.size ≤ gb279)); have n3_ := Aside0.mk ((by rw [hg]; exact (below_size (mvB HB.out)) : w.heap.size ≤ gb279)); clear HB; revert n0_ n1_ n2_ n3_; intro HB BK279 GW279 GE279; clear hb hbox hg; have hcz23_0 : w22.cell? ⟨gb279, 0, none⟩ = some (.slice A0_0 l0_0.length c0_0) := (blk_cell BK279.out 0).trans rfl; have hcz23_1 : w22.cell? ⟨gb279, 1, none⟩ = some (.slice A0_1 l0_1.length c0_1) := (blk_cell BK279.out 1).trans rfl; have hfz23_0 := blk_frozen BK279.out 0; have hfz23_1 := blk_frozen BK279.out 1) | ((with_reducible refine gate_callee (f := 26) rfl ?_); refine goesA_ (some 35) Try.func26 #[.agg #[.slice A0_0 l0_0.length c0_0, .slice A0_1 l0_1.length c0_1], .int .i64 1048576] ?_; (with_reducible refine (laws_szNetwork.calls k _ _ l0_0 _ _ l0_1 1048576 t280 _ ?side1 ?side2 ?side3 ?side4 A10.out).mono ?_); (case side1 => exact mvC (Kd.C_below HR0_0.out HB.out)); (case side2 => exact HC0_0.out); (case side3 => exact mvC (Kd.C_below HR0_1.out HB.out)); (case side4 => exact HC0_1.out); rintro e w24 ⟨rfl, hb⟩; refine ⟨_, rfl, ?_⟩; have n0_ := Aside0.mk (blk_below (g := gb279) (o := .cells #[.slice A0_0 l0_0.length c0_0, .slice A0_1 l0_1.length c0_1] 54 (0, 0)) (mv BK279.out) hb); have n1_ := Aside0.mk (below_step (by repeat (first | (with_reducible first | exact HB.out | apply below_alloc | apply pw_below_drewN | apply below_drew1 | refine below_set ?_ GE279.out) | exact HB.out)) hb); clear BK279 HB; revert n0_ n1_; intro BK279 HB; (try clear hb); (try clear hk); have hcz25_0 : w24.cell? ⟨gb279, 0, none⟩ = some (.slice A0_0 l0_0.length c0_0) := (blk_cell BK279.out 0).trans rfl; have hcz25_1 : w24.cell? ⟨gb279, 1, none⟩ = some (.slice A0_1 l0_1.length c0_1) := (blk_cell BK279.out 1).trans rfl; have hfz25_0 := blk_frozen BK279.out 0; have hfz25_1 := blk_frozen BK279.out 1) | ((with_reducible refine gate_callee (f := 28) rfl ?_); refine goesA_ (some 40) Try.func28 #[.agg #[.slice A0_0 l0_0.length c0_0, .slice A0_1 l0_1.length c0_1]] ?_; (with_reducible refine (laws_toNetwork.calls k _ _ l0_0 _ _ l0_1 t281 t284 _ ?side1 ?side2 ?side3 ?side4 A15.out).mono ?_); (case side1 => exact mvC (Kd.C_below HR0_0.out HB.out)); (case side2 => exact HC0_0.out); (case side3 => exact mvC (Kd.C_below HR0_1.out HB.out)); (case side4 => exact HC0_1.out); rintro e w26 ⟨v282, v285, rfl, ho0, ho1, hb⟩; refine ⟨_, rfl, ?_⟩; have n0_ := Aside0.mk (Kd.R_lower ho0 (below_size (by repeat (first | (with_reducible first | exact HB.out | apply below_alloc | apply pw_below_drewN | apply below_drew1 | refine below_set ?_ GE279.out) | exact HB.out)))); have n1_ := Aside0.mk (Kd.R_lower ho1 (below_size (by repeat (first | (with_reducible first | exact HB.out | apply below_alloc | apply pw_below_drewN | apply below_drew1 | refine below_set ?_ GE279.out) | exact HB.out)))); have n2_ := Aside0.mk (blk_below (g := gb279) (o := .cells #[.slice A0_0 l0_0.length c0_0, .slice A0_1 l0_1.length c0_1] 54 (0, 0)) (mv BK279.out) hb); have n3_ := Aside0.mk (below_step (by repeat (first | (with_reducible first | exact HB.out | apply below_alloc | apply pw_below_drewN | apply below_drew1 | refine below_set ?_ GE279.out) | exact HB.out)) hb); clear BK279 HB; revert n0_ n1_ n2_ n3_; intro HO283 HO286 BK279 HB; (try clear hb); (try clear hk); (try clear ho0); (try clear ho1)) | ((with_reducible refine gate_callee (f := 29) rfl ?_); refine goesA_ (some 42) Try.func29 #[.slice A1 l1.length c1] ?_; (with_reducible refine (laws_toInt64S.calls k _ _ l1 t287 _ ?side1 ?side2 A16.out).mono ?_); (case side1 => exact mvC (Kd.C_below HR1.out HB.out)); (case side2 => exact HC1.out); rintro e w27 ⟨v288, rfl, ho0, hb⟩; refine ⟨_, rfl, ?_⟩; have n0_ := Aside0.mk (Kd.R_elder' (mv HO283.out) (Kd.R_base ho0) hb); have n1_ := Aside0.mk (Kd.R_below (mv HO286.out) hb); have n2_ := Aside0.mk (Kd.R_lower (Kd.R_new' ho0 (Kd.R_lt (mv HO283.out))) (below_size (by repeat (first | (with_reducible first | exact HB.out | apply below_alloc | apply pw_below_drewN | apply below_drew1 | refine below_set ?_ GE279.out) | exact HB.out)))); have n3_ := Aside0.mk (blk_below (g := gb279) (o := .cells #[.slice A0_0 l0_0.length c0_0, .slice A0_1 l0_1.length c0_1] 54 (0, 0)) (mv BK279.out) hb); have n4_ := Aside0.mk (below_step (by repeat (first | (with_reducible first | exact HB.out | apply below_alloc | apply pw_below_drewN | apply below_drew1 | refine below_set ?_ GE279.out) | exact HB.out)) hb); clear HO283 HO286 BK279 HB; revert n0_ n1_ n2_ n3_ n4_; intro HO283 HO286 HO289 BK279 HB; (try clear hb); (try clear hk); (try clear ho0); obtain ⟨Ao28, co28, eo28⟩ := Kd.R_slice HO283.out; subst eo28; obtain ⟨Ao29, co29, eo29⟩ := Kd.R_slice HO286.out; subst eo29; obtain ⟨Ao30, co30, eo30⟩ := Kd.R_slice HO289.out; subst eo30) | ((with_reducible refine gate_callee (f := 27) rfl ?_); refine goesA_ (some 48) Try.func27 #[.agg #[.slice Ao28 t281.length co28, .slice Ao29 t284.length co29], .slice Ao30 t287.length co30, .int .i64 a2, .int .i64 a3, .int .i64 a4, .int .i64 a5, .int .i64 a6] ?_; (with_reducible refine (spec_BestRenewal.calls k _ _ t281 _ _ t284 _ _ t287 a2 a3 a4 a5 a6 t290 t293 t294 _ ?side1 ?side2 ?side3 ?side4 ?side5 ?side6 A17.out).mono ?_); (case side1 => exact mvC (Kd.R_reads' HO283.out).2.2); (case side2 => exact (Kd.R_reads' HO283.out).2.1); (case side3 => exact mvC (Kd.R_reads' HO286.out).2.2); (case side4 => exact (Kd.R_reads' HO286.out).2.1); (case side5 => exact mvC (Kd.R_reads' HO289.out).2.2); (case side6 => exact (Kd.R_reads' HO289.out).2.1); rintro e w31 ⟨v291, rfl, ho0, hb⟩; refine ⟨_, rfl, ?_⟩; have n0_ := Aside0.mk (Kd.R_elder' (mv HO283.out) (Kd.R_base ho0) hb); have n1_ := Aside0.mk (Kd.R_below (mv HO286.out) hb); have n2_ := Aside0.mk (Kd.R_elder' (mv HO289.out) (Kd.R_base ho0) hb); have n3_ := Aside0.mk (Kd.R_lower (Kd.R_new' (Kd.R_new' ho0 (Kd.R_lt (mv HO283.out))) (Kd.R_lt (mv HO289.out))) (below_size (by repeat (first | (with_reducible first | exact HB.out | apply below_alloc | apply pw_below_drewN | apply below_drew1 | refine below_set ?_ GE279.out) | exact HB.out)))); have n4_ := Aside0.mk (blk_below (g := gb279) (o := .cells #[.slice A0_0 l0_0.length c0_0, .slice A0_1 l0_1.length c0_1] 54 (0, 0)) (mv BK279.out) hb); have n5_ := Aside0.mk (below_step (by repeat (first | (with_reducible first | exact HB.out | apply below_alloc | apply pw_below_drewN | apply below_drew1 | refine below_set ?_ GE279.out) | exact HB.out)) hb); clear HO283 HO286 HO289 BK279 HB; revert n0_ n1_ n2_ n3_ n4_ n5_; intro HO283 HO286 HO289 HO292 BK279 HB; (try clear hb); (try clear hk); (try clear ho0); have hcz32_0 : w31.cell? ⟨gb279, 0, none⟩ = some (.slice A0_0 l0_0.length c0_0) := (blk_cell BK279.out 0).trans rfl; have hcz32_1 : w31.cell? ⟨gb279, 1, none⟩ = some (.slice A0_1 l0_1.length c0_1) := (blk_cell BK279.out 1).trans rfl; have hfz32_0 := blk_frozen BK279.out 0; have hfz32_1 := blk_frozen BK279.out 1) | ((with_reducible refine gate_callee (f := 28) rfl ?_); refine goesA_ (some 53) Try.func28 #[.agg #[.slice A0_0 l0_0.length c0_0, .slice A0_1 l0_1.length c0_1]] ?_; (with_reducible refine (laws_toNetwork.calls k _ _ l0_0 _ _ l0_1 t295 t298 _ ?side1 ?side2 ?side3 ?side4 A18.out).mono ?_); (case side1 => exact mvC (Kd.C_below HR0_0.out HB.out)); (case side2 => exact HC0_0.out); (case side3 => exact mvC (Kd.C_below HR0_1.out HB.out)); (case side4 => exact HC0_1.out); rintro e w33 ⟨v296, v299, rfl, ho0, ho1, hb⟩; refine ⟨_, rfl, ?_⟩; have n0_ := Aside0.mk (Kd.R_elder' (mv HO283.out) (Kd.R_base ho0) hb); have n1_ := Aside0.mk (Kd.R_elder' (mv HO286.out) (Kd.R_base ho1) hb); have n2_ := Aside0.mk (Kd.R_elder' (mv HO289.out) (Kd.R_base ho0) hb); have n3_ := Aside0.mk (Kd.R_elder' (mv HO292.out) (Kd.R_base ho0) hb); have n4_ := Aside0.mk (Kd.R_lower (Kd.R_new' (Kd.R_new' (Kd.R_new' ho0 (Kd.R_lt (mv HO283.out))) (Kd.R_lt (mv HO289.out))) (Kd.R_lt (mv HO292.out))) (below_size (by repeat (first | (with_reducible first | exact HB.out | apply below_alloc | apply pw_below_drewN | apply below_drew1 | refine below_set ?_ GE279.out) | exact HB.out)))); have n5_ := Aside0.mk (Kd.R_lower (Kd.R_new' ho1 (Kd.R_lt (mv HO286.out))) (below_size (by repeat (first | (with_reducible first | exact HB.out | apply below_alloc | apply pw_below_drewN | apply below_drew1 | refine below_set ?_ GE279.out) | exact HB.out)))); have n6_ := Aside0.mk (blk_below (g := gb279) (o := .cells #[.slice A0_0 l0_0.length c0_0, .slice A0_1 l0_1.length c0_1] 54 (0, 0)) (mv BK279.out) hb); have n7_ := Aside0.mk (below_step (by repeat (first | (with_reducible first | exact HB.out | apply below_alloc | apply pw_below_drewN | apply below_drew1 | refine below_set ?_ GE279.out) | exact HB.out)) hb); clear HO283 HO286 HO289 HO292 BK279 HB; revert n0_ n1_ n2_ n3_ n4_ n5_ n6_ n7_; intro HO283 HO286 HO289 HO292 HO297 HO300 BK279 HB; (try clear hb); (try clear hk); (try clear ho0); (try clear ho1)) | ((with_reducible refine gate_dst (N := 19) rfl ?_); refine box_event ?hg (N := 19) ?hd (cs := #[.slice none 0 0, .slice none 0 0]) (t := 59) ?hr ?_; (case hd => rfl); (case hg => rfl); (case hr => first | (go_simp; done) | (go_simp; rfl)); intro gb301 hg w34 hbox hb; have n0_ := Aside0.mk (Kd.R_below (mv HO283.out) hb); have n1_ := Aside0.mk (Kd.R_below (mv HO286.out) hb); have n2_ := Aside0.mk (Kd.R_below (mv HO289.out) hb); have n3_ := Aside0.mk (Kd.R_below (mv HO292.out) hb); have n4_ := Aside0.mk (Kd.R_below (mv HO297.out) hb); have n5_ := Aside0.mk (Kd.R_below (mv HO300.out) hb); have n6_ := Aside0.mk (blk_below (g := gb279) (o := .cells #[.slice A0_0 l0_0.length c0_0, .slice A0_1 l0_1.length c0_1] 54 (0, 0)) (mv BK279.out) hb); have n7_ := Aside0.mk (below_step (by repeat (first | (with_reducible first | exact HB.out | apply below_alloc | apply pw_below_drewN | apply below_drew1 | refine below_set ?_ GE279.out) | exact HB.out)) hb); have n8_ := Aside0.mk (hbox); have n9_ := Aside0.mk ((by rw [hg]; exact (below_size (by repeat (first | (with_reducible first | exact HB.out | apply below_alloc | apply pw_below_drewN | apply below_drew1 | refine below_set ?_ GE279.out) | exact HB.out))) : w.heap.size ≤ gb301)); have n10_ := Aside0.mk ((by rw [hg]; exact (below_size (by repeat (first | (with_reducible first | exact HB.out | apply below_alloc | apply pw_below_drewN | apply below_drew1 | refine below_set ?_ GE279.out) | exact HB.out))) : w.heap.size ≤ gb301)); have n11_ := Aside0.mk ((by rw [hg]; exact Nat.ne_of_lt (blk_lt (g := gb279) (o := .cells #[.slice A0_0 l0_0.length c0_0, .slice A0_1 l0_1.length c0_1] 54 (0, 0)) (mv BK279.out)) : gb279 ≠ gb301)); have n12_ := Aside0.mk ((by rw [hg]; exact Nat.ne_of_gt (blk_lt (g := gb279) (o := .cells #[.slice A0_0 l0_0.length c0_0, .slice A0_1 l0_1.length c0_1] 54 (0, 0)) (mv BK279.out)) : gb301 ≠ gb279)); clear HO283 HO286 HO289 HO292 HO297 HO300 BK279 HB; revert n0_ n1_ n2_ n3_ n4_ n5_ n6_ n7_ n8_ n9_ n10_ n11_ n12_; intro HO283 HO286 HO289 HO292 HO297 HO300 BK279 HB BK301 GW301 GE301 NB279_301 NB301_279; clear hb hbox hg; obtain ⟨Ao35, co35, eo35⟩ := Kd.R_slice HO297.out; subst eo35; have hnb36 := NB301_279.out; have hnc36 := NB279_301.out; have hcz37_0 : w34.cell? ⟨gb301, 0, none⟩ = some (.slice none 0 0) := (blk_cell BK301.out 0).trans rfl; have hcz37_1 : w34.cell? ⟨gb301, 1, none⟩ = some (.slice none 0 0) := (blk_cell BK301.out 1).trans rfl; have hfz37_0 := blk_frozen BK301.out 0; have hfz37_1 := blk_frozen BK301.out 1; obtain ⟨Ao38, co38, eo38⟩ := Kd.R_slice HO300.out; subst eo38) | ((with_reducible refine gate_callee (f := 29) rfl ?_); refine goesA_ (some 55) Try.func29 #[.slice A1 l1.length c1] ?_; (with_reducible refine (laws_toInt64S.calls k _ _ l1 t302 _ ?side1 ?side2 A19.out).mono ?_); (case side1 => exact Kd.C_below HR1.out (by repeat (first | (with_reducible first | exact HB.out | apply below_alloc | apply pw_below_drewN | apply below_drew1 | refine below_set ?_ GE279.out | refine below_set ?_ GE301.out) | exact HB.out))); (case side2 => exact HC1.out); rintro e w39 ⟨v303, rfl, ho0, hb⟩; refine ⟨_, rfl, ?_⟩; have n0_ := Aside0.mk (Kd.R_elder' (by (with_reducible repeat (first | apply Kd.R_alloc | apply Kd.R_drewN | apply Kd.R_drew)); exact (Kd.R_mono (Kd.R_far (p := ⟨gb301, 1, none⟩) (Kd.R_far (p := ⟨gb301, 0, none⟩) (Kd.R_types HO283.out BK301.out (by decide)) (fun _ hk => hk.2) (.slice Ao35 t295.length co35)) (fun _ hk => hk.2) (.slice Ao38 t298.length co38)) (fun _ h_ => h_.1))) (Kd.R_base ho0) hb); have n1_ := Aside0.mk (Kd.R_below (by (with_reducible repeat (first | apply Kd.R_alloc | apply Kd.R_drewN | apply Kd.R_drew)); exact (Kd.R_mono (Kd.R_far (p := ⟨gb301, 1, none⟩) (Kd.R_far (p := ⟨gb301, 0, none⟩) (Kd.R_types HO286.out BK301.out (by decide)) (fun _ hk => hk.2) (.slice Ao35 t295.length co35)) (fun _ hk => hk.2) (.slice Ao38 t298.length co38)) (fun _ h_ => h_.1))) hb); have n2_ := Aside0.mk (Kd.R_elder' (by (with_reducible repeat (first | apply Kd.R_alloc | apply Kd.R_drewN | apply Kd.R_drew)); exact (Kd.R_mono (Kd.R_far (p := ⟨gb301, 1, none⟩) (Kd.R_far (p := ⟨gb301, 0, none⟩) (Kd.R_types HO289.out BK301.out (by decide)) (fun _ hk => hk.2) (.slice Ao35 t295.length co35)) (fun _ hk => hk.2) (.slice Ao38 t298.length co38)) (fun _ h_ => h_.1))) (Kd.R_base ho0) hb); have n3_ := Aside0.mk (Kd.R_elder' (by (with_reducible repeat (first | apply Kd.R_alloc | apply Kd.R_drewN | apply Kd.R_drew)); exact (Kd.R_mono (Kd.R_far (p := ⟨gb301, 1, none⟩) (Kd.R_far (p := ⟨gb301, 0, none⟩) (Kd.R_types HO292.out BK301.out (by decide)) (fun _ hk => hk.2) (.slice Ao35 t295.length co35)) (fun _ hk => hk.2) (.slice Ao38 t298.length co38)) (fun _ h_ => h_.1))) (Kd.R_base ho0) hb); have n4_ := Aside0.mk (Kd.R_elder' (by (with_reducible repeat (first | apply Kd.R_alloc | apply Kd.R_drewN | apply Kd.R_drew)); exact (Kd.R_mono (Kd.R_far (p := ⟨gb301, 1, none⟩) (Kd.R_far (p := ⟨gb301, 0, none⟩) (Kd.R_types HO297.out BK301.out (by decide)) (fun _ hk => hk.2) (.slice Ao35 t295.length co35)) (fun _ hk => hk.2) (.slice Ao38 t298.length co38)) (fun _ h_ => h_.1))) (Kd.R_base ho0) hb); have n5_ := Aside0.mk (Kd.R_below (by (with_reducible repeat (first | apply Kd.R_alloc | apply Kd.R_drewN | apply Kd.R_drew)); exact (Kd.R_mono (Kd.R_far (p := ⟨gb301, 1, none⟩) (Kd.R_far (p := ⟨gb301, 0, none⟩) (Kd.R_types HO300.out BK301.out (by decide)) (fun _ hk => hk.2) (.slice Ao35 t295.length co35)) (fun _ hk => hk.2) (.slice Ao38 t298.length co38)) (fun _ h_ => h_.1))) hb); have n6_ := Aside0.mk (Kd.R_lower (Kd.R_new' (Kd.R_new' (Kd.R_new' (Kd.R_new' ho0 (Kd.R_lt (by (with_reducible repeat (first | apply Kd.R_alloc | apply Kd.R_drewN | apply Kd.R_drew)); exact (Kd.R_mono (Kd.R_far (p := ⟨gb301, 1, none⟩) (Kd.R_far (p := ⟨gb301, 0, none⟩) (Kd.R_types HO283.out BK301.out (by decide)) (fun _ hk => hk.2) (.slice Ao35 t295.length co35)) (fun _ hk => hk.2) (.slice Ao38 t298.length co38)) (fun _ h_ => h_.1))))) (Kd.R_lt (by (with_reducible repeat (first | apply Kd.R_alloc | apply Kd.R_drewN | apply Kd.R_drew)); exact (Kd.R_mono (Kd.R_far (p := ⟨gb301, 1, none⟩) (Kd.R_far (p := ⟨gb301, 0, none⟩) (Kd.R_types HO289.out BK301.out (by decide)) (fun _ hk => hk.2) (.slice Ao35 t295.length co35)) (fun _ hk => hk.2) (.slice Ao38 t298.length co38)) (fun _ h_ => h_.1))))) (Kd.R_lt (by (with_reducible repeat (first | apply Kd.R_alloc | apply Kd.R_drewN | apply Kd.R_drew)); exact (Kd.R_mono (Kd.R_far (p := ⟨gb301, 1, none⟩) (Kd.R_far (p := ⟨gb301, 0, none⟩) (Kd.R_types HO292.out BK301.out (by decide)) (fun _ hk => hk.2) (.slice Ao35 t295.length co35)) (fun _ hk => hk.2) (.slice Ao38 t298.length co38)) (fun _ h_ => h_.1))))) (Kd.R_lt (by (with_reducible repeat (first | apply Kd.R_alloc | apply Kd.R_drewN | apply Kd.R_drew)); exact (Kd.R_mono (Kd.R_far (p := ⟨gb301, 1, none⟩) (Kd.R_far (p := ⟨gb301, 0, none⟩) (Kd.R_types HO297.out BK301.out (by decide)) (fun _ hk => hk.2) (.slice Ao35 t295.length co35)) (fun _ hk => hk.2) (.slice Ao38 t298.length co38)) (fun _ h_ => h_.1))))) (below_size (by repeat (first | (with_reducible first | exact HB.out | apply below_alloc | apply pw_below_drewN | apply below_drew1 | refine below_set ?_ GE279.out | refine below_set ?_ GE301.out) | exact HB.out)))); have n7_ := Aside0.mk (blk_below (g := gb279) (o := .cells #[.slice A0_0 l0_0.length c0_0, .slice A0_1 l0_1.length c0_1] 54 (0, 0)) (by (with_reducible repeat (first | refine blk_drewN ?_ _ | refine blk_drew ?_ | refine blk_alloc ?_ _)); refine blk_far ?_ NB279_301.out _; (with_reducible repeat (first | refine blk_drewN ?_ _ | refine blk_drew ?_ | refine blk_alloc ?_ _)); refine blk_far ?_ NB279_301.out _; (with_reducible repeat (first | refine blk_drewN ?_ _ | refine blk_drew ?_ | refine blk_alloc ?_ _)); exact BK279.out) hb); have n8_ := Aside0.mk (blk_below (g := gb301) (o := .cells #[.slice Ao35 t295.length co35, .slice Ao38 t298.length co38] 59 (0, 0)) (by (with_reducible repeat (first | refine blk_drewN ?_ _ | refine blk_drew ?_ | refine blk_alloc ?_ _)); refine blk_put (cs := #[.slice Ao35 t295.length co35, .slice none 0 0]) ?_ 1 _ rfl; (with_reducible repeat (first | refine blk_drewN ?_ _ | refine blk_drew ?_ | refine blk_alloc ?_ _)); refine blk_put (cs := #[.slice none 0 0, .slice none 0 0]) ?_ 0 _ rfl; (with_reducible repeat (first | refine blk_drewN ?_ _ | refine blk_drew ?_ | refine blk_alloc ?_ _)); exact BK301.out) hb); have n9_ := Aside0.mk (below_step (by repeat (first | (with_reducible first | exact HB.out | apply below_alloc | apply pw_below_drewN | apply below_drew1 | refine below_set ?_ GE279.out | refine below_set ?_ GE301.out) | exact HB.out)) hb); clear HO283 HO286 HO289 HO292 HO297 HO300 BK279 BK301 HB; revert n0_ n1_ n2_ n3_ n4_ n5_ n6_ n7_ n8_ n9_; intro HO283 HO286 HO289 HO292 HO297 HO300 HO304 BK279 BK301 HB; (try clear hb); (try clear hk); (try clear ho0); have hcz40_0 : w39.cell? ⟨gb301, 0, none⟩ = some (.slice Ao35 t295.length co35) := (blk_cell BK301.out 0).trans rfl; have hcz40_1 : w39.cell? ⟨gb301, 1, none⟩ = some (.slice Ao38 t298.length co38) := (blk_cell BK301.out 1).trans rfl; have hfz40_0 := blk_frozen BK301.out 0; have hfz40_1 := blk_frozen BK301.out 1; obtain ⟨Ao41, co41, eo41⟩ := Kd.R_slice HO304.out; subst eo41) | ((with_reducible refine gate_callee (f := 30) rfl ?_); refine goesA_ (some 64) Try.func30 #[.agg #[.slice Ao35 t295.length co35, .slice Ao38 t298.length co38], .slice Ao41 t302.length co41, .int .i64 a2, .int .i64 a3, .int .i64 a4, .int .i64 a5, .int .i64 a6] ?_; (with_reducible refine (impl_BestRenewal.calls k _ _ t295 _ _ t298 _ _ t302 a2 a3 a4 a5 a6 t305 t308 t309 _ ?side1 ?side2 ?side3 ?side4 ?side5 ?side6 A20.out).mono ?_); (case side1 => exact mvC (Kd.R_reads' HO297.out).2.2); (case side2 => exact (Kd.R_reads' HO297.out).2.1); (case side3 => exact mvC (Kd.R_reads' HO300.out).2.2); (case side4 => exact (Kd.R_reads' HO300.out).2.1); (case side5 => exact mvC (Kd.R_reads' HO304.out).2.2); (case side6 => exact (Kd.R_reads' HO304.out).2.1); rintro e w42 ⟨v306, rfl, ho0, hb⟩; refine ⟨_, rfl, ?_⟩; have n0_ := Aside0.mk (Kd.R_elder' (mv HO283.out) (Kd.R_base ho0) hb); have n1_ := Aside0.mk (Kd.R_below (mv HO286.out) hb); have n2_ := Aside0.mk (Kd.R_elder' (mv HO289.out) (Kd.R_base ho0) hb); have n3_ := Aside0.mk (Kd.R_elder' (mv HO292.out) (Kd.R_base ho0) hb); have n4_ := Aside0.mk (Kd.R_elder' (mv HO297.out) (Kd.R_base ho0) hb); have n5_ := Aside0.mk (Kd.R_below (mv HO300.out) hb); have n6_ := Aside0.mk (Kd.R_elder' (mv HO304.out) (Kd.R_base ho0) hb); have n7_ := Aside0.mk (Kd.R_lower (Kd.R_new' (Kd.R_new' (Kd.R_new' (Kd.R_new' (Kd.R_new' ho0 (Kd.R_lt (mv HO283.out))) (Kd.R_lt (mv HO289.out))) (Kd.R_lt (mv HO292.out))) (Kd.R_lt (mv HO297.out))) (Kd.R_lt (mv HO304.out))) (below_size (by repeat (first | (with_reducible first | exact HB.out | apply below_alloc | apply pw_below_drewN | apply below_drew1 | refine below_set ?_ GE279.out | refine below_set ?_ GE301.out) | exact HB.out)))); have n8_ := Aside0.mk (blk_below (g := gb279) (o := .cells #[.slice A0_0 l0_0.length c0_0, .slice A0_1 l0_1.length c0_1] 54 (0, 0)) (mv BK279.out) hb); have n9_ := Aside0.mk (blk_below (g := gb301) (o := .cells #[.slice Ao35 t295.length co35, .slice Ao38 t298.length co38] 59 (0, 0)) (mv BK301.out) hb); have n10_ := Aside0.mk (below_step (by repeat (first | (with_reducible first | exact HB.out | apply below_alloc | apply pw_below_drewN | apply below_drew1 | refine below_set ?_ GE279.out | refine below_set ?_ GE301.out) | exact HB.out)) hb); clear HO283 HO286 HO289 HO292 HO297 HO300 HO304 BK279 BK301 HB; revert n0_ n1_ n2_ n3_ n4_ n5_ n6_ n7_ n8_ n9_ n10_; intro HO283 HO286 HO289 HO292 HO297 HO300 HO304 HO307 BK279 BK301 HB; (try clear hb); (try clear hk); (try clear ho0)))
   (try simp only [Act.put, List.setIfInBounds_toArray, List.set_cons_zero, List.set_cons_succ])
   go_cut [81] (fun v81 wc => ∃ (kq : Nat) (x81_20 : Bool), v81 = .bool x81_20 ∧ Aside0 (laws_FnExactBestRenewal.j0 kq l1 a2 a3 a4 a5 a6 t290 t293 t294 t302 t305 t308 t309 x81_20 l0_0 l0_1 t295 t298 = some r) ∧ Aside0 (kq ≤ k) ∧ Aside0 (Kd.R (Kd.int .i64) 2 wc w.heap.size (fun k_ => some k_ ≠ ((.slice Ao41 t302.length co41) : Value).ownBlock ∧ some k_ ≠ (v306 : Value).ownBlock ∧ some k_ ≠ ((.slice Ao35 t295.length co35) : Value).ownBlock) v291 t290) ∧ Aside0 (Kd.R (Kd.int .i64) 2 wc w.heap.size (fun k_ => some k_ ≠ (v291 : Value).ownBlock ∧ some k_ ≠ (v306 : Value).ownBlock ∧ some k_ ≠ ((.slice Ao35 t295.length co35) : Value).ownBlock) (.slice Ao41 t302.length co41) t302) ∧ Aside0 (Kd.R (Kd.int .i64) 2 wc w.heap.size (fun k_ => some k_ ≠ (v291 : Value).ownBlock ∧ some k_ ≠ ((.slice Ao41 t302.length co41) : Value).ownBlock ∧ some k_ ≠ ((.slice Ao35 t295.length co35) : Value).ownBlock) v306 t305) ∧ Aside0 (Kd.R (Kd.int .i64) 2 wc w.heap.size (fun k_ => some k_ ≠ (v291 : Value).ownBlock ∧ some k_ ≠ ((.slice Ao41 t302.length co41) : Value).ownBlock ∧ some k_ ≠ (v306 : Value).ownBlock) (.slice Ao35 t295.length co35) t295) ∧ Aside0 (Kd.R k75 75 wc w.heap.size (fun _ => True) (.slice Ao38 t298.length co38) t298) ∧ Aside0 (wc.heap[gb279]? = some (.cells #[(.slice A0_0 l0_0.length c0_0), (.slice A0_1 l0_1.length c0_1)] 54 (0, 0))) ∧ Aside0 (wc.heap[gb301]? = some (.cells #[(.slice Ao35 t295.length co35), (.slice Ao38 t298.length co38)] 59 (0, 0))) ∧ Aside0 (Below w.heap.size w wc))
   case first =>
    have H := HC21.out
    clear HC21
    replace H := Option.bind_eq_some_iff.mp H
    obtain ⟨t310, A430, H⟩ := H
    replace H : (if t310 = true then (if t308 = t293 then (laws_FnExactBestRenewal.j0 k l1 a2 a3 a4 a5 a6 t290 t293 t294 t302 t305 t308 t309 (t309 != t294) l0_0 l0_1 t295 t298) else (laws_FnExactBestRenewal.j0 k l1 a2 a3 a4 a5 a6 t290 t293 t294 t302 t305 t308 t309 true l0_0 l0_1 t295 t298)) else (laws_FnExactBestRenewal.j0 k l1 a2 a3 a4 a5 a6 t290 t293 t294 t302 t305 t308 t309 true l0_0 l0_1 t295 t298)) = some r := H
    have A43 := Aside0.mk A430
    clear A430
    by_cases c44 : t310 = true
    ·
     subst c44
     have H1 : (if t308 = t293 then (laws_FnExactBestRenewal.j0 k l1 a2 a3 a4 a5 a6 t290 t293 t294 t302 t305 t308 t309 (t309 != t294) l0_0 l0_1 t295 t298) else (laws_FnExactBestRenewal.j0 k l1 a2 a3 a4 a5 a6 t290 t293 t294 t302 t305 t308 t309 true l0_0 l0_1 t295 t298)) = some r := by rw [if_pos rfl] at H; exact H
     clear H
     have H := H1
     clear H1
     by_cases c45 : t308 = t293
     ·
      rw [if_pos c45] at H
      have c45b0 : (t308 == t293) = true := beq_iff_eq.mpr c45
      have c45b1 : (t308 != t293) = false := bne_eq_false_iff_eq.mpr c45
      clear c45
      (first | rw [c45b0] | (simp only [i64_w, i32_w]; rw [c45b0]) | skip)
      have H' := Aside0.mk H
      clear H
      obtain ⟨Ao46, co46, eo46⟩ := Kd.R_slice HO307.out
      subst eo46
      obtain ⟨Ao47, co47, eo47⟩ := Kd.R_slice HO292.out
      subst eo47
      go_wp2_with (first | ((with_reducible refine gate_callee (f := 11) rfl ?_); refine goesA_ (some 70) Try.func11 #[.slice Ao46 t305.length co46, .slice Ao47 t290.length co47] ?_; (with_reducible refine (laws_eqInt64S.calls k _ _ t305 _ _ t290 true _ ?side1 ?side2 ?side3 ?side4 A43.out).mono ?_); (case side1 => exact mvC (Kd.R_reads' HO307.out).2.2); (case side2 => exact (Kd.R_reads' HO307.out).2.1); (case side3 => exact mvC (Kd.R_reads' HO292.out).2.2); (case side4 => exact (Kd.R_reads' HO292.out).2.1); rintro e w' ⟨rfl, ⟨nd, rfl⟩⟩; refine ⟨_, rfl, ?_⟩))
      go_meet
      case rel => exact ⟨_, ((t309 != t294)), rs, H', ⟨by first | omega | exact Nat.le_refl _⟩, ⟨by (with_reducible repeat (first | apply Kd.R_alloc | apply Kd.R_drewN | apply Kd.R_drew)); exact Kd.R_mono HO292.out (fun _ hk => ⟨hk.1.2, ⟨hk.2, hk.1.1.2⟩⟩)⟩, ⟨by (with_reducible repeat (first | apply Kd.R_alloc | apply Kd.R_drewN | apply Kd.R_drew)); exact Kd.R_mono HO304.out (fun _ hk => ⟨hk.1.1.2, ⟨hk.2, hk.1.2⟩⟩)⟩, ⟨by (with_reducible repeat (first | apply Kd.R_alloc | apply Kd.R_drewN | apply Kd.R_drew)); exact Kd.R_mono HO307.out (fun _ hk => ⟨hk.1.1.2, ⟨hk.2, hk.1.2⟩⟩)⟩, ⟨by (with_reducible repeat (first | apply Kd.R_alloc | apply Kd.R_drewN | apply Kd.R_drew)); exact Kd.R_mono HO297.out (fun _ hk => ⟨hk.1.1.2, ⟨hk.1.2, hk.2⟩⟩)⟩, ⟨by (with_reducible repeat (first | apply Kd.R_alloc | apply Kd.R_drewN | apply Kd.R_drew)); exact Kd.R_mono HO300.out (fun _ hk => trivial)⟩, ⟨mv BK279.out⟩, ⟨mv BK301.out⟩, ⟨by repeat (first | (with_reducible first | exact HB.out | apply below_alloc | apply pw_below_drewN | apply below_drew1 | refine below_set ?_ GE279.out | refine below_set ?_ GE301.out) | exact HB.out)⟩⟩
     ·
      rw [if_neg c45] at H
      have c45b0 : (t308 == t293) = false := beq_eq_false_iff_ne.mpr c45
      have c45b1 : (t308 != t293) = true := bne_iff_ne.mpr c45
      (first | rw [c45b0] | (simp only [i64_w, i32_w]; rw [c45b0]) | skip)
      exact (laws_FnExactBestRenewal.no_j0 hr_ _ _ _ _ _ _ _ _ _ _ _ _ _ _ _ _ _ _ H).elim
    ·
     replace c44 := Bool.eq_false_iff.mpr c44
     subst c44
     have H1 : (laws_FnExactBestRenewal.j0 k l1 a2 a3 a4 a5 a6 t290 t293 t294 t302 t305 t308 t309 true l0_0 l0_1 t295 t298) = some r := by rw [if_neg (show ¬ (false = true) by decide)] at H; exact H
     clear H
     have H := H1
     clear H1
     exact (laws_FnExactBestRenewal.no_j0 hr_ _ _ _ _ _ _ _ _ _ _ _ _ _ _ _ _ _ _ H).elim
   case rest =>
    clear HC21
    try clear c8b0
    try clear c8b1
    try clear c11b0
    try clear hcz23_0
    try clear hcz23_1
    try clear hcz25_0
    try clear hcz25_1
    try clear hcz32_0
    try clear hcz32_1
    try clear hcz37_0
    try clear hcz37_1
    try clear hcz40_0
    try clear hcz40_1
    try clear hfz23_0
    try clear hfz23_1
    try clear hfz25_0
    try clear hfz25_1
    try clear hfz32_0
    try clear hfz32_1
    try clear hfz37_0
    try clear hfz37_1
    try clear hfz40_0
    try clear hfz40_1
    obtain ⟨kq, x81_20, rfl, HA, HJ20, HO_16, HO_20, HO_21, HO_302000, HO_302001, BK279, BK301, HB⟩ := hcut
    cases kq with
    | zero => exact absurd HA.out (by simp [laws_FnExactBestRenewal.j0])
    | succ kj20 =>
     have H := HA.out
     clear HA
     simp only [laws_FnExactBestRenewal.j0] at H
     by_cases c52 : x81_20 = true
     ·
      subst c52
      have H1 : (some false) = some r := by rw [if_pos rfl] at H; exact H
      clear H
      have H := H1
      clear H1
      exact absurd (Option.some.inj H) (by rw [hr_]; decide)
     ·
      replace c52 := Bool.eq_false_iff.mpr c52
      subst c52
      have H1 : ((laws_toNetwork.f kj20 l0_0 l0_1).bind fun bt311 => ((laws_eqNetwork.f kj20 t295 t298 bt311.1 bt311.2).bind fun t317 => (if t317 = true then ((laws_toInt64S.f kj20 l1).bind fun t318 => ((laws_eqInt64S.f kj20 t302 t318).bind fun t321 => (if t321 = true then ((laws_markNetwork.f kj20 t295 t298 1).bind fun bt322 => ((laws_markInt64S.f kj20 t302 bt322.1).bind fun bt325 => (if bt325.1 < 0 then (laws_FnExactBestRenewal.j1 kj20 l1 a2 a3 a4 a5 a6 t290 t293 t294 t305 true l0_0 l0_1) else ((laws_eqInt64S.f kj20 t305 t290).bind fun t327 => (if t327 = true then (if t308 = t293 then (laws_FnExactBestRenewal.j1 kj20 l1 a2 a3 a4 a5 a6 t290 t293 t294 t305 (t309 != t294) l0_0 l0_1) else (laws_FnExactBestRenewal.j1 kj20 l1 a2 a3 a4 a5 a6 t290 t293 t294 t305 true l0_0 l0_1)) else (laws_FnExactBestRenewal.j1 kj20 l1 a2 a3 a4 a5 a6 t290 t293 t294 t305 true l0_0 l0_1)))))) else (some false)))) else (some false)))) = some r := by rw [if_neg (show ¬ (false = true) by decide)] at H; exact H
      clear H
      have H := H1
      clear H1
      replace H := Option.bind_eq_some_iff.mp H
      obtain ⟨⟨t311, t314⟩, A530, H⟩ := H
      replace H : ((laws_eqNetwork.f kj20 t295 t298 t311 t314).bind fun t317 => (if t317 = true then ((laws_toInt64S.f kj20 l1).bind fun t318 => ((laws_eqInt64S.f kj20 t302 t318).bind fun t321 => (if t321 = true then ((laws_markNetwork.f kj20 t295 t298 1).bind fun bt322 => ((laws_markInt64S.f kj20 t302 bt322.1).bind fun bt325 => (if bt325.1 < 0 then (laws_FnExactBestRenewal.j1 kj20 l1 a2 a3 a4 a5 a6 t290 t293 t294 t305 true l0_0 l0_1) else ((laws_eqInt64S.f kj20 t305 t290).bind fun t327 => (if t327 = true then (if t308 = t293 then (laws_FnExactBestRenewal.j1 kj20 l1 a2 a3 a4 a5 a6 t290 t293 t294 t305 (t309 != t294) l0_0 l0_1) else (laws_FnExactBestRenewal.j1 kj20 l1 a2 a3 a4 a5 a6 t290 t293 t294 t305 true l0_0 l0_1)) else (laws_FnExactBestRenewal.j1 kj20 l1 a2 a3 a4 a5 a6 t290 t293 t294 t305 true l0_0 l0_1)))))) else (some false)))) else (some false))) = some r := H
      have A53 := Aside0.mk A530
      clear A530
      replace H := Option.bind_eq_some_iff.mp H
      obtain ⟨t317, A540, H⟩ := H
      replace H : (if t317 = true then ((laws_toInt64S.f kj20 l1).bind fun t318 => ((laws_eqInt64S.f kj20 t302 t318).bind fun t321 => (if t321 = true then ((laws_markNetwork.f kj20 t295 t298 1).bind fun bt322 => ((laws_markInt64S.f kj20 t302 bt322.1).bind fun bt325 => (if bt325.1 < 0 then (laws_FnExactBestRenewal.j1 kj20 l1 a2 a3 a4 a5 a6 t290 t293 t294 t305 true l0_0 l0_1) else ((laws_eqInt64S.f kj20 t305 t290).bind fun t327 => (if t327 = true then (if t308 = t293 then (laws_FnExactBestRenewal.j1 kj20 l1 a2 a3 a4 a5 a6 t290 t293 t294 t305 (t309 != t294) l0_0 l0_1) else (laws_FnExactBestRenewal.j1 kj20 l1 a2 a3 a4 a5 a6 t290 t293 t294 t305 true l0_0 l0_1)) else (laws_FnExactBestRenewal.j1 kj20 l1 a2 a3 a4 a5 a6 t290 t293 t294 t305 true l0_0 l0_1)))))) else (some false)))) else (some false)) = some r := H
      have A54 := Aside0.mk A540
      clear A540
      by_cases c55 : t317 = true
      ·
       subst c55
       have H1 : ((laws_toInt64S.f kj20 l1).bind fun t318 => ((laws_eqInt64S.f kj20 t302 t318).bind fun t321 => (if t321 = true then ((laws_markNetwork.f kj20 t295 t298 1).bind fun bt322 => ((laws_markInt64S.f kj20 t302 bt322.1).bind fun bt325 => (if bt325.1 < 0 then (laws_FnExactBestRenewal.j1 kj20 l1 a2 a3 a4 a5 a6 t290 t293 t294 t305 true l0_0 l0_1) else ((laws_eqInt64S.f kj20 t305 t290).bind fun t327 => (if t327 = true then (if t308 = t293 then (laws_FnExactBestRenewal.j1 kj20 l1 a2 a3 a4 a5 a6 t290 t293 t294 t305 (t309 != t294) l0_0 l0_1) else (laws_FnExactBestRenewal.j1 kj20 l1 a2 a3 a4 a5 a6 t290 t293 t294 t305 true l0_0 l0_1)) else (laws_FnExactBestRenewal.j1 kj20 l1 a2 a3 a4 a5 a6 t290 t293 t294 t305 true l0_0 l0_1)))))) else (some false)))) = some r := by rw [if_pos rfl] at H; exact H
       clear H
       have H := H1
       clear H1
       replace H := Option.bind_eq_some_iff.mp H
       obtain ⟨t318, A560, H⟩ := H
       replace H : ((laws_eqInt64S.f kj20 t302 t318).bind fun t321 => (if t321 = true then ((laws_markNetwork.f kj20 t295 t298 1).bind fun bt322 => ((laws_markInt64S.f kj20 t302 bt322.1).bind fun bt325 => (if bt325.1 < 0 then (laws_FnExactBestRenewal.j1 kj20 l1 a2 a3 a4 a5 a6 t290 t293 t294 t305 true l0_0 l0_1) else ((laws_eqInt64S.f kj20 t305 t290).bind fun t327 => (if t327 = true then (if t308 = t293 then (laws_FnExactBestRenewal.j1 kj20 l1 a2 a3 a4 a5 a6 t290 t293 t294 t305 (t309 != t294) l0_0 l0_1) else (laws_FnExactBestRenewal.j1 kj20 l1 a2 a3 a4 a5 a6 t290 t293 t294 t305 true l0_0 l0_1)) else (laws_FnExactBestRenewal.j1 kj20 l1 a2 a3 a4 a5 a6 t290 t293 t294 t305 true l0_0 l0_1)))))) else (some false))) = some r := H
       have A56 := Aside0.mk A560
       clear A560
       replace H := Option.bind_eq_some_iff.mp H
       obtain ⟨t321, A570, H⟩ := H
       replace H : (if t321 = true then ((laws_markNetwork.f kj20 t295 t298 1).bind fun bt322 => ((laws_markInt64S.f kj20 t302 bt322.1).bind fun bt325 => (if bt325.1 < 0 then (laws_FnExactBestRenewal.j1 kj20 l1 a2 a3 a4 a5 a6 t290 t293 t294 t305 true l0_0 l0_1) else ((laws_eqInt64S.f kj20 t305 t290).bind fun t327 => (if t327 = true then (if t308 = t293 then (laws_FnExactBestRenewal.j1 kj20 l1 a2 a3 a4 a5 a6 t290 t293 t294 t305 (t309 != t294) l0_0 l0_1) else (laws_FnExactBestRenewal.j1 kj20 l1 a2 a3 a4 a5 a6 t290 t293 t294 t305 true l0_0 l0_1)) else (laws_FnExactBestRenewal.j1 kj20 l1 a2 a3 a4 a5 a6 t290 t293 t294 t305 true l0_0 l0_1)))))) else (some false)) = some r := H
       have A57 := Aside0.mk A570
       clear A570
       by_cases c58 : t321 = true
       ·
        subst c58
        have H1 : ((laws_markNetwork.f kj20 t295 t298 1).bind fun bt322 => ((laws_markInt64S.f kj20 t302 bt322.1).bind fun bt325 => (if bt325.1 < 0 then (laws_FnExactBestRenewal.j1 kj20 l1 a2 a3 a4 a5 a6 t290 t293 t294 t305 true l0_0 l0_1) else ((laws_eqInt64S.f kj20 t305 t290).bind fun t327 => (if t327 = true then (if t308 = t293 then (laws_FnExactBestRenewal.j1 kj20 l1 a2 a3 a4 a5 a6 t290 t293 t294 t305 (t309 != t294) l0_0 l0_1) else (laws_FnExactBestRenewal.j1 kj20 l1 a2 a3 a4 a5 a6 t290 t293 t294 t305 true l0_0 l0_1)) else (laws_FnExactBestRenewal.j1 kj20 l1 a2 a3 a4 a5 a6 t290 t293 t294 t305 true l0_0 l0_1)))))) = some r := by rw [if_pos rfl] at H; exact H
        clear H
        have H := H1
        clear H1
        replace H := Option.bind_eq_some_iff.mp H
        obtain ⟨⟨t322, t323, t324⟩, A590, H⟩ := H
        replace H : ((laws_markInt64S.f kj20 t302 t322).bind fun bt325 => (if bt325.1 < 0 then (laws_FnExactBestRenewal.j1 kj20 l1 a2 a3 a4 a5 a6 t290 t293 t294 t305 true l0_0 l0_1) else ((laws_eqInt64S.f kj20 t305 t290).bind fun t327 => (if t327 = true then (if t308 = t293 then (laws_FnExactBestRenewal.j1 kj20 l1 a2 a3 a4 a5 a6 t290 t293 t294 t305 (t309 != t294) l0_0 l0_1) else (laws_FnExactBestRenewal.j1 kj20 l1 a2 a3 a4 a5 a6 t290 t293 t294 t305 true l0_0 l0_1)) else (laws_FnExactBestRenewal.j1 kj20 l1 a2 a3 a4 a5 a6 t290 t293 t294 t305 true l0_0 l0_1))))) = some r := H
        have A59 := Aside0.mk A590
        clear A590
        replace H := Option.bind_eq_some_iff.mp H
        obtain ⟨⟨t325, t326⟩, A600, H⟩ := H
        replace H : (if t325 < 0 then (laws_FnExactBestRenewal.j1 kj20 l1 a2 a3 a4 a5 a6 t290 t293 t294 t305 true l0_0 l0_1) else ((laws_eqInt64S.f kj20 t305 t290).bind fun t327 => (if t327 = true then (if t308 = t293 then (laws_FnExactBestRenewal.j1 kj20 l1 a2 a3 a4 a5 a6 t290 t293 t294 t305 (t309 != t294) l0_0 l0_1) else (laws_FnExactBestRenewal.j1 kj20 l1 a2 a3 a4 a5 a6 t290 t293 t294 t305 true l0_0 l0_1)) else (laws_FnExactBestRenewal.j1 kj20 l1 a2 a3 a4 a5 a6 t290 t293 t294 t305 true l0_0 l0_1)))) = some r := H
        have A60 := Aside0.mk A600
        clear A600
        have HC61 := Aside0.mk H
        clear H
        try go_wp2
        have n0_ := Aside0.mk (Kd.R_drew HO_16.out)
        have n1_ := Aside0.mk (Kd.R_drew HO_20.out)
        have n2_ := Aside0.mk (Kd.R_drew HO_21.out)
        have n3_ := Aside0.mk (Kd.R_drew HO_302000.out)
        have n4_ := Aside0.mk (Kd.R_drew HO_302001.out)
        have n5_ := Aside0.mk (blk_drew BK279.out)
        have n6_ := Aside0.mk (blk_drew BK301.out)
        have n7_ := Aside0.mk (below_drew1 HB.out)
        clear HO_16 HO_20 HO_21 HO_302000 HO_302001 BK279 BK301 HB
        revert n0_ n1_ n2_ n3_ n4_ n5_ n6_ n7_
        intro HO_16 HO_20 HO_21 HO_302000 HO_302001 BK279 BK301 HB
        refine start_ (n := 5) (S := fun w' => w'.cell? ⟨gb301, 0, none⟩ = some (.slice Ao35 t295.length co35) ∧ w'.cell? ⟨gb301, 1, none⟩ = some (.slice Ao38 t298.length co38) ∧ w'.cell? ⟨gb279, 0, none⟩ = some (.slice A0_0 l0_0.length c0_0) ∧ w'.cell? ⟨gb279, 1, none⟩ = some (.slice A0_1 l0_1.length c0_1)) (ds := []) #[false, false, false, false, false] (by kernel_rfl) rfl rfl ⟨(blk_cell BK301.out 0).trans rfl, (blk_cell BK301.out 1).trans rfl, (blk_cell BK279.out 0).trans rfl, (blk_cell BK279.out 1).trans rfl⟩ (fun hHeld => ?_)
        generalize wc.drew = w62 at HO_16 HO_20 HO_21 HO_302000 HO_302001 BK279 BK301 HB hHeld ⊢
        refine take_ (i := 0) (N := some 82) (v := ?_) (a' := ?_) #[true, false, false, false, false] rfl rfl (by kernel_rfl) (fun _ _ _ h => h) (Or.inl ⟨by rfl, ?_⟩) hHeld ?_ ?_
        rotate_left
        ·
         rintro w' ⟨s0, s1, s2, s3⟩
         go_simp
         with_reducible rfl
        rotate_left
        ·
         simp only [Act.put, List.setIfInBounds_toArray, List.set_cons_zero, List.set_cons_succ, i64_w, i32_w]
         rfl
        refine take_ (i := 1) (N := some 83) (v := ?_) (a' := ?_) #[true, true, false, false, false] rfl rfl (by kernel_rfl) (fun _ _ _ h => h) (Or.inl ⟨by rfl, ?_⟩) hHeld ?_ ?_
        rotate_left
        ·
         rintro w' ⟨s0, s1, s2, s3⟩
         go_simp
         with_reducible rfl
        rotate_left
        ·
         simp only [Act.put, List.setIfInBounds_toArray, List.set_cons_zero, List.set_cons_succ, i64_w, i32_w]
         rfl
        refine one_ (i := 2) (N := some 84) #[true, true, true, false, false] rfl rfl (by kernel_rfl) (by decide) (fun K hK => ?_)
        refine goes_ Try.func28 (by kernel_rfl) rfl #[.agg #[.slice A0_0 l0_0.length c0_0, .slice A0_1 l0_1.length c0_1]] (by rfl) rfl rfl (by (try simp only [List.map_toArray, List.map_cons, List.map_nil]); first | done | rfl | (simp only [List.length_drop, List.length_take]; rfl)) ?_
        with_reducible refine (laws_toNetwork.calls kj20 _ _ l0_0 _ _ l0_1 t311 t314 _ ?side1 ?side2 ?side3 ?side4 A53.out).mono ?_
        (case side1 => exact mvC (Kd.C_below HR0_0.out HB.out))
        (case side2 => exact HC0_0.out)
        (case side3 => exact mvC (Kd.C_below HR0_1.out HB.out))
        (case side4 => exact HC0_1.out)
        rintro e w63 ⟨v312, v315, rfl, ho0, ho1, hb⟩
        refine ⟨_, rfl, ?_⟩
        have n0_ := Aside0.mk (Kd.R_elder' (mv HO_16.out) (Kd.R_base ho0) hb)
        have n1_ := Aside0.mk (Kd.R_elder' (mv HO_20.out) (Kd.R_base ho0) hb)
        have n2_ := Aside0.mk (Kd.R_elder' (mv HO_21.out) (Kd.R_base ho0) hb)
        have n3_ := Aside0.mk (Kd.R_elder' (mv HO_302000.out) (Kd.R_base ho0) hb)
        have n4_ := Aside0.mk (Kd.R_elder' (mv HO_302001.out) (Kd.R_base ho1) hb)
        have n5_ := Aside0.mk (Kd.R_lower (Kd.R_new' (Kd.R_new' (Kd.R_new' (Kd.R_new' ho0 (Kd.R_lt (mv HO_16.out))) (Kd.R_lt (mv HO_20.out))) (Kd.R_lt (mv HO_21.out))) (Kd.R_lt (mv HO_302000.out))) (below_size (by repeat (first | (with_reducible first | exact HB.out | apply below_alloc | apply pw_below_drewN | apply below_drew1 | refine below_set ?_ GE279.out | refine below_set ?_ GE301.out) | exact HB.out))))
        have n6_ := Aside0.mk (Kd.R_lower (Kd.R_new' ho1 (Kd.R_lt (mv HO_302001.out))) (below_size (by repeat (first | (with_reducible first | exact HB.out | apply below_alloc | apply pw_below_drewN | apply below_drew1 | refine below_set ?_ GE279.out | refine below_set ?_ GE301.out) | exact HB.out))))
        have n7_ := Aside0.mk (blk_below (g := gb279) (o := .cells #[.slice A0_0 l0_0.length c0_0, .slice A0_1 l0_1.length c0_1] 54 (0, 0)) (mv BK279.out) hb)
        have n8_ := Aside0.mk (blk_below (g := gb301) (o := .cells #[.slice Ao35 t295.length co35, .slice Ao38 t298.length co38] 59 (0, 0)) (mv BK301.out) hb)
        have n9_ := Aside0.mk (below_step (by repeat (first | (with_reducible first | exact HB.out | apply below_alloc | apply pw_below_drewN | apply below_drew1 | refine below_set ?_ GE279.out | refine below_set ?_ GE301.out) | exact HB.out)) hb)
        clear HO_16 HO_20 HO_21 HO_302000 HO_302001 BK279 BK301 HB
        revert n0_ n1_ n2_ n3_ n4_ n5_ n6_ n7_ n8_ n9_
        intro HO_16 HO_20 HO_21 HO_302000 HO_302001 HO313 HO316 BK279 BK301 HB
        (try clear hb)
        (try clear hb2)
        (try clear hk)
        (try clear hi)
        (try clear ho0)
        (try clear ho1)
        obtain ⟨Ao64, co64, eo64⟩ := Kd.R_slice HO313.out
        (first | subst eo64 | (injection eo64 with f1_ f2_ f3_; have f4_ := f1_.symm; have f5_ := f3_.symm; clear f1_ f2_ f3_; subst f4_; subst f5_))
        obtain ⟨Ao65, co65, eo65⟩ := Kd.R_slice HO316.out
        (first | subst eo65 | (injection eo65 with f1_ f2_ f3_; have f4_ := f1_.symm; have f5_ := f3_.symm; clear f1_ f2_ f3_; subst f4_; subst f5_))
        refine hK.out _ _ ⟨(blk_cell BK301.out 0).trans rfl, (blk_cell BK301.out 1).trans rfl, (blk_cell BK279.out 0).trans rfl, (blk_cell BK279.out 1).trans rfl⟩ (fun hHeld => ?_)
        clear hK K
        refine norm_ (a' := ?_) ?_ ?_
        rotate_left
        ·
         show Act.put _ (some 84) _ = _
         simp only [Act.put, List.setIfInBounds_toArray, List.set_cons_zero, List.set_cons_succ, i64_w, i32_w]
         rfl
        refine one_ (i := 3) (N := some 85) #[true, true, true, true, false] rfl rfl (by kernel_rfl) (by decide) (fun K hK => ?_)
        refine goes_ Try.func31 (by kernel_rfl) rfl #[.agg #[.slice Ao35 t295.length co35, .slice Ao38 t298.length co38], .agg #[.slice Ao64 t311.length co64, .slice Ao65 t314.length co65]] (by rfl) rfl rfl (by (try simp only [List.map_toArray, List.map_cons, List.map_nil]); first | done | rfl | (simp only [List.length_drop, List.length_take]; rfl)) ?_
        with_reducible refine (laws_eqNetwork.calls kj20 _ _ t295 _ _ t298 _ _ t311 _ _ t314 true _ ?side1 ?side2 ?side3 ?side4 ?side5 ?side6 ?side7 ?side8 A54.out).mono ?_
        (case side1 => exact mvC (Kd.R_reads' HO_302000.out).2.2)
        (case side2 => exact (Kd.R_reads' HO_302000.out).2.1)
        (case side3 => exact mvC (Kd.R_reads' HO_302001.out).2.2)
        (case side4 => exact (Kd.R_reads' HO_302001.out).2.1)
        (case side5 => exact mvC (Kd.R_reads' HO313.out).2.2)
        (case side6 => exact (Kd.R_reads' HO313.out).2.1)
        (case side7 => exact mvC (Kd.R_reads' HO316.out).2.2)
        (case side8 => exact (Kd.R_reads' HO316.out).2.1)
        rintro e w66 ⟨rfl, hb⟩
        refine ⟨_, rfl, ?_⟩
        have n0_ := Aside0.mk (Kd.R_below (mv HO_16.out) hb)
        have n1_ := Aside0.mk (Kd.R_below (mv HO_20.out) hb)
        have n2_ := Aside0.mk (Kd.R_below (mv HO_21.out) hb)
        have n3_ := Aside0.mk (Kd.R_below (mv HO_302000.out) hb)
        have n4_ := Aside0.mk (Kd.R_below (mv HO_302001.out) hb)
        have n5_ := Aside0.mk (Kd.R_below (mv HO313.out) hb)
        have n6_ := Aside0.mk (Kd.R_below (mv HO316.out) hb)
        have n7_ := Aside0.mk (blk_below (g := gb279) (o := .cells #[.slice A0_0 l0_0.length c0_0, .slice A0_1 l0_1.length c0_1] 54 (0, 0)) (mv BK279.out) hb)
        have n8_ := Aside0.mk (blk_below (g := gb301) (o := .cells #[.slice Ao35 t295.length co35, .slice Ao38 t298.length co38] 59 (0, 0)) (mv BK301.out) hb)
        have n9_ := Aside0.mk (below_step (by repeat (first | (with_reducible first | exact HB.out | apply below_alloc | apply pw_below_drewN | apply below_drew1 | refine below_set ?_ GE279.out | refine below_set ?_ GE301.out) | exact HB.out)) hb)
        clear HO_16 HO_20 HO_21 HO_302000 HO_302001 HO313 HO316 BK279 BK301 HB
        revert n0_ n1_ n2_ n3_ n4_ n5_ n6_ n7_ n8_ n9_
        intro HO_16 HO_20 HO_21 HO_302000 HO_302001 HO313 HO316 BK279 BK301 HB
        (try clear hb)
        (try clear hb2)
        (try clear hk)
        (try clear hi)
        refine hK.out _ _ ⟨(blk_cell BK301.out 0).trans rfl, (blk_cell BK301.out 1).trans rfl, (blk_cell BK279.out 0).trans rfl, (blk_cell BK279.out 1).trans rfl⟩ (fun hHeld => ?_)
        clear hK K
        refine norm_ (a' := ?_) ?_ ?_
        rotate_left
        ·
         show Act.put _ (some 85) _ = _
         simp only [Act.put, List.setIfInBounds_toArray, List.set_cons_zero, List.set_cons_succ, i64_w, i32_w]
         rfl
        refine pure_ (i := 4) (N := some 86) (v := ?_) (a' := ?_) #[true, true, true, true, true] rfl rfl (by kernel_rfl) (fun _ _ _ h => h) (Or.inl ⟨by rfl, ?_⟩) ?_ ?_
        rotate_left
        ·
         intro w'
         go_simp
         with_reducible rfl
        rotate_left
        ·
         simp only [Act.put, List.setIfInBounds_toArray, List.set_cons_zero, List.set_cons_succ, i64_w, i32_w]
         rfl
        refine done_ (by kernel_rfl) ?_
        go_upto_region 20 with (first | ((with_reducible refine gate_callee (f := 29) rfl ?_); refine goesA_ (some 89) Try.func29 #[.slice A1 l1.length c1] ?_; (with_reducible refine (laws_toInt64S.calls kj20 _ _ l1 t318 _ ?side1 ?side2 A56.out).mono ?_); (case side1 => exact mvC (Kd.C_below HR1.out HB.out)); (case side2 => exact HC1.out); rintro e w67 ⟨v319, rfl, ho0, hb⟩; refine ⟨_, rfl, ?_⟩; have n0_ := Aside0.mk (Kd.R_elder' (mv HO_16.out) (Kd.R_base ho0) hb); have n1_ := Aside0.mk (Kd.R_elder' (mv HO_20.out) (Kd.R_base ho0) hb); have n2_ := Aside0.mk (Kd.R_elder' (mv HO_21.out) (Kd.R_base ho0) hb); have n3_ := Aside0.mk (Kd.R_elder' (mv HO_302000.out) (Kd.R_base ho0) hb); have n4_ := Aside0.mk (Kd.R_below (mv HO_302001.out) hb); have n5_ := Aside0.mk (Kd.R_elder' (mv HO313.out) (Kd.R_base ho0) hb); have n6_ := Aside0.mk (Kd.R_below (mv HO316.out) hb); have n7_ := Aside0.mk (Kd.R_lower (Kd.R_new' (Kd.R_new' (Kd.R_new' (Kd.R_new' (Kd.R_new' ho0 (Kd.R_lt (mv HO_16.out))) (Kd.R_lt (mv HO_20.out))) (Kd.R_lt (mv HO_21.out))) (Kd.R_lt (mv HO_302000.out))) (Kd.R_lt (mv HO313.out))) (below_size (by repeat (first | (with_reducible first | exact HB.out | apply below_alloc | apply pw_below_drewN | apply below_drew1 | refine below_set ?_ GE279.out | refine below_set ?_ GE301.out) | exact HB.out)))); have n8_ := Aside0.mk (blk_below (g := gb279) (o := .cells #[.slice A0_0 l0_0.length c0_0, .slice A0_1 l0_1.length c0_1] 54 (0, 0)) (mv BK279.out) hb); have n9_ := Aside0.mk (blk_below (g := gb301) (o := .cells #[.slice Ao35 t295.length co35, .slice Ao38 t298.length co38] 59 (0, 0)) (mv BK301.out) hb); have n10_ := Aside0.mk (below_step (by repeat (first | (with_reducible first | exact HB.out | apply below_alloc | apply pw_below_drewN | apply below_drew1 | refine below_set ?_ GE279.out | refine below_set ?_ GE301.out) | exact HB.out)) hb); clear HO_16 HO_20 HO_21 HO_302000 HO_302001 HO313 HO316 BK279 BK301 HB; revert n0_ n1_ n2_ n3_ n4_ n5_ n6_ n7_ n8_ n9_ n10_; intro HO_16 HO_20 HO_21 HO_302000 HO_302001 HO313 HO316 HO320 BK279 BK301 HB; (try clear hb); (try clear ho0); obtain ⟨Ao68, co68, eo68⟩ := Kd.R_slice HO320.out; subst eo68) | ((with_reducible refine gate_callee (f := 11) rfl ?_); refine goesA_ (some 90) Try.func11 #[.slice Ao41 t302.length co41, .slice Ao68 t318.length co68] ?_; (with_reducible refine (laws_eqInt64S.calls kj20 _ _ t302 _ _ t318 true _ ?side1 ?side2 ?side3 ?side4 A57.out).mono ?_); (case side1 => exact mvC (Kd.R_reads' HO_20.out).2.2); (case side2 => exact (Kd.R_reads' HO_20.out).2.1); (case side3 => exact mvC (Kd.R_reads' HO320.out).2.2); (case side4 => exact (Kd.R_reads' HO320.out).2.1); rintro e w' ⟨rfl, ⟨nd, rfl⟩⟩; refine ⟨_, rfl, ?_⟩; have hnb69 := NB301_279.out; have hnc69 := NB279_301.out; have hcz70_0 : w67.cell? ⟨gb301, 0, none⟩ = some (.slice Ao35 t295.length co35) := (blk_cell BK301.out 0).trans rfl; have hcz70_1 : w67.cell? ⟨gb301, 1, none⟩ = some (.slice Ao38 t298.length co38) := (blk_cell BK301.out 1).trans rfl; have hfz70_0 := blk_frozen BK301.out 0; have hfz70_1 := blk_frozen BK301.out 1) | ((with_reducible refine gate_callee (f := 32) rfl ?_); refine goesA_ (some 94) Try.func32 #[.agg #[.slice Ao35 t295.length co35, .slice Ao38 t298.length co38], .int .i64 1] ?_; (with_reducible refine (laws_markNetwork.calls kj20 (fun k_ => some k_ = (.slice Ao35 t295.length co35 : Value).ownBlock) (.slice Ao35 t295.length co35) t295 (fun k_ => some k_ = (.slice Ao38 t298.length co38 : Value).ownBlock) (.slice Ao38 t298.length co38) t298 1 t322 t323 t324 w _ ?side1 ?side2 ?side3 A59.out).mono ?_); (case side1 => repeat (first | (with_reducible first | exact HB.out | apply below_alloc | apply pw_below_drewN | apply below_drew1 | refine below_set ?_ GE279.out | refine below_set ?_ GE301.out) | exact HB.out)); (case side2 => exact Kd.R_tight rfl HO_302000.out); (case side3 => exact Kd.R_tight rfl HO_302001.out); rintro e w71 ⟨rfl, hy0, hy1, hb, hkp⟩; refine ⟨_, rfl, ?_⟩; have n0_ := Aside0.mk (Kd.R_mono (ok' := fun k_ => some k_ ≠ (.slice Ao41 t302.length co41 : Value).ownBlock ∧ some k_ ≠ (v306 : Value).ownBlock ∧ some k_ ≠ (.slice Ao35 t295.length co35 : Value).ownBlock ∧ some k_ ≠ (.slice Ao64 t311.length co64 : Value).ownBlock ∧ some k_ ≠ (.slice Ao68 t318.length co68 : Value).ownBlock) (Kd.R_keptB ((Kd.R_apart' HO_16.out (Kd.R_typed HO_302001.out) (by decide))) hkp (fun k_ hk_ hs_ => Or.elim hs_ (fun e_ => (hk_.1.1.1.2.2) e_) (fun e_ => (hk_.2) e_))) (fun k_ hk_ => ⟨hk_.1.1.1.1.1, hk_.1.1.1.1.2.1, hk_.1.1.1.1.2.2, hk_.1.1.1.2, hk_.1.1.2⟩)); have n1_ := Aside0.mk (Kd.R_mono (ok' := fun k_ => some k_ ≠ (v291 : Value).ownBlock ∧ some k_ ≠ (v306 : Value).ownBlock ∧ some k_ ≠ (.slice Ao35 t295.length co35 : Value).ownBlock ∧ some k_ ≠ (.slice Ao64 t311.length co64 : Value).ownBlock ∧ some k_ ≠ (.slice Ao68 t318.length co68 : Value).ownBlock) (Kd.R_keptB ((Kd.R_apart' HO_20.out (Kd.R_typed HO_302001.out) (by decide))) hkp (fun k_ hk_ hs_ => Or.elim hs_ (fun e_ => (hk_.1.1.1.2.2) e_) (fun e_ => (hk_.2) e_))) (fun k_ hk_ => ⟨hk_.1.1.1.1.1, hk_.1.1.1.1.2.1, hk_.1.1.1.1.2.2, hk_.1.1.1.2, hk_.1.1.2⟩)); have n2_ := Aside0.mk (Kd.R_mono (ok' := fun k_ => some k_ ≠ (v291 : Value).ownBlock ∧ some k_ ≠ (.slice Ao41 t302.length co41 : Value).ownBlock ∧ some k_ ≠ (.slice Ao35 t295.length co35 : Value).ownBlock ∧ some k_ ≠ (.slice Ao64 t311.length co64 : Value).ownBlock ∧ some k_ ≠ (.slice Ao68 t318.length co68 : Value).ownBlock) (Kd.R_keptB ((Kd.R_apart' HO_21.out (Kd.R_typed HO_302001.out) (by decide))) hkp (fun k_ hk_ hs_ => Or.elim hs_ (fun e_ => (hk_.1.1.1.2.2) e_) (fun e_ => (hk_.2) e_))) (fun k_ hk_ => ⟨hk_.1.1.1.1.1, hk_.1.1.1.1.2.1, hk_.1.1.1.1.2.2, hk_.1.1.1.2, hk_.1.1.2⟩)); have n3_ := Aside0.mk (Kd.R_reok rfl hy0 (fun k_ e_ => HO_302000.out.1 k_ e_)); have n4_ := Aside0.mk (Kd.R_reok rfl hy1 (fun k_ e_ => HO_302001.out.1 k_ e_)); have n5_ := Aside0.mk (blk_kept (mv BK279.out) hkp (fun hs_ => Or.elim hs_ (fun e_ => (fun e_ => (Kd.R_ne HO_302000.out BK279.out (by decide)) e_) e_) (fun e_ => (fun e_ => (Kd.R_ne HO_302001.out BK279.out (by decide)) e_) e_))); have n6_ := Aside0.mk (blk_kept (mv BK301.out) hkp (fun hs_ => Or.elim hs_ (fun e_ => (fun e_ => (Kd.R_ne HO_302000.out BK301.out (by decide)) e_) e_) (fun e_ => (fun e_ => (Kd.R_ne HO_302001.out BK301.out (by decide)) e_) e_))); have n7_ := Aside0.mk (Kd.R_mono (ok' := fun k_ => some k_ ≠ (v291 : Value).ownBlock ∧ some k_ ≠ (.slice Ao41 t302.length co41 : Value).ownBlock ∧ some k_ ≠ (v306 : Value).ownBlock ∧ some k_ ≠ (.slice Ao35 t295.length co35 : Value).ownBlock ∧ some k_ ≠ (.slice Ao68 t318.length co68 : Value).ownBlock) (Kd.R_keptB ((Kd.R_apart' HO313.out (Kd.R_typed HO_302001.out) (by decide))) hkp (fun k_ hk_ hs_ => Or.elim hs_ (fun e_ => (hk_.1.1.2) e_) (fun e_ => (hk_.2) e_))) (fun k_ hk_ => ⟨hk_.1.1.1.1.1.1.2, hk_.1.1.1.1.1.2, hk_.1.1.1.1.2, hk_.1.1.1.2, hk_.1.1.2⟩)); have n8_ := Aside0.mk (Kd.R_mono (ok' := fun k_ => some k_ ≠ (.slice Ao38 t298.length co38 : Value).ownBlock) (Kd.R_keptB ((Kd.R_apart' HO316.out (Kd.R_typed HO_302000.out) (by decide))) hkp (fun k_ hk_ hs_ => Or.elim hs_ (fun e_ => (hk_.2) e_) (fun e_ => (hk_.1.2) e_))) (fun k_ hk_ => hk_.1.1.2)); have n9_ := Aside0.mk (Kd.R_mono (ok' := fun k_ => some k_ ≠ (v291 : Value).ownBlock ∧ some k_ ≠ (.slice Ao41 t302.length co41 : Value).ownBlock ∧ some k_ ≠ (v306 : Value).ownBlock ∧ some k_ ≠ (.slice Ao35 t295.length co35 : Value).ownBlock ∧ some k_ ≠ (.slice Ao64 t311.length co64 : Value).ownBlock) (Kd.R_keptB ((Kd.R_apart' HO320.out (Kd.R_typed HO_302001.out) (by decide))) hkp (fun k_ hk_ hs_ => Or.elim hs_ (fun e_ => (hk_.1.1.2) e_) (fun e_ => (hk_.2) e_))) (fun k_ hk_ => ⟨hk_.1.1.1.1.1.1.2, hk_.1.1.1.1.1.2, hk_.1.1.1.1.2, hk_.1.1.1.2, hk_.1.1.2⟩)); have n10_ := Aside0.mk (hb); clear HO_16 HO_20 HO_21 HO_302000 HO_302001 BK279 BK301 HO313 HO316 HO320 HB; revert n0_ n1_ n2_ n3_ n4_ n5_ n6_ n7_ n8_ n9_ n10_; intro HO_16 HO_20 HO_21 HO_302000 HO_302001 BK279 BK301 HO313 HO316 HO320 HB; (try clear hb); (try clear hkp); (try clear hy0); (try clear hy1)) | ((with_reducible refine gate_callee (f := 14) rfl ?_); refine goesA_ (some 97) Try.func14 #[.slice Ao41 t302.length co41, .int .i64 t322] ?_; (with_reducible refine (laws_markInt64S.calls kj20 (fun k_ => some k_ = (.slice Ao41 t302.length co41 : Value).ownBlock) (.slice Ao41 t302.length co41) t302 t322 t325 t326 w _ ?side1 ?side2 A60.out).mono ?_); (case side1 => repeat (first | (with_reducible first | exact HB.out | apply below_alloc | apply pw_below_drewN | apply below_drew1 | refine below_set ?_ GE279.out | refine below_set ?_ GE301.out) | exact HB.out)); (case side2 => exact Kd.R_tight rfl HO_20.out); rintro e w72 ⟨rfl, hy0, hb, hkp⟩; refine ⟨_, rfl, ?_⟩; have n0_ := Aside0.mk (Kd.R_mono (ok' := fun k_ => some k_ ≠ (.slice Ao41 t302.length co41 : Value).ownBlock ∧ some k_ ≠ (v306 : Value).ownBlock ∧ some k_ ≠ (.slice Ao35 t295.length co35 : Value).ownBlock ∧ some k_ ≠ (.slice Ao64 t311.length co64 : Value).ownBlock ∧ some k_ ≠ (.slice Ao68 t318.length co68 : Value).ownBlock) (Kd.R_keptB (HO_16.out) hkp (fun k_ hk_ hs_ => (hk_.1) hs_)) (fun k_ hk_ => ⟨hk_.1.1, hk_.1.2.1, hk_.1.2.2.1, hk_.1.2.2.2.1, hk_.1.2.2.2.2⟩)); have n1_ := Aside0.mk (Kd.R_reok rfl hy0 (fun k_ e_ => HO_20.out.1 k_ e_)); have n2_ := Aside0.mk (Kd.R_mono (ok' := fun k_ => some k_ ≠ (v291 : Value).ownBlock ∧ some k_ ≠ (.slice Ao41 t302.length co41 : Value).ownBlock ∧ some k_ ≠ (.slice Ao35 t295.length co35 : Value).ownBlock ∧ some k_ ≠ (.slice Ao64 t311.length co64 : Value).ownBlock ∧ some k_ ≠ (.slice Ao68 t318.length co68 : Value).ownBlock) (Kd.R_keptB (HO_21.out) hkp (fun k_ hk_ hs_ => (hk_.2.1) hs_)) (fun k_ hk_ => ⟨hk_.1.1, hk_.1.2.1, hk_.1.2.2.1, hk_.1.2.2.2.1, hk_.1.2.2.2.2⟩)); have n3_ := Aside0.mk (Kd.R_mono (ok' := fun k_ => some k_ ≠ (v291 : Value).ownBlock ∧ some k_ ≠ (.slice Ao41 t302.length co41 : Value).ownBlock ∧ some k_ ≠ (v306 : Value).ownBlock ∧ some k_ ≠ (.slice Ao64 t311.length co64 : Value).ownBlock ∧ some k_ ≠ (.slice Ao68 t318.length co68 : Value).ownBlock) (Kd.R_keptB (HO_302000.out) hkp (fun k_ hk_ hs_ => (hk_.1.1.2.1) hs_)) (fun k_ hk_ => ⟨hk_.1.1.1.1, hk_.1.1.1.2.1, hk_.1.1.1.2.2, hk_.1.1.2, hk_.1.2⟩)); have n4_ := Aside0.mk (Kd.R_mono (ok' := fun k_ => some k_ ≠ (.slice Ao65 t314.length co65 : Value).ownBlock) (Kd.R_keptB ((Kd.R_apart' HO_302001.out (Kd.R_typed HO_20.out) (by decide))) hkp (fun k_ hk_ hs_ => (hk_.2) hs_)) (fun k_ hk_ => hk_.1.1.2)); have n5_ := Aside0.mk (blk_kept (mv BK279.out) hkp (fun hs_ => (fun e_ => (Kd.R_ne HO_20.out BK279.out (by decide)) e_) hs_)); have n6_ := Aside0.mk (blk_kept (mv BK301.out) hkp (fun hs_ => (fun e_ => (Kd.R_ne HO_20.out BK301.out (by decide)) e_) hs_)); have n7_ := Aside0.mk (Kd.R_mono (ok' := fun k_ => some k_ ≠ (v291 : Value).ownBlock ∧ some k_ ≠ (.slice Ao41 t302.length co41 : Value).ownBlock ∧ some k_ ≠ (v306 : Value).ownBlock ∧ some k_ ≠ (.slice Ao35 t295.length co35 : Value).ownBlock ∧ some k_ ≠ (.slice Ao68 t318.length co68 : Value).ownBlock) (Kd.R_keptB (HO313.out) hkp (fun k_ hk_ hs_ => (hk_.2.1) hs_)) (fun k_ hk_ => ⟨hk_.1.1, hk_.1.2.1, hk_.1.2.2.1, hk_.1.2.2.2.1, hk_.1.2.2.2.2⟩)); have n8_ := Aside0.mk (Kd.R_mono (ok' := fun k_ => some k_ ≠ (.slice Ao38 t298.length co38 : Value).ownBlock) (Kd.R_keptB ((Kd.R_apart' HO316.out (Kd.R_typed HO_20.out) (by decide))) hkp (fun k_ hk_ hs_ => (hk_.2) hs_)) (fun k_ hk_ => hk_.1.1)); have n9_ := Aside0.mk (Kd.R_mono (ok' := fun k_ => some k_ ≠ (v291 : Value).ownBlock ∧ some k_ ≠ (.slice Ao41 t302.length co41 : Value).ownBlock ∧ some k_ ≠ (v306 : Value).ownBlock ∧ some k_ ≠ (.slice Ao35 t295.length co35 : Value).ownBlock ∧ some k_ ≠ (.slice Ao64 t311.length co64 : Value).ownBlock) (Kd.R_keptB (HO320.out) hkp (fun k_ hk_ hs_ => (hk_.2.1) hs_)) (fun k_ hk_ => ⟨hk_.1.1, hk_.1.2.1, hk_.1.2.2.1, hk_.1.2.2.2.1, hk_.1.2.2.2.2⟩)); have n10_ := Aside0.mk (hb); clear HO_16 HO_20 HO_21 HO_302000 HO_302001 BK279 BK301 HO313 HO316 HO320 HB; revert n0_ n1_ n2_ n3_ n4_ n5_ n6_ n7_ n8_ n9_ n10_; intro HO_16 HO_20 HO_21 HO_302000 HO_302001 BK279 BK301 HO313 HO316 HO320 HB; (try clear hb); (try clear hkp); (try clear hy0)))
        (try simp only [Act.put, List.setIfInBounds_toArray, List.set_cons_zero, List.set_cons_succ])
        go_cut [115] (fun v115 wc => ∃ (kq : Nat) (x115_60 : Bool), v115 = .bool x115_60 ∧ Aside0 (laws_FnExactBestRenewal.j1 kq l1 a2 a3 a4 a5 a6 t290 t293 t294 t305 x115_60 l0_0 l0_1 = some r) ∧ Aside0 (kq ≤ kj20) ∧ Aside0 (Kd.R (Kd.int .i64) 2 wc w.heap.size (fun k_ => some k_ ≠ (v306 : Value).ownBlock ∧ some k_ ≠ ((.slice Ao35 t295.length co35) : Value).ownBlock) v291 t290) ∧ Aside0 (Kd.R (Kd.int .i64) 2 wc w.heap.size (fun k_ => some k_ ≠ (v291 : Value).ownBlock ∧ some k_ ≠ ((.slice Ao35 t295.length co35) : Value).ownBlock) v306 t305) ∧ Aside0 (Kd.R (Kd.int .i64) 2 wc w.heap.size (fun k_ => some k_ ≠ (v291 : Value).ownBlock ∧ some k_ ≠ (v306 : Value).ownBlock) (.slice Ao35 t295.length co35) t323) ∧ Aside0 (Kd.R k75 75 wc w.heap.size (fun _ => True) (.slice Ao38 t298.length co38) t324) ∧ Aside0 (wc.heap[gb279]? = some (.cells #[(.slice A0_0 l0_0.length c0_0), (.slice A0_1 l0_1.length c0_1)] 54 (0, 0))) ∧ Aside0 (wc.heap[gb301]? = some (.cells #[(.slice Ao35 t295.length co35), (.slice Ao38 t298.length co38)] 59 (0, 0))) ∧ Aside0 (Below w.heap.size w wc))
        case first =>
         have H := HC61.out
         clear HC61
         by_cases c73 : t325 < 0
         ·
          rw [if_pos c73] at H
          have c73b0 : decide (t325 < 0) = true := decide_eq_true c73
          clear c73
          (first | rw [c73b0] | (simp only [i64_w, i32_w]; rw [c73b0]) | skip)
          exact (laws_FnExactBestRenewal.no_j1 hr_ _ _ _ _ _ _ _ _ _ _ _ _ _ H).elim
         ·
          rw [if_neg c73] at H
          have c73b0 : decide (t325 < 0) = false := decide_eq_false c73
          clear c73
          (first | rw [c73b0] | (simp only [i64_w, i32_w]; rw [c73b0]) | skip)
          replace H := Option.bind_eq_some_iff.mp H
          obtain ⟨t327, A740, H⟩ := H
          replace H : (if t327 = true then (if t308 = t293 then (laws_FnExactBestRenewal.j1 kj20 l1 a2 a3 a4 a5 a6 t290 t293 t294 t305 (t309 != t294) l0_0 l0_1) else (laws_FnExactBestRenewal.j1 kj20 l1 a2 a3 a4 a5 a6 t290 t293 t294 t305 true l0_0 l0_1)) else (laws_FnExactBestRenewal.j1 kj20 l1 a2 a3 a4 a5 a6 t290 t293 t294 t305 true l0_0 l0_1)) = some r := H
          have A74 := Aside0.mk A740
          clear A740
          by_cases c75 : t327 = true
          ·
           subst c75
           have H1 : (if t308 = t293 then (laws_FnExactBestRenewal.j1 kj20 l1 a2 a3 a4 a5 a6 t290 t293 t294 t305 (t309 != t294) l0_0 l0_1) else (laws_FnExactBestRenewal.j1 kj20 l1 a2 a3 a4 a5 a6 t290 t293 t294 t305 true l0_0 l0_1)) = some r := by rw [if_pos rfl] at H; exact H
           clear H
           have H := H1
           clear H1
           by_cases c76 : t308 = t293
           ·
            rw [if_pos c76] at H
            have c76b0 : (t308 == t293) = true := beq_iff_eq.mpr c76
            have c76b1 : (t308 != t293) = false := bne_eq_false_iff_eq.mpr c76
            clear c76
            have H' := Aside0.mk H
            clear H
            obtain ⟨Ao77, co77, eo77⟩ := Kd.R_slice HO_21.out
            subst eo77
            obtain ⟨Ao78, co78, eo78⟩ := Kd.R_slice HO_16.out
            subst eo78
            go_wp2_with (first | (go_at_call 11; (with_reducible refine (laws_eqInt64S.calls kj20 _ _ t305 _ _ t290 true _ ?side1 ?side2 ?side3 ?side4 A74.out).mono ?_); (case side1 => exact mvC (Kd.R_reads' HO_21.out).2.2); (case side2 => exact (Kd.R_reads' HO_21.out).2.1); (case side3 => exact mvC (Kd.R_reads' HO_16.out).2.2); (case side4 => exact (Kd.R_reads' HO_16.out).2.1); rintro e w' ⟨rfl, ⟨nd, rfl⟩⟩))
            go_meet
            case rel => exact ⟨_, ((t309 != t294)), rs, H', ⟨by have := HJ20.out; first | omega | exact Nat.le_refl _⟩, ⟨by (with_reducible repeat (first | apply Kd.R_alloc | apply Kd.R_drewN | apply Kd.R_drew)); exact Kd.R_mono HO_16.out (fun _ hk => ⟨hk.2.1, hk.2.2.1⟩)⟩, ⟨by (with_reducible repeat (first | apply Kd.R_alloc | apply Kd.R_drewN | apply Kd.R_drew)); exact Kd.R_mono HO_21.out (fun _ hk => ⟨hk.1, hk.2.2.1⟩)⟩, ⟨by (with_reducible repeat (first | apply Kd.R_alloc | apply Kd.R_drewN | apply Kd.R_drew)); exact Kd.R_mono HO_302000.out (fun _ hk => ⟨hk.1, hk.2.2.1⟩)⟩, ⟨by (with_reducible repeat (first | apply Kd.R_alloc | apply Kd.R_drewN | apply Kd.R_drew)); exact Kd.R_mono HO_302001.out (fun _ hk => trivial)⟩, ⟨mv BK279.out⟩, ⟨mv BK301.out⟩, ⟨by repeat (first | (with_reducible first | exact HB.out | apply below_alloc | apply pw_below_drewN | apply below_drew1 | refine below_set ?_ GE279.out | refine below_set ?_ GE301.out) | exact HB.out)⟩⟩
           ·
            rw [if_neg c76] at H
            have c76b0 : (t308 == t293) = false := beq_eq_false_iff_ne.mpr c76
            have c76b1 : (t308 != t293) = true := bne_iff_ne.mpr c76
            exact (laws_FnExactBestRenewal.no_j1 hr_ _ _ _ _ _ _ _ _ _ _ _ _ _ H).elim
          ·
           replace c75 := Bool.eq_false_iff.mpr c75
           subst c75
           have H1 : (laws_FnExactBestRenewal.j1 kj20 l1 a2 a3 a4 a5 a6 t290 t293 t294 t305 true l0_0 l0_1) = some r := by rw [if_neg (show ¬ (false = true) by decide)] at H; exact H
           clear H
           have H := H1
           clear H1
           exact (laws_FnExactBestRenewal.no_j1 hr_ _ _ _ _ _ _ _ _ _ _ _ _ _ H).elim
        case rest =>
         clear HC61
         try clear c8b0
         try clear c8b1
         try clear c11b0
         try clear c52
         try clear c55
         try clear c58
         try clear hcz23_0
         try clear hcz23_1
         try clear hcz25_0
         try clear hcz25_1
         try clear hcz32_0
         try clear hcz32_1
         try clear hcz37_0
         try clear hcz37_1
         try clear hcz40_0
         try clear hcz40_1
         try clear hcz70_0
         try clear hcz70_1
         try clear hfz23_0
         try clear hfz23_1
         try clear hfz25_0
         try clear hfz25_1
         try clear hfz32_0
         try clear hfz32_1
         try clear hfz37_0
         try clear hfz37_1
         try clear hfz40_0
         try clear hfz40_1
         try clear hfz70_0
         try clear hfz70_1
         obtain ⟨kq, x115_60, rfl, HA, HJ60, HO_16, HO_21, HO_302000, HO_302001, BK279, BK301, HB⟩ := hcut
         have hl302000_60 := (Kd.R_reads' HO_302000.out).1
         rw [hl302000_60] at HO_302000
         (try simp only [hl302000_60])
         (try simp only [hl302000_60] at BK279)
         (try simp only [hl302000_60] at BK301)
         (try simp only [hl302000_60] at HO_16)
         (try simp only [hl302000_60] at HO_21)
         (try simp only [hl302000_60] at HO_302001)
         have hl302001_60 := (Kd.R_reads' HO_302001.out).1
         rw [hl302001_60] at HO_302001
         (try simp only [hl302001_60])
         (try simp only [hl302001_60] at BK279)
         (try simp only [hl302001_60] at BK301)
         (try simp only [hl302001_60] at HO_16)
         (try simp only [hl302001_60] at HO_21)
         (try simp only [hl302001_60] at HO_302000)
         cases kq with
         | zero => exact absurd HA.out (by simp [laws_FnExactBestRenewal.j1])
         | succ kj60 =>
          have H := HA.out
          clear HA
          simp only [laws_FnExactBestRenewal.j1] at H
          by_cases c83 : x115_60 = true
          ·
           subst c83
           have H1 : (some false) = some r := by rw [if_pos rfl] at H; exact H
           clear H
           have H := H1
           clear H1
           exact absurd (Option.some.inj H) (by rw [hr_]; decide)
          ·
           replace c83 := Bool.eq_false_iff.mpr c83
           subst c83
           have H1 : ((laws_markInt64S.f kj60 t305 1).bind fun bt328 => ((laws_heldInt64S.f kj60 bt328.2 1).bind fun t330 => (if t330 < 0 then (some false) else (if t330 = bt328.1 then ((laws_toNetwork.f kj60 l0_0 l0_1).bind fun bt331 => ((laws_toInt64S.f kj60 l1).bind fun t337 => ((impl_BestRenewal.f kj60 bt331.1 bt331.2 t337 a2 a3 a4 a5 a6).bind fun bt340 => ((laws_eqInt64S.f kj60 bt340.1 t290).bind fun t345 => (if t345 = true then (if bt340.2.1 = t293 then (laws_FnExactBestRenewal.j2 kj60 bt328.2 bt328.1 (bt340.2.2 != t294)) else (laws_FnExactBestRenewal.j2 kj60 bt328.2 bt328.1 true)) else (laws_FnExactBestRenewal.j2 kj60 bt328.2 bt328.1 true)))))) else (some false))))) = some r := by rw [if_neg (show ¬ (false = true) by decide)] at H; exact H
           clear H
           have H := H1
           clear H1
           replace H := Option.bind_eq_some_iff.mp H
           obtain ⟨⟨t328, t329⟩, A840, H⟩ := H
           replace H : ((laws_heldInt64S.f kj60 t329 1).bind fun t330 => (if t330 < 0 then (some false) else (if t330 = t328 then ((laws_toNetwork.f kj60 l0_0 l0_1).bind fun bt331 => ((laws_toInt64S.f kj60 l1).bind fun t337 => ((impl_BestRenewal.f kj60 bt331.1 bt331.2 t337 a2 a3 a4 a5 a6).bind fun bt340 => ((laws_eqInt64S.f kj60 bt340.1 t290).bind fun t345 => (if t345 = true then (if bt340.2.1 = t293 then (laws_FnExactBestRenewal.j2 kj60 t329 t328 (bt340.2.2 != t294)) else (laws_FnExactBestRenewal.j2 kj60 t329 t328 true)) else (laws_FnExactBestRenewal.j2 kj60 t329 t328 true)))))) else (some false)))) = some r := H
           have A84 := Aside0.mk A840
           clear A840
           replace H := Option.bind_eq_some_iff.mp H
           obtain ⟨t330, A850, H⟩ := H
           replace H : (if t330 < 0 then (some false) else (if t330 = t328 then ((laws_toNetwork.f kj60 l0_0 l0_1).bind fun bt331 => ((laws_toInt64S.f kj60 l1).bind fun t337 => ((impl_BestRenewal.f kj60 bt331.1 bt331.2 t337 a2 a3 a4 a5 a6).bind fun bt340 => ((laws_eqInt64S.f kj60 bt340.1 t290).bind fun t345 => (if t345 = true then (if bt340.2.1 = t293 then (laws_FnExactBestRenewal.j2 kj60 t329 t328 (bt340.2.2 != t294)) else (laws_FnExactBestRenewal.j2 kj60 t329 t328 true)) else (laws_FnExactBestRenewal.j2 kj60 t329 t328 true)))))) else (some false))) = some r := H
           have A85 := Aside0.mk A850
           clear A850
           by_cases c86 : t330 < 0
           ·
            rw [if_pos c86] at H
            have c86b0 : decide (t330 < 0) = true := decide_eq_true c86
            clear c86
            obtain rfl := Option.some.inj H
            obtain ⟨Ao87, co87, eo87⟩ := Kd.R_slice HO_21.out
            subst eo87
            go_wp2_with (first | ((with_reducible refine gate_callee (f := 14) rfl ?_); refine goesA_ (some 118) Try.func14 #[.slice Ao87 t305.length co87, .int .i64 1] ?_; (with_reducible refine (laws_markInt64S.calls kj60 (fun k_ => some k_ = (.slice Ao87 t305.length co87 : Value).ownBlock) (.slice Ao87 t305.length co87) t305 1 t328 t329 w _ ?side1 ?side2 A84.out).mono ?_); (case side1 => repeat (first | (with_reducible first | exact HB.out | apply below_alloc | apply pw_below_drewN | apply below_drew1 | refine below_set ?_ GE279.out | refine below_set ?_ GE301.out) | exact HB.out)); (case side2 => exact Kd.R_tight rfl HO_21.out); rintro e w88 ⟨rfl, hy0, hb, hkp⟩; refine ⟨_, rfl, ?_⟩; have n0_ := Aside0.mk (Kd.R_mono (ok' := fun k_ => some k_ ≠ (.slice Ao87 t305.length co87 : Value).ownBlock ∧ some k_ ≠ (.slice Ao35 t323.length co35 : Value).ownBlock) (Kd.R_keptB (HO_16.out) hkp (fun k_ hk_ hs_ => (hk_.1) hs_)) (fun k_ hk_ => ⟨hk_.1.1, hk_.1.2⟩)); have n1_ := Aside0.mk (Kd.R_reok rfl hy0 (fun k_ e_ => HO_21.out.1 k_ e_)); have n2_ := Aside0.mk (Kd.R_mono (ok' := fun k_ => some k_ ≠ (v291 : Value).ownBlock ∧ some k_ ≠ (.slice Ao87 t305.length co87 : Value).ownBlock) (Kd.R_keptB (HO_302000.out) hkp (fun k_ hk_ hs_ => (hk_.2) hs_)) (fun k_ hk_ => ⟨hk_.1.1, hk_.1.2⟩)); have n3_ := Aside0.mk (Kd.R_mono (ok' := fun k_ => True) (Kd.R_keptB ((Kd.R_apart' HO_302001.out (Kd.R_typed HO_21.out) (by decide))) hkp (fun k_ hk_ hs_ => (hk_.2) hs_)) (fun k_ hk_ => trivial)); have n4_ := Aside0.mk (blk_kept (mv BK279.out) hkp (fun hs_ => (fun e_ => (Kd.R_ne HO_21.out BK279.out (by decide)) e_) hs_)); have n5_ := Aside0.mk (blk_kept (mv BK301.out) hkp (fun hs_ => (fun e_ => (Kd.R_ne HO_21.out BK301.out (by decide)) e_) hs_)); have n6_ := Aside0.mk (hb); clear HO_16 HO_21 HO_302000 HO_302001 BK279 BK301 HB; revert n0_ n1_ n2_ n3_ n4_ n5_ n6_; intro HO_16 HO_21 HO_302000 HO_302001 BK279 BK301 HB; (try clear hb); (try clear hkp); (try clear hy0)) | ((with_reducible refine gate_callee (f := 15) rfl ?_); refine goesL_ (some 121) rfl rfl Try.func15 (by kernel_rfl) rfl #[.slice Ao87 t329.length co87, .int .i64 1] rfl (by (try simp only [List.map_toArray, List.map_cons, List.map_nil]); first | done | (rw [show t329.length = t305.length from (Kd.R_reads' HO_21.out).1.symm] <;> rfl) | rfl | (simp only [List.length_drop, List.length_take]; rfl)) ?_; (with_reducible refine (laws_heldInt64S.calls kj60 _ _ t329 1 t330 _ ?side1 ?side2 A85.out).mono ?_); (case side1 => exact mvC (Kd.R_reads' HO_21.out).2.2); (case side2 => rw [show t329.length = t305.length from (Kd.R_reads' HO_21.out).1.symm]; exact (Kd.R_reads' HO_21.out).2.1); rintro e w' ⟨rfl, ⟨nd, rfl⟩⟩; refine ⟨_, rfl, ?_⟩))
            go_ret
            exact ⟨by first | rfl | (simp [errW_none, errW_some] <;> rfl) | (simp [*, errW_none, errW_some] <;> rfl), by repeat (first | (with_reducible first | exact HB.out | apply below_alloc | apply pw_below_drewN | apply below_drew1 | refine below_set ?_ GE279.out | refine below_set ?_ GE301.out) | exact HB.out)⟩
           ·
            rw [if_neg c86] at H
            have c86b0 : decide (t330 < 0) = false := decide_eq_false c86
            clear c86
            by_cases c89 : t330 = t328
            ·
             rw [if_pos c89] at H
             have c89b0 : (t330 == t328) = true := beq_iff_eq.mpr c89
             have c89b1 : (t330 != t328) = false := bne_eq_false_iff_eq.mpr c89
             clear c89
             replace H := Option.bind_eq_some_iff.mp H
             obtain ⟨⟨t331, t334⟩, A900, H⟩ := H
             replace H : ((laws_toInt64S.f kj60 l1).bind fun t337 => ((impl_BestRenewal.f kj60 t331 t334 t337 a2 a3 a4 a5 a6).bind fun bt340 => ((laws_eqInt64S.f kj60 bt340.1 t290).bind fun t345 => (if t345 = true then (if bt340.2.1 = t293 then (laws_FnExactBestRenewal.j2 kj60 t329 t328 (bt340.2.2 != t294)) else (laws_FnExactBestRenewal.j2 kj60 t329 t328 true)) else (laws_FnExactBestRenewal.j2 kj60 t329 t328 true))))) = some r := H
             have A90 := Aside0.mk A900
             clear A900
             replace H := Option.bind_eq_some_iff.mp H
             obtain ⟨t337, A910, H⟩ := H
             replace H : ((impl_BestRenewal.f kj60 t331 t334 t337 a2 a3 a4 a5 a6).bind fun bt340 => ((laws_eqInt64S.f kj60 bt340.1 t290).bind fun t345 => (if t345 = true then (if bt340.2.1 = t293 then (laws_FnExactBestRenewal.j2 kj60 t329 t328 (bt340.2.2 != t294)) else (laws_FnExactBestRenewal.j2 kj60 t329 t328 true)) else (laws_FnExactBestRenewal.j2 kj60 t329 t328 true)))) = some r := H
             have A91 := Aside0.mk A910
             clear A910
             replace H := Option.bind_eq_some_iff.mp H
             obtain ⟨⟨t340, t343, t344⟩, A920, H⟩ := H
             replace H : ((laws_eqInt64S.f kj60 t340 t290).bind fun t345 => (if t345 = true then (if t343 = t293 then (laws_FnExactBestRenewal.j2 kj60 t329 t328 (t344 != t294)) else (laws_FnExactBestRenewal.j2 kj60 t329 t328 true)) else (laws_FnExactBestRenewal.j2 kj60 t329 t328 true))) = some r := H
             have A92 := Aside0.mk A920
             clear A920
             have HC93 := Aside0.mk H
             clear H
             obtain ⟨Ao94, co94, eo94⟩ := Kd.R_slice HO_21.out
             subst eo94
             go_upto_region 31 with (first | ((with_reducible refine gate_callee (f := 14) rfl ?_); refine goesA_ (some 118) Try.func14 #[.slice Ao94 t305.length co94, .int .i64 1] ?_; (with_reducible refine (laws_markInt64S.calls kj60 (fun k_ => some k_ = (.slice Ao94 t305.length co94 : Value).ownBlock) (.slice Ao94 t305.length co94) t305 1 t328 t329 w _ ?side1 ?side2 A84.out).mono ?_); (case side1 => repeat (first | (with_reducible first | exact HB.out | apply below_alloc | apply pw_below_drewN | apply below_drew1 | refine below_set ?_ GE279.out | refine below_set ?_ GE301.out) | exact HB.out)); (case side2 => exact Kd.R_tight rfl HO_21.out); rintro e w95 ⟨rfl, hy0, hb, hkp⟩; refine ⟨_, rfl, ?_⟩; have n0_ := Aside0.mk (Kd.R_mono (ok' := fun k_ => some k_ ≠ (.slice Ao94 t305.length co94 : Value).ownBlock ∧ some k_ ≠ (.slice Ao35 t323.length co35 : Value).ownBlock) (Kd.R_keptB (HO_16.out) hkp (fun k_ hk_ hs_ => (hk_.1) hs_)) (fun k_ hk_ => ⟨hk_.1.1, hk_.1.2⟩)); have n1_ := Aside0.mk (Kd.R_reok rfl hy0 (fun k_ e_ => HO_21.out.1 k_ e_)); have n2_ := Aside0.mk (Kd.R_mono (ok' := fun k_ => some k_ ≠ (v291 : Value).ownBlock ∧ some k_ ≠ (.slice Ao94 t305.length co94 : Value).ownBlock) (Kd.R_keptB (HO_302000.out) hkp (fun k_ hk_ hs_ => (hk_.2) hs_)) (fun k_ hk_ => ⟨hk_.1.1, hk_.1.2⟩)); have n3_ := Aside0.mk (Kd.R_mono (ok' := fun k_ => True) (Kd.R_keptB ((Kd.R_apart' HO_302001.out (Kd.R_typed HO_21.out) (by decide))) hkp (fun k_ hk_ hs_ => (hk_.2) hs_)) (fun k_ hk_ => trivial)); have n4_ := Aside0.mk (blk_kept (mv BK279.out) hkp (fun hs_ => (fun e_ => (Kd.R_ne HO_21.out BK279.out (by decide)) e_) hs_)); have n5_ := Aside0.mk (blk_kept (mv BK301.out) hkp (fun hs_ => (fun e_ => (Kd.R_ne HO_21.out BK301.out (by decide)) e_) hs_)); have n6_ := Aside0.mk (hb); clear HO_16 HO_21 HO_302000 HO_302001 BK279 BK301 HB; revert n0_ n1_ n2_ n3_ n4_ n5_ n6_; intro HO_16 HO_21 HO_302000 HO_302001 BK279 BK301 HB; (try clear hb); (try clear hkp); (try clear hy0)) | ((with_reducible refine gate_callee (f := 15) rfl ?_); refine goesL_ (some 121) rfl rfl Try.func15 (by kernel_rfl) rfl #[.slice Ao94 t329.length co94, .int .i64 1] rfl (by (try simp only [List.map_toArray, List.map_cons, List.map_nil]); first | done | (rw [show t329.length = t305.length from (Kd.R_reads' HO_21.out).1.symm] <;> rfl) | rfl | (simp only [List.length_drop, List.length_take]; rfl)) ?_; (with_reducible refine (laws_heldInt64S.calls kj60 _ _ t329 1 t330 _ ?side1 ?side2 A85.out).mono ?_); (case side1 => exact mvC (Kd.R_reads' HO_21.out).2.2); (case side2 => rw [show t329.length = t305.length from (Kd.R_reads' HO_21.out).1.symm]; exact (Kd.R_reads' HO_21.out).2.1); rintro e w' ⟨rfl, ⟨nd, rfl⟩⟩; refine ⟨_, rfl, ?_⟩; have hnb96 := NB279_301.out; have hnc96 := NB301_279.out; have hcz97_0 : w95.cell? ⟨gb279, 0, none⟩ = some (.slice A0_0 l0_0.length c0_0) := (blk_cell BK279.out 0).trans rfl; have hcz97_1 : w95.cell? ⟨gb279, 1, none⟩ = some (.slice A0_1 l0_1.length c0_1) := (blk_cell BK279.out 1).trans rfl; have hfz97_0 := blk_frozen BK279.out 0; have hfz97_1 := blk_frozen BK279.out 1) | ((with_reducible refine gate_callee (f := 28) rfl ?_); refine goesA_ (some 129) Try.func28 #[.agg #[.slice A0_0 l0_0.length c0_0, .slice A0_1 l0_1.length c0_1]] ?_; (with_reducible refine (laws_toNetwork.calls kj60 _ _ l0_0 _ _ l0_1 t331 t334 _ ?side1 ?side2 ?side3 ?side4 A90.out).mono ?_); (case side1 => repeat (first | exact (Kd.C_below HR0_0.out (by repeat (first | (with_reducible first | exact HB.out | apply below_alloc | apply pw_below_drewN | apply below_drew1 | refine below_set ?_ GE279.out | refine below_set ?_ GE301.out) | exact HB.out))) | (with_reducible refine Kd.C_alloc ?_ _) | (with_reducible refine Kd.C_drewN ?_ _) | (with_reducible refine Kd.C_drew ?_))); (case side2 => exact HC0_0.out); (case side3 => repeat (first | exact (Kd.C_below HR0_1.out (by repeat (first | (with_reducible first | exact HB.out | apply below_alloc | apply pw_below_drewN | apply below_drew1 | refine below_set ?_ GE279.out | refine below_set ?_ GE301.out) | exact HB.out))) | (with_reducible refine Kd.C_alloc ?_ _) | (with_reducible refine Kd.C_drewN ?_ _) | (with_reducible refine Kd.C_drew ?_))); (case side4 => exact HC0_1.out); rintro e w98 ⟨v332, v335, rfl, ho0, ho1, hb⟩; refine ⟨_, rfl, ?_⟩; have n0_ := Aside0.mk (Kd.R_elder' (mv HO_16.out) (Kd.R_base ho0) hb); have n1_ := Aside0.mk (Kd.R_elder' (mv HO_21.out) (Kd.R_base ho0) hb); have n2_ := Aside0.mk (Kd.R_elder' (mv HO_302000.out) (Kd.R_base ho0) hb); have n3_ := Aside0.mk (Kd.R_elder' (mv HO_302001.out) (Kd.R_base ho1) hb); have n4_ := Aside0.mk (Kd.R_lower (Kd.R_new' (Kd.R_new' (Kd.R_new' ho0 (Kd.R_lt (mv HO_16.out))) (Kd.R_lt (mv HO_21.out))) (Kd.R_lt (mv HO_302000.out))) (below_size (by repeat (first | (with_reducible first | exact HB.out | apply below_alloc | apply pw_below_drewN | apply below_drew1 | refine below_set ?_ GE279.out | refine below_set ?_ GE301.out) | exact HB.out)))); have n5_ := Aside0.mk (Kd.R_lower (Kd.R_new' ho1 (Kd.R_lt (mv HO_302001.out))) (below_size (by repeat (first | (with_reducible first | exact HB.out | apply below_alloc | apply pw_below_drewN | apply below_drew1 | refine below_set ?_ GE279.out | refine below_set ?_ GE301.out) | exact HB.out)))); have n6_ := Aside0.mk (blk_below (g := gb279) (o := .cells #[.slice A0_0 l0_0.length c0_0, .slice A0_1 l0_1.length c0_1] 54 (0, 0)) (mv BK279.out) hb); have n7_ := Aside0.mk (blk_below (g := gb301) (o := .cells #[.slice Ao35 t323.length co35, .slice Ao38 t324.length co38] 59 (0, 0)) (mv BK301.out) hb); have n8_ := Aside0.mk (below_step (by repeat (first | (with_reducible first | exact HB.out | apply below_alloc | apply pw_below_drewN | apply below_drew1 | refine below_set ?_ GE279.out | refine below_set ?_ GE301.out) | exact HB.out)) hb); clear HO_16 HO_21 HO_302000 HO_302001 BK279 BK301 HB; revert n0_ n1_ n2_ n3_ n4_ n5_ n6_ n7_ n8_; intro HO_16 HO_21 HO_302000 HO_302001 HO333 HO336 BK279 BK301 HB; (try clear hb); (try clear ho0); (try clear ho1)) | ((with_reducible refine gate_callee (f := 29) rfl ?_); refine goesA_ (some 131) Try.func29 #[.slice A1 l1.length c1] ?_; (with_reducible refine (laws_toInt64S.calls kj60 _ _ l1 t337 _ ?side1 ?side2 A91.out).mono ?_); (case side1 => exact mvC (Kd.C_below HR1.out HB.out)); (case side2 => exact HC1.out); rintro e w99 ⟨v338, rfl, ho0, hb⟩; refine ⟨_, rfl, ?_⟩; have n0_ := Aside0.mk (Kd.R_elder' (mv HO_16.out) (Kd.R_base ho0) hb); have n1_ := Aside0.mk (Kd.R_elder' (mv HO_21.out) (Kd.R_base ho0) hb); have n2_ := Aside0.mk (Kd.R_elder' (mv HO_302000.out) (Kd.R_base ho0) hb); have n3_ := Aside0.mk (Kd.R_below (mv HO_302001.out) hb); have n4_ := Aside0.mk (Kd.R_elder' (mv HO333.out) (Kd.R_base ho0) hb); have n5_ := Aside0.mk (Kd.R_below (mv HO336.out) hb); have n6_ := Aside0.mk (Kd.R_lower (Kd.R_new' (Kd.R_new' (Kd.R_new' (Kd.R_new' ho0 (Kd.R_lt (mv HO_16.out))) (Kd.R_lt (mv HO_21.out))) (Kd.R_lt (mv HO_302000.out))) (Kd.R_lt (mv HO333.out))) (below_size (by repeat (first | (with_reducible first | exact HB.out | apply below_alloc | apply pw_below_drewN | apply below_drew1 | refine below_set ?_ GE279.out | refine below_set ?_ GE301.out) | exact HB.out)))); have n7_ := Aside0.mk (blk_below (g := gb279) (o := .cells #[.slice A0_0 l0_0.length c0_0, .slice A0_1 l0_1.length c0_1] 54 (0, 0)) (mv BK279.out) hb); have n8_ := Aside0.mk (blk_below (g := gb301) (o := .cells #[.slice Ao35 t323.length co35, .slice Ao38 t324.length co38] 59 (0, 0)) (mv BK301.out) hb); have n9_ := Aside0.mk (below_step (by repeat (first | (with_reducible first | exact HB.out | apply below_alloc | apply pw_below_drewN | apply below_drew1 | refine below_set ?_ GE279.out | refine below_set ?_ GE301.out) | exact HB.out)) hb); clear HO_16 HO_21 HO_302000 HO_302001 HO333 HO336 BK279 BK301 HB; revert n0_ n1_ n2_ n3_ n4_ n5_ n6_ n7_ n8_ n9_; intro HO_16 HO_21 HO_302000 HO_302001 HO333 HO336 HO339 BK279 BK301 HB; (try clear hb); (try clear ho0); obtain ⟨Ao100, co100, eo100⟩ := Kd.R_slice HO333.out; subst eo100; obtain ⟨Ao101, co101, eo101⟩ := Kd.R_slice HO336.out; subst eo101; obtain ⟨Ao102, co102, eo102⟩ := Kd.R_slice HO339.out; subst eo102) | ((with_reducible refine gate_callee (f := 30) rfl ?_); refine goesA_ (some 137) Try.func30 #[.agg #[.slice Ao100 t331.length co100, .slice Ao101 t334.length co101], .slice Ao102 t337.length co102, .int .i64 a2, .int .i64 a3, .int .i64 a4, .int .i64 a5, .int .i64 a6] ?_; (with_reducible refine (impl_BestRenewal.calls kj60 _ _ t331 _ _ t334 _ _ t337 a2 a3 a4 a5 a6 t340 t343 t344 _ ?side1 ?side2 ?side3 ?side4 ?side5 ?side6 A92.out).mono ?_); (case side1 => exact mvC (Kd.R_reads' HO333.out).2.2); (case side2 => exact (Kd.R_reads' HO333.out).2.1); (case side3 => exact mvC (Kd.R_reads' HO336.out).2.2); (case side4 => exact (Kd.R_reads' HO336.out).2.1); (case side5 => exact mvC (Kd.R_reads' HO339.out).2.2); (case side6 => exact (Kd.R_reads' HO339.out).2.1); rintro e w103 ⟨v341, rfl, ho0, hb⟩; refine ⟨_, rfl, ?_⟩; have n0_ := Aside0.mk (Kd.R_elder' (mv HO_16.out) (Kd.R_base ho0) hb); have n1_ := Aside0.mk (Kd.R_elder' (mv HO_21.out) (Kd.R_base ho0) hb); have n2_ := Aside0.mk (Kd.R_elder' (mv HO_302000.out) (Kd.R_base ho0) hb); have n3_ := Aside0.mk (Kd.R_below (mv HO_302001.out) hb); have n4_ := Aside0.mk (Kd.R_elder' (mv HO333.out) (Kd.R_base ho0) hb); have n5_ := Aside0.mk (Kd.R_below (mv HO336.out) hb); have n6_ := Aside0.mk (Kd.R_elder' (mv HO339.out) (Kd.R_base ho0) hb); have n7_ := Aside0.mk (Kd.R_lower (Kd.R_new' (Kd.R_new' (Kd.R_new' (Kd.R_new' (Kd.R_new' ho0 (Kd.R_lt (mv HO_16.out))) (Kd.R_lt (mv HO_21.out))) (Kd.R_lt (mv HO_302000.out))) (Kd.R_lt (mv HO333.out))) (Kd.R_lt (mv HO339.out))) (below_size (by repeat (first | (with_reducible first | exact HB.out | apply below_alloc | apply pw_below_drewN | apply below_drew1 | refine below_set ?_ GE279.out | refine below_set ?_ GE301.out) | exact HB.out)))); have n8_ := Aside0.mk (blk_below (g := gb279) (o := .cells #[.slice A0_0 l0_0.length c0_0, .slice A0_1 l0_1.length c0_1] 54 (0, 0)) (mv BK279.out) hb); have n9_ := Aside0.mk (blk_below (g := gb301) (o := .cells #[.slice Ao35 t323.length co35, .slice Ao38 t324.length co38] 59 (0, 0)) (mv BK301.out) hb); have n10_ := Aside0.mk (below_step (by repeat (first | (with_reducible first | exact HB.out | apply below_alloc | apply pw_below_drewN | apply below_drew1 | refine below_set ?_ GE279.out | refine below_set ?_ GE301.out) | exact HB.out)) hb); clear HO_16 HO_21 HO_302000 HO_302001 HO333 HO336 HO339 BK279 BK301 HB; revert n0_ n1_ n2_ n3_ n4_ n5_ n6_ n7_ n8_ n9_ n10_; intro HO_16 HO_21 HO_302000 HO_302001 HO333 HO336 HO339 HO342 BK279 BK301 HB; (try clear hb); (try clear ho0)))
             (try simp only [Act.put, List.setIfInBounds_toArray, List.set_cons_zero, List.set_cons_succ])
             go_cut [154] (fun v154 wc => ∃ (kq : Nat) (x154_92 : Bool), v154 = .bool x154_92 ∧ Aside0 (laws_FnExactBestRenewal.j2 kq t329 t328 x154_92 = some r) ∧ Aside0 (kq ≤ kj60) ∧ Aside0 (Kd.R (Kd.int .i64) 2 wc w.heap.size (fun k_ => some k_ ≠ ((.slice Ao35 t323.length co35) : Value).ownBlock) (.slice Ao94 t305.length co94) t329) ∧ Aside0 (Kd.R (Kd.int .i64) 2 wc w.heap.size (fun k_ => some k_ ≠ ((.slice Ao94 t305.length co94) : Value).ownBlock) (.slice Ao35 t323.length co35) t323) ∧ Aside0 (Kd.R k75 75 wc w.heap.size (fun _ => True) (.slice Ao38 t324.length co38) t324) ∧ Aside0 (wc.heap[gb279]? = some (.cells #[(.slice A0_0 l0_0.length c0_0), (.slice A0_1 l0_1.length c0_1)] 54 (0, 0))) ∧ Aside0 (wc.heap[gb301]? = some (.cells #[(.slice Ao35 t323.length co35), (.slice Ao38 t324.length co38)] 59 (0, 0))) ∧ Aside0 (Below w.heap.size w wc))
             case first =>
              have H := HC93.out
              clear HC93
              replace H := Option.bind_eq_some_iff.mp H
              obtain ⟨t345, A1040, H⟩ := H
              replace H : (if t345 = true then (if t343 = t293 then (laws_FnExactBestRenewal.j2 kj60 t329 t328 (t344 != t294)) else (laws_FnExactBestRenewal.j2 kj60 t329 t328 true)) else (laws_FnExactBestRenewal.j2 kj60 t329 t328 true)) = some r := H
              have A104 := Aside0.mk A1040
              clear A1040
              by_cases c105 : t345 = true
              ·
               subst c105
               have H1 : (if t343 = t293 then (laws_FnExactBestRenewal.j2 kj60 t329 t328 (t344 != t294)) else (laws_FnExactBestRenewal.j2 kj60 t329 t328 true)) = some r := by rw [if_pos rfl] at H; exact H
               clear H
               have H := H1
               clear H1
               by_cases c106 : t343 = t293
               ·
                rw [if_pos c106] at H
                have c106b0 : (t343 == t293) = true := beq_iff_eq.mpr c106
                have c106b1 : (t343 != t293) = false := bne_eq_false_iff_eq.mpr c106
                clear c106
                (first | rw [c106b0] | (simp only [i64_w, i32_w]; rw [c106b0]) | skip)
                have H' := Aside0.mk H
                clear H
                obtain ⟨Ao107, co107, eo107⟩ := Kd.R_slice HO342.out
                subst eo107
                obtain ⟨Ao108, co108, eo108⟩ := Kd.R_slice HO_16.out
                subst eo108
                go_wp2_with (first | ((with_reducible refine gate_callee (f := 11) rfl ?_); refine goesA_ (some 143) Try.func11 #[.slice Ao107 t340.length co107, .slice Ao108 t290.length co108] ?_; (with_reducible refine (laws_eqInt64S.calls kj60 _ _ t340 _ _ t290 true _ ?side1 ?side2 ?side3 ?side4 A104.out).mono ?_); (case side1 => exact mvC (Kd.R_reads' HO342.out).2.2); (case side2 => exact (Kd.R_reads' HO342.out).2.1); (case side3 => exact mvC (Kd.R_reads' HO_16.out).2.2); (case side4 => exact (Kd.R_reads' HO_16.out).2.1); rintro e w' ⟨rfl, ⟨nd, rfl⟩⟩; refine ⟨_, rfl, ?_⟩))
                go_meet
                case rel => exact ⟨_, ((t344 != t294)), rs, H', ⟨by have := HJ20.out; have := HJ60.out; first | omega | exact Nat.le_refl _⟩, ⟨by (try simp only [hl302000_60]); (try simp only [hl302001_60]); (with_reducible repeat (first | apply Kd.R_alloc | apply Kd.R_drewN | apply Kd.R_drew)); exact Kd.R_mono HO_21.out (fun _ hk => hk.1.1.1.2)⟩, ⟨by (try simp only [hl302000_60]); (try simp only [hl302001_60]); (with_reducible repeat (first | apply Kd.R_alloc | apply Kd.R_drewN | apply Kd.R_drew)); exact Kd.R_mono HO_302000.out (fun _ hk => hk.1.1.1.2)⟩, ⟨by (try simp only [hl302000_60]); (try simp only [hl302001_60]); (with_reducible repeat (first | apply Kd.R_alloc | apply Kd.R_drewN | apply Kd.R_drew)); exact Kd.R_mono HO_302001.out (fun _ hk => trivial)⟩, ⟨by (try simp only [hl302000_60]); (try simp only [hl302001_60]); (with_reducible repeat (first | refine blk_drewN ?_ _ | refine blk_drew ?_ | refine blk_alloc ?_ _)); exact BK279.out⟩, ⟨by (try simp only [hl302000_60]); (try simp only [hl302001_60]); (with_reducible repeat (first | refine blk_drewN ?_ _ | refine blk_drew ?_ | refine blk_alloc ?_ _)); exact BK301.out⟩, ⟨by repeat (first | (with_reducible first | exact HB.out | apply below_alloc | apply pw_below_drewN | apply below_drew1 | refine below_set ?_ GE279.out | refine below_set ?_ GE301.out) | exact HB.out)⟩⟩
               ·
                rw [if_neg c106] at H
                have c106b0 : (t343 == t293) = false := beq_eq_false_iff_ne.mpr c106
                have c106b1 : (t343 != t293) = true := bne_iff_ne.mpr c106
                (first | rw [c106b0] | (simp only [i64_w, i32_w]; rw [c106b0]) | skip)
                exact (laws_FnExactBestRenewal.no_j2 hr_ _ _ _ H).elim
              ·
               replace c105 := Bool.eq_false_iff.mpr c105
               subst c105
               have H1 : (laws_FnExactBestRenewal.j2 kj60 t329 t328 true) = some r := by rw [if_neg (show ¬ (false = true) by decide)] at H; exact H
               clear H
               have H := H1
               clear H1
               exact (laws_FnExactBestRenewal.no_j2 hr_ _ _ _ H).elim
             case rest =>
              clear HC93
              try clear c8b0
              try clear c8b1
              try clear c11b0
              try clear c52
              try clear c55
              try clear c58
              try clear c83
              try clear c86b0
              try clear c89b0
              try clear c89b1
              try clear hcz23_0
              try clear hcz23_1
              try clear hcz25_0
              try clear hcz25_1
              try clear hcz32_0
              try clear hcz32_1
              try clear hcz37_0
              try clear hcz37_1
              try clear hcz40_0
              try clear hcz40_1
              try clear hcz70_0
              try clear hcz70_1
              try clear hcz97_0
              try clear hcz97_1
              try clear hfz23_0
              try clear hfz23_1
              try clear hfz25_0
              try clear hfz25_1
              try clear hfz32_0
              try clear hfz32_1
              try clear hfz37_0
              try clear hfz37_1
              try clear hfz40_0
              try clear hfz40_1
              try clear hfz70_0
              try clear hfz70_1
              try clear hfz97_0
              try clear hfz97_1
              obtain ⟨kq, x154_92, rfl, HA, HJ92, HO_21, HO_302000, HO_302001, BK279, BK301, HB⟩ := hcut
              have hl21_92 := (Kd.R_reads' HO_21.out).1
              rw [hl21_92] at HO_21
              (try simp only [hl21_92])
              (try simp only [hl21_92] at BK279)
              (try simp only [hl21_92] at BK301)
              (try simp only [hl21_92] at HO_302000)
              (try simp only [hl21_92] at HO_302001)
              cases kq with
              | zero => exact absurd HA.out (by simp [laws_FnExactBestRenewal.j2])
              | succ kj92 =>
               have H := HA.out
               clear HA
               simp only [laws_FnExactBestRenewal.j2] at H
               by_cases c113 : x154_92 = true
               ·
                subst c113
                have H1 : (some false) = some r := by rw [if_pos rfl] at H; exact H
                clear H
                have H := H1
                clear H1
                exact absurd (Option.some.inj H) (by rw [hr_]; decide)
               ·
                replace c113 := Bool.eq_false_iff.mpr c113
                subst c113
                have H1 : ((laws_heldInt64S.f kj92 t329 1).bind fun t346 => (if t346 < 0 then (some false) else (if t346 = t328 then (some true) else (some false)))) = some r := by rw [if_neg (show ¬ (false = true) by decide)] at H; exact H
                clear H
                have H := H1
                clear H1
                replace H := Option.bind_eq_some_iff.mp H
                obtain ⟨t346, A1140, H⟩ := H
                replace H : (if t346 < 0 then (some false) else (if t346 = t328 then (some true) else (some false))) = some r := H
                have A114 := Aside0.mk A1140
                clear A1140
                by_cases c115 : t346 < 0
                ·
                 rw [if_pos c115] at H
                 have c115b0 : decide (t346 < 0) = true := decide_eq_true c115
                 clear c115
                 obtain rfl := Option.some.inj H
                 go_wp2_with (first | ((with_reducible refine gate_callee (f := 15) rfl ?_); refine goesA_ (some 157) Try.func15 #[.slice Ao94 t329.length co94, .int .i64 1] ?_; (with_reducible refine (laws_heldInt64S.calls kj92 _ _ t329 1 t346 _ ?side1 ?side2 A114.out).mono ?_); (case side1 => exact mvC (Kd.R_reads' HO_21.out).2.2); (case side2 => exact (Kd.R_reads' HO_21.out).2.1); rintro e w' ⟨rfl, ⟨nd, rfl⟩⟩; refine ⟨_, rfl, ?_⟩))
                 go_ret
                 exact ⟨by first | rfl | (simp [errW_none, errW_some] <;> rfl) | (simp [*, errW_none, errW_some] <;> rfl), by repeat (first | (with_reducible first | exact HB.out | apply below_alloc | apply pw_below_drewN | apply below_drew1 | refine below_set ?_ GE279.out | refine below_set ?_ GE301.out) | exact HB.out)⟩
                ·
                 rw [if_neg c115] at H
                 have c115b0 : decide (t346 < 0) = false := decide_eq_false c115
                 clear c115
                 by_cases c116 : t346 = t328
                 ·
                  rw [if_pos c116] at H
                  have c116b0 : (t346 == t328) = true := beq_iff_eq.mpr c116
                  have c116b1 : (t346 != t328) = false := bne_eq_false_iff_eq.mpr c116
                  clear c116
                  obtain rfl := Option.some.inj H
                  go_wp2_with (first | ((with_reducible refine gate_callee (f := 15) rfl ?_); refine goesA_ (some 157) Try.func15 #[.slice Ao94 t329.length co94, .int .i64 1] ?_; (with_reducible refine (laws_heldInt64S.calls kj92 _ _ t329 1 t346 _ ?side1 ?side2 A114.out).mono ?_); (case side1 => exact mvC (Kd.R_reads' HO_21.out).2.2); (case side2 => exact (Kd.R_reads' HO_21.out).2.1); rintro e w' ⟨rfl, ⟨nd, rfl⟩⟩; refine ⟨_, rfl, ?_⟩))
                  go_ret
                  exact ⟨by first | rfl | (simp [errW_none, errW_some] <;> rfl) | (simp [*, errW_none, errW_some] <;> rfl), by repeat (first | (with_reducible first | exact HB.out | apply below_alloc | apply pw_below_drewN | apply below_drew1 | refine below_set ?_ GE279.out | refine below_set ?_ GE301.out) | exact HB.out)⟩
                 ·
                  rw [if_neg c116] at H
                  have c116b0 : (t346 == t328) = false := beq_eq_false_iff_ne.mpr c116
                  have c116b1 : (t346 != t328) = true := bne_iff_ne.mpr c116
                  obtain rfl := Option.some.inj H
                  go_wp2_with (first | ((with_reducible refine gate_callee (f := 15) rfl ?_); refine goesA_ (some 157) Try.func15 #[.slice Ao94 t329.length co94, .int .i64 1] ?_; (with_reducible refine (laws_heldInt64S.calls kj92 _ _ t329 1 t346 _ ?side1 ?side2 A114.out).mono ?_); (case side1 => exact mvC (Kd.R_reads' HO_21.out).2.2); (case side2 => exact (Kd.R_reads' HO_21.out).2.1); rintro e w' ⟨rfl, ⟨nd, rfl⟩⟩; refine ⟨_, rfl, ?_⟩))
                  go_ret
                  exact ⟨by first | rfl | (simp [errW_none, errW_some] <;> rfl) | (simp [*, errW_none, errW_some] <;> rfl), by repeat (first | (with_reducible first | exact HB.out | apply below_alloc | apply pw_below_drewN | apply below_drew1 | refine below_set ?_ GE279.out | refine below_set ?_ GE301.out) | exact HB.out)⟩
            ·
             rw [if_neg c89] at H
             have c89b0 : (t330 == t328) = false := beq_eq_false_iff_ne.mpr c89
             have c89b1 : (t330 != t328) = true := bne_iff_ne.mpr c89
             obtain rfl := Option.some.inj H
             obtain ⟨Ao117, co117, eo117⟩ := Kd.R_slice HO_21.out
             subst eo117
             go_wp2_with (first | ((with_reducible refine gate_callee (f := 14) rfl ?_); refine goesA_ (some 118) Try.func14 #[.slice Ao117 t305.length co117, .int .i64 1] ?_; (with_reducible refine (laws_markInt64S.calls kj60 (fun k_ => some k_ = (.slice Ao117 t305.length co117 : Value).ownBlock) (.slice Ao117 t305.length co117) t305 1 t328 t329 w _ ?side1 ?side2 A84.out).mono ?_); (case side1 => repeat (first | (with_reducible first | exact HB.out | apply below_alloc | apply pw_below_drewN | apply below_drew1 | refine below_set ?_ GE279.out | refine below_set ?_ GE301.out) | exact HB.out)); (case side2 => exact Kd.R_tight rfl HO_21.out); rintro e w118 ⟨rfl, hy0, hb, hkp⟩; refine ⟨_, rfl, ?_⟩; have n0_ := Aside0.mk (Kd.R_mono (ok' := fun k_ => some k_ ≠ (.slice Ao117 t305.length co117 : Value).ownBlock ∧ some k_ ≠ (.slice Ao35 t323.length co35 : Value).ownBlock) (Kd.R_keptB (HO_16.out) hkp (fun k_ hk_ hs_ => (hk_.1) hs_)) (fun k_ hk_ => ⟨hk_.1.1, hk_.1.2⟩)); have n1_ := Aside0.mk (Kd.R_reok rfl hy0 (fun k_ e_ => HO_21.out.1 k_ e_)); have n2_ := Aside0.mk (Kd.R_mono (ok' := fun k_ => some k_ ≠ (v291 : Value).ownBlock ∧ some k_ ≠ (.slice Ao117 t305.length co117 : Value).ownBlock) (Kd.R_keptB (HO_302000.out) hkp (fun k_ hk_ hs_ => (hk_.2) hs_)) (fun k_ hk_ => ⟨hk_.1.1, hk_.1.2⟩)); have n3_ := Aside0.mk (Kd.R_mono (ok' := fun k_ => True) (Kd.R_keptB ((Kd.R_apart' HO_302001.out (Kd.R_typed HO_21.out) (by decide))) hkp (fun k_ hk_ hs_ => (hk_.2) hs_)) (fun k_ hk_ => trivial)); have n4_ := Aside0.mk (blk_kept (mv BK279.out) hkp (fun hs_ => (fun e_ => (Kd.R_ne HO_21.out BK279.out (by decide)) e_) hs_)); have n5_ := Aside0.mk (blk_kept (mv BK301.out) hkp (fun hs_ => (fun e_ => (Kd.R_ne HO_21.out BK301.out (by decide)) e_) hs_)); have n6_ := Aside0.mk (hb); clear HO_16 HO_21 HO_302000 HO_302001 BK279 BK301 HB; revert n0_ n1_ n2_ n3_ n4_ n5_ n6_; intro HO_16 HO_21 HO_302000 HO_302001 BK279 BK301 HB; (try clear hb); (try clear hkp); (try clear hy0)) | ((with_reducible refine gate_callee (f := 15) rfl ?_); refine goesL_ (some 121) rfl rfl Try.func15 (by kernel_rfl) rfl #[.slice Ao117 t329.length co117, .int .i64 1] rfl (by (try simp only [List.map_toArray, List.map_cons, List.map_nil]); first | done | (rw [show t329.length = t305.length from (Kd.R_reads' HO_21.out).1.symm] <;> rfl) | rfl | (simp only [List.length_drop, List.length_take]; rfl)) ?_; (with_reducible refine (laws_heldInt64S.calls kj60 _ _ t329 1 t330 _ ?side1 ?side2 A85.out).mono ?_); (case side1 => exact mvC (Kd.R_reads' HO_21.out).2.2); (case side2 => rw [show t329.length = t305.length from (Kd.R_reads' HO_21.out).1.symm]; exact (Kd.R_reads' HO_21.out).2.1); rintro e w' ⟨rfl, ⟨nd, rfl⟩⟩; refine ⟨_, rfl, ?_⟩))
             go_ret
             exact ⟨by first | rfl | (simp [errW_none, errW_some] <;> rfl) | (simp [*, errW_none, errW_some] <;> rfl), by repeat (first | (with_reducible first | exact HB.out | apply below_alloc | apply pw_below_drewN | apply below_drew1 | refine below_set ?_ GE279.out | refine below_set ?_ GE301.out) | exact HB.out)⟩
       ·
        replace c58 := Bool.eq_false_iff.mpr c58
        subst c58
        have H1 : (some false) = some r := by rw [if_neg (show ¬ (false = true) by decide)] at H; exact H
        clear H
        have H := H1
        clear H1
        exact absurd (Option.some.inj H) (by rw [hr_]; decide)
      ·
       replace c55 := Bool.eq_false_iff.mpr c55
       subst c55
       have H1 : (some false) = some r := by rw [if_neg (show ¬ (false = true) by decide)] at H; exact H
       clear H
       have H := H1
       clear H1
       exact absurd (Option.some.inj H) (by rw [hr_]; decide)
end Go.Proofs.Ytndbgkcjccejdaa.PFnExactBestRenewal
