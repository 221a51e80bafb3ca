-- written by a program of this session (mkp.py) out of the translation; Lean checks it. -- squeezed
import Derived.Test.YtffodlggihmonaaDoorPFnSwitchingx0
import Derived.Test.YtffodlggihmonaaDoorPFnSwitchingx2
namespace Go.Proofs.YtffodlggihmonaaDoor.PFnSwitching
open Go.RowKit Go.Proofs.YtffodlggihmonaaDoorW.PrintWords Go.Proofs.YtffodlggihmonaaDoorW.PrintLast Go.Proofs.YtffodlggihmonaaDoorW.PrintMore
attribute [local go_sem] bin_leq bin_gtr bin_geq max2_int min2_int max_two min_two max_three min_three max_four min_four   -- for this text's walks alone
set_option linter.unusedVariables false
set_option linter.unusedSimpArgs false

/-! ### impl_distancesTo: function 30 -/
mutual
def impl_distancesTo.l0 : Nat → Int → List (S51) → List Int → List Int → Option (List Int)
 | 0, _, _, _, _ => none
 | k + 1, x1, x2, x7, x8 => if (x8.length : Int) > 0 then (impl_distancesTo.l1 k x1 x2 x7 x8 0) else (some x7)
def impl_distancesTo.l1 : Nat → Int → List (S51) → List Int → List Int → Int → Option (List Int)
 | 0, _, _, _, _, _ => none
 | k + 1, x1, x2, x7, x8, x9 => if x9 < x1 then (if 0 < (x8.length : Int) then ((impl_switches_allowed.f (rd x8 0) x2).bind fun t154 => (impl_distancesTo.j2 k x1 x2 x7 x8 x9 t154)) else (none)) else (impl_distancesTo.j2 k x1 x2 x7 x8 x9 false)
def impl_distancesTo.j2 : Nat → Int → List (S51) → List Int → List Int → Int → Bool → Option (List Int)
 | 0, _, _, _, _, _, _ => none
 | k + 1, x1, x2, x7, x8, x9, x34 => if x34 = true then (if 0 < (x8.length : Int) then (if 0 ≤ x9 then (if 0 ≤ (Go.bits .xor .i64 (rd x8 0) (shl .i64 1 x9)) then (if (Go.bits .xor .i64 (rd x8 0) (shl .i64 1 x9)) < (x7.length : Int) then (if (rd x7 (Go.bits .xor .i64 (rd x8 0) (shl .i64 1 x9))) < 0 then (if 0 ≤ (rd x8 0) then (if (rd x8 0) < (x7.length : Int) then (if x8.length < 17592186044416 then (impl_distancesTo.l1 k x1 x2 (x7.set ((Go.bits .xor .i64 (rd x8 0) (shl .i64 1 x9)) : Int).toNat (wrap64 ((rd x7 (rd x8 0)) + 1))) (x8 ++ [Go.bits .xor .i64 (rd x8 0) (shl .i64 1 x9)]) (wrap64 (x9 + 1))) else (none)) else (none)) else (none)) else (impl_distancesTo.l1 k x1 x2 x7 x8 (wrap64 (x9 + 1)))) else (none)) else (none)) else (none)) else (none)) else (if 1 ≤ (x8.length : Int) then (impl_distancesTo.l0 k x1 x2 x7 (x8.drop (1 : Int).toNat)) else (none))
end
def impl_distancesTo.f (k : Nat) (a0 : Int) (a1 : Int) (l2 : List (S51)) : Option (List Int) := if 0 ≤ a1 then ((slices_Repeat_int_int.f (([(-1)] : List Int)) (shl .i64 1 a1)).bind fun t146 => (if 0 ≤ a0 then (if a0 < (t146.length : Int) then (impl_distancesTo.l0 k a1 l2 (t146.set (a0 : Int).toNat 0) (([a0] : List Int))) else (none)) else (none))) else (none)
theorem impl_distancesTo.mono_l : ∀ k, (∀ y0 y1 y2 y3, LeO (impl_distancesTo.l0 k y0 y1 y2 y3) (impl_distancesTo.l0 (k + 1) y0 y1 y2 y3)) ∧ (∀ y0 y1 y2 y3 y4, LeO (impl_distancesTo.l1 k y0 y1 y2 y3 y4) (impl_distancesTo.l1 (k + 1) y0 y1 y2 y3 y4)) ∧ (∀ y0 y1 y2 y3 y4 y5, LeO (impl_distancesTo.j2 k y0 y1 y2 y3 y4 y5) (impl_distancesTo.j2 (k + 1) y0 y1 y2 y3 y4 y5))
 | 0 => ⟨fun _ _ _ _ r h => by simp [impl_distancesTo.l0] at h, fun _ _ _ _ _ r h => by simp [impl_distancesTo.l1] at h, fun _ _ _ _ _ _ r h => by simp [impl_distancesTo.j2] at h⟩
 | k + 1 => by
  obtain ⟨ih0, ih1, ih2⟩ := impl_distancesTo.mono_l k
  refine ⟨?_, ?_, ?_⟩
  ·
   intro y0 y1 y2 y3
   unfold impl_distancesTo.l0
   repeat' first
   | (with_reducible exact ih0 _ _ _ _)
   | (with_reducible exact ih1 _ _ _ _ _)
   | (with_reducible exact ih2 _ _ _ _ _ _)
   | (with_reducible exact LeO.refl _)
   | (with_reducible exact LeO.none _)
   | (with_reducible refine LeO.ite ?_ ?_)
   | (with_reducible refine LeO.bind ?_ (fun _ => ?_))
   | exact ih0 _ _ _ _
   | exact ih1 _ _ _ _ _
   | exact ih2 _ _ _ _ _ _
   | exact LeO.none _
   | refine LeO.ite ?_ ?_
   | refine LeO.bind ?_ (fun _ => ?_)
  ·
   intro y0 y1 y2 y3 y4
   unfold impl_distancesTo.l1
   repeat' first
   | (with_reducible exact ih0 _ _ _ _)
   | (with_reducible exact ih1 _ _ _ _ _)
   | (with_reducible exact ih2 _ _ _ _ _ _)
   | (with_reducible exact LeO.refl _)
   | (with_reducible exact LeO.none _)
   | (with_reducible refine LeO.ite ?_ ?_)
   | (with_reducible refine LeO.bind ?_ (fun _ => ?_))
   | exact ih0 _ _ _ _
   | exact ih1 _ _ _ _ _
   | exact ih2 _ _ _ _ _ _
   | exact LeO.none _
   | refine LeO.ite ?_ ?_
   | refine LeO.bind ?_ (fun _ => ?_)
  ·
   intro y0 y1 y2 y3 y4 y5
   unfold impl_distancesTo.j2
   repeat' first
   | (with_reducible exact ih0 _ _ _ _)
   | (with_reducible exact ih1 _ _ _ _ _)
   | (with_reducible exact ih2 _ _ _ _ _ _)
   | (with_reducible exact LeO.refl _)
   | (with_reducible exact LeO.none _)
   | (with_reducible refine LeO.ite ?_ ?_)
   | (with_reducible refine LeO.bind ?_ (fun _ => ?_))
   | exact ih0 _ _ _ _
   | exact ih1 _ _ _ _ _
   | exact ih2 _ _ _ _ _ _
   | exact LeO.none _
   | refine LeO.ite ?_ ?_
   | refine LeO.bind ?_ (fun _ => ?_)
theorem impl_distancesTo.mono : ∀ a0 a1 a2 k, LeO (impl_distancesTo.f k a0 a1 a2) (impl_distancesTo.f (k + 1) a0 a1 a2) := by
 intro a0 a1 a2 k
 obtain ⟨ih0, ih1, ih2⟩ := impl_distancesTo.mono_l k
 unfold impl_distancesTo.f
 repeat' first
  | (with_reducible exact ih0 _ _ _ _)
  | (with_reducible exact ih1 _ _ _ _ _)
  | (with_reducible exact ih2 _ _ _ _ _ _)
  | (with_reducible exact LeO.refl _)
  | (with_reducible exact LeO.none _)
  | (with_reducible refine LeO.ite ?_ ?_)
  | (with_reducible refine LeO.bind ?_ (fun _ => ?_))
  | exact ih0 _ _ _ _
  | exact ih1 _ _ _ _ _
  | exact ih2 _ _ _ _ _ _
  | exact LeO.none _
  | refine LeO.ite ?_ ?_
  | refine LeO.bind ?_ (fun _ => ?_)
set_option maxHeartbeats 8000000 in
set_option maxRecDepth 100000 in
theorem impl_distancesTo.calls (k : Nat) (a0 : Int) (a1 : Int) (A2 : Option Addr) (c2 : Nat) (l2 : List (S51)) (r : List Int) (w : World) (hr2 : Kd.C k51 w A2 l2.length l2) (hc2 : l2.length ≤ c2) (h : impl_distancesTo.f k a0 a1 l2 = some r) :
  Calls Tryd.prog 30 #[.int .i64 a0, .int .i64 a1, .slice A2 l2.length c2] w fun e w' => ∃ v0_ : Value, e = .returned (v0_) ∧ Kd.R (Kd.int .i64) 3 w' w.heap.size (fun _ => True) v0_ r ∧ Below w.heap.size w w' := by
 have HR2 := Aside0.mk hr2
 have HC2 := Aside0.mk hc2
 clear hr2 hc2
 have HB := Aside0.mk (Below.refl w.heap.size w)
 have H : (if 0 ≤ a1 then ((slices_Repeat_int_int.f (([(-1)] : List Int)) (shl .i64 1 a1)).bind fun t146 => (if 0 ≤ a0 then (if a0 < (t146.length : Int) then (impl_distancesTo.l0 k a1 l2 (t146.set (a0 : Int).toNat 0) (([a0] : List Int))) else (none)) else (none))) else (none)) = some r := h
 clear h
 obtain ⟨y143, hy143⟩ : ∃ y_ : List Int, y_ = (([(-1)] : List Int)) := ⟨_, rfl⟩
 replace H : (if 0 ≤ a1 then ((slices_Repeat_int_int.f y143 (shl .i64 1 a1)).bind fun t146 => (if 0 ≤ a0 then (if a0 < (t146.length : Int) then (impl_distancesTo.l0 k a1 l2 (t146.set (a0 : Int).toNat 0) (([a0] : List Int))) else (none)) else (none))) else (none)) = some r := by first | (rw [hy143]; with_reducible exact H) | (have H2_ := (Option.bind_some _ _).symm.trans H; rw [hy143]; with_reducible exact H2_) | (have H2_ := (Option.bind_some _ _).symm.trans H; with_reducible exact H2_) | with_reducible exact H | (rw [hy143]; exact H) | exact H
 have Ny143 := Aside0.mk hy143
 clear hy143
 by_cases c4 : 0 ≤ a1
 ·
  rw [if_pos c4] at H
  have c4b0 := eq_true c4
  have c4b1 : decide (0 ≤ a1) = true := decide_eq_true c4
  clear c4
  obtain ⟨ji5, hji5⟩ : ∃ j_ : Int, (shl .i64 1 a1) = j_ := ⟨_, rfl⟩
  replace H : ((slices_Repeat_int_int.f y143 (ji5)).bind fun t146 => (if 0 ≤ a0 then (if a0 < (t146.length : Int) then (impl_distancesTo.l0 k a1 l2 (t146.set (a0 : Int).toNat 0) (([a0] : List Int))) else (none)) else (none))) = some r := by first | (rw [hji5] at H; exact H) | (simp only [hji5] at H ⊢; exact H)
  have hji5_ : (IntKind.i64.wrap (1 * 2 ^ min a1.toNat 64)) = ji5 := hji5
  have hji5z : a1 ≤ 64 → (IntKind.i64.wrap (1 * 2 ^ a1.toNat)) = ji5 := shl_small hji5
  have hji5u : (IntKind.i64.wrap (2 ^ min a1.toNat 64)) = ji5 := by have h_ := hji5_; rw [Int.one_mul] at h_; exact h_
  have hji5v : a1 ≤ 64 → (IntKind.i64.wrap (2 ^ a1.toNat)) = ji5 := fun hle_ => by have h_ := hji5z hle_; rw [Int.one_mul] at h_; exact h_
  have hji5y : (wrap64 (1 * 2 ^ min a1.toNat 64)) = ji5 := (i64_w _).symm.trans hji5_
  have hji5x : a1 ≤ 64 → (wrap64 (1 * 2 ^ a1.toNat)) = ji5 := fun h_ => (i64_w _).symm.trans (hji5z h_)
  replace H := Option.bind_eq_some_iff.mp H
  obtain ⟨t146, A60, H⟩ := H
  replace H : (if 0 ≤ a0 then (if a0 < (t146.length : Int) then (impl_distancesTo.l0 k a1 l2 (t146.set (a0 : Int).toNat 0) (([a0] : List Int))) else (none)) else (none)) = some r := H
  have A6 := Aside0.mk A60
  clear A60
  by_cases c7 : 0 ≤ a0
  ·
   rw [if_pos c7] at H
   have c7b0 : decide (0 ≤ a0) = true := decide_eq_true c7
   clear c7
   by_cases c8 : a0 < (t146.length : Int)
   ·
    rw [if_pos c8] at H
    have c8b0 : decide (a0 < (t146.length : Int)) = true := decide_eq_true c8
    clear c8
    obtain ⟨y149, hy149⟩ : ∃ y_ : List Int, y_ = (t146.set (a0 : Int).toNat 0) := ⟨_, rfl⟩
    replace H : (impl_distancesTo.l0 k a1 l2 y149 (([a0] : List Int))) = some r := by first | (rw [hy149]; with_reducible exact H) | (have H2_ := (Option.bind_some _ _).symm.trans H; rw [hy149]; with_reducible exact H2_) | (have H2_ := (Option.bind_some _ _).symm.trans H; with_reducible exact H2_) | with_reducible exact H | (rw [hy149]; exact H) | exact H
    have Ny149 := Aside0.mk hy149
    clear hy149
    obtain ⟨y150, hy150⟩ : ∃ y_ : List Int, y_ = (([a0] : List Int)) := ⟨_, rfl⟩
    replace H : (impl_distancesTo.l0 k a1 l2 y149 y150) = some r := by first | (rw [hy150]; with_reducible exact H) | (have H2_ := (Option.bind_some _ _).symm.trans H; rw [hy150]; with_reducible exact H2_) | (have H2_ := (Option.bind_some _ _).symm.trans H; with_reducible exact H2_) | with_reducible exact H | (rw [hy150]; exact H) | exact H
    have Ny150 := Aside0.mk hy150
    clear hy150
    have H' := Aside0.mk H
    clear H
    go_enter Tryd.func30, Tryd.ntmps30
    go_wp2_with (first | ((with_reducible refine gate_dst (N := 11) rfl ?_); refine Kd.R_lit (Kd.int .i64) _ 3 ?hg (N := 11) ?hd (xs := ([(-1)] : List Int)) (inner := [.int .i64 (-1)]) (ok := fun _ => True) (okp := fun _ => True) ?hr ?hp (fun _ hk => hk) trivial (Below.refl _ _) (Nat.le_refl _) (by simp) ?_; (case hd => rfl); (case hg => rfl); (case hr => first | (go_simp; done) | (go_simp; rfl)); (case hp => exact (Reps.one (show Kd.M (Kd.int .i64) _ _ _ (-1) [.int .i64 (-1)] from rfl) (Reps.none _ _))); intro v144 w10 ho11 hb hg_ hnew_; clear hg_ hnew_; (first | rw [← Ny143.out] at ho11 | (simp only [Int.reduceToNat] at ho11; rw [← Ny143.out] at ho11)); have n0_ := Aside0.mk (Kd.R_lower ho11 (below_size (mvB HB.out))); have n1_ := Aside0.mk (below_step (mvB HB.out) hb); clear HB; revert n0_ n1_; intro HO145 HB; clear hb ho11; obtain ⟨Ao12, co12, eo12⟩ := Kd.R_slice HO145.out; subst eo12) | (go_at_call 51; (with_reducible refine (slices_Repeat_int_int.calls _ _ y143 ji5 t146 _ ?side1 ?side2 A6.out).mono ?_); (case side1 => exact mvC (Kd.R_reads' HO145.out).2.2); (case side2 => exact (Kd.R_reads' HO145.out).2.1); rintro e w13 ⟨v147, rfl, ho0, hb⟩; have n0_ := Aside0.mk (Kd.R_elder' (mv HO145.out) (Kd.R_base ho0) hb); have n1_ := Aside0.mk (Kd.R_lower (Kd.R_new' ho0 (Kd.R_lt (mv HO145.out))) (below_size (mvB HB.out))); have n2_ := Aside0.mk (below_step (mvB HB.out) hb); clear HO145 HB; revert n0_ n1_ n2_; intro HO145 HO148 HB; (try clear hb); (try clear hk); (try clear ho0); have p9 : 0 ≤ (a0 : Int) := od; have q9 : (a0 : Int) < ((t146.length : Int) : Int) := od; obtain ⟨go9, co9, eo9, gb9, gl9, cl9, HG9⟩ := Kd.R_form HO148.out (by omega); (first | cases eo9 | (injection eo9 with ea_ en_ ec_; (first | subst ea_ | (injection ea_ with ea_; subst ea_)); subst ec_; clear en_)); have GB9 := Aside0.mk gb9; have GG9 := Aside0.mk HG9; clear gb9 gl9 HG9; obtain ⟨hx9_0, hf9_0⟩ := Kd.R_celln 0 HO148.out (a0 : Int) p9 q9; replace p9 := eq_true p9; replace q9 := eq_true q9; have n_ := Aside0.mk (Kd.R_mono (ok' := (fun k_ => some k_ ≠ (.slice Ao12 y143.length co12 : Value).ownBlock)) HO148.out (fun k_ hk => hk.2)); clear HO148; have HO148 := n_; clear n_; obtain ⟨hy14_, hz14_⟩ := Kd.R_celln 0 HO148.out (a0 : Int) (od) (od); have HP14 := Kd.R_putg HO148.out (a0 : Int) 0) | ((with_reducible refine gate_store (t := 3) (p := 17) rfl ?_); (try (rw [drewN_self w13]; generalize hq_ : World.drewN w13 _ = w13; have n0_ := Aside0.mk (Kd.R_at hq_ HO145.out); have n1_ := Aside0.mk (Kd.R_at hq_ HO148.out); have n2_ := Aside0.mk (below_at hq_ HB.out); clear hq_ HO145 HO148 HB; revert n0_ n1_ n2_; intro HO145 HO148 HB; (try (have n_ := Aside0.mk (Kd.R_mono (ok' := (fun k_ => some k_ ≠ (.slice Ao12 y143.length co12 : Value).ownBlock)) HO148.out (fun k_ hk => hk.2)); clear HO148; have HO148 := n_; clear n_)); (try (obtain ⟨hy14_, hz14_⟩ := Kd.R_celln 0 HO148.out (a0 : Int) (od) (od))); (try (have HP14 := Kd.R_putg HO148.out (a0 : Int) 0)))); refine store_event (t := 3) (p := 17) (v := ?vo_w15) (w1 := (w13.setCell ⟨go9, (a0 : Int).toNat, none⟩ (.int .i64 0))) ?hg ?ho ?hn ?hr ?_; (case ho => rfl); (case hg => rfl); (case hn => rfl); (case hr => first | (go_simp; done) | (go_simp; rfl)); intro w15 hw; have hg : w13.grownBy w15 (some go9) := (by rw [hw]; exact HP14.2); have hp_ : Kd.R (Kd.int .i64) 3 w15 w.heap.size (fun k_ => some k_ ≠ (.slice Ao12 y143.length co12 : Value).ownBlock) (.slice (some ⟨go9, 0, none⟩) t146.length co9) y149 := (by rw [hw, Ny149.out]; exact HP14.1); clear HP14; have n0_ := Aside0.mk (Kd.R_after (v := (.slice (some ⟨go9, 0, none⟩) t146.length co9)) (v1 := (.slice (some ⟨go9, 0, none⟩) t146.length co9)) (ok := (fun _ => True)) (mv HO145.out) hg (.inl rfl)); have n1_ := Aside0.mk (hp_); have n2_ := Aside0.mk ((by rw [hw]; exact below_set (HB.out) GB9.out : Below w.heap.size w w15)); clear HO145 HO148 HB; revert n0_ n1_ n2_; intro HO145 HO148 HB; clear hg hw hp_) | ((with_reducible refine gate_dst (N := 19) rfl ?_); refine Kd.R_lit (Kd.int .i64) _ 53 ?hg (N := 19) ?hd (xs := ([a0] : List Int)) (inner := [.int .i64 a0]) (ok := fun _ => True) (okp := fun _ => True) ?hr ?hp (fun _ hk => hk) trivial (Below.refl _ _) (Nat.le_refl _) (by simp) ?_; (case hd => rfl); (case hg => rfl); (case hr => first | (go_simp; done) | (go_simp; rfl)); (case hp => exact (Reps.one (show Kd.M (Kd.int .i64) _ _ _ a0 [.int .i64 a0] from rfl) (Reps.none _ _))); intro v151 w16 ho17 hb hg_ hnew_; clear hg_ hnew_; (first | rw [← Ny150.out] at ho17 | (simp only [Int.reduceToNat] at ho17; rw [← Ny150.out] at ho17)); have n0_ := Aside0.mk (Kd.R_below (mv HO145.out) hb); have n1_ := Aside0.mk (Kd.R_below (mv HO148.out) hb); have n2_ := Aside0.mk (Kd.R_lower ho17 (below_size (mvB HB.out))); have n3_ := Aside0.mk (below_step (mvB HB.out) hb); clear HO145 HO148 HB; revert n0_ n1_ n2_ n3_; intro HO145 HO148 HO152 HB; clear hb ho17))
    repeat (go_quiet (first | ((with_reducible refine gate_dst (N := 11) rfl ?_); refine Kd.R_lit (Kd.int .i64) _ 3 ?hg (N := 11) ?hd (xs := ([(-1)] : List Int)) (inner := [.int .i64 (-1)]) (ok := fun _ => True) (okp := fun _ => True) ?hr ?hp (fun _ hk => hk) trivial (Below.refl _ _) (Nat.le_refl _) (by simp) ?_; (case hd => rfl); (case hg => rfl); (case hr => first | (go_simp; done) | (go_simp; rfl)); (case hp => exact (Reps.one (show Kd.M (Kd.int .i64) _ _ _ (-1) [.int .i64 (-1)] from rfl) (Reps.none _ _))); intro v144 w10 ho11 hb hg_ hnew_; clear hg_ hnew_; (first | rw [← Ny143.out] at ho11 | (simp only [Int.reduceToNat] at ho11; rw [← Ny143.out] at ho11)); have n0_ := Aside0.mk (Kd.R_lower ho11 (below_size (mvB HB.out))); have n1_ := Aside0.mk (below_step (mvB HB.out) hb); clear HB; revert n0_ n1_; intro HO145 HB; clear hb ho11; obtain ⟨Ao12, co12, eo12⟩ := Kd.R_slice HO145.out; subst eo12) | (go_at_call 51; (with_reducible refine (slices_Repeat_int_int.calls _ _ y143 ji5 t146 _ ?side1 ?side2 A6.out).mono ?_); (case side1 => exact mvC (Kd.R_reads' HO145.out).2.2); (case side2 => exact (Kd.R_reads' HO145.out).2.1); rintro e w13 ⟨v147, rfl, ho0, hb⟩; have n0_ := Aside0.mk (Kd.R_elder' (mv HO145.out) (Kd.R_base ho0) hb); have n1_ := Aside0.mk (Kd.R_lower (Kd.R_new' ho0 (Kd.R_lt (mv HO145.out))) (below_size (mvB HB.out))); have n2_ := Aside0.mk (below_step (mvB HB.out) hb); clear HO145 HB; revert n0_ n1_ n2_; intro HO145 HO148 HB; (try clear hb); (try clear hk); (try clear ho0); have p9 : 0 ≤ (a0 : Int) := od; have q9 : (a0 : Int) < ((t146.length : Int) : Int) := od; obtain ⟨go9, co9, eo9, gb9, gl9, cl9, HG9⟩ := Kd.R_form HO148.out (by omega); (first | cases eo9 | (injection eo9 with ea_ en_ ec_; (first | subst ea_ | (injection ea_ with ea_; subst ea_)); subst ec_; clear en_)); have GB9 := Aside0.mk gb9; have GG9 := Aside0.mk HG9; clear gb9 gl9 HG9; obtain ⟨hx9_0, hf9_0⟩ := Kd.R_celln 0 HO148.out (a0 : Int) p9 q9; replace p9 := eq_true p9; replace q9 := eq_true q9; have n_ := Aside0.mk (Kd.R_mono (ok' := (fun k_ => some k_ ≠ (.slice Ao12 y143.length co12 : Value).ownBlock)) HO148.out (fun k_ hk => hk.2)); clear HO148; have HO148 := n_; clear n_; obtain ⟨hy14_, hz14_⟩ := Kd.R_celln 0 HO148.out (a0 : Int) (od) (od); have HP14 := Kd.R_putg HO148.out (a0 : Int) 0) | ((with_reducible refine gate_store (t := 3) (p := 17) rfl ?_); (try (rw [drewN_self w13]; generalize hq_ : World.drewN w13 _ = w13; have n0_ := Aside0.mk (Kd.R_at hq_ HO145.out); have n1_ := Aside0.mk (Kd.R_at hq_ HO148.out); have n2_ := Aside0.mk (below_at hq_ HB.out); clear hq_ HO145 HO148 HB; revert n0_ n1_ n2_; intro HO145 HO148 HB; (try (have n_ := Aside0.mk (Kd.R_mono (ok' := (fun k_ => some k_ ≠ (.slice Ao12 y143.length co12 : Value).ownBlock)) HO148.out (fun k_ hk => hk.2)); clear HO148; have HO148 := n_; clear n_)); (try (obtain ⟨hy14_, hz14_⟩ := Kd.R_celln 0 HO148.out (a0 : Int) (od) (od))); (try (have HP14 := Kd.R_putg HO148.out (a0 : Int) 0)))); refine store_event (t := 3) (p := 17) (v := ?vo_w15) (w1 := (w13.setCell ⟨go9, (a0 : Int).toNat, none⟩ (.int .i64 0))) ?hg ?ho ?hn ?hr ?_; (case ho => rfl); (case hg => rfl); (case hn => rfl); (case hr => first | (go_simp; done) | (go_simp; rfl)); intro w15 hw; have hg : w13.grownBy w15 (some go9) := (by rw [hw]; exact HP14.2); have hp_ : Kd.R (Kd.int .i64) 3 w15 w.heap.size (fun k_ => some k_ ≠ (.slice Ao12 y143.length co12 : Value).ownBlock) (.slice (some ⟨go9, 0, none⟩) t146.length co9) y149 := (by rw [hw, Ny149.out]; exact HP14.1); clear HP14; have n0_ := Aside0.mk (Kd.R_after (v := (.slice (some ⟨go9, 0, none⟩) t146.length co9)) (v1 := (.slice (some ⟨go9, 0, none⟩) t146.length co9)) (ok := (fun _ => True)) (mv HO145.out) hg (.inl rfl)); have n1_ := Aside0.mk (hp_); have n2_ := Aside0.mk ((by rw [hw]; exact below_set (HB.out) GB9.out : Below w.heap.size w w15)); clear HO145 HO148 HB; revert n0_ n1_ n2_; intro HO145 HO148 HB; clear hg hw hp_) | ((with_reducible refine gate_dst (N := 19) rfl ?_); refine Kd.R_lit (Kd.int .i64) _ 53 ?hg (N := 19) ?hd (xs := ([a0] : List Int)) (inner := [.int .i64 a0]) (ok := fun _ => True) (okp := fun _ => True) ?hr ?hp (fun _ hk => hk) trivial (Below.refl _ _) (Nat.le_refl _) (by simp) ?_; (case hd => rfl); (case hg => rfl); (case hr => first | (go_simp; done) | (go_simp; rfl)); (case hp => exact (Reps.one (show Kd.M (Kd.int .i64) _ _ _ a0 [.int .i64 a0] from rfl) (Reps.none _ _))); intro v151 w16 ho17 hb hg_ hnew_; clear hg_ hnew_; (first | rw [← Ny150.out] at ho17 | (simp only [Int.reduceToNat] at ho17; rw [← Ny150.out] at ho17)); have n0_ := Aside0.mk (Kd.R_below (mv HO145.out) hb); have n1_ := Aside0.mk (Kd.R_below (mv HO148.out) hb); have n2_ := Aside0.mk (Kd.R_lower ho17 (below_size (mvB HB.out))); have n3_ := Aside0.mk (below_step (mvB HB.out) hb); clear HO145 HO148 HB; revert n0_ n1_ n2_ n3_; intro HO145 HO148 HO152 HB; clear hb ho17)); try go_wp2_with (first | ((with_reducible refine gate_dst (N := 11) rfl ?_); refine Kd.R_lit (Kd.int .i64) _ 3 ?hg (N := 11) ?hd (xs := ([(-1)] : List Int)) (inner := [.int .i64 (-1)]) (ok := fun _ => True) (okp := fun _ => True) ?hr ?hp (fun _ hk => hk) trivial (Below.refl _ _) (Nat.le_refl _) (by simp) ?_; (case hd => rfl); (case hg => rfl); (case hr => first | (go_simp; done) | (go_simp; rfl)); (case hp => exact (Reps.one (show Kd.M (Kd.int .i64) _ _ _ (-1) [.int .i64 (-1)] from rfl) (Reps.none _ _))); intro v144 w10 ho11 hb hg_ hnew_; clear hg_ hnew_; (first | rw [← Ny143.out] at ho11 | (simp only [Int.reduceToNat] at ho11; rw [← Ny143.out] at ho11)); have n0_ := Aside0.mk (Kd.R_lower ho11 (below_size (mvB HB.out))); have n1_ := Aside0.mk (below_step (mvB HB.out) hb); clear HB; revert n0_ n1_; intro HO145 HB; clear hb ho11; obtain ⟨Ao12, co12, eo12⟩ := Kd.R_slice HO145.out; subst eo12) | (go_at_call 51; (with_reducible refine (slices_Repeat_int_int.calls _ _ y143 ji5 t146 _ ?side1 ?side2 A6.out).mono ?_); (case side1 => exact mvC (Kd.R_reads' HO145.out).2.2); (case side2 => exact (Kd.R_reads' HO145.out).2.1); rintro e w13 ⟨v147, rfl, ho0, hb⟩; have n0_ := Aside0.mk (Kd.R_elder' (mv HO145.out) (Kd.R_base ho0) hb); have n1_ := Aside0.mk (Kd.R_lower (Kd.R_new' ho0 (Kd.R_lt (mv HO145.out))) (below_size (mvB HB.out))); have n2_ := Aside0.mk (below_step (mvB HB.out) hb); clear HO145 HB; revert n0_ n1_ n2_; intro HO145 HO148 HB; (try clear hb); (try clear hk); (try clear ho0); have p9 : 0 ≤ (a0 : Int) := od; have q9 : (a0 : Int) < ((t146.length : Int) : Int) := od; obtain ⟨go9, co9, eo9, gb9, gl9, cl9, HG9⟩ := Kd.R_form HO148.out (by omega); (first | cases eo9 | (injection eo9 with ea_ en_ ec_; (first | subst ea_ | (injection ea_ with ea_; subst ea_)); subst ec_; clear en_)); have GB9 := Aside0.mk gb9; have GG9 := Aside0.mk HG9; clear gb9 gl9 HG9; obtain ⟨hx9_0, hf9_0⟩ := Kd.R_celln 0 HO148.out (a0 : Int) p9 q9; replace p9 := eq_true p9; replace q9 := eq_true q9; have n_ := Aside0.mk (Kd.R_mono (ok' := (fun k_ => some k_ ≠ (.slice Ao12 y143.length co12 : Value).ownBlock)) HO148.out (fun k_ hk => hk.2)); clear HO148; have HO148 := n_; clear n_; obtain ⟨hy14_, hz14_⟩ := Kd.R_celln 0 HO148.out (a0 : Int) (od) (od); have HP14 := Kd.R_putg HO148.out (a0 : Int) 0) | ((with_reducible refine gate_store (t := 3) (p := 17) rfl ?_); (try (rw [drewN_self w13]; generalize hq_ : World.drewN w13 _ = w13; have n0_ := Aside0.mk (Kd.R_at hq_ HO145.out); have n1_ := Aside0.mk (Kd.R_at hq_ HO148.out); have n2_ := Aside0.mk (below_at hq_ HB.out); clear hq_ HO145 HO148 HB; revert n0_ n1_ n2_; intro HO145 HO148 HB; (try (have n_ := Aside0.mk (Kd.R_mono (ok' := (fun k_ => some k_ ≠ (.slice Ao12 y143.length co12 : Value).ownBlock)) HO148.out (fun k_ hk => hk.2)); clear HO148; have HO148 := n_; clear n_)); (try (obtain ⟨hy14_, hz14_⟩ := Kd.R_celln 0 HO148.out (a0 : Int) (od) (od))); (try (have HP14 := Kd.R_putg HO148.out (a0 : Int) 0)))); refine store_event (t := 3) (p := 17) (v := ?vo_w15) (w1 := (w13.setCell ⟨go9, (a0 : Int).toNat, none⟩ (.int .i64 0))) ?hg ?ho ?hn ?hr ?_; (case ho => rfl); (case hg => rfl); (case hn => rfl); (case hr => first | (go_simp; done) | (go_simp; rfl)); intro w15 hw; have hg : w13.grownBy w15 (some go9) := (by rw [hw]; exact HP14.2); have hp_ : Kd.R (Kd.int .i64) 3 w15 w.heap.size (fun k_ => some k_ ≠ (.slice Ao12 y143.length co12 : Value).ownBlock) (.slice (some ⟨go9, 0, none⟩) t146.length co9) y149 := (by rw [hw, Ny149.out]; exact HP14.1); clear HP14; have n0_ := Aside0.mk (Kd.R_after (v := (.slice (some ⟨go9, 0, none⟩) t146.length co9)) (v1 := (.slice (some ⟨go9, 0, none⟩) t146.length co9)) (ok := (fun _ => True)) (mv HO145.out) hg (.inl rfl)); have n1_ := Aside0.mk (hp_); have n2_ := Aside0.mk ((by rw [hw]; exact below_set (HB.out) GB9.out : Below w.heap.size w w15)); clear HO145 HO148 HB; revert n0_ n1_ n2_; intro HO145 HO148 HB; clear hg hw hp_) | ((with_reducible refine gate_dst (N := 19) rfl ?_); refine Kd.R_lit (Kd.int .i64) _ 53 ?hg (N := 19) ?hd (xs := ([a0] : List Int)) (inner := [.int .i64 a0]) (ok := fun _ => True) (okp := fun _ => True) ?hr ?hp (fun _ hk => hk) trivial (Below.refl _ _) (Nat.le_refl _) (by simp) ?_; (case hd => rfl); (case hg => rfl); (case hr => first | (go_simp; done) | (go_simp; rfl)); (case hp => exact (Reps.one (show Kd.M (Kd.int .i64) _ _ _ a0 [.int .i64 a0] from rfl) (Reps.none _ _))); intro v151 w16 ho17 hb hg_ hnew_; clear hg_ hnew_; (first | rw [← Ny150.out] at ho17 | (simp only [Int.reduceToNat] at ho17; rw [← Ny150.out] at ho17)); have n0_ := Aside0.mk (Kd.R_below (mv HO145.out) hb); have n1_ := Aside0.mk (Kd.R_below (mv HO148.out) hb); have n2_ := Aside0.mk (Kd.R_lower ho17 (below_size (mvB HB.out))); have n3_ := Aside0.mk (below_step (mvB HB.out) hb); clear HO145 HO148 HB; revert n0_ n1_ n2_ n3_; intro HO145 HO148 HO152 HB; clear hb ho17)))
    go_loopg [8] k (fun kq v8 w' => ∃ (x7_1 : List Int) (x8_1 : List Int), Aside0 (impl_distancesTo.l0 kq a1 l2 x7_1 x8_1 = some r) ∧ Aside0 (kq ≤ k) ∧ Aside0 (Kd.R (Kd.int .i64) 3 w' w.heap.size (fun _ => True) (.slice (some ⟨go9, 0, none⟩) t146.length co9) x7_1) ∧ Aside0 (Kd.Q (Kd.int .i64) 53 w' w.heap.size (fun _ => True) v8 x8_1) ∧ Aside0 (Below w.heap.size w w'))
    case atStart => exact ⟨(y149), (y150), H', ⟨Nat.le_refl _⟩, ⟨by (with_reducible repeat (first | apply Kd.R_alloc | apply Kd.R_drewN | apply Kd.R_drew)); exact Kd.R_mono HO148.out (fun _ hk => trivial)⟩, ⟨Kd.Q_of_R (mv HO152.out)⟩, ⟨mvB HB.out⟩⟩
    case round =>
     clear H'
     try clear c4b0
     try clear c4b1
     try clear c7b0
     try clear c8b0
     try clear p9
     try clear q9
     try clear hx9_0
     try clear p9
     try clear q9
     obtain ⟨x7_1, x8_1, HA, HK1, HO_7, HO_8, HB⟩ := hrel
     have hl7_1 := (Kd.R_reads' HO_7.out).1
     rw [hl7_1] at HO_7
     (try simp only [hl7_1])
     (try simp only [hl7_1] at HO_8)
     cases gk with
     | zero => exact absurd HA.out (by simp [impl_distancesTo.l0])
     | succ k1 =>
      have H := HA.out
      clear HA
      simp only [impl_distancesTo.l0] at H
      by_cases c18 : (x8_1.length : Int) > 0
      ·
       rw [if_pos c18] at H
       have c18b0 : decide (0 < (x8_1.length : Int)) = true := decide_eq_true c18
       have c18b1 : decide (0 < x8_1.length) = true := decide_eq_true (by omega)
       clear c18
       have H' := Aside0.mk H
       clear H
       obtain ⟨Ao19, co19, eo19, _⟩ := Kd.Q_slice HO_8.out
       subst eo19
       go_wp2
       repeat (go_quiet (fail); try go_wp2)
       go_loopg [8, 9] k1 (fun kq v8 v9 w' => ∃ (x7_2 : List Int) (x8_2 : List Int) (x9_2 : Int), v9 = .int .i64 x9_2 ∧ Aside0 (impl_distancesTo.l1 kq a1 l2 x7_2 x8_2 x9_2 = some r) ∧ Aside0 (kq ≤ k1) ∧ Aside0 (Kd.R (Kd.int .i64) 3 w' w.heap.size (fun _ => True) (.slice (some ⟨go9, 0, none⟩) x7_1.length co9) x7_2) ∧ Aside0 (Kd.Q (Kd.int .i64) 53 w' w.heap.size (fun _ => True) v8 x8_2) ∧ Aside0 (Below w.heap.size w w'))
       case atStart => exact ⟨(x7_1), (x8_1), (0), rs, H', ⟨Nat.le_refl _⟩, ⟨by (try simp only [hl7_1]); (with_reducible repeat (first | apply Kd.R_alloc | apply Kd.R_drewN | apply Kd.R_drew)); exact HO_7.out⟩, ⟨by (try simp only [hl7_1]); (with_reducible repeat (first | apply Kd.Q_alloc | apply Kd.Q_drewN | apply Kd.Q_drew)); exact HO_8.out⟩, ⟨mvB HB.out⟩⟩
       case round =>
        clear H'
        try clear c4b0
        try clear c4b1
        try clear c7b0
        try clear c8b0
        try clear p9
        try clear q9
        try clear c18b0
        try clear c18b1
        try clear hx9_0
        try clear p9
        try clear q9
        obtain ⟨x7_2, x8_2, x9_2, rfl, HA, HK2, HO_7, HO_8, HB⟩ := hrel
        have hl7_2 := (Kd.R_reads' HO_7.out).1
        rw [hl7_2] at HO_7
        (try simp only [hl7_2])
        (try simp only [hl7_2] at HO_8)
        cases gk with
        | zero => exact absurd HA.out (by simp [impl_distancesTo.l1])
        | succ k2 =>
         have H := HA.out
         clear HA
         simp only [impl_distancesTo.l1] at H
         have HC20 := Aside0.mk H
         clear H
         go_upto_region 7 with (fail)
         repeat (go_quiet (fail); go_upto_region 7 with (fail))
         go_cut [34] (fun v34 wc => ∃ (kq : Nat) (x34_19 : Bool), v34 = .bool x34_19 ∧ Aside0 (impl_distancesTo.j2 kq a1 l2 x7_2 x8_2 x9_2 x34_19 = some r) ∧ Aside0 (kq ≤ k2) ∧ Aside0 (Kd.R (Kd.int .i64) 3 wc w.heap.size (fun _ => True) (.slice (some ⟨go9, 0, none⟩) x7_2.length co9) x7_2) ∧ Aside0 (Kd.Q (Kd.int .i64) 53 wc w.heap.size (fun _ => True) u8 x8_2) ∧ Aside0 (Below w.heap.size w wc))
         case first =>
          have H := HC20.out
          clear HC20
          by_cases c21 : x9_2 < a1
          ·
           rw [if_pos c21] at H
           have c21b0 : decide (x9_2 < a1) = true := decide_eq_true c21
           clear c21
           (first | rw [c21b0] | (simp only [i64_w, i32_w]; rw [c21b0]) | skip)
           by_cases c22 : 0 < (x8_2.length : Int)
           ·
            rw [if_pos c22] at H
            have c22b0 : decide (0 < (x8_2.length : Int)) = true := decide_eq_true c22
            have c22b1 : decide (0 < x8_2.length) = true := decide_eq_true (by omega)
            clear c22
            replace H := Option.bind_eq_some_iff.mp H
            obtain ⟨t154, A230, H⟩ := H
            replace H : (impl_distancesTo.j2 k2 a1 l2 x7_2 x8_2 x9_2 t154) = some r := H
            have A23 := Aside0.mk A230
            clear A230
            have H' := Aside0.mk H
            clear H
            obtain ⟨Ao24, co24, eo24, _⟩ := Kd.Q_slice HO_8.out
            subst eo24
            have p153 : 0 ≤ (0 : Int) := (by omega)
            have q153 : 0 < (x8_2.length : Int) := od
            obtain ⟨ad153, e153, hx153_0⟩ := Kd.at_int (Kd.Q_reads' HO_8.out).2.2 0 p153 q153
            cases e153
            have qi153 : (0 < x8_2.length) = True := eq_true (by omega)
            (try rw [show ((0 : Int)).toNat = 0 from rfl] at hx153_0)
            (try rw [Addr.add_zero'] at hx153_0)
            replace p153 := eq_true p153
            replace q153 := eq_true q153
            go_wp2_with (first | (go_at_call 31; (with_reducible refine (impl_switches_allowed.calls (rd x8_2 0) _ _ l2 t154 _ ?side1 ?side2 A23.out).mono ?_); (case side1 => exact mvC (Kd.C_below HR2.out HB.out)); (case side2 => exact HC2.out); rintro e w25 ⟨rfl, hb⟩; have n0_ := Aside0.mk (Kd.R_below (mv HO_7.out) hb); have n1_ := Aside0.mk (Kd.Q_below (by (with_reducible repeat (first | apply Kd.Q_alloc | apply Kd.Q_drewN | apply Kd.Q_drew)); exact HO_8.out) hb); have n2_ := Aside0.mk (below_step (mvB HB.out) hb); clear HO_7 HO_8 HB; revert n0_ n1_ n2_; intro HO_7 HO_8 HB; (try clear hb)))
            repeat (go_quiet (first | (go_at_call 31; (with_reducible refine (impl_switches_allowed.calls (rd x8_2 0) _ _ l2 t154 _ ?side1 ?side2 A23.out).mono ?_); (case side1 => exact mvC (Kd.C_below HR2.out HB.out)); (case side2 => exact HC2.out); rintro e w25 ⟨rfl, hb⟩; have n0_ := Aside0.mk (Kd.R_below (mv HO_7.out) hb); have n1_ := Aside0.mk (Kd.Q_below (by (with_reducible repeat (first | apply Kd.Q_alloc | apply Kd.Q_drewN | apply Kd.Q_drew)); exact HO_8.out) hb); have n2_ := Aside0.mk (below_step (mvB HB.out) hb); clear HO_7 HO_8 HB; revert n0_ n1_ n2_; intro HO_7 HO_8 HB; (try clear hb))); try go_wp2_with (first | (go_at_call 31; (with_reducible refine (impl_switches_allowed.calls (rd x8_2 0) _ _ l2 t154 _ ?side1 ?side2 A23.out).mono ?_); (case side1 => exact mvC (Kd.C_below HR2.out HB.out)); (case side2 => exact HC2.out); rintro e w25 ⟨rfl, hb⟩; have n0_ := Aside0.mk (Kd.R_below (mv HO_7.out) hb); have n1_ := Aside0.mk (Kd.Q_below (by (with_reducible repeat (first | apply Kd.Q_alloc | apply Kd.Q_drewN | apply Kd.Q_drew)); exact HO_8.out) hb); have n2_ := Aside0.mk (below_step (mvB HB.out) hb); clear HO_7 HO_8 HB; revert n0_ n1_ n2_; intro HO_7 HO_8 HB; (try clear hb))))
            go_meet
            case rel => exact ⟨_, (t154), rs, H', ⟨by have := HK1.out; have := HK2.out; first | omega | exact Nat.le_refl _⟩, ⟨by (try simp only [hl7_1]); (try simp only [hl7_2]); (with_reducible repeat (first | apply Kd.R_alloc | apply Kd.R_drewN | apply Kd.R_drew)); exact HO_7.out⟩, ⟨by (try simp only [hl7_1]); (try simp only [hl7_2]); (with_reducible repeat (first | apply Kd.Q_alloc | apply Kd.Q_drewN | apply Kd.Q_drew)); exact HO_8.out⟩, ⟨mvB HB.out⟩⟩
           ·
            rw [if_neg c22] at H
            exact absurd H (by simp)
          ·
           rw [if_neg c21] at H
           have c21b0 : decide (x9_2 < a1) = false := decide_eq_false c21
           clear c21
           (first | rw [c21b0] | (simp only [i64_w, i32_w]; rw [c21b0]) | skip)
           have H' := Aside0.mk H
           clear H
           go_wp2
           repeat (go_quiet (fail); try go_wp2)
           go_meet
           case rel => exact ⟨_, (false), rs, H', ⟨by have := HK1.out; have := HK2.out; first | omega | exact Nat.le_refl _⟩, ⟨by (try simp only [hl7_1]); (try simp only [hl7_2]); (with_reducible repeat (first | apply Kd.R_alloc | apply Kd.R_drewN | apply Kd.R_drew)); exact HO_7.out⟩, ⟨by (try simp only [hl7_1]); (try simp only [hl7_2]); (with_reducible repeat (first | apply Kd.Q_alloc | apply Kd.Q_drewN | apply Kd.Q_drew)); exact HO_8.out⟩, ⟨mvB HB.out⟩⟩
         case rest =>
          clear HC20
          try clear c4b0
          try clear c4b1
          try clear c7b0
          try clear c8b0
          try clear p9
          try clear q9
          try clear c18b0
          try clear c18b1
          try clear hx9_0
          try clear p9
          try clear q9
          obtain ⟨kq, x34_19, rfl, HA, HJ19, HO_7, HO_8, HB⟩ := hcut
          cases kq with
          | zero => exact absurd HA.out (by simp [impl_distancesTo.j2])
          | succ kj19 =>
           have H := HA.out
           clear HA
           simp only [impl_distancesTo.j2] at H
           by_cases c26 : x34_19 = true
           ·
            subst c26
            have H1 : (if 0 < (x8_2.length : Int) then (if 0 ≤ x9_2 then (if 0 ≤ (Go.bits .xor .i64 (rd x8_2 0) (shl .i64 1 x9_2)) then (if (Go.bits .xor .i64 (rd x8_2 0) (shl .i64 1 x9_2)) < (x7_2.length : Int) then (if (rd x7_2 (Go.bits .xor .i64 (rd x8_2 0) (shl .i64 1 x9_2))) < 0 then (if 0 ≤ (rd x8_2 0) then (if (rd x8_2 0) < (x7_2.length : Int) then (if x8_2.length < 17592186044416 then (impl_distancesTo.l1 kj19 a1 l2 (x7_2.set ((Go.bits .xor .i64 (rd x8_2 0) (shl .i64 1 x9_2)) : Int).toNat (wrap64 ((rd x7_2 (rd x8_2 0)) + 1))) (x8_2 ++ [Go.bits .xor .i64 (rd x8_2 0) (shl .i64 1 x9_2)]) (wrap64 (x9_2 + 1))) else (none)) else (none)) else (none)) else (impl_distancesTo.l1 kj19 a1 l2 x7_2 x8_2 (wrap64 (x9_2 + 1)))) else (none)) else (none)) else (none)) else (none)) = some r := by rw [if_pos rfl] at H; exact H
            clear H
            have H := H1
            clear H1
            by_cases c27 : 0 < (x8_2.length : Int)
            ·
             rw [if_pos c27] at H
             have c27b0 : decide (0 < (x8_2.length : Int)) = true := decide_eq_true c27
             have c27b1 : decide (0 < x8_2.length) = true := decide_eq_true (by omega)
             clear c27
             by_cases c28 : 0 ≤ x9_2
             ·
              rw [if_pos c28] at H
              have c28b0 := eq_true c28
              have c28b1 : decide (0 ≤ x9_2) = true := decide_eq_true c28
              clear c28
              obtain ⟨ji29, hji29⟩ : ∃ j_ : Int, (shl .i64 1 x9_2) = j_ := ⟨_, rfl⟩
              replace H : (if 0 ≤ (Go.bits .xor .i64 (rd x8_2 0) (ji29)) then (if (Go.bits .xor .i64 (rd x8_2 0) (ji29)) < (x7_2.length : Int) then (if (rd x7_2 (Go.bits .xor .i64 (rd x8_2 0) (ji29))) < 0 then (if 0 ≤ (rd x8_2 0) then (if (rd x8_2 0) < (x7_2.length : Int) then (if x8_2.length < 17592186044416 then (impl_distancesTo.l1 kj19 a1 l2 (x7_2.set ((Go.bits .xor .i64 (rd x8_2 0) (ji29)) : Int).toNat (wrap64 ((rd x7_2 (rd x8_2 0)) + 1))) (x8_2 ++ [Go.bits .xor .i64 (rd x8_2 0) (ji29)]) (wrap64 (x9_2 + 1))) else (none)) else (none)) else (none)) else (impl_distancesTo.l1 kj19 a1 l2 x7_2 x8_2 (wrap64 (x9_2 + 1)))) else (none)) else (none)) = some r := by first | (rw [hji29] at H; exact H) | (simp only [hji29] at H ⊢; exact H)
              have hji29_ : (IntKind.i64.wrap (1 * 2 ^ min x9_2.toNat 64)) = ji29 := hji29
              have hji29z : x9_2 ≤ 64 → (IntKind.i64.wrap (1 * 2 ^ x9_2.toNat)) = ji29 := shl_small hji29
              have hji29u : (IntKind.i64.wrap (2 ^ min x9_2.toNat 64)) = ji29 := by have h_ := hji29_; rw [Int.one_mul] at h_; exact h_
              have hji29v : x9_2 ≤ 64 → (IntKind.i64.wrap (2 ^ x9_2.toNat)) = ji29 := fun hle_ => by have h_ := hji29z hle_; rw [Int.one_mul] at h_; exact h_
              have hji29y : (wrap64 (1 * 2 ^ min x9_2.toNat 64)) = ji29 := (i64_w _).symm.trans hji29_
              have hji29x : x9_2 ≤ 64 → (wrap64 (1 * 2 ^ x9_2.toNat)) = ji29 := fun h_ => (i64_w _).symm.trans (hji29z h_)
              by_cases c30 : 0 ≤ (Go.bits .xor .i64 (rd x8_2 0) (ji29))
              ·
               rw [if_pos c30] at H
               have c30b0 : decide (0 ≤ (Go.bits .xor .i64 (rd x8_2 0) (ji29))) = true := decide_eq_true c30
               clear c30
               by_cases c31 : (Go.bits .xor .i64 (rd x8_2 0) (ji29)) < (x7_2.length : Int)
               ·
                rw [if_pos c31] at H
                have c31b0 : decide ((Go.bits .xor .i64 (rd x8_2 0) (ji29)) < (x7_2.length : Int)) = true := decide_eq_true c31
                clear c31
                by_cases c32 : (rd x7_2 (Go.bits .xor .i64 (rd x8_2 0) (ji29))) < 0
                ·
                 rw [if_pos c32] at H
                 have c32b0 : decide ((rd x7_2 (Go.bits .xor .i64 (rd x8_2 0) (ji29))) < 0) = true := decide_eq_true c32
                 clear c32
                 by_cases c33 : 0 ≤ (rd x8_2 0)
                 ·
                  rw [if_pos c33] at H
                  have c33b0 : decide (0 ≤ (rd x8_2 0)) = true := decide_eq_true c33
                  clear c33
                  by_cases c34 : (rd x8_2 0) < (x7_2.length : Int)
                  ·
                   rw [if_pos c34] at H
                   have c34b0 : decide ((rd x8_2 0) < (x7_2.length : Int)) = true := decide_eq_true c34
                   clear c34
                   obtain ⟨y159, hy159⟩ : ∃ y_ : List Int, y_ = (x7_2.set ((Go.bits .xor .i64 (rd x8_2 0) (ji29)) : Int).toNat (wrap64 ((rd x7_2 (rd x8_2 0)) + 1))) := ⟨_, rfl⟩
                   replace H : (if x8_2.length < 17592186044416 then (impl_distancesTo.l1 kj19 a1 l2 y159 (x8_2 ++ [Go.bits .xor .i64 (rd x8_2 0) (ji29)]) (wrap64 (x9_2 + 1))) else (none)) = some r := by first | (rw [hy159]; with_reducible exact H) | (have H2_ := (Option.bind_some _ _).symm.trans H; rw [hy159]; with_reducible exact H2_) | (have H2_ := (Option.bind_some _ _).symm.trans H; with_reducible exact H2_) | with_reducible exact H | (rw [hy159]; exact H) | exact H
                   have Ny159 := Aside0.mk hy159
                   clear hy159
                   by_cases c36 : x8_2.length < 17592186044416
                   ·
                    rw [if_pos c36] at H
                    have LMc36 := Aside0.mk c36
                    clear c36
                    obtain ⟨y160, hy160⟩ : ∃ y_ : List Int, y_ = (x8_2 ++ [Go.bits .xor .i64 (rd x8_2 0) (ji29)]) := ⟨_, rfl⟩
                    replace H : (impl_distancesTo.l1 kj19 a1 l2 y159 y160 (wrap64 (x9_2 + 1))) = some r := by first | (rw [hy160]; with_reducible exact H) | (have H2_ := (Option.bind_some _ _).symm.trans H; rw [hy160]; with_reducible exact H2_) | (have H2_ := (Option.bind_some _ _).symm.trans H; with_reducible exact H2_) | with_reducible exact H | (rw [hy160]; exact H) | exact H
                    have Ny160 := Aside0.mk hy160
                    clear hy160
                    have H' := Aside0.mk H
                    clear H
                    obtain ⟨Ao37, co37, eo37, _⟩ := Kd.Q_slice HO_8.out
                    subst eo37
                    have p155 : 0 ≤ (0 : Int) := (by omega)
                    have q155 : 0 < (x8_2.length : Int) := od
                    obtain ⟨ad155, e155, hx155_0⟩ := Kd.at_int (Kd.Q_reads' HO_8.out).2.2 0 p155 q155
                    cases e155
                    have qi155 : (0 < x8_2.length) = True := eq_true (by omega)
                    (try rw [show ((0 : Int)).toNat = 0 from rfl] at hx155_0)
                    (try rw [Addr.add_zero'] at hx155_0)
                    replace p155 := eq_true p155
                    replace q155 := eq_true q155
                    have p156 : 0 ≤ ((Go.bits .xor .i64 (rd x8_2 0) (ji29)) : Int) := od
                    have q156 : (Go.bits .xor .i64 (rd x8_2 0) (ji29)) < (x7_2.length : Int) := od
                    obtain ⟨ad156, e156, hx156_0⟩ := Kd.at_int (Kd.R_reads' HO_7.out).2.2 (Go.bits .xor .i64 (rd x8_2 0) (ji29)) p156 q156
                    obtain rfl : (⟨go9, 0, none⟩ : Addr) = ad156 := (by injection e156)
                    (first | simp only [add_plain] at hx156_0 | simp only [add_at] at hx156_0 | simp only [Addr.add, Nat.zero_add] at hx156_0 | skip)
                    replace p156 := eq_true p156
                    replace q156 := eq_true q156
                    have p157 : 0 ≤ (0 : Int) := (by omega)
                    have q157 : 0 < (x8_2.length : Int) := od
                    obtain ⟨ad157, e157, hx157_0⟩ := Kd.at_int (Kd.Q_reads' HO_8.out).2.2 0 p157 q157
                    obtain rfl : ad155 = ad157 := (by injection e157)
                    have qi157 : (0 < x8_2.length) = True := eq_true (by omega)
                    (try rw [show ((0 : Int)).toNat = 0 from rfl] at hx157_0)
                    (try rw [Addr.add_zero'] at hx157_0)
                    replace p157 := eq_true p157
                    replace q157 := eq_true q157
                    have p158 : 0 ≤ ((rd x8_2 0) : Int) := od
                    have q158 : (rd x8_2 0) < (x7_2.length : Int) := od
                    obtain ⟨ad158, e158, hx158_0⟩ := Kd.at_int (Kd.R_reads' HO_7.out).2.2 (rd x8_2 0) p158 q158
                    obtain rfl : (⟨go9, 0, none⟩ : Addr) = ad158 := (by injection e158)
                    (first | simp only [add_plain] at hx158_0 | simp only [add_at] at hx158_0 | simp only [Addr.add, Nat.zero_add] at hx158_0 | skip)
                    replace p158 := eq_true p158
                    replace q158 := eq_true q158
                    have p35 : 0 ≤ ((Go.bits .xor .i64 (rd x8_2 0) (ji29)) : Int) := od
                    have q35 : ((Go.bits .xor .i64 (rd x8_2 0) (ji29)) : Int) < ((x7_2.length : Int) : Int) := od
                    obtain ⟨hx35_0, hf35_0⟩ := Kd.R_celln 0 HO_7.out ((Go.bits .xor .i64 (rd x8_2 0) (ji29)) : Int) p35 q35
                    replace p35 := eq_true p35
                    replace q35 := eq_true q35
                    have HP38 := Kd.R_putg HO_7.out ((Go.bits .xor .i64 (rd x8_2 0) (ji29)) : Int) (wrap64 ((rd x7_2 (rd x8_2 0)) + 1))
                    go_wp2_with (first | ((with_reducible refine gate_store (t := 3) (p := 57) rfl ?_); (try (rw [drewN_self wc]; generalize hq_ : World.drewN wc _ = wc; have n0_ := Aside0.mk (Kd.R_at hq_ HO_7.out); have n1_ := Aside0.mk (Kd.Q_at hq_ HO_8.out); have n2_ := Aside0.mk (below_at hq_ HB.out); clear hq_ HO_7 HO_8 HB; revert n0_ n1_ n2_; intro HO_7 HO_8 HB; (try (obtain ⟨hx35_0, hf35_0⟩ := Kd.R_celln 0 HO_7.out ((Go.bits .xor .i64 (rd x8_2 0) (ji29)) : Int) (of_eq_true p35) (of_eq_true q35))); (try (have HP38 := Kd.R_putg HO_7.out ((Go.bits .xor .i64 (rd x8_2 0) (ji29)) : Int) (wrap64 ((rd x7_2 (rd x8_2 0)) + 1)))))); refine store_event (t := 3) (p := 57) (v := ?vo_w39) (w1 := (wc.setCell ⟨go9, ((Go.bits .xor .i64 (rd x8_2 0) (ji29)) : Int).toNat, none⟩ (.int .i64 (wrap64 ((rd x7_2 (rd x8_2 0)) + 1))))) ?hg ?ho ?hn ?hr ?_; (case ho => rfl); (case hg => rfl); (case hn => rfl); (case hr => first | (go_simp; done) | (go_simp; rfl)); intro w39 hw; have hg : wc.grownBy w39 (some go9) := (by rw [hw]; exact HP38.2); have hp_ : Kd.R (Kd.int .i64) 3 w39 w.heap.size (fun _ => True) (.slice (some ⟨go9, 0, none⟩) x7_2.length co9) y159 := (by rw [hw, Ny159.out]; exact HP38.1); clear HP38; have n0_ := Aside0.mk (hp_); have n1_ := Aside0.mk (Kd.Q_over' (v := (.slice (some ⟨go9, 0, none⟩) x7_2.length co9)) (by (with_reducible repeat (first | apply Kd.Q_alloc | apply Kd.Q_drewN | apply Kd.Q_drew)); exact HO_8.out) (Kd.R_typed HO_7.out) (by decide) hg); have n2_ := Aside0.mk ((by rw [hw]; exact below_set (HB.out) GB9.out : Below w.heap.size w w39)); clear HO_7 HO_8 HB; revert n0_ n1_ n2_; intro HO_7 HO_8 HB; clear hg hw hp_) | ((with_reducible refine gate_builtin (b := .append) (xs := #[.tmp 58, .tmp 60]) rfl ?_); at_builtin; refine Kd.Q_append (Kd.int .i64) (w0 := w) w.heap.size rfl (.tmp 58) (.tmp 60) 58 53 (.int .i64 0) 8 rfl Tryd.underlying58 info53 rfl (by decide) (by omega) (.slice (some ad155) x8_2.length co37) x8_2 (Go.bits .xor .i64 (rd x8_2 0) (ji29)) [.int .i64 (Go.bits .xor .i64 (rd x8_2 0) (ji29))] (fun _ => True) (fun _ => False) rfl rfl ?aP (fun _ hk => hk.elim) ?aF ?aO ?aB ?aS ?aL ?_; (case aP => exact rfl); (case aB => exact (mvB HB.out)); (case aF => exact (fun _ _ => trivial)); (case aO => exact (by (with_reducible repeat (first | apply Kd.Q_alloc | apply Kd.Q_drewN | apply Kd.Q_drew)); exact HO_8.out)); (case aS => exact (below_size (mvB HB.out))); (case aL => have := LMc36.out; omega); intro v161 w40 ho hb hg hat; rw [← Ny160.out] at ho; have n0_ := Aside0.mk (Kd.R_over' (mv HO_7.out) (Kd.Q_typed (by (with_reducible repeat (first | apply Kd.Q_alloc | apply Kd.Q_drewN | apply Kd.Q_drew)); exact HO_8.out)) (by decide) hg); have n1_ := Aside0.mk (hb); have n2_ := Aside0.mk (ho); clear HO_7 HB HO_8; revert n0_ n1_ n2_; intro HO_7 HB HO162; clear ho hb hg hat))
                    repeat (go_quiet (first | ((with_reducible refine gate_store (t := 3) (p := 57) rfl ?_); (try (rw [drewN_self wc]; generalize hq_ : World.drewN wc _ = wc; have n0_ := Aside0.mk (Kd.R_at hq_ HO_7.out); have n1_ := Aside0.mk (Kd.Q_at hq_ HO_8.out); have n2_ := Aside0.mk (below_at hq_ HB.out); clear hq_ HO_7 HO_8 HB; revert n0_ n1_ n2_; intro HO_7 HO_8 HB; (try (obtain ⟨hx35_0, hf35_0⟩ := Kd.R_celln 0 HO_7.out ((Go.bits .xor .i64 (rd x8_2 0) (ji29)) : Int) (of_eq_true p35) (of_eq_true q35))); (try (have HP38 := Kd.R_putg HO_7.out ((Go.bits .xor .i64 (rd x8_2 0) (ji29)) : Int) (wrap64 ((rd x7_2 (rd x8_2 0)) + 1)))))); refine store_event (t := 3) (p := 57) (v := ?vo_w39) (w1 := (wc.setCell ⟨go9, ((Go.bits .xor .i64 (rd x8_2 0) (ji29)) : Int).toNat, none⟩ (.int .i64 (wrap64 ((rd x7_2 (rd x8_2 0)) + 1))))) ?hg ?ho ?hn ?hr ?_; (case ho => rfl); (case hg => rfl); (case hn => rfl); (case hr => first | (go_simp; done) | (go_simp; rfl)); intro w39 hw; have hg : wc.grownBy w39 (some go9) := (by rw [hw]; exact HP38.2); have hp_ : Kd.R (Kd.int .i64) 3 w39 w.heap.size (fun _ => True) (.slice (some ⟨go9, 0, none⟩) x7_2.length co9) y159 := (by rw [hw, Ny159.out]; exact HP38.1); clear HP38; have n0_ := Aside0.mk (hp_); have n1_ := Aside0.mk (Kd.Q_over' (v := (.slice (some ⟨go9, 0, none⟩) x7_2.length co9)) (by (with_reducible repeat (first | apply Kd.Q_alloc | apply Kd.Q_drewN | apply Kd.Q_drew)); exact HO_8.out) (Kd.R_typed HO_7.out) (by decide) hg); have n2_ := Aside0.mk ((by rw [hw]; exact below_set (HB.out) GB9.out : Below w.heap.size w w39)); clear HO_7 HO_8 HB; revert n0_ n1_ n2_; intro HO_7 HO_8 HB; clear hg hw hp_) | ((with_reducible refine gate_builtin (b := .append) (xs := #[.tmp 58, .tmp 60]) rfl ?_); at_builtin; refine Kd.Q_append (Kd.int .i64) (w0 := w) w.heap.size rfl (.tmp 58) (.tmp 60) 58 53 (.int .i64 0) 8 rfl Tryd.underlying58 info53 rfl (by decide) (by omega) (.slice (some ad155) x8_2.length co37) x8_2 (Go.bits .xor .i64 (rd x8_2 0) (ji29)) [.int .i64 (Go.bits .xor .i64 (rd x8_2 0) (ji29))] (fun _ => True) (fun _ => False) rfl rfl ?aP (fun _ hk => hk.elim) ?aF ?aO ?aB ?aS ?aL ?_; (case aP => exact rfl); (case aB => exact (mvB HB.out)); (case aF => exact (fun _ _ => trivial)); (case aO => exact (by (with_reducible repeat (first | apply Kd.Q_alloc | apply Kd.Q_drewN | apply Kd.Q_drew)); exact HO_8.out)); (case aS => exact (below_size (mvB HB.out))); (case aL => have := LMc36.out; omega); intro v161 w40 ho hb hg hat; rw [← Ny160.out] at ho; have n0_ := Aside0.mk (Kd.R_over' (mv HO_7.out) (Kd.Q_typed (by (with_reducible repeat (first | apply Kd.Q_alloc | apply Kd.Q_drewN | apply Kd.Q_drew)); exact HO_8.out)) (by decide) hg); have n1_ := Aside0.mk (hb); have n2_ := Aside0.mk (ho); clear HO_7 HB HO_8; revert n0_ n1_ n2_; intro HO_7 HB HO162; clear ho hb hg hat)); try go_wp2_with (first | ((with_reducible refine gate_store (t := 3) (p := 57) rfl ?_); (try (rw [drewN_self wc]; generalize hq_ : World.drewN wc _ = wc; have n0_ := Aside0.mk (Kd.R_at hq_ HO_7.out); have n1_ := Aside0.mk (Kd.Q_at hq_ HO_8.out); have n2_ := Aside0.mk (below_at hq_ HB.out); clear hq_ HO_7 HO_8 HB; revert n0_ n1_ n2_; intro HO_7 HO_8 HB; (try (obtain ⟨hx35_0, hf35_0⟩ := Kd.R_celln 0 HO_7.out ((Go.bits .xor .i64 (rd x8_2 0) (ji29)) : Int) (of_eq_true p35) (of_eq_true q35))); (try (have HP38 := Kd.R_putg HO_7.out ((Go.bits .xor .i64 (rd x8_2 0) (ji29)) : Int) (wrap64 ((rd x7_2 (rd x8_2 0)) + 1)))))); refine store_event (t := 3) (p := 57) (v := ?vo_w39) (w1 := (wc.setCell ⟨go9, ((Go.bits .xor .i64 (rd x8_2 0) (ji29)) : Int).toNat, none⟩ (.int .i64 (wrap64 ((rd x7_2 (rd x8_2 0)) + 1))))) ?hg ?ho ?hn ?hr ?_; (case ho => rfl); (case hg => rfl); (case hn => rfl); (case hr => first | (go_simp; done) | (go_simp; rfl)); intro w39 hw; have hg : wc.grownBy w39 (some go9) := (by rw [hw]; exact HP38.2); have hp_ : Kd.R (Kd.int .i64) 3 w39 w.heap.size (fun _ => True) (.slice (some ⟨go9, 0, none⟩) x7_2.length co9) y159 := (by rw [hw, Ny159.out]; exact HP38.1); clear HP38; have n0_ := Aside0.mk (hp_); have n1_ := Aside0.mk (Kd.Q_over' (v := (.slice (some ⟨go9, 0, none⟩) x7_2.length co9)) (by (with_reducible repeat (first | apply Kd.Q_alloc | apply Kd.Q_drewN | apply Kd.Q_drew)); exact HO_8.out) (Kd.R_typed HO_7.out) (by decide) hg); have n2_ := Aside0.mk ((by rw [hw]; exact below_set (HB.out) GB9.out : Below w.heap.size w w39)); clear HO_7 HO_8 HB; revert n0_ n1_ n2_; intro HO_7 HO_8 HB; clear hg hw hp_) | ((with_reducible refine gate_builtin (b := .append) (xs := #[.tmp 58, .tmp 60]) rfl ?_); at_builtin; refine Kd.Q_append (Kd.int .i64) (w0 := w) w.heap.size rfl (.tmp 58) (.tmp 60) 58 53 (.int .i64 0) 8 rfl Tryd.underlying58 info53 rfl (by decide) (by omega) (.slice (some ad155) x8_2.length co37) x8_2 (Go.bits .xor .i64 (rd x8_2 0) (ji29)) [.int .i64 (Go.bits .xor .i64 (rd x8_2 0) (ji29))] (fun _ => True) (fun _ => False) rfl rfl ?aP (fun _ hk => hk.elim) ?aF ?aO ?aB ?aS ?aL ?_; (case aP => exact rfl); (case aB => exact (mvB HB.out)); (case aF => exact (fun _ _ => trivial)); (case aO => exact (by (with_reducible repeat (first | apply Kd.Q_alloc | apply Kd.Q_drewN | apply Kd.Q_drew)); exact HO_8.out)); (case aS => exact (below_size (mvB HB.out))); (case aL => have := LMc36.out; omega); intro v161 w40 ho hb hg hat; rw [← Ny160.out] at ho; have n0_ := Aside0.mk (Kd.R_over' (mv HO_7.out) (Kd.Q_typed (by (with_reducible repeat (first | apply Kd.Q_alloc | apply Kd.Q_drewN | apply Kd.Q_drew)); exact HO_8.out)) (by decide) hg); have n1_ := Aside0.mk (hb); have n2_ := Aside0.mk (ho); clear HO_7 HB HO_8; revert n0_ n1_ n2_; intro HO_7 HB HO162; clear ho hb hg hat)))
                    (try simp only [← hl7_2])
                    go_roundg kj19
                    case measure => have := HK1.out; have := HK2.out; have := HJ19.out; omega
                    case rel => exact ⟨(y159), (y160), (wrap64 (x9_2 + 1)), rs, H', ⟨by have := HK1.out; have := HK2.out; have := HJ19.out; omega⟩, ⟨by (try simp only [hl7_1]); (try simp only [hl7_2]); (with_reducible repeat (first | apply Kd.R_alloc | apply Kd.R_drewN | apply Kd.R_drew)); exact HO_7.out⟩, ⟨by (try simp only [hl7_1]); (try simp only [hl7_2]); (with_reducible repeat (first | apply Kd.Q_alloc | apply Kd.Q_drewN | apply Kd.Q_drew)); exact HO162.out⟩, ⟨mvB HB.out⟩⟩
                   ·
                    rw [if_neg c36] at H
                    exact absurd H (by simp)
                  ·
                   rw [if_neg c34] at H
                   exact absurd H (by simp)
                 ·
                  rw [if_neg c33] at H
                  exact absurd H (by simp)
                ·
                 rw [if_neg c32] at H
                 have c32b0 : decide ((rd x7_2 (Go.bits .xor .i64 (rd x8_2 0) (ji29))) < 0) = false := decide_eq_false c32
                 clear c32
                 have H' := Aside0.mk H
                 clear H
                 obtain ⟨Ao41, co41, eo41, _⟩ := Kd.Q_slice HO_8.out
                 subst eo41
                 have p155 : 0 ≤ (0 : Int) := (by omega)
                 have q155 : 0 < (x8_2.length : Int) := od
                 obtain ⟨ad155, e155, hx155_0⟩ := Kd.at_int (Kd.Q_reads' HO_8.out).2.2 0 p155 q155
                 cases e155
                 have qi155 : (0 < x8_2.length) = True := eq_true (by omega)
                 (try rw [show ((0 : Int)).toNat = 0 from rfl] at hx155_0)
                 (try rw [Addr.add_zero'] at hx155_0)
                 replace p155 := eq_true p155
                 replace q155 := eq_true q155
                 have p156 : 0 ≤ ((Go.bits .xor .i64 (rd x8_2 0) (ji29)) : Int) := od
                 have q156 : (Go.bits .xor .i64 (rd x8_2 0) (ji29)) < (x7_2.length : Int) := od
                 obtain ⟨ad156, e156, hx156_0⟩ := Kd.at_int (Kd.R_reads' HO_7.out).2.2 (Go.bits .xor .i64 (rd x8_2 0) (ji29)) p156 q156
                 obtain rfl : (⟨go9, 0, none⟩ : Addr) = ad156 := (by injection e156)
                 (first | simp only [add_plain] at hx156_0 | simp only [add_at] at hx156_0 | simp only [Addr.add, Nat.zero_add] at hx156_0 | skip)
                 replace p156 := eq_true p156
                 replace q156 := eq_true q156
                 go_wp2
                 repeat (go_quiet (fail); try go_wp2)
                 (try simp only [← hl7_2])
                 go_roundg kj19
                 case measure => have := HK1.out; have := HK2.out; have := HJ19.out; omega
                 case rel => exact ⟨(x7_2), (x8_2), (wrap64 (x9_2 + 1)), rs, H', ⟨by have := HK1.out; have := HK2.out; have := HJ19.out; omega⟩, ⟨by (try simp only [hl7_1]); (try simp only [hl7_2]); (with_reducible repeat (first | apply Kd.R_alloc | apply Kd.R_drewN | apply Kd.R_drew)); exact HO_7.out⟩, ⟨by (try simp only [hl7_1]); (try simp only [hl7_2]); (with_reducible repeat (first | apply Kd.Q_alloc | apply Kd.Q_drewN | apply Kd.Q_drew)); exact HO_8.out⟩, ⟨mvB HB.out⟩⟩
               ·
                rw [if_neg c31] at H
                exact absurd H (by simp)
              ·
               rw [if_neg c30] at H
               exact absurd H (by simp)
             ·
              rw [if_neg c28] at H
              exact absurd H (by simp)
            ·
             rw [if_neg c27] at H
             exact absurd H (by simp)
           ·
            replace c26 := Bool.eq_false_iff.mpr c26
            subst c26
            have H1 : (if 1 ≤ (x8_2.length : Int) then (impl_distancesTo.l0 kj19 a1 l2 x7_2 (x8_2.drop (1 : Int).toNat)) else (none)) = some r := by rw [if_neg (show ¬ (false = true) by decide)] at H; exact H
            clear H
            have H := H1
            clear H1
            by_cases c42 : 1 ≤ (x8_2.length : Int)
            ·
             rw [if_pos c42] at H
             have c42b0 := eq_true c42
             have c42b1 : decide (1 ≤ (x8_2.length : Int)) = true := decide_eq_true c42
             clear c42
             obtain ⟨y163, hy163⟩ : ∃ y_ : List Int, y_ = (x8_2.drop (1 : Int).toNat) := ⟨_, rfl⟩
             replace H : (impl_distancesTo.l0 kj19 a1 l2 x7_2 y163) = some r := by first | (rw [hy163]; with_reducible exact H) | (have H2_ := (Option.bind_some _ _).symm.trans H; rw [hy163]; with_reducible exact H2_) | (have H2_ := (Option.bind_some _ _).symm.trans H; with_reducible exact H2_) | with_reducible exact H | (rw [hy163]; exact H) | exact H
             have Ny163 := Aside0.mk hy163
             clear hy163
             have H' := Aside0.mk H
             clear H
             obtain ⟨Ao43, co43, eo43, _⟩ := Kd.Q_slice HO_8.out
             subst eo43
             have q44 : (1 : Int) ≤ ((x8_2.length : Int) : Int) := od
             obtain ⟨i044, hi044, _, hsz44, _⟩ := info_parts info53
             have hcut44 := cut_from (P := Tryd.prog) 58 53 .i64 Tryd.underlying58 hi044 1 hsz44 Ao43 x8_2.length co43 1 (by omega) q44
             have hr44 := Kd.Q_drop (k := (1 : Int).toNat) HO_8.out (by omega)
             obtain ⟨A44, hA44⟩ : ∃ A1, A1 = (if co43 = (1 : Int).toNat then Ao43 else (Ao43 : Option Addr).map (·.add ((1 : Int).toNat * 1))) := ⟨_, rfl⟩
             obtain ⟨c44, hc44⟩ : ∃ c1, c1 = co43 - (1 : Int).toNat := ⟨_, rfl⟩
             have hy44 : y163.length = x8_2.length - (1 : Int).toNat := (by rw [Ny163.out, List.length_drop])
             rw [← Ny163.out] at hr44
             rw [← hy44, ← hA44, ← hc44] at hcut44
             replace hr44 : Kd.Q (Kd.int .i64) 53 wc w.heap.size (fun _ => True) (.slice A44 y163.length c44) y163 := (by rw [hA44, hc44, hy44]; exact hr44)
             have HE44 : Aside0 ((Value.slice A44 y163.length c44).ownBlock = (.slice Ao43 x8_2.length co43 : Value).ownBlock) := ⟨by rw [hA44]; split <;> (cases (Ao43 : Option Addr) <;> rfl)⟩
             clear hy44 hi044 hsz44 HO_8 hA44 hc44
             have HO165 := Aside0.mk hr44
             clear hr44
             replace q44 := eq_true q44
             go_wp2
             repeat (go_quiet (fail); try go_wp2)
             (try simp only [← hl7_1, ← hl7_2])
             go_roundg kj19
             case measure => have := HK1.out; have := HK2.out; have := HJ19.out; omega
             case rel => exact ⟨(x7_2), (y163), H', ⟨by have := HK1.out; have := HK2.out; have := HJ19.out; omega⟩, ⟨by (try simp only [hl7_1]); (try simp only [hl7_2]); (with_reducible repeat (first | apply Kd.R_alloc | apply Kd.R_drewN | apply Kd.R_drew)); exact HO_7.out⟩, ⟨by (try simp only [hl7_1]); (try simp only [hl7_2]); (with_reducible repeat (first | apply Kd.Q_alloc | apply Kd.Q_drewN | apply Kd.Q_drew)); exact HO165.out⟩, ⟨mvB HB.out⟩⟩
            ·
             rw [if_neg c42] at H
             exact absurd H (by simp)
      ·
       rw [if_neg c18] at H
       have c18b0 : decide (0 < (x8_1.length : Int)) = false := decide_eq_false c18
       have c18b1 : decide (0 < x8_1.length) = false := decide_eq_false (by omega)
       clear c18
       obtain rfl := Option.some.inj H
       obtain ⟨Ao45, co45, eo45, _⟩ := Kd.Q_slice HO_8.out
       subst eo45
       go_wp2
       repeat (go_quiet (fail); try go_wp2)
       go_ret
       exact ⟨_, by first | rfl | (simp [errW_none, errW_some] <;> rfl) | (simp only [← hji5]; first | rfl | (simp [errW_none, errW_some] <;> rfl)) | (simp [*, errW_none, errW_some] <;> rfl), mv HO_7.out, mvB HB.out⟩
   ·
    rw [if_neg c8] at H
    exact absurd H (by simp)
  ·
   rw [if_neg c7] at H
   exact absurd H (by simp)
 ·
  rw [if_neg c4] at H
  exact absurd H (by simp)

/-! ### impl_switches_order: function 32 -/
def impl_switches_order.f (a0 : Int) (a1 : Int) : Option (Int) := if 0 ≤ a1 then (if (Go.bits .and .i64 (shr .i64 a0 a1) 1) = 1 then (some (wrap64 ((wrap64 (-a1)) - 1))) else (some (wrap64 (a1 + 1)))) else (none)
set_option maxHeartbeats 8000000 in
set_option maxRecDepth 100000 in
theorem impl_switches_order.calls (a0 : Int) (a1 : Int) (r : Int) (w : World) (h : impl_switches_order.f a0 a1 = some r) :
  Calls Tryd.prog 32 #[.int .i64 a0, .int .i64 a1] w fun e w' => e = .returned (.int .i64 r) ∧ Drawn0 w w' := by
 have H : (if 0 ≤ a1 then (if (Go.bits .and .i64 (shr .i64 a0 a1) 1) = 1 then (some (wrap64 ((wrap64 (-a1)) - 1))) else (some (wrap64 (a1 + 1)))) else (none)) = some r := h
 clear h
 by_cases c3 : 0 ≤ a1
 ·
  rw [if_pos c3] at H
  have c3b0 := eq_true c3
  have c3b1 : decide (0 ≤ a1) = true := decide_eq_true c3
  clear c3
  obtain ⟨ji4, hji4⟩ : ∃ j_ : Int, (shr .i64 a0 a1) = j_ := ⟨_, rfl⟩
  replace H : (if (Go.bits .and .i64 (ji4) 1) = 1 then (some (wrap64 ((wrap64 (-a1)) - 1))) else (some (wrap64 (a1 + 1)))) = some r := by first | (rw [hji4] at H; exact H) | (simp only [hji4] at H ⊢; exact H)
  have hji4_ : (a0 / 2 ^ min a1.toNat 64) = ji4 := hji4
  have hji4z : a1 ≤ 64 → (a0 / 2 ^ a1.toNat) = ji4 := shr_small hji4
  by_cases c5 : (Go.bits .and .i64 (ji4) 1) = 1
  ·
   rw [if_pos c5] at H
   have c5b0 : ((Go.bits .and .i64 (ji4) 1) == 1) = true := beq_iff_eq.mpr c5
   have c5b1 : ((Go.bits .and .i64 (ji4) 1) != 1) = false := bne_eq_false_iff_eq.mpr c5
   clear c5
   obtain rfl := Option.some.inj H
   go_enter Tryd.func32, Tryd.ntmps32
   go_wp2
   go_ret
   exact ⟨by first | rfl | (simp; done) | (simp only [← hji4] <;> (first | rfl | simp)) | (simp [*]; done), dr0⟩
  ·
   rw [if_neg c5] at H
   have c5b0 : ((Go.bits .and .i64 (ji4) 1) == 1) = false := beq_eq_false_iff_ne.mpr c5
   have c5b1 : ((Go.bits .and .i64 (ji4) 1) != 1) = true := bne_iff_ne.mpr c5
   obtain rfl := Option.some.inj H
   go_enter Tryd.func32, Tryd.ntmps32
   go_wp2
   go_ret
   exact ⟨by first | rfl | (simp; done) | (simp only [← hji4] <;> (first | rfl | simp)) | (simp [*]; done), dr0⟩
 ·
  rw [if_neg c3] at H
  exact absurd H (by simp)

/-! ### impl_abs: function 33 -/
def impl_abs.f (a0 : Int) : Option (Int) := some (mx a0 (wrap64 (-a0)))
set_option maxHeartbeats 8000000 in
set_option maxRecDepth 100000 in
theorem impl_abs.calls (a0 : Int) (r : Int) (w : World) (h : impl_abs.f a0 = some r) :
  Calls Tryd.prog 33 #[.int .i64 a0] w fun e w' => e = .returned (.int .i64 r) ∧ Below w.heap.size w w' := by
 have HB := Aside0.mk (Below.refl w.heap.size w)
 have H : (some (mx a0 (wrap64 (-a0)))) = some r := h
 clear h
 obtain ⟨ji2, hji2⟩ : ∃ j_ : Int, (mx a0 (wrap64 (-a0))) = j_ := ⟨_, rfl⟩
 replace H : (some ji2) = some r := by first | (rw [hji2] at H; exact H) | (simp only [hji2] at H ⊢; exact H)
 have hji2_ : (if a0 < (wrap64 (-a0)) then (wrap64 (-a0)) else a0) = ji2 := hji2
 obtain rfl := Option.some.inj H
 go_enter Tryd.func33, Tryd.ntmps33
 go_wp2
 go_ret
 exact ⟨by first | rfl | (simp [errW_none, errW_some] <;> rfl) | (simp only [← hji2]; first | rfl | (simp [errW_none, errW_some] <;> rfl)) | (simp [*, errW_none, errW_some] <;> rfl), mvB HB.out⟩

end Go.Proofs.YtffodlggihmonaaDoor.PFnSwitching
