-- written by a program of this session (mkp.py) out of the translation; Lean checks it. -- slim
import Derived.Test.YtmbiapefigcgnaaPFnExactBestPlanx0
namespace Go.Proofs.Ytmbiapefigcgnaa.PFnExactBestPlan
open Go.RowKit Go.Proofs.YtmbiapefigcgnaaW.PrintWords Go.Proofs.YtmbiapefigcgnaaW.PrintLast Go.Proofs.YtmbiapefigcgnaaW.PrintMore
attribute [local go_sem] bin_leq bin_gtr bin_geq max2_int min2_int max_two min_two max_three min_three max_four min_four   -- for this text's walks alone
set_option linter.unusedVariables false
set_option linter.unusedSimpArgs false

/-! ### laws_markText: function 64 -/
def laws_markText.l0 : Nat → Int → ByteArray → Option (ByteArray)
 | 0, _, _ => none
 | k + 1, x0, x3 => if x0 > 0 then ((some (([(wrap64 (48 + (Int.tmod x0 10))) % 256] : List Int) : List Int)).bind fun y221 => (if (strOfNums y221).size + x3.size ≤ 9223372036854775807 then (laws_markText.l0 k (wrap64 (Int.tdiv x0 10)) ((strOfNums y221) ++ x3)) else (none))) else (if 1 + x3.size ≤ 9223372036854775807 then (some ((⟨#[109]⟩ : ByteArray) ++ x3)) else (none))
def laws_markText.f (k : Nat) (a0 : Int) : Option (ByteArray) := if a0 ≤ 0 then (some (⟨#[109, 48]⟩ : ByteArray)) else (laws_markText.l0 k a0 (⟨#[]⟩ : ByteArray))
theorem laws_markText.mono_l : ∀ k, (∀ y0 y1, LeO (laws_markText.l0 k y0 y1) (laws_markText.l0 (k + 1) y0 y1))
 | 0 => fun _ _ r h => by simp [laws_markText.l0] at h
 | k + 1 => by
  have ih0 := laws_markText.mono_l k
  ·
   intro y0 y1
   unfold laws_markText.l0
   repeat' first
   | (with_reducible exact ih0 _ _)
   | (with_reducible exact LeO.refl _)
   | (with_reducible exact LeO.none _)
   | (with_reducible refine LeO.ite ?_ ?_)
   | (with_reducible refine LeO.bind ?_ (fun _ => ?_))
   | exact ih0 _ _
   | exact LeO.none _
   | refine LeO.ite ?_ ?_
   | refine LeO.bind ?_ (fun _ => ?_)
theorem laws_markText.mono : ∀ a0 k, LeO (laws_markText.f k a0) (laws_markText.f (k + 1) a0) := by
 intro a0 k
 have ih0 := laws_markText.mono_l k
 unfold laws_markText.f
 repeat' first
   | (with_reducible exact ih0 _ _)
   | (with_reducible exact LeO.refl _)
   | (with_reducible exact LeO.none _)
   | (with_reducible refine LeO.ite ?_ ?_)
   | (with_reducible refine LeO.bind ?_ (fun _ => ?_))
   | exact ih0 _ _
   | exact LeO.none _
   | refine LeO.ite ?_ ?_
   | refine LeO.bind ?_ (fun _ => ?_)
set_option maxHeartbeats 8000000 in
set_option maxRecDepth 100000 in
theorem laws_markText.calls (k : Nat) (a0 : Int) (r : ByteArray) (w : World) (h : laws_markText.f k a0 = some r) :
  Calls Try.prog 64 #[.int .i64 a0] w fun e w' => e = .returned (.string r) ∧ Below w.heap.size w w' := by
 have HB := Aside0.mk (Below.refl w.heap.size w)
 have H : (if a0 ≤ 0 then (some (⟨#[109, 48]⟩ : ByteArray)) else (laws_markText.l0 k a0 (⟨#[]⟩ : ByteArray))) = some r := h
 clear h
 by_cases c2 : a0 ≤ 0
 ·
  rw [if_pos c2] at H
  have c2b0 : decide (a0 ≤ 0) = true := decide_eq_true c2
  clear c2
  obtain rfl := Option.some.inj H
  go_enter Try.func64, Try.ntmps64
  go_wp2
  go_ret
  exact ⟨by first | rfl | (simp [errW_none, errW_some] <;> rfl) | (simp [*, errW_none, errW_some] <;> rfl), by repeat (first | (with_reducible first | exact HB.out | apply below_alloc | apply pw_below_drewN | apply below_drew1) | exact HB.out)⟩
 ·
  rw [if_neg c2] at H
  have c2b0 : decide (a0 ≤ 0) = false := decide_eq_false c2
  clear c2
  have H' := Aside0.mk H
  clear H
  go_enter Try.func64, Try.ntmps64
  go_wp2
  go_loopg [0, 3] k (fun kq v0 v3 w' => ∃ (x0_1 : Int) (x3_1 : ByteArray), v0 = .int .i64 x0_1 ∧ v3 = .string x3_1 ∧ Aside0 (laws_markText.l0 kq x0_1 x3_1 = some r) ∧ Aside0 (kq ≤ k) ∧ Aside0 (Below w.heap.size w w'))
  case atStart => exact ⟨(a0), ((⟨#[]⟩ : ByteArray)), (by first | rfl | (simp; done) | (simp [*]; done)), (by first | rfl | (simp; done) | (simp [*]; done)), H', ⟨Nat.le_refl _⟩, ⟨by repeat (first | (with_reducible first | exact HB.out | apply below_alloc | apply pw_below_drewN | apply below_drew1) | exact HB.out)⟩⟩
  case round =>
   clear H'
   try clear c2
   try clear c2b0
   try clear p2
   obtain ⟨x0_1, x3_1, rfl, rfl, HA, HK1, HB⟩ := hrel
   cases gk with
   | zero => exact absurd HA.out (by simp [laws_markText.l0])
   | succ k1 =>
    have H := HA.out
    clear HA
    simp only [laws_markText.l0] at H
    by_cases c3 : x0_1 > 0
    ·
     rw [if_pos c3] at H
     have c3b0 : decide (0 < x0_1) = true := decide_eq_true c3
     clear c3
     obtain ⟨y221, hy221⟩ : ∃ y_ : List Int, y_ = (([(wrap64 (48 + (Int.tmod x0_1 10))) % 256] : List Int)) := ⟨_, rfl⟩
     replace H : (if (strOfNums y221).size + x3_1.size ≤ 9223372036854775807 then (laws_markText.l0 k1 (wrap64 (Int.tdiv x0_1 10)) ((strOfNums y221) ++ x3_1)) else (none)) = some r := by first | (rw [hy221]; with_reducible exact H) | (have H2_ := (Option.bind_some _ _).symm.trans H; rw [hy221]; with_reducible exact H2_) | (have H2_ := (Option.bind_some _ _).symm.trans H; with_reducible exact H2_) | with_reducible exact H | (rw [hy221]; exact H) | exact H
     have Ny221 := Aside0.mk hy221
     clear hy221
     by_cases c4 : (strOfNums y221).size + x3_1.size ≤ 9223372036854775807
     ·
      rw [if_pos c4] at H
      have c4b0 := eq_true c4
      have c4b1 : decide ((strOfNums y221).size + x3_1.size ≤ 9223372036854775807) = true := decide_eq_true c4
      try have c4b2 : (9223372036854775807 < (strOfNums y221).size + x3_1.size) = False := eq_false (Nat.not_lt.2 c4)
      have H' := Aside0.mk H
      clear H
      go_wp2_with (first | ((with_reducible refine gate_dst (N := 12) rfl ?_); refine Kd.R_lit (Kd.int .u8) _ 5 ?hg (N := 12) ?hd (xs := ([(wrap64 (48 + (Int.tmod x0_1 10))) % 256] : List Int)) (inner := [.int .u8 ((wrap64 (48 + (Int.tmod x0_1 10))) % 256)]) (ok := fun _ => True) (okp := fun _ => True) ?hr ?hp (fun _ hk => hk) trivial (Below.refl _ _) (Nat.le_refl _) (by simp) ?_; (case hd => rfl); (case hg => rfl); (case hr => first | (go_simp; done) | (go_simp; rfl)); (case hp => exact (Reps.one (show Kd.M (Kd.int .u8) _ _ _ ((wrap64 (48 + (Int.tmod x0_1 10))) % 256) [.int .u8 ((wrap64 (48 + (Int.tmod x0_1 10))) % 256)] from rfl) (Reps.none _ _))); intro v222 w5 ho6 hb hg_ hnew_; clear hg_ hnew_; (first | rw [← Ny221.out] at ho6 | (simp only [Int.reduceToNat] at ho6; rw [← Ny221.out] at ho6)); have n0_ := Aside0.mk (Kd.R_lower ho6 (below_size (by repeat (first | (with_reducible first | exact HB.out | apply below_alloc | apply pw_below_drewN | apply below_drew1) | exact HB.out)))); have n1_ := Aside0.mk (below_step (by repeat (first | (with_reducible first | exact HB.out | apply below_alloc | apply pw_below_drewN | apply below_drew1) | exact HB.out)) hb); clear HB; have HO223 := n0_; have HB := n1_; clear n0_ n1_; clear hb ho6; have hcv7 := own_string (P := Try.prog) Try.underlying22 Try.underlying5 Try.underlying9 (Kd.own_of_R HO223.out)))
      go_roundg k1
      case measure => have := HK1.out; omega
      case rel => exact ⟨(wrap64 (Int.tdiv x0_1 10)), ((strOfNums y221) ++ x3_1), (by first | rfl | (simp; done) | (simp [*]; done)), (by first | rfl | (simp; done) | (simp [*]; done)), H', ⟨by have := HK1.out; omega⟩, ⟨by repeat (first | (with_reducible first | exact HB.out | apply below_alloc | apply pw_below_drewN | apply below_drew1) | exact HB.out)⟩⟩
     ·
      rw [if_neg c4] at H
      exact absurd H (by simp)
    ·
     rw [if_neg c3] at H
     have c3b0 : decide (0 < x0_1) = false := decide_eq_false c3
     clear c3
     by_cases c8 : 1 + x3_1.size ≤ 9223372036854775807
     ·
      rw [if_pos c8] at H
      have c8b0 := eq_true c8
      have c8b1 : decide (1 + x3_1.size ≤ 9223372036854775807) = true := decide_eq_true c8
      try have c8b2 : (9223372036854775807 < 1 + x3_1.size) = False := eq_false (Nat.not_lt.2 c8)
      obtain rfl := Option.some.inj H
      go_wp2
      go_ret
      exact ⟨by first | rfl | (simp [errW_none, errW_some] <;> rfl) | (simp [*, errW_none, errW_some] <;> rfl), by repeat (first | (with_reducible first | exact HB.out | apply below_alloc | apply pw_below_drewN | apply below_drew1) | exact HB.out)⟩
     ·
      rw [if_neg c8] at H
      exact absurd H (by simp)

/-! ### laws_markStringS: function 65 -/
def laws_markStringS.l0 : Nat → List ByteArray → Int → Int → Option (Int × List ByteArray)
 | 0, _, _, _ => none
 | k + 1, x0, x1, x5 => if x5 < (x0.length : Int) then ((laws_markText.f k x1).bind fun t224 => (if 0 ≤ x5 then (laws_markStringS.l0 k (x0.set (x5 : Int).toNat t224) (wrap64 (x1 + 1)) (wrap64 (x5 + 1))) else (none))) else (some (x1, x0))
def laws_markStringS.f (k : Nat) (l0 : List ByteArray) (a1 : Int) : Option (Int × List ByteArray) := laws_markStringS.l0 k l0 a1 0
theorem laws_markStringS.mono_l : ∀ k, (∀ y0 y1 y2, LeO (laws_markStringS.l0 k y0 y1 y2) (laws_markStringS.l0 (k + 1) y0 y1 y2))
 | 0 => fun _ _ _ r h => by simp [laws_markStringS.l0] at h
 | k + 1 => by
  have ih0 := laws_markStringS.mono_l k
  ·
   intro y0 y1 y2
   unfold laws_markStringS.l0
   repeat' first
   | (with_reducible exact ih0 _ _ _)
   | (with_reducible exact laws_markText.mono _ _)
   | (with_reducible exact LeO.refl _)
   | (with_reducible exact LeO.none _)
   | (with_reducible refine LeO.ite ?_ ?_)
   | (with_reducible refine LeO.bind ?_ (fun _ => ?_))
   | exact ih0 _ _ _
   | exact laws_markText.mono _ _
   | exact LeO.none _
   | refine LeO.ite ?_ ?_
   | refine LeO.bind ?_ (fun _ => ?_)
theorem laws_markStringS.mono : ∀ a0 a1 k, LeO (laws_markStringS.f k a0 a1) (laws_markStringS.f (k + 1) a0 a1) := by
 intro a0 a1 k
 have ih0 := laws_markStringS.mono_l k
 unfold laws_markStringS.f
 repeat' first
   | (with_reducible exact ih0 _ _ _)
   | (with_reducible exact laws_markText.mono _ _)
   | (with_reducible exact LeO.refl _)
   | (with_reducible exact LeO.none _)
   | (with_reducible refine LeO.ite ?_ ?_)
   | (with_reducible refine LeO.bind ?_ (fun _ => ?_))
   | exact ih0 _ _ _
   | exact laws_markText.mono _ _
   | exact LeO.none _
   | refine LeO.ite ?_ ?_
   | refine LeO.bind ?_ (fun _ => ?_)
set_option maxHeartbeats 8000000 in
set_option maxRecDepth 100000 in
theorem laws_markStringS.calls (k : Nat) (P0_ : Nat → Prop) (u9000_ : Value) (l0 : List ByteArray) (a1 : Int) (r1 : Int) (r2 : List ByteArray) (w0 w : World) (hB : Below w0.heap.size w0 w) (ho0 : Kd.R Kd.string 9 w w0.heap.size P0_ u9000_ l0) (h : laws_markStringS.f k l0 a1 = some (r1, r2)) :
  Calls Try.prog 65 #[u9000_, .int .i64 a1] w fun e w' => e = .returned (.int .i64 r1) ∧ Kd.R Kd.string 9 w' w0.heap.size (fun k_ => (P0_ k_ ∨ w.heap.size ≤ k_)) u9000_ r2 ∧ Below w0.heap.size w0 w' ∧ Kept w w' (fun k_ => P0_ k_) := by
 have HO0 := Aside0.mk (show Kd.R Kd.string 9 w w0.heap.size (fun k_ => (P0_ k_ ∨ w.heap.size ≤ k_)) u9000_ l0 from Kd.R_mono ho0 (fun k_ hk => (.inl hk)))
 have HK := Aside0.mk (Kept.refl w (fun k_ => P0_ k_))
 have HW0 := Aside0.mk hB.size
 have HB := Aside0.mk hB
 clear hB
 have H : (laws_markStringS.l0 k l0 a1 0) = some (r1, r2) := h
 clear h
 have H' := Aside0.mk H
 clear H
 go_enter Try.func65, Try.ntmps65
 go_wp2
 go_loopg [1, 5] k (fun kq v1 v5 w' => ∃ (x0_1 : List ByteArray) (x1_1 : Int) (x5_1 : Int), v1 = .int .i64 x1_1 ∧ v5 = .int .i64 x5_1 ∧ Aside0 (laws_markStringS.l0 kq x0_1 x1_1 x5_1 = some (r1, r2)) ∧ Aside0 (kq ≤ k) ∧ Aside0 (Kd.R Kd.string 9 w' w0.heap.size (fun k_ => (P0_ k_ ∨ w.heap.size ≤ k_)) u9000_ x0_1) ∧ Aside0 (Kept w w' (fun k_ => P0_ k_)) ∧ Aside0 (Below w0.heap.size w0 w'))
 case atStart => exact ⟨(l0), (a1), (0), (by first | rfl | (simp; done) | (simp [*]; done)), (by first | rfl | (simp; done) | (simp [*]; done)), H', ⟨Nat.le_refl _⟩, ⟨by (with_reducible repeat (first | apply Kd.R_alloc | apply Kd.R_drewN | apply Kd.R_drew)); exact HO0.out⟩, ⟨by repeat (first | (with_reducible first | exact HK.out | apply Kept.alloc | apply Kept.drewN | apply Kept.drew) | exact HK.out)⟩, ⟨by repeat (first | (with_reducible first | exact HB.out | apply below_alloc | apply pw_below_drewN | apply below_drew1) | exact HB.out)⟩⟩
 case round =>
  clear H'
  try clear p2
  obtain ⟨x0_1, x1_1, x5_1, rfl, rfl, HA, HK1, HO_0, HK, HB⟩ := hrel
  cases gk with
  | zero => exact absurd HA.out (by simp [laws_markStringS.l0])
  | succ k1 =>
   have H := HA.out
   clear HA
   simp only [laws_markStringS.l0] at H
   by_cases c3 : x5_1 < (x0_1.length : Int)
   ·
    rw [if_pos c3] at H
    have c3b0 : decide (x5_1 < (x0_1.length : Int)) = true := decide_eq_true c3
    clear c3
    replace H := Option.bind_eq_some_iff.mp H
    obtain ⟨t224, A40, H⟩ := H
    replace H : (if 0 ≤ x5_1 then (laws_markStringS.l0 k1 (x0_1.set (x5_1 : Int).toNat t224) (wrap64 (x1_1 + 1)) (wrap64 (x5_1 + 1))) else (none)) = some (r1, r2) := H
    have A4 := Aside0.mk A40
    clear A40
    by_cases c5 : 0 ≤ x5_1
    ·
     rw [if_pos c5] at H
     have c5b0 : decide (0 ≤ x5_1) = true := decide_eq_true c5
     clear c5
     obtain ⟨y225, hy225⟩ : ∃ y_ : List ByteArray, y_ = (x0_1.set (x5_1 : Int).toNat t224) := ⟨_, rfl⟩
     replace H : (laws_markStringS.l0 k1 y225 (wrap64 (x1_1 + 1)) (wrap64 (x5_1 + 1))) = some (r1, r2) := by first | (rw [hy225]; with_reducible exact H) | (have H2_ := (Option.bind_some _ _).symm.trans H; rw [hy225]; with_reducible exact H2_) | (have H2_ := (Option.bind_some _ _).symm.trans H; with_reducible exact H2_) | with_reducible exact H | (rw [hy225]; exact H) | exact H
     have Ny225 := Aside0.mk hy225
     clear hy225
     have H' := Aside0.mk H
     clear H
     obtain ⟨Ao7, co7, eo7⟩ := Kd.R_slice HO_0.out
     subst eo7
     go_wp2_with (first | ((with_reducible refine gate_callee (f := 64) rfl ?_); refine goesL_ (some 15) rfl rfl Try.func64 (by kernel_rfl) rfl #[.int .i64 x1_1] rfl (by (try simp only [List.map_toArray, List.map_cons, List.map_nil]); first | done | rfl | (simp only [List.length_drop, List.length_take]; rfl)) ?_; (with_reducible refine (laws_markText.calls k1 x1_1 t224 _ A4.out).mono ?_); rintro e w8 ⟨rfl, hb⟩; refine ⟨_, rfl, ?_⟩; have n0_ := Aside0.mk (Kd.R_below (by (with_reducible repeat (first | apply Kd.R_alloc | apply Kd.R_drewN | apply Kd.R_drew)); exact HO_0.out) hb); have n1_ := Aside0.mk (Kept.below (S := (fun k_ => P0_ k_)) (by repeat (first | (with_reducible first | exact HK.out | apply Kept.alloc | apply Kept.drewN | apply Kept.drew) | exact HK.out)) hb); have n2_ := Aside0.mk (below_step (by repeat (first | (with_reducible first | exact HB.out | apply below_alloc | apply pw_below_drewN | apply below_drew1) | exact HB.out)) hb); clear HO_0; clear HK; clear HB; have HO_0 := n0_; have HK := n1_; have HB := n2_; clear n0_ n1_ n2_; (try clear hb); (try clear hb2); (try clear hk); (try clear hi); have p6 : 0 ≤ (x5_1 : Int) := of_decide_eq_true (by first | (with_reducible assumption) | assumption); have q6 : (x5_1 : Int) < ((x0_1.length : Int) : Int) := of_decide_eq_true (by first | (with_reducible assumption) | assumption); obtain ⟨go6, co6, eo6, gb6, gl6, cl6, HG6⟩ := Kd.R_form HO_0.out (by omega); (first | cases eo6 | (injection eo6 with ea_ en_ ec_; (first | subst ea_ | (injection ea_ with ea_; subst ea_)); subst ec_; clear en_)); have GB6 := Aside0.mk gb6; have GG6 := Aside0.mk HG6; clear gb6 gl6 HG6; have HMgo6 := Aside0.mk (show (P0_ go6 ∨ w.heap.size ≤ go6) from (HO_0.out.1 _ rfl)); obtain ⟨hx6_0, hf6_0⟩ := Kd.R_celln (⟨#[]⟩ : ByteArray) HO_0.out (x5_1 : Int) p6 q6; replace p6 := eq_true p6; replace q6 := eq_true q6; obtain ⟨hy9_, hz9_⟩ := Kd.R_celln (⟨#[]⟩ : ByteArray) HO_0.out (x5_1 : Int) (of_decide_eq_true (by first | (with_reducible assumption) | assumption)) (of_decide_eq_true (by first | (with_reducible assumption) | assumption)); have HP9 := Kd.R_putg HO_0.out (x5_1 : Int) t224) | ((with_reducible refine gate_store (t := 9) (p := 16) rfl ?_); refine store_event (t := 9) (p := 16) (v := ?vo_w10) (w1 := (w8.setCell ⟨go6, (x5_1 : Int).toNat, none⟩ (.string t224))) ?hg ?ho ?hn ?hr ?_; (case ho => rfl); (case hg => rfl); (case hn => rfl); (case hr => first | (go_simp; done) | (go_simp; rfl)); intro w10 hw; have hg : w8.grownBy w10 (some go6) := (by rw [hw]; exact HP9.2); have hp_ : Kd.R Kd.string 9 w10 w0.heap.size (fun k_ => (P0_ k_ ∨ w.heap.size ≤ k_)) (.slice (some ⟨go6, 0, none⟩) x0_1.length co7) y225 := (by rw [hw, Ny225.out]; exact HP9.1); clear HP9; have n0_ := Aside0.mk (hp_); have n1_ := Aside0.mk ((by rw [hw]; exact below_set (HB.out) GB6.out : Below w0.heap.size w0 w10)); have n2_ := Aside0.mk (Kept.of_grown (S := (fun k_ => P0_ k_)) hg (by repeat (first | (with_reducible first | exact HK.out | apply Kept.alloc | apply Kept.drewN | apply Kept.drew) | exact HK.out)) (fun k_ e_ => (HO_0.out.1 k_ e_))); clear HO_0; clear HB; clear HK; have HO_0 := n0_; have HB := n1_; have HK := n2_; clear n0_ n1_ n2_; clear hg hw hp_))
     go_roundg k1
     case measure => have := HK1.out; omega
     case rel => exact ⟨(y225), (wrap64 (x1_1 + 1)), (wrap64 (x5_1 + 1)), (by first | rfl | (simp; done) | (simp [*]; done)), (by first | rfl | (simp; done) | (simp [*]; done)), H', ⟨by have := HK1.out; omega⟩, ⟨by (with_reducible repeat (first | apply Kd.R_alloc | apply Kd.R_drewN | apply Kd.R_drew)); exact HO_0.out⟩, ⟨by repeat (first | (with_reducible first | exact HK.out | apply Kept.alloc | apply Kept.drewN | apply Kept.drew) | exact HK.out)⟩, ⟨by repeat (first | (with_reducible first | exact HB.out | apply below_alloc | apply pw_below_drewN | apply below_drew1) | exact HB.out)⟩⟩
    ·
     rw [if_neg c5] at H
     exact absurd H (by simp)
   ·
    rw [if_neg c3] at H
    have c3b0 : decide (x5_1 < (x0_1.length : Int)) = false := decide_eq_false c3
    clear c3
    simp only [Option.some.injEq, Prod.mk.injEq] at H
    obtain ⟨rfl, rfl⟩ := H
    obtain ⟨Ao11, co11, eo11⟩ := Kd.R_slice HO_0.out
    subst eo11
    go_wp2
    go_ret
    exact ⟨by first | rfl | (simp [errW_none, errW_some] <;> rfl) | (simp [*, errW_none, errW_some] <;> rfl), by (with_reducible repeat (first | apply Kd.R_alloc | apply Kd.R_drewN | apply Kd.R_drew)); exact HO_0.out, by repeat (first | (with_reducible first | exact HB.out | apply below_alloc | apply pw_below_drewN | apply below_drew1) | exact HB.out), by repeat (first | (with_reducible first | exact HK.out | apply Kept.alloc | apply Kept.drewN | apply Kept.drew) | exact HK.out)⟩

/-! ### laws_markStageS: function 25 -/
/-- The numbers that a row of n strings takes. -/
def mkS (k : Nat) : Nat → Int → Option Int
 | 0, a => some a
 | d + 1, a => (laws_markText.f k a).bind fun _ => mkS k d (wrap64 (a + 1))
theorem mkS_mono (k : Nat) : ∀ d a, LeO (mkS k d a) (mkS (k + 1) d a)
 | 0, a => LeO.refl _
 | d + 1, a => by
  unfold mkS
  exact LeO.bind (laws_markText.mono _ k) (fun _ => mkS_mono k d _)
/-- .. and those that a row of stages takes. -/
def mkG (k : Nat) : List S34 → Int → Option Int
 | [], a => some a
 | x :: xs, a => (laws_markText.f k a).bind fun _ => (mkS k x.f3.length (wrap64 (wrap64 (wrap64 (a + 1) + 1) + 1))).bind fun b => mkG k xs b
theorem mkG_mono (k : Nat) : ∀ xs a, LeO (mkG k xs a) (mkG (k + 1) xs a)
 | [], a => LeO.refl _
 | x :: xs, a => by
  unfold mkG
  exact LeO.bind (laws_markText.mono _ k) (fun _ => LeO.bind (mkS_mono k _ _) (fun _ => mkG_mono k xs _))
def laws_markStageS.f (k : Nat) (l0 : List S34) (a1 : Int) : Option Int := if (decide (l0.length ≤ 4611686018427387904) && l0.all (fun x => decide (x.f3.length ≤ 4611686018427387904))) = true then mkG k l0 a1 else none
theorem laws_markStageS.mono : ∀ a0 a1 k, LeO (laws_markStageS.f k a0 a1) (laws_markStageS.f (k + 1) a0 a1) := fun a0 a1 k => LeO.ite (mkG_mono k a0 a1) (LeO.none _)
/-- What a marked cell holds is of the kind of what it held; a row's header stays. -/
def SimV (v v' : Value) : Prop := v' = v ∨ (∃ s s', v = .string s ∧ v' = .string s') ∨ (∃ a a', v = .int .i64 a ∧ v' = .int .i64 a')
theorem SimV.trans {a b c : Value} (h : SimV a b) (k : SimV b c) : SimV a c := by
 rcases h with rfl | ⟨s, s', rfl, rfl⟩ | ⟨x, x', rfl, rfl⟩
 ·
  exact k
 ·
  rcases k with rfl | ⟨t, t', _, rfl⟩ | ⟨x, x', h, _⟩
  ·
   exact .inr (.inl ⟨_, _, rfl, rfl⟩)
  ·
   exact .inr (.inl ⟨_, _, rfl, rfl⟩)
  ·
   cases h
 ·
  rcases k with rfl | ⟨t, t', h, _⟩ | ⟨y, y', _, rfl⟩
  ·
   exact .inr (.inr ⟨_, _, rfl, rfl⟩)
  ·
   cases h
  ·
   exact .inr (.inr ⟨_, _, rfl, rfl⟩)
def SimC (cur cur' : Array Value) : Prop := cur'.size = cur.size ∧ ∀ (m : Nat) v, cur[m]? = some v → ∃ v', cur'[m]? = some v' ∧ SimV v v'
theorem SimC.refl (cur : Array Value) : SimC cur cur := ⟨rfl, fun m v h => ⟨v, h, .inl rfl⟩⟩
theorem SimC.trans {a b c : Array Value} (h : SimC a b) (k : SimC b c) : SimC a c := ⟨k.1.trans h.1, fun m v hv => by
 obtain ⟨v1, h1, s1⟩ := h.2 m v hv
 obtain ⟨v2, h2, s2⟩ := k.2 m v1 h1
 exact ⟨v2, h2, s1.trans s2⟩⟩
/-- What marking does: blocks from base on alone, of strings or of stages, cell by cell of the same kind. -/
structure Marked (base : Nat) (w w' : World) : Prop where
 os : w'.os = w.os
 tape : w'.tape = w.tape
 output : w'.output = w.output
 size : w.heap.size ≤ w'.heap.size
 blk : ∀ k, k < w.heap.size → w'.heap[k]? = w.heap[k]? ∨ (base ≤ k ∧ ∃ cur cur' t, (t = 9 ∨ t = 34) ∧ w.heap[k]? = some (.cells cur t (0, 0)) ∧ w'.heap[k]? = some (.cells cur' t (0, 0)) ∧ SimC cur cur')
theorem Marked.refl (base : Nat) (w : World) : Marked base w w := ⟨rfl, rfl, rfl, Nat.le_refl _, fun _ _ => .inl rfl⟩
theorem Marked.trans {base : Nat} {w w1 w2 : World} (h : Marked base w w1) (k : Marked base w1 w2) : Marked base w w2 := by
 refine ⟨k.os.trans h.os, k.tape.trans h.tape, k.output.trans h.output, Nat.le_trans h.size k.size, fun i hi => ?_⟩
 rcases h.blk i hi with h1 | ⟨hb, c, c1, t, ht, e0, e1, s1⟩
 ·
  rcases k.blk i (Nat.lt_of_lt_of_le hi h.size) with k1 | ⟨hb, c, c1, t, ht, e0, e1, s1⟩
  ·
   exact .inl (k1.trans h1)
  ·
   exact .inr ⟨hb, c, c1, t, ht, by rw [← h1]; exact e0, e1, s1⟩
 ·
  rcases k.blk i (Nat.lt_of_lt_of_le hi h.size) with k1 | ⟨_, d, d1, t', _, f0, f1, s2⟩
  ·
   exact .inr ⟨hb, c, c1, t, ht, e0, by rw [k1]; exact e1, s1⟩
  ·
   rw [e1] at f0
   injection f0 with f0
   injection f0 with fa fb
   subst fa
   subst fb
   exact .inr ⟨hb, c, d1, t, ht, e0, f1, s1.trans s2⟩
theorem Marked.of_below {base : Nat} {w w' : World} (h : Below w.heap.size w w') : Marked base w w' := ⟨h.os, h.tape, h.output, h.size, fun k hk => .inl (h.block k hk)⟩
theorem Marked.setCell {base g t : Nat} {w : World} {cur : Array Value} (hg : w.heap[g]? = some (.cells cur t (0, 0))) (ht : t = 9 ∨ t = 34) (hb : base ≤ g) {i : Nat} {v u : Value} (hv : cur[i]? = some v) (hs : SimV v u) : Marked base w (w.setCell ⟨g, i, none⟩ u) := by
 refine ⟨rfl, rfl, rfl, by simp [World.setCell], fun k hk => ?_⟩
 by_cases e : k = g
 ·
  subst e
  refine .inr ⟨hb, cur, cur.setIfInBounds i u, t, ht, hg, blk_set hg i u, by simp, fun m x hx => ?_⟩
  by_cases e2 : m = i
  ·
   subst e2
   rw [hv] at hx
   injection hx with hx
   subst hx
   have hm : m < cur.size := (Array.getElem?_eq_some_iff.1 hv).1
   exact ⟨u, by simp [Array.getElem?_setIfInBounds, hm], hs⟩
  ·
   exact ⟨x, by rw [Array.getElem?_setIfInBounds_ne (by omega)]; exact hx, .inl rfl⟩
 ·
  exact .inl (Below.heap_setCell w _ u k e)
/-- A row of n strings that may be written. -/
def StrRow (w : World) (base : Nat) (v : Value) (n : Nat) : Prop := (v = .slice none 0 0 ∧ n = 0) ∨ ∃ g cap cur, v = .slice (some ⟨g, 0, none⟩) n cap ∧ base ≤ g ∧ w.heap[g]? = some (.cells cur 9 (0, 0)) ∧ ∀ m : Nat, m < n → ∃ s, cur[m]? = some (.string s)
theorem StrRow.marked {w w' : World} {base : Nat} {v : Value} {n : Nat} (h : StrRow w base v n) (k : Marked base w w') : StrRow w' base v n := by
 rcases h with h | ⟨g, cap, cur, rfl, hb, hg, hs⟩
 ·
  exact .inl h
 ·
  have hlt := blk_lt hg
  rcases k.blk g hlt with k1 | ⟨_, c, c1, t, _, e0, e1, s1⟩
  ·
   exact .inr ⟨g, cap, cur, rfl, hb, k1.trans hg, hs⟩
  ·
   rw [hg] at e0
   injection e0 with e0
   injection e0 with fa fb
   subst fa
   subst fb
   refine .inr ⟨g, cap, c1, rfl, hb, e1, fun m hm => ?_⟩
   obtain ⟨s, hx⟩ := hs m hm
   obtain ⟨v', hv', sv⟩ := s1.2 m _ hx
   rcases sv with rfl | ⟨q, q', _, rfl⟩ | ⟨a, a', h, _⟩
   ·
    exact ⟨s, hv'⟩
   ·
    exact ⟨q', hv'⟩
   ·
    cases h
theorem StrRow.of_R {w : World} {base : Nat} {ok : Nat → Prop} {v : Value} {xs : List ByteArray} (h : Kd.string.R 9 w base ok v xs) : StrRow w base v xs.length := by
 have ho := Kd.own_of_R (enc := Value.string) (h1 := fun _ => rfl) h
 rcases ho.2 with ⟨hv, hn⟩ | ⟨g, cap, cur, hv, hb, hg, _, _, hsz, hcur⟩
 ·
  exact .inl ⟨hv, hn⟩
 ·
  refine .inr ⟨g, cap, cur, hv, hb, hg, fun m hm => ⟨xs.getD m ByteArray.empty, ?_⟩⟩
  have e := encs_get (enc := Value.string) (d := ByteArray.empty) xs m hm
  rw [← hcur, List.getElem?_take] at e
  rw [if_pos (by omega)] at e
  simpa using e
/-- A row of stages that may be marked. -/
def StgRow (w : World) (base : Nat) (v : Value) (xs : List S34) : Prop := (v = .slice none 0 0 ∧ xs.length = 0) ∨ ∃ g cap cur, v = .slice (some ⟨g, 0, none⟩) xs.length cap ∧ base ≤ g ∧ w.heap[g]? = some (.cells cur 34 (0, 0)) ∧ ∀ (i : Nat) (h : i < xs.length), ∃ s a b A c, cur[i * 4]? = some (.string s) ∧ cur[i * 4 + 1]? = some (.int .i64 a) ∧ cur[i * 4 + 2]? = some (.int .i64 b) ∧ cur[i * 4 + 3]? = some (.slice A xs[i].f3.length c) ∧ StrRow w base (.slice A xs[i].f3.length c) xs[i].f3.length
theorem StgRow.marked {w w' : World} {base : Nat} {v : Value} {xs : List S34} (h : StgRow w base v xs) (k : Marked base w w') : StgRow w' base v xs := by
 rcases h with h | ⟨g, cap, cur, rfl, hb, hg, hs⟩
 ·
  exact .inl h
 ·
  have hlt := blk_lt hg
  rcases k.blk g hlt with k1 | ⟨_, c, c1, t, _, e0, e1, s1⟩
  ·
   refine .inr ⟨g, cap, cur, rfl, hb, k1.trans hg, fun i h => ?_⟩
   obtain ⟨s, a, b, A, c, q0, q1, q2, q3, q4⟩ := hs i h
   exact ⟨s, a, b, A, c, q0, q1, q2, q3, q4.marked k⟩
  ·
   rw [hg] at e0
   injection e0 with e0
   injection e0 with fa fb
   subst fa
   subst fb
   refine .inr ⟨g, cap, c1, rfl, hb, e1, fun i h => ?_⟩
   obtain ⟨s, a, b, A, c, q0, q1, q2, q3, q4⟩ := hs i h
   obtain ⟨v0, p0, t0⟩ := s1.2 _ _ q0
   obtain ⟨v1, p1, t1⟩ := s1.2 _ _ q1
   obtain ⟨v2, p2, t2⟩ := s1.2 _ _ q2
   obtain ⟨v3, p3, t3⟩ := s1.2 _ _ q3
   obtain ⟨s', rfl⟩ : ∃ s', v0 = .string s' := by
    rcases t0 with rfl | ⟨_, q', _, rfl⟩ | ⟨_, _, h, _⟩
    ·
     exact ⟨_, rfl⟩
    ·
     exact ⟨_, rfl⟩
    ·
     cases h
   obtain ⟨a', rfl⟩ : ∃ s', v1 = .int .i64 s' := by
    rcases t1 with rfl | ⟨_, _, h, _⟩ | ⟨_, q', _, rfl⟩
    ·
     exact ⟨_, rfl⟩
    ·
     cases h
    ·
     exact ⟨_, rfl⟩
   obtain ⟨b', rfl⟩ : ∃ s', v2 = .int .i64 s' := by
    rcases t2 with rfl | ⟨_, _, h, _⟩ | ⟨_, q', _, rfl⟩
    ·
     exact ⟨_, rfl⟩
    ·
     cases h
    ·
     exact ⟨_, rfl⟩
   obtain rfl : v3 = .slice A xs[i].f3.length c := by
    rcases t3 with rfl | ⟨_, _, h, _⟩ | ⟨_, _, h, _⟩
    ·
     rfl
    ·
     cases h
    ·
     cases h
   exact ⟨s', a', b', A, c, p0, p1, p2, p3, q4.marked k⟩
theorem StgRow.of_R {w : World} {base : Nat} {ok : Nat → Prop} {v : Value} {xs : List S34} (h : k34.R 34 w base ok v xs) : StgRow w base v xs := by
 obtain ⟨_, inner, ho, hr⟩ := h
 have hsz : k34.sz = 4 := rfl
 rcases ho.2 with ⟨hv, hn⟩ | ⟨g, cap, cur, hv, hb, hg, _, _, hcs, hcur⟩
 ·
  exact .inl ⟨hv, hn⟩
 ·
  refine .inr ⟨g, cap, cur, hv, hb, hg, fun i hi => ?_⟩
  have hp := hr.2 i xs[i] (List.getElem?_eq_getElem hi)
  obtain ⟨v3, hcs3, hR3⟩ := k34_openM hp
  obtain ⟨A, c, rfl⟩ := Kd.R_slice hR3
  rw [hsz] at hcs3 hcur
  have at_ : ∀ j, j < 4 → cur[i * 4 + j]? = ((inner.drop (i * 4)).take 4)[j]? := fun j hj => by
   rw [← hcur, List.getElem?_take, if_pos hj, List.getElem?_drop, List.getElem?_take, if_pos (by omega)]
   simp
  rw [hcs3] at at_
  exact ⟨xs[i].f0, xs[i].f1, xs[i].f2, A, c, at_ 0 (by omega), at_ 1 (by omega), at_ 2 (by omega), at_ 3 (by omega), StrRow.of_R hR3⟩
set_option maxHeartbeats 8000000 in
set_option maxRecDepth 100000 in
theorem markStr_in.calls (k : Nat) (A : Option Addr) (n cap : Nat) (a r : Int) (base : Nat) (w : World) (hs : StrRow w base (.slice A n cap) n) (hn : n ≤ 4611686018427387904) (h : mkS k n a = some r) :
  Calls Try.prog 65 #[.slice A n cap, .int .i64 a] w fun e w' => e = .returned (.int .i64 r) ∧ Marked base w w' := by
 have H0 := Aside0.mk h
 have HS := Aside0.mk hs
 have HN := Aside0.mk hn
 clear h hs hn
 go_enter Try.func65, Try.ntmps65
 go_wp2
 go_loopg [1, 5] n (fun gg s1 s5 wr => ∃ (kk : Nat) (a' : Int), s1 = .int .i64 a' ∧ s5 = .int .i64 kk ∧ Aside0 (kk ≤ n) ∧ Aside0 (n - kk ≤ gg) ∧ Aside0 (mkS k (n - kk) a' = some r) ∧ Aside0 (Marked base w wr))
 case atStart => exact ⟨0, a, rfl, rfl, ⟨Nat.zero_le _⟩, ⟨by omega⟩, ⟨H0.out⟩, ⟨Marked.refl _ _⟩⟩
 case round =>
  obtain ⟨kk, a', rfl, rfl, hkk, hg, hq, hM⟩ := hrel
  by_cases hlt : kk < n
  ·
   have hltz : decide ((kk : Int) < (n : Int)) = true := decide_eq_true (by omega)
   have hlt1 : ((kk : Int) < (n : Int)) = True := eq_true (by omega)
   rcases HS.out.marked hM.out with ⟨_, h0⟩ | ⟨g, cap', cur, hv, hb, hcur, hstr⟩
   ·
    omega
   ·
    injection hv with hA _ hC
    subst hA
    subst hC
    obtain ⟨s0, hs0⟩ := hstr kk hlt
    have hq2 := hq.out
    rw [show n - kk = (n - (kk + 1)) + 1 by omega] at hq2
    unfold mkS at hq2
    obtain ⟨s, hs1, hq2⟩ := Option.bind_eq_some_iff.1 hq2
    have HQ := Aside0.mk hq2
    have HC := Aside0.mk hcur
    have HZ := Aside0.mk hs0
    clear hq2 hstr hcur hs0
    have hcall := fun W => laws_markText.calls k a' s W hs1
    go_wp2_with (first | (go_at_call 64; refine (hcall _).mono ?_; rintro e w' ⟨rfl, hb'⟩; have hk1 := blk_below HC.out hb'; have hc1 : w'.cell? ⟨g, kk, none⟩ = some (.string s0) := (blk_cell hk1 kk).trans HZ.out; have hf1 := blk_frozen hk1 kk; have hM1 := hM.out.trans ((Marked.of_below hb').trans (Marked.setCell hk1 (.inl rfl) hb HZ.out (.inr (.inl ⟨s0, s, rfl, rfl⟩)))); have HM1 := Aside0.mk hM1; (try clear hM1); clear hk1))
    go_roundg (n - (kk + 1))
    case measure => have := hg.out; omega
    case rel => exact ⟨kk + 1, wrap64 (a' + 1), rfl, by rw [show wrap64 ((kk : Int) + 1) = ((kk + 1 : Nat) : Int) by have := HN.out; unfold wrap64; omega], ⟨by omega⟩, ⟨by omega⟩, HQ, HM1⟩
  ·
   have hltz : decide ((kk : Int) < (n : Int)) = false := decide_eq_false (by omega)
   go_wp2
   go_ret
   refine ⟨?_, hM.out⟩
   have := hq.out
   rw [show n - kk = 0 by omega] at this
   unfold mkS at this
   rw [← Option.some.inj this]
   rfl
theorem stg_write {base g : Nat} {W : World} {cur : Array Value} (hk1 : W.heap[g]? = some (.cells cur 34 (0, 0))) (hb : base ≤ g) {i : Nat} {s0 : ByteArray} {a0 b0 : Int} {x3 : Value} (q0 : cur[i]? = some (.string s0)) (q1 : cur[i + 1]? = some (.int .i64 a0)) (q2 : cur[i + 2]? = some (.int .i64 b0)) (q3 : cur[i + 3]? = some x3) (s : ByteArray) (a1 a2 : Int) :
  (W.cell? ⟨g, i, none⟩ = some (.string s0) ∧ W.frozen? ⟨g, i, none⟩ = false) ∧
  ((W.setCell ⟨g, i, none⟩ (.string s)).cell? ⟨g, i + 1, none⟩ = some (.int .i64 a0) ∧ (W.setCell ⟨g, i, none⟩ (.string s)).frozen? ⟨g, i + 1, none⟩ = false) ∧
  (((W.setCell ⟨g, i, none⟩ (.string s)).setCell ⟨g, i + 1, none⟩ (.int .i64 a1)).cell? ⟨g, i + 2, none⟩ = some (.int .i64 b0) ∧ ((W.setCell ⟨g, i, none⟩ (.string s)).setCell ⟨g, i + 1, none⟩ (.int .i64 a1)).frozen? ⟨g, i + 2, none⟩ = false) ∧
  (((W.setCell ⟨g, i, none⟩ (.string s)).setCell ⟨g, i + 1, none⟩ (.int .i64 a1)).setCell ⟨g, i + 2, none⟩ (.int .i64 a2)).cell? ⟨g, i + 3, none⟩ = some x3 ∧
  Marked base W (((W.setCell ⟨g, i, none⟩ (.string s)).setCell ⟨g, i + 1, none⟩ (.int .i64 a1)).setCell ⟨g, i + 2, none⟩ (.int .i64 a2)) := by
 have hk2 := blk_set hk1 i (.string s)
 have hk3 := blk_set hk2 (i + 1) (.int .i64 a1)
 have hk4 := blk_set hk3 (i + 2) (.int .i64 a2)
 have y1 : (cur.setIfInBounds i (.string s))[i + 1]? = some (.int .i64 a0) := by
  rw [Array.getElem?_setIfInBounds_ne (by omega)]
  exact q1
 have y2 : ((cur.setIfInBounds i (.string s)).setIfInBounds (i + 1) (.int .i64 a1))[i + 2]? = some (.int .i64 b0) := by
  rw [Array.getElem?_setIfInBounds_ne (by omega), Array.getElem?_setIfInBounds_ne (by omega)]
  exact q2
 have y3 : (((cur.setIfInBounds i (.string s)).setIfInBounds (i + 1) (.int .i64 a1)).setIfInBounds (i + 2) (.int .i64 a2))[i + 3]? = some x3 := by
  rw [Array.getElem?_setIfInBounds_ne (by omega), Array.getElem?_setIfInBounds_ne (by omega), Array.getElem?_setIfInBounds_ne (by omega)]
  exact q3
 exact ⟨⟨(blk_cell hk1 i).trans q0, blk_frozen hk1 i⟩, ⟨(blk_cell hk2 _).trans y1, blk_frozen hk2 _⟩, ⟨(blk_cell hk3 _).trans y2, blk_frozen hk3 _⟩, (blk_cell hk4 _).trans y3,
  ((Marked.setCell hk1 (.inr rfl) hb q0 (.inr (.inl ⟨s0, s, rfl, rfl⟩))).trans (Marked.setCell hk2 (.inr rfl) hb y1 (.inr (.inr ⟨a0, _, rfl, rfl⟩)))).trans (Marked.setCell hk3 (.inr rfl) hb y2 (.inr (.inr ⟨b0, _, rfl, rfl⟩)))⟩
theorem StgRow.shape {w : World} {base : Nat} {v : Value} {xs : List S34} (h : StgRow w base v xs) : ∃ A c, v = .slice A xs.length c := by
 rcases h with ⟨rfl, h0⟩ | ⟨g, cap, cur, rfl, _⟩
 ·
  exact ⟨none, 0, by rw [h0]⟩
 ·
  exact ⟨_, _, rfl⟩
set_option maxHeartbeats 8000000 in
set_option maxRecDepth 100000 in
theorem laws_markStageS.calls (k : Nat) (A0 : Option Addr) (c0 : Nat) (l0 : List S34) (a1 : Int) (r1 : Int) (w : World) (base : Nat) (hr0 : StgRow w base (.slice A0 l0.length c0) l0) (h0 : laws_markStageS.f k l0 a1 = some r1) :
  Calls Try.prog 25 #[.slice A0 l0.length c0, .int .i64 a1] w fun e w' => e = .returned (.int .i64 r1) ∧ Marked base w w' := by
 have hc0 : l0.length ≤ 4611686018427387904 ∧ ∀ x ∈ l0, x.f3.length ≤ 4611686018427387904 := by
  unfold laws_markStageS.f at h0
  split at h0
  ·
   rename_i hc
   simpa only [Bool.and_eq_true, decide_eq_true_eq, List.all_eq_true] using hc
  ·
   cases h0
 have h : mkG k l0 a1 = some r1 := by
  unfold laws_markStageS.f at h0
  split at h0
  ·
   exact h0
  ·
   cases h0
 clear h0
 have H0 := Aside0.mk h
 have HS := Aside0.mk hr0
 have HN := Aside0.mk hc0
 clear h hr0 hc0
 go_enter Try.func25, Try.ntmps25
 go_wp2
 go_loopg [1, 5] l0.length (fun gg s1 s5 wr => ∃ (kk : Nat) (a' : Int), s1 = .int .i64 a' ∧ s5 = .int .i64 kk ∧ Aside0 (kk ≤ l0.length) ∧ Aside0 (l0.length - kk ≤ gg) ∧ Aside0 (mkG k (l0.drop kk) a' = some r1) ∧ Aside0 (Marked base w wr))
 case atStart => exact ⟨0, a1, rfl, rfl, ⟨Nat.zero_le _⟩, ⟨by omega⟩, ⟨H0.out⟩, ⟨Marked.refl _ _⟩⟩
 case round =>
  obtain ⟨kk, a', rfl, rfl, hkk, hg, hq, hM⟩ := hrel
  by_cases hlt : kk < l0.length
  ·
   have hltz : decide ((kk : Int) < (l0.length : Int)) = true := decide_eq_true (by omega)
   have hlt1 : ((kk : Int) < (l0.length : Int)) = True := eq_true (by omega)
   have hsm := HN.out.2 l0[kk] (List.getElem_mem hlt)
   have hdrop := List.drop_eq_getElem_cons hlt
   rcases HS.out.marked hM.out with ⟨_, h0⟩ | ⟨g, cap', cur, hv, hb, hcur, hrow⟩
   ·
    omega
   ·
    injection hv with hA _ hC
    subst hA
    subst hC
    obtain ⟨s0, a0, b0, A3, c3, q0, q1, q2, q3, q4⟩ := hrow kk hlt
    have hq2 := hq.out
    rw [hdrop] at hq2
    unfold mkG at hq2
    obtain ⟨s, hs1, hq2⟩ := Option.bind_eq_some_iff.1 hq2
    obtain ⟨b, hs2, hq2⟩ := Option.bind_eq_some_iff.1 hq2
    generalize l0[kk].f3.length = n3 at q3 q4 hs2 hsm
    have HQ := Aside0.mk hq2
    have HC := Aside0.mk hcur
    have Z0 := Aside0.mk q0
    have Z1 := Aside0.mk q1
    have Z2 := Aside0.mk q2
    have Z3 := Aside0.mk q3
    have Z4 := Aside0.mk q4
    have HB := Aside0.mk hb
    have hcall := fun W => laws_markText.calls k a' s W hs1
    have hmark := fun W (hW : StrRow W base (.slice A3 n3 c3) n3) => markStr_in.calls k A3 n3 c3 _ b base W hW hsm hs2
    clear hq2 hrow hcur q0 q1 q2 q3 q4 hdrop hs1 hs2 hsm hb
    go_wp2_with (first | (go_at_call 64; refine (hcall _).mono ?_; rintro e w' ⟨rfl, hb'⟩; obtain ⟨⟨hc1, hf1⟩, ⟨hc2, hf2⟩, ⟨hc3, hf3⟩, hc4, hM⟩ := stg_write (blk_below HC.out hb') HB.out Z0.out Z1.out Z2.out Z3.out s (wrap64 (a' + 1)) (wrap64 (wrap64 (a' + 1) + 1)); have hM1 := Aside0.mk ((Marked.of_below (base := base) hb').trans hM); clear hM) | (go_at_call 65; refine (hmark _ (Z4.out.marked hM1.out)).mono ?_; rintro e w'' ⟨rfl, hM2⟩))
    go_roundg (l0.length - (kk + 1))
    case measure => have := hg.out; omega
    case rel => exact ⟨kk + 1, b, rfl, by rw [show wrap64 ((kk : Int) + 1) = ((kk + 1 : Nat) : Int) by have := HN.out.1; unfold wrap64; omega], ⟨by omega⟩, ⟨by omega⟩, HQ, ⟨hM.out.trans (hM1.out.trans hM2)⟩⟩
  ·
   have hltz : decide ((kk : Int) < (l0.length : Int)) = false := decide_eq_false (by omega)
   go_wp2
   go_ret
   refine ⟨?_, hM.out⟩
   have := hq.out
   rw [List.drop_eq_nil_of_le (by omega)] at this
   unfold mkG at this
   rw [← Option.some.inj this]
   rfl

theorem StgRow.of_S {w : World} {base : Nat} {ok : Nat → Prop} {v : Value} {xs : List S34} (h : Kd.S k34 34 w base ok v xs) : StgRow w base v xs := StgRow.of_R (Kd.S_R h)
/-- Rows of other types stay as they were told. -/
theorem marked_R {α : Type} {d : Kd α} {e : Nat} {w w1 : World} {base b : Nat} {ok : Nat → Prop} {v : Value} {xs : List α} (h : d.R e w base ok v xs) (hne : ∀ q, q ∈ e :: d.E → q ≠ 9 ∧ q ≠ 34) (hb : Marked b w w1) : d.R e w1 base ok v xs :=
 Kd.R_mono (Kd.R_move (Kd.R_bound h) (fun k hk => by
  obtain ⟨_, _, hlt, q, hq, cells, hc⟩ := hk
  rcases hb.blk k hlt with h1 | ⟨_, cur, cur', t, ht, e0, _, _⟩
  ·
   exact h1
  ·
   rw [hc] at e0
   injection e0 with e0
   injection e0 with _ e1
   subst e1
   exact absurd ht (by have := hne q hq; simp [this.1, this.2]))) (fun _ hk => hk.1)
/-- A row that has been marked is told no more. -/
theorem marked_gone {α : Type} {d : Kd α} {e : Nat} {w w1 : World} {base b : Nat} {ok : Nat → Prop} {v : Value} {xs : List α} (_ : Kd.S d e w base ok v xs) (_ : Marked b w w1) : Kd.S d e w1 base ok (.slice none 0 0) [] := Kd.S_nil _ _ _ _ _
theorem marked_below {b : Nat} {w0 w w1 : World} (h : Below b w0 w) (k : Marked b w w1) (hs : b ≤ w.heap.size) : Below b w0 w1 :=
 ⟨k.os.trans h.os, k.tape.trans h.tape, k.output.trans h.output, Nat.le_trans h.size k.size, fun i hi => by
  rcases k.blk i (Nat.lt_of_lt_of_le hi hs) with h1 | ⟨hb, _⟩
  ·
   exact h1.trans (h.block i hi)
  ·
   omega⟩
theorem marked_step {w0 w w1 : World} (h : Below w0.heap.size w0 w) (k : Marked w0.heap.size w w1) : Below w0.heap.size w0 w1 := marked_below h k h.size
theorem marked_ne {q : Nat} (h : q ∈ [2]) : q ≠ 9 ∧ q ≠ 34 := by
 simp only [List.mem_singleton] at h
 subst h
 decide

/-! ### laws_markInt64S: function 26 -/
def laws_markInt64S.l0 : Nat → List Int → Int → Int → Option (Int × List Int)
 | 0, _, _, _ => none
 | k + 1, x0, x1, x5 => if x5 < (x0.length : Int) then (if 0 ≤ x5 then (laws_markInt64S.l0 k (x0.set (x5 : Int).toNat x1) (wrap64 (x1 + 1)) (wrap64 (x5 + 1))) else (none)) else (some (x1, x0))
def laws_markInt64S.f (k : Nat) (l0 : List Int) (a1 : Int) : Option (Int × List Int) := laws_markInt64S.l0 k l0 a1 0
theorem laws_markInt64S.mono_l : ∀ k, (∀ y0 y1 y2, LeO (laws_markInt64S.l0 k y0 y1 y2) (laws_markInt64S.l0 (k + 1) y0 y1 y2))
 | 0 => fun _ _ _ r h => by simp [laws_markInt64S.l0] at h
 | k + 1 => by
  have ih0 := laws_markInt64S.mono_l k
  ·
   intro y0 y1 y2
   unfold laws_markInt64S.l0
   repeat' first
   | (with_reducible exact ih0 _ _ _)
   | (with_reducible exact LeO.refl _)
   | (with_reducible exact LeO.none _)
   | (with_reducible refine LeO.ite ?_ ?_)
   | (with_reducible refine LeO.bind ?_ (fun _ => ?_))
   | exact ih0 _ _ _
   | exact LeO.none _
   | refine LeO.ite ?_ ?_
   | refine LeO.bind ?_ (fun _ => ?_)
theorem laws_markInt64S.mono : ∀ a0 a1 k, LeO (laws_markInt64S.f k a0 a1) (laws_markInt64S.f (k + 1) a0 a1) := by
 intro a0 a1 k
 have ih0 := laws_markInt64S.mono_l k
 unfold laws_markInt64S.f
 repeat' first
   | (with_reducible exact ih0 _ _ _)
   | (with_reducible exact LeO.refl _)
   | (with_reducible exact LeO.none _)
   | (with_reducible refine LeO.ite ?_ ?_)
   | (with_reducible refine LeO.bind ?_ (fun _ => ?_))
   | exact ih0 _ _ _
   | exact LeO.none _
   | refine LeO.ite ?_ ?_
   | refine LeO.bind ?_ (fun _ => ?_)
set_option maxHeartbeats 8000000 in
set_option maxRecDepth 100000 in
theorem laws_markInt64S.calls (k : Nat) (P0_ : Nat → Prop) (u9000_ : Value) (l0 : List Int) (a1 : Int) (r1 : Int) (r2 : List Int) (w0 w : World) (hB : Below w0.heap.size w0 w) (ho0 : Kd.R (Kd.int .i64) 2 w w0.heap.size P0_ u9000_ l0) (h : laws_markInt64S.f k l0 a1 = some (r1, r2)) :
  Calls Try.prog 26 #[u9000_, .int .i64 a1] w fun e w' => e = .returned (.int .i64 r1) ∧ Kd.R (Kd.int .i64) 2 w' w0.heap.size (fun k_ => (P0_ k_ ∨ w.heap.size ≤ k_)) u9000_ r2 ∧ Below w0.heap.size w0 w' ∧ Kept w w' (fun k_ => P0_ k_) := by
 have HO0 := Aside0.mk (show Kd.R (Kd.int .i64) 2 w w0.heap.size (fun k_ => (P0_ k_ ∨ w.heap.size ≤ k_)) u9000_ l0 from Kd.R_mono ho0 (fun k_ hk => (.inl hk)))
 have HK := Aside0.mk (Kept.refl w (fun k_ => P0_ k_))
 have HW0 := Aside0.mk hB.size
 have HB := Aside0.mk hB
 clear hB
 have H : (laws_markInt64S.l0 k l0 a1 0) = some (r1, r2) := h
 clear h
 have H' := Aside0.mk H
 clear H
 go_enter Try.func26, Try.ntmps26
 go_wp2
 go_loopg [1, 5] k (fun kq v1 v5 w' => ∃ (x0_1 : List Int) (x1_1 : Int) (x5_1 : Int), v1 = .int .i64 x1_1 ∧ v5 = .int .i64 x5_1 ∧ Aside0 (laws_markInt64S.l0 kq x0_1 x1_1 x5_1 = some (r1, r2)) ∧ Aside0 (kq ≤ k) ∧ Aside0 (Kd.R (Kd.int .i64) 2 w' w0.heap.size (fun k_ => (P0_ k_ ∨ w.heap.size ≤ k_)) u9000_ x0_1) ∧ Aside0 (Kept w w' (fun k_ => P0_ k_)) ∧ Aside0 (Below w0.heap.size w0 w'))
 case atStart => exact ⟨(l0), (a1), (0), (by first | rfl | (simp; done) | (simp [*]; done)), (by first | rfl | (simp; done) | (simp [*]; done)), H', ⟨Nat.le_refl _⟩, ⟨by (with_reducible repeat (first | apply Kd.R_alloc | apply Kd.R_drewN | apply Kd.R_drew)); exact HO0.out⟩, ⟨by repeat (first | (with_reducible first | exact HK.out | apply Kept.alloc | apply Kept.drewN | apply Kept.drew) | exact HK.out)⟩, ⟨by repeat (first | (with_reducible first | exact HB.out | apply below_alloc | apply pw_below_drewN | apply below_drew1) | exact HB.out)⟩⟩
 case round =>
  clear H'
  try clear c2
  try clear p2
  obtain ⟨x0_1, x1_1, x5_1, rfl, rfl, HA, HK1, HO_0, HK, HB⟩ := hrel
  cases gk with
  | zero => exact absurd HA.out (by simp [laws_markInt64S.l0])
  | succ k1 =>
   have H := HA.out
   clear HA
   simp only [laws_markInt64S.l0] at H
   by_cases c3 : x5_1 < (x0_1.length : Int)
   ·
    rw [if_pos c3] at H
    have c3b0 : decide (x5_1 < (x0_1.length : Int)) = true := decide_eq_true c3
    clear c3
    by_cases c4 : 0 ≤ x5_1
    ·
     rw [if_pos c4] at H
     have c4b0 : decide (0 ≤ x5_1) = true := decide_eq_true c4
     clear c4
     obtain ⟨y226, hy226⟩ : ∃ y_ : List Int, y_ = (x0_1.set (x5_1 : Int).toNat x1_1) := ⟨_, rfl⟩
     replace H : (laws_markInt64S.l0 k1 y226 (wrap64 (x1_1 + 1)) (wrap64 (x5_1 + 1))) = some (r1, r2) := by first | (rw [hy226]; with_reducible exact H) | (have H2_ := (Option.bind_some _ _).symm.trans H; rw [hy226]; with_reducible exact H2_) | (have H2_ := (Option.bind_some _ _).symm.trans H; with_reducible exact H2_) | with_reducible exact H | (rw [hy226]; exact H) | exact H
     have Ny226 := Aside0.mk hy226
     clear hy226
     have H' := Aside0.mk H
     clear H
     obtain ⟨Ao6, co6, eo6⟩ := Kd.R_slice HO_0.out
     subst eo6
     have p5 : 0 ≤ (x5_1 : Int) := of_decide_eq_true (by first | (with_reducible assumption) | assumption)
     have q5 : (x5_1 : Int) < ((x0_1.length : Int) : Int) := of_decide_eq_true (by first | (with_reducible assumption) | assumption)
     obtain ⟨go5, co5, eo5, gb5, gl5, cl5, HG5⟩ := Kd.R_form HO_0.out (by omega)
     (first | cases eo5 | (injection eo5 with ea_ en_ ec_; (first | subst ea_ | (injection ea_ with ea_; subst ea_)); subst ec_; clear en_))
     have GB5 := Aside0.mk gb5
     have GG5 := Aside0.mk HG5
     clear gb5 gl5 HG5
     have HMgo5 := Aside0.mk (show (P0_ go5 ∨ w.heap.size ≤ go5) from (HO_0.out.1 _ rfl))
     obtain ⟨hx5_0, hf5_0⟩ := Kd.R_celln 0 HO_0.out (x5_1 : Int) p5 q5
     replace p5 := eq_true p5
     replace q5 := eq_true q5
     have HP7 := Kd.R_putg HO_0.out (x5_1 : Int) x1_1
     go_wp2_with (first | ((with_reducible refine gate_store (t := 2) (p := 15) rfl ?_); refine store_event (t := 2) (p := 15) (v := ?vo_w8) (w1 := (wr.setCell ⟨go5, (x5_1 : Int).toNat, none⟩ (.int .i64 x1_1))) ?hg ?ho ?hn ?hr ?_; (case ho => rfl); (case hg => rfl); (case hn => rfl); (case hr => first | (go_simp; done) | (go_simp; rfl)); intro w8 hw; have hg : wr.grownBy w8 (some go5) := (by rw [hw]; exact HP7.2); have hp_ : Kd.R (Kd.int .i64) 2 w8 w0.heap.size (fun k_ => (P0_ k_ ∨ w.heap.size ≤ k_)) (.slice (some ⟨go5, 0, none⟩) x0_1.length co6) y226 := (by rw [hw, Ny226.out]; exact HP7.1); clear HP7; have n0_ := Aside0.mk (hp_); have n1_ := Aside0.mk ((by rw [hw]; exact below_set (HB.out) GB5.out : Below w0.heap.size w0 w8)); have n2_ := Aside0.mk (Kept.of_grown (S := (fun k_ => P0_ k_)) hg (by repeat (first | (with_reducible first | exact HK.out | apply Kept.alloc | apply Kept.drewN | apply Kept.drew) | exact HK.out)) (fun k_ e_ => (HO_0.out.1 k_ e_))); clear HO_0; clear HB; clear HK; have HO_0 := n0_; have HB := n1_; have HK := n2_; clear n0_ n1_ n2_; clear hg hw hp_))
     go_roundg k1
     case measure => have := HK1.out; omega
     case rel => exact ⟨(y226), (wrap64 (x1_1 + 1)), (wrap64 (x5_1 + 1)), (by first | rfl | (simp; done) | (simp [*]; done)), (by first | rfl | (simp; done) | (simp [*]; done)), H', ⟨by have := HK1.out; omega⟩, ⟨by (with_reducible repeat (first | apply Kd.R_alloc | apply Kd.R_drewN | apply Kd.R_drew)); exact HO_0.out⟩, ⟨by repeat (first | (with_reducible first | exact HK.out | apply Kept.alloc | apply Kept.drewN | apply Kept.drew) | exact HK.out)⟩, ⟨by repeat (first | (with_reducible first | exact HB.out | apply below_alloc | apply pw_below_drewN | apply below_drew1) | exact HB.out)⟩⟩
    ·
     rw [if_neg c4] at H
     exact absurd H (by simp)
   ·
    rw [if_neg c3] at H
    have c3b0 : decide (x5_1 < (x0_1.length : Int)) = false := decide_eq_false c3
    clear c3
    simp only [Option.some.injEq, Prod.mk.injEq] at H
    obtain ⟨rfl, rfl⟩ := H
    obtain ⟨Ao9, co9, eo9⟩ := Kd.R_slice HO_0.out
    subst eo9
    go_wp2
    go_ret
    exact ⟨by first | rfl | (simp [errW_none, errW_some] <;> rfl) | (simp [*, errW_none, errW_some] <;> rfl), by (with_reducible repeat (first | apply Kd.R_alloc | apply Kd.R_drewN | apply Kd.R_drew)); exact HO_0.out, by repeat (first | (with_reducible first | exact HB.out | apply below_alloc | apply pw_below_drewN | apply below_drew1) | exact HB.out), by repeat (first | (with_reducible first | exact HK.out | apply Kept.alloc | apply Kept.drewN | apply Kept.drew) | exact HK.out)⟩

/-! ### laws_heldInt64S: function 27 -/
def laws_heldInt64S.l0 : Nat → List Int → Int → Int → Option (Int)
 | 0, _, _, _ => none
 | k + 1, x0, x1, x5 => if x5 < (x0.length : Int) then (if 0 ≤ x5 then (if (rd x0 x5) = x1 then (laws_heldInt64S.l0 k x0 (wrap64 (x1 + 1)) (wrap64 (x5 + 1))) else (some (-1))) else (none)) else (some x1)
def laws_heldInt64S.f (k : Nat) (l0 : List Int) (a1 : Int) : Option (Int) := laws_heldInt64S.l0 k l0 a1 0
theorem laws_heldInt64S.mono_l : ∀ k, (∀ y0 y1 y2, LeO (laws_heldInt64S.l0 k y0 y1 y2) (laws_heldInt64S.l0 (k + 1) y0 y1 y2))
 | 0 => fun _ _ _ r h => by simp [laws_heldInt64S.l0] at h
 | k + 1 => by
  have ih0 := laws_heldInt64S.mono_l k
  ·
   intro y0 y1 y2
   unfold laws_heldInt64S.l0
   repeat' first
   | (with_reducible exact ih0 _ _ _)
   | (with_reducible exact LeO.refl _)
   | (with_reducible exact LeO.none _)
   | (with_reducible refine LeO.ite ?_ ?_)
   | (with_reducible refine LeO.bind ?_ (fun _ => ?_))
   | exact ih0 _ _ _
   | exact LeO.none _
   | refine LeO.ite ?_ ?_
   | refine LeO.bind ?_ (fun _ => ?_)
theorem laws_heldInt64S.mono : ∀ a0 a1 k, LeO (laws_heldInt64S.f k a0 a1) (laws_heldInt64S.f (k + 1) a0 a1) := by
 intro a0 a1 k
 have ih0 := laws_heldInt64S.mono_l k
 unfold laws_heldInt64S.f
 repeat' first
   | (with_reducible exact ih0 _ _ _)
   | (with_reducible exact LeO.refl _)
   | (with_reducible exact LeO.none _)
   | (with_reducible refine LeO.ite ?_ ?_)
   | (with_reducible refine LeO.bind ?_ (fun _ => ?_))
   | exact ih0 _ _ _
   | exact LeO.none _
   | refine LeO.ite ?_ ?_
   | refine LeO.bind ?_ (fun _ => ?_)
set_option maxHeartbeats 8000000 in
set_option maxRecDepth 100000 in
theorem laws_heldInt64S.calls (k : Nat) (A0 : Option Addr) (c0 : Nat) (l0 : List Int) (a1 : Int) (r : Int) (w : World) (hr0 : Kd.C (Kd.int .i64) w A0 l0.length l0) (hc0 : l0.length ≤ c0) (h : laws_heldInt64S.f k l0 a1 = some r) :
  Calls Try.prog 27 #[.slice A0 l0.length c0, .int .i64 a1] w fun e w' => e = .returned (.int .i64 r) ∧ Drawn0 w w' := by
 have HR0 := Aside0.mk hr0
 have HC0 := Aside0.mk hc0
 clear hr0 hc0
 have H : (laws_heldInt64S.l0 k l0 a1 0) = some r := h
 clear h
 have H' := Aside0.mk H
 clear H
 go_enter Try.func27, Try.ntmps27
 go_wp2
 go_loopg [1, 5] k (fun kq v1 v5 w' => ∃ (x1_1 : Int) (x5_1 : Int), v1 = .int .i64 x1_1 ∧ v5 = .int .i64 x5_1 ∧ Aside0 (laws_heldInt64S.l0 kq l0 x1_1 x5_1 = some r) ∧ Aside0 (kq ≤ k) ∧ Drawn0 w w')
 case atStart => exact ⟨(a1), (0), (by first | rfl | (simp; done) | (simp [*]; done)), (by first | rfl | (simp; done) | (simp [*]; done)), H', ⟨Nat.le_refl _⟩, by repeat (first | exact Drawn0.refl _ | apply Drawn0.step)⟩
 case round =>
  clear H'
  try clear c2
  try clear p2
  obtain ⟨x1_1, x5_1, rfl, rfl, HA, HK1, ⟨m1, rfl⟩⟩ := hrel
  cases gk with
  | zero => exact absurd HA.out (by simp [laws_heldInt64S.l0])
  | succ k1 =>
   have H := HA.out
   clear HA
   simp only [laws_heldInt64S.l0] at H
   by_cases c3 : x5_1 < (l0.length : Int)
   ·
    rw [if_pos c3] at H
    have c3b0 : decide (x5_1 < (l0.length : Int)) = true := decide_eq_true c3
    clear c3
    by_cases c4 : 0 ≤ x5_1
    ·
     rw [if_pos c4] at H
     have c4b0 : decide (0 ≤ x5_1) = true := decide_eq_true c4
     clear c4
     by_cases c5 : (rd l0 x5_1) = x1_1
     ·
      rw [if_pos c5] at H
      have c5b0 : ((rd l0 x5_1) == x1_1) = true := beq_iff_eq.mpr c5
      have c5b1 : ((rd l0 x5_1) != x1_1) = false := bne_eq_false_iff_eq.mpr c5
      clear c5
      have H' := Aside0.mk H
      clear H
      have p227 : 0 ≤ (x5_1 : Int) := of_decide_eq_true (by first | (with_reducible assumption) | assumption)
      have q227 : x5_1 < (l0.length : Int) := of_decide_eq_true (by first | (with_reducible assumption) | assumption)
      obtain ⟨ad227, e227, hx227_0⟩ := Kd.at_int HR0.out x5_1 p227 q227
      cases e227
      replace p227 := eq_true p227
      replace q227 := eq_true q227
      go_wp2
      go_roundg k1
      case measure => have := HK1.out; omega
      case rel => exact ⟨(wrap64 (x1_1 + 1)), (wrap64 (x5_1 + 1)), (by first | rfl | (simp; done) | (simp [*]; done)), (by first | rfl | (simp; done) | (simp [*]; done)), H', ⟨by have := HK1.out; omega⟩, by repeat (first | exact Drawn0.refl _ | apply Drawn0.step)⟩
     ·
      rw [if_neg c5] at H
      have c5b0 : ((rd l0 x5_1) == x1_1) = false := beq_eq_false_iff_ne.mpr c5
      have c5b1 : ((rd l0 x5_1) != x1_1) = true := bne_iff_ne.mpr c5
      obtain rfl := Option.some.inj H
      have p227 : 0 ≤ (x5_1 : Int) := of_decide_eq_true (by first | (with_reducible assumption) | assumption)
      have q227 : x5_1 < (l0.length : Int) := of_decide_eq_true (by first | (with_reducible assumption) | assumption)
      obtain ⟨ad227, e227, hx227_0⟩ := Kd.at_int HR0.out x5_1 p227 q227
      cases e227
      replace p227 := eq_true p227
      replace q227 := eq_true q227
      go_wp2
      go_ret
      exact ⟨by first | rfl | (simp; done) | (simp [*]; done), by repeat (first | exact Drawn0.refl _ | apply Drawn0.step)⟩
    ·
     rw [if_neg c4] at H
     exact absurd H (by simp)
   ·
    rw [if_neg c3] at H
    have c3b0 : decide (x5_1 < (l0.length : Int)) = false := decide_eq_false c3
    clear c3
    obtain rfl := Option.some.inj H
    go_wp2
    go_ret
    exact ⟨by first | rfl | (simp; done) | (simp [*]; done), by repeat (first | exact Drawn0.refl _ | apply Drawn0.step)⟩

end Go.Proofs.Ytmbiapefigcgnaa.PFnExactBestPlan
