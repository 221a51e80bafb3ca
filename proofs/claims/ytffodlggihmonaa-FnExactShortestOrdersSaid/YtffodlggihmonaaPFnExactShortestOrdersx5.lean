-- written by a program of this session (mkp.py) out of the translation; Lean checks it. -- slim
import Derived.Laws.CopyOwn
import Derived.Shelf.Abstract
import Derived.Deep.RegionLaw
import Derived.Test.YtffodlggihmonaaPFnExactShortestOrdersx0
import Derived.Test.YtffodlggihmonaaPFnExactShortestOrdersx4
namespace Go.Proofs.Ytffodlggihmonaa.PFnExactShortestOrders
open Go.RowKit Go.Proofs.YtffodlggihmonaaW.PrintWords Go.Proofs.YtffodlggihmonaaW.PrintLast Go.Proofs.YtffodlggihmonaaW.PrintMore
attribute [local go_sem] bin_leq bin_gtr bin_geq max2_int min2_int max_two min_two max_three min_three max_four min_four   -- for this text's walks alone
set_option linter.unusedVariables false
set_option linter.unusedSimpArgs false

/-! ### impl_switches_allowed: function 27 -/
/-- The first place, from i on, of which p holds; -1. -/
def idxFrom_46 (p : S46 → Bool) (xs : List S46) (i : Nat) : Int := if h : i < xs.length then (if p xs[i] = true then (i : Int) else idxFrom_46 p xs (i + 1)) else -1
termination_by xs.length - i
set_option maxHeartbeats 4000000 in
theorem idx_46.calls (g : Nat) (pre lb : Array Value) (p : S46 → Bool) (A0 : Option Addr) (c0 : Nat) (l0 : List S46) (w : World) (hr0 : Kd.C k46 w A0 l0.length l0)
  (eg : ∀ args w, (callFunc g args).run Try.prog w = .ok (.enter g args) w)
  (hp : ∀ (W : World) (x : S46) , x ∈ l0 →  Below w.heap.size w W → Calls Try.prog g (pre ++ #[.agg #[.int .i64 x.f0, .int .i64 x.f1, .int .i64 x.f2]] ++ lb) W fun e w' => e = .returned (.bool (p x)) ∧ Below w.heap.size w w') :
  Calls Try.prog 39 #[.slice A0 l0.length c0, .func (.func g) pre lb] w fun e w' => e = .returned (.int .i64 (idxFrom_46 p l0 0)) ∧ Below w.heap.size w w' := by
 have hn : l0.length ≤ 9223372036854775807 := by have := hr0.2.1; omega
 have HR0 := Aside0.mk hr0
 have HP := Aside0.mk hp
 have HN := Aside0.mk hn
 clear hr0 hp hn
 go_enter Try.func39, Try.ntmps39
 go_wp2
 go_loopg [5, 8] l0.length (fun gg _ s8 wr => ∃ kk : Nat, s8 = .int .i64 kk ∧ Aside0 (kk ≤ l0.length) ∧ Aside0 (l0.length - kk ≤ gg) ∧ Aside0 (idxFrom_46 p l0 0 = idxFrom_46 p l0 kk) ∧ Aside0 (Below w.heap.size w wr))
 case atStart => exact ⟨0, rfl, ⟨Nat.zero_le _⟩, ⟨by omega⟩, ⟨rfl⟩, ⟨Below.refl _ w⟩⟩
 case round =>
  obtain ⟨kk, rfl, hkk, hg, hq, hb⟩ := hrel
  by_cases hlt : kk < l0.length
  ·
   have hltz : decide ((kk : Int) < (l0.length : Int)) = true := decide_eq_true (by omega)
   obtain ⟨ad, e, hx0, hx1, hx2⟩ := at_T46 HR0.out (kk : Int) (by omega) (by omega)
   cases e
   have hxx : rd_T46 l0 (kk : Int) = l0[kk] := by unfold rd_T46; simp [List.getD_eq_getElem?_getD, hlt]
   rw [hxx, Int.toNat_natCast] at hx0
   replace hx0 := (hb.out.cell (World.block_lt_of_cell? w _ hx0)).trans hx0
   rw [hxx, Int.toNat_natCast] at hx1
   replace hx1 := (hb.out.cell (World.block_lt_of_cell? w _ hx1)).trans hx1
   rw [hxx, Int.toNat_natCast] at hx2
   replace hx2 := (hb.out.cell (World.block_lt_of_cell? w _ hx2)).trans hx2
   have hcall := HP.out wr l0[kk]  (List.getElem_mem hlt)  hb.out
   have hq2 := hq.out
   rw [show idxFrom_46 p l0 kk = if p l0[kk] = true then (kk : Int) else idxFrom_46 p l0 (kk + 1) by rw [idxFrom_46, dif_pos hlt]] at hq2
   clear hxx
   generalize hx : l0[kk] = x at hx0 hx1 hx2 hcall hq2
   clear hx
   cases hc : p x with
   | true =>
    rw [hc] at hcall hq2
    have hq3 := Aside0.mk hq2
    clear hq2 hc
    go_wp2_with (go_at_fn g; refine hcall.mono ?_; rintro e w' ⟨rfl, hb'⟩)
    go_ret
    refine ⟨?_, hb'⟩
    rw [hq3.out]; rfl
   | false =>
    rw [hc] at hcall hq2
    have hq3 := Aside0.mk hq2
    clear hq2 hc
    go_wp2_with (go_at_fn g; refine hcall.mono ?_; rintro e w' ⟨rfl, hb'⟩)
    go_roundg (l0.length - (kk + 1))
    case measure => have := hg.out; omega
    case rel => exact ⟨kk + 1, by rw [show wrap64 ((kk : Int) + 1) = ((kk + 1 : Nat) : Int) by have := HN.out; unfold wrap64; omega], ⟨by omega⟩, ⟨by omega⟩, ⟨by rw [hq3.out]; rfl⟩, ⟨hb'⟩⟩
  ·
   have hltz : decide ((kk : Int) < (l0.length : Int)) = false := decide_eq_false (by omega)
   go_wp2
   go_ret
   refine ⟨?_, hb.out⟩
   rw [hq.out, idxFrom_46, dif_neg hlt]
   rfl
theorem idxFrom_46_any (p : S46 → Bool) (xs : List S46) (i : Nat) : decide (0 ≤ idxFrom_46 p xs i) = (xs.drop i).any p := by
 rw [idxFrom_46]
 by_cases h : i < xs.length
 ·
  rw [dif_pos h, List.drop_eq_getElem_cons h, List.any_cons]
  cases c : p xs[i] with
  | true => simp
  | false =>
   rw [if_neg (by simp), idxFrom_46_any p xs (i + 1), Bool.false_or]
 ·
  rw [dif_neg h, List.drop_eq_nil_of_le (by omega)]; rfl
termination_by xs.length - i
set_option maxHeartbeats 2000000 in
theorem has_46.calls (g : Nat) (pre lb : Array Value) (p : S46 → Bool) (A0 : Option Addr) (c0 : Nat) (l0 : List S46) (w : World) (hr0 : Kd.C k46 w A0 l0.length l0)
  (eg : ∀ args w, (callFunc g args).run Try.prog w = .ok (.enter g args) w)
  (hp : ∀ (W : World) (x : S46) , x ∈ l0 →  Below w.heap.size w W → Calls Try.prog g (pre ++ #[.agg #[.int .i64 x.f0, .int .i64 x.f1, .int .i64 x.f2]] ++ lb) W fun e w' => e = .returned (.bool (p x)) ∧ Below w.heap.size w w') :
  Calls Try.prog 36 #[.slice A0 l0.length c0, .func (.func g) pre lb] w fun e w' => e = .returned (.bool (l0.any p)) ∧ Below w.heap.size w w' := by
 have hcall := idx_46.calls g pre lb p A0 c0 l0 w hr0 eg hp
 rw [show l0.any p = decide (0 ≤ idxFrom_46 p l0 0) by rw [idxFrom_46_any]; rfl]
 clear hr0 hp
 go_enter Try.func36, Try.ntmps36
 go_wp2_with (go_at_call 39; refine hcall.mono ?_; rintro e w' ⟨rfl, hb'⟩)
 go_ret
 exact ⟨rfl, hb'⟩

def impl_switches_allowed.f (a0 : Int) (l1 : List S46) : Option Bool := if l1.all (fun x => (impl_switches_breaks.f a0 x.f0 x.f1 x.f2).isSome) = true then some (!(l1.any fun x => (impl_switches_breaks.f a0 x.f0 x.f1 x.f2).getD false)) else none
set_option maxHeartbeats 2000000 in
theorem impl_switches_allowed.calls (a0 : Int) (A1 : Option Addr) (c1 : Nat) (l1 : List (S46)) (r : Bool) (w : World) (hr1 : Kd.C k46 w A1 l1.length l1) (hc1 : l1.length ≤ c1) (h : impl_switches_allowed.f a0 l1 = some r) :
  Calls Try.prog 27 #[.int .i64 a0, .slice A1 l1.length c1] w fun e w' => e = .returned (.bool r) ∧ Below w.heap.size w w' := by
 unfold impl_switches_allowed.f at h
 by_cases c : l1.all (fun x => (impl_switches_breaks.f a0 x.f0 x.f1 x.f2).isSome) = true
 ·
  rw [if_pos c] at h
  have h := Option.some.inj h
  have hr : (!r) = l1.any fun x => (impl_switches_breaks.f a0 x.f0 x.f1 x.f2).getD false := by rw [← h, Bool.not_not]
  rw [List.all_eq_true] at c
  have hcall := has_46.calls 37 #[.int .i64 a0] #[] _ A1 c1 l1 w hr1 (enters_ Try.func37 (by kernel_rfl) rfl) (fun W x hx hb => by
   obtain ⟨b, hb1⟩ := Option.isSome_iff_exists.1 (c x hx)
   have := impl_switches_breaks.calls a0 x.f0 x.f1 x.f2 b W hb1
   rw [show b = (impl_switches_breaks.f a0 x.f0 x.f1 x.f2).getD false by rw [hb1]; rfl] at this
   exact this.mono fun e w' ⟨he, hb'⟩ => ⟨he, below_then hb hb.size hb'⟩)
  rw [← hr] at hcall
  clear hr h c hr1
  go_enter Try.func27, Try.ntmps27
  go_wp2_with (go_at_call 36; refine hcall.mono ?_; rintro e w' ⟨rfl, hb'⟩)
  go_ret
  exact ⟨by simp, hb'⟩
 ·
  rw [if_neg c] at h
  cases h

/-! ### bits_Mul32: function 40 -/
def bits_Mul32.f (a0 : Int) (a1 : Int) : Option (Int × Int) := some (((IntKind.u64.wrap ((IntKind.u64.wrap (a0)) * (IntKind.u64.wrap (a1)))) / 4294967296) % 4294967296, (IntKind.u64.wrap ((IntKind.u64.wrap (a0)) * (IntKind.u64.wrap (a1)))) % 4294967296)
set_option maxHeartbeats 8000000 in
set_option maxRecDepth 100000 in
theorem bits_Mul32.calls (a0 : Int) (a1 : Int) (r1 : Int) (r2 : Int) (w : World) (h : bits_Mul32.f a0 a1 = some (r1, r2)) :
  Calls Try.prog 40 #[.int .u32 a0, .int .u32 a1] w fun e w' => e = .returned (.tuple #[.int .u32 r1, .int .u32 r2]) ∧ Drawn0 w w' := by
 have H : (some (((IntKind.u64.wrap ((IntKind.u64.wrap (a0)) * (IntKind.u64.wrap (a1)))) / 4294967296) % 4294967296, (IntKind.u64.wrap ((IntKind.u64.wrap (a0)) * (IntKind.u64.wrap (a1)))) % 4294967296)) = some (r1, r2) := h
 clear h
 simp only [Option.some.injEq, Prod.mk.injEq] at H
 obtain ⟨rfl, rfl⟩ := H
 go_enter Try.func40, Try.ntmps40
 go_wp2
 go_ret2
 exact ⟨by first | rfl | (simp; done) | (simp [*]; done), by repeat (first | exact Drawn0.refl _ | apply Drawn0.step)⟩

/-! ### bits_Mul64: function 41 -/
def bits_Mul64.f (a0 : Int) (a1 : Int) : Option (Int × Int) := some (IntKind.u64.wrap ((IntKind.u64.wrap ((IntKind.u64.wrap ((a0 / 4294967296) * (a1 / 4294967296))) + ((IntKind.u64.wrap ((IntKind.u64.wrap ((a0 / 4294967296) * (Go.bits .and .u64 a1 4294967295))) + ((IntKind.u64.wrap ((Go.bits .and .u64 a0 4294967295) * (Go.bits .and .u64 a1 4294967295))) / 4294967296))) / 4294967296))) + ((IntKind.u64.wrap ((Go.bits .and .u64 (IntKind.u64.wrap ((IntKind.u64.wrap ((a0 / 4294967296) * (Go.bits .and .u64 a1 4294967295))) + ((IntKind.u64.wrap ((Go.bits .and .u64 a0 4294967295) * (Go.bits .and .u64 a1 4294967295))) / 4294967296))) 4294967295) + (IntKind.u64.wrap ((Go.bits .and .u64 a0 4294967295) * (a1 / 4294967296))))) / 4294967296)), IntKind.u64.wrap (a0 * a1))
set_option maxHeartbeats 8000000 in
set_option maxRecDepth 100000 in
theorem bits_Mul64.calls (a0 : Int) (a1 : Int) (r1 : Int) (r2 : Int) (w : World) (h : bits_Mul64.f a0 a1 = some (r1, r2)) :
  Calls Try.prog 41 #[.int .u64 a0, .int .u64 a1] w fun e w' => e = .returned (.tuple #[.int .u64 r1, .int .u64 r2]) ∧ Drawn0 w w' := by
 have H : (some (IntKind.u64.wrap ((IntKind.u64.wrap ((IntKind.u64.wrap ((a0 / 4294967296) * (a1 / 4294967296))) + ((IntKind.u64.wrap ((IntKind.u64.wrap ((a0 / 4294967296) * (Go.bits .and .u64 a1 4294967295))) + ((IntKind.u64.wrap ((Go.bits .and .u64 a0 4294967295) * (Go.bits .and .u64 a1 4294967295))) / 4294967296))) / 4294967296))) + ((IntKind.u64.wrap ((Go.bits .and .u64 (IntKind.u64.wrap ((IntKind.u64.wrap ((a0 / 4294967296) * (Go.bits .and .u64 a1 4294967295))) + ((IntKind.u64.wrap ((Go.bits .and .u64 a0 4294967295) * (Go.bits .and .u64 a1 4294967295))) / 4294967296))) 4294967295) + (IntKind.u64.wrap ((Go.bits .and .u64 a0 4294967295) * (a1 / 4294967296))))) / 4294967296)), IntKind.u64.wrap (a0 * a1))) = some (r1, r2) := h
 clear h
 simp only [Option.some.injEq, Prod.mk.injEq] at H
 obtain ⟨rfl, rfl⟩ := H
 go_enter Try.func41, Try.ntmps41
 go_wp2
 go_ret2
 exact ⟨by first | rfl | (simp; done) | (simp [*]; done), by repeat (first | exact Drawn0.refl _ | apply Drawn0.step)⟩

/-! ### bits_Mul: function 38 -/
def bits_Mul.f (a0 : Int) (a1 : Int) : Option (Int × Int) := (bits_Mul64.f a0 a1).bind fun bt211 => (some (bt211.1, bt211.2))
set_option maxHeartbeats 8000000 in
set_option maxRecDepth 100000 in
theorem bits_Mul.calls (a0 : Int) (a1 : Int) (r1 : Int) (r2 : Int) (w : World) (h : bits_Mul.f a0 a1 = some (r1, r2)) :
  Calls Try.prog 38 #[.int .u64 a0, .int .u64 a1] w fun e w' => e = .returned (.tuple #[.int .u64 r1, .int .u64 r2]) ∧ Drawn0 w w' := by
 have H : ((bits_Mul64.f a0 a1).bind fun bt211 => (some (bt211.1, bt211.2))) = some (r1, r2) := h
 clear h
 replace H := Option.bind_eq_some_iff.mp H
 obtain ⟨⟨t211, t212⟩, A30, H⟩ := H
 replace H : (some (t211, t212)) = some (r1, r2) := H
 have A3 := Aside0.mk A30
 clear A30
 simp only [Option.some.injEq, Prod.mk.injEq] at H
 obtain ⟨rfl, rfl⟩ := H
 go_enter Try.func38, Try.ntmps38
 go_wp2_with (first | ((with_reducible refine gate_callee (f := 41) rfl ?_); refine goesL_ (some 25) rfl rfl Try.func41 (by kernel_rfl) rfl #[.int .u64 a0, .int .u64 a1] rfl (by (try simp only [List.map_toArray, List.map_cons, List.map_nil]); first | done | rfl | (simp only [List.length_drop, List.length_take]; rfl)) ?_; (with_reducible refine (bits_Mul64.calls a0 a1 t211 t212 _ A3.out).mono ?_); rintro e w' ⟨rfl, ⟨nd, rfl⟩⟩; refine ⟨_, rfl, ?_⟩))
 go_ret2
 exact ⟨by first | rfl | (simp; done) | (simp [*]; done), by repeat (first | exact Drawn0.refl _ | apply Drawn0.step)⟩

/-! ### slices_Repeat_int_int: function 35 -/
def slices_Repeat_int_int.f (l0 : List Int) (a1 : Int) : Option (List Int) := if l0.length = 1 ∧ 1 ≤ a1 ∧ a1 ≤ 4096 ∧ bits_Mul.f 1 a1 = some (0, a1) then some (List.replicate a1.toNat (rd l0 0)) else none
-- copy_splice
theorem rep_splice (cur : List Value) (x : Value) (n k : Nat) (hn : n ≤ cur.length) (h : cur.take n = List.replicate n x) : (splice cur n (List.replicate k x)).take (n + k) = List.replicate (n + k) x := by
 unfold splice
 rw [h, List.take_append, List.take_of_length_le (by simp)]
 simp only [List.length_replicate, Nat.add_sub_cancel_left]
 rw [List.take_append_of_le_length (by simp), List.take_of_length_le (by simp), List.replicate_append_replicate]
theorem rep_own {w : World} {g m : Nat} {x : Value} {cur : List Value} {base : Nat} {e : TypeId} (hg : w.heap[g]? = some (.cells cur.toArray e (0, 0))) (hb : base ≤ g) (h1 : m ≤ cur.length) (h2 : cur.length ≤ maxLen) (h : cur.take m = List.replicate m x) :
  w.ownsRow base e 1 (.slice (some ⟨g, 0, none⟩) m cur.length) m (List.replicate m x) :=
 ⟨by simp, Or.inr ⟨g, cur.length, cur.toArray, rfl, hb, hg, h1, h2, by simp, by simpa using h⟩⟩
theorem rep_made {w : World} {base e m : Nat} {ok : Nat → Prop} {v : Value} {xs : List Int} (h : (Kd.int .i64).R e w base ok v xs) (hx : xs.length = m) (hm : 1 ≤ m) :
  ∃ g cap, ∃ cur : List Value, v = .slice (some ⟨g, 0, none⟩) m cap ∧ base ≤ g ∧ w.heap[g]? = some (.cells cur.toArray e (0, 0)) ∧ m ≤ cur.length ∧ cur.length ≤ maxLen ∧ cur.length = cap := by
 subst hx
 obtain ⟨inner, ho⟩ := Kd.R_own h
 obtain ⟨h1, h2 | ⟨g, cap, cur, rfl, hb, hg, hn, hx, hs, _⟩⟩ := ho
 ·
  omega
 ·
  rw [show (Kd.int .i64).sz = 1 from rfl, Nat.mul_one] at hs
  exact ⟨g, cap, cur.toList, rfl, hb, by simpa using hg, by simp; omega, by simp; omega, by simpa using hs⟩
theorem rep_cp {w w1 : World} {ad : Addr} {g : Nat} {x : Value} (hb : Below w.heap.size w w1) (hl : ad.block < w.heap.size) (hc : w.cell? ad = some x) :
  0 < [x].length → (some ⟨g, 0, none⟩ : Option Addr) = some ⟨g, 0, none⟩ ∧ ∃ ad', some ad = some ad' ∧ ∀ j v, [x][j]? = some v → w1.cell? (ad'.add j) = some v := by
 refine fun _ => ⟨rfl, ad, rfl, fun j v hj => ?_⟩
 cases j with
 | zero =>
  simp at hj
  subst hj
  rw [show ad.add 0 = ad from by cases ad; simp [Addr.add]]
  exact (hb.cell hl).trans hc
 | succ j => simp at hj
theorem rep_cp2 {w : World} {g nn q : Nat} {t : TypeId} {x : Value} {cu : List Value} (hg : w.heap[g]? = some (.cells cu.toArray t (0, 0))) (h : cu.take nn = List.replicate nn x) (hm : q ≤ nn) :
  0 < (List.replicate q x).length → (some ⟨g, nn, none⟩ : Option Addr) = some ⟨g, nn, none⟩ ∧ ∃ ad', (some ⟨g, 0, none⟩ : Option Addr) = some ad' ∧ ∀ j v, (List.replicate q x)[j]? = some v → w.cell? (ad'.add j) = some v := by
 refine fun _ => ⟨rfl, _, rfl, fun j v hj => ?_⟩
 rw [add_plain, cell_of_row w g j cu.toArray t _ hg]
 obtain ⟨hlt, hv⟩ := List.getElem?_eq_some_iff.1 hj
 rw [List.length_replicate] at hlt
 have hlt2 : j < nn := Nat.lt_of_lt_of_le hlt hm
 have h2 : (cu.take nn)[j]? = some x := by rw [h]; simp [hlt2]
 rw [List.getElem?_take_of_lt hlt2] at h2
 rw [List.getElem_replicate] at hv
 subst hv
 simpa using h2
set_option maxHeartbeats 2000000 in
theorem slices_Repeat_int_int.walk (ad : Addr) (c0 m : Nat) (x : Int) (w : World) (h1 : 1 ≤ m) (h2 : m ≤ 4096) (hm : bits_Mul.f 1 (m : Int) = some (0, (m : Int)))
  (hc : w.cell? ad = some (.int .i64 x)) :
  Calls Try.prog 35 #[.slice (some ad) 1 c0, .int .i64 (m : Int)] w fun e w' => ∃ v0_ : Value, e = .returned (v0_) ∧ w'.ownsRow w.heap.size 3 1 v0_ m (List.replicate m (.int .i64 x)) ∧ Below w.heap.size w w' := by
 have hcl : ad.block < w.heap.size := World.block_lt_of_cell? w _ hc
 have HM := Aside0.mk hm
 have HC := Aside0.mk hc
 have HL := Aside0.mk hcl
 have HN := Aside0.mk (And.intro h1 h2)
 have g1 : decide ((m : Int) < 0) = false := decide_eq_false (by omega)
 have g2 : decide ((m : Int) > 9223372036854775807) = false := decide_eq_false (by omega)
 have g3 : IntKind.u64.wrap (m : Int) = (m : Int) := IntWalk.u64_in _ (by omega)
 have g4 : IntKind.i64.wrap (m : Int) = (m : Int) := IntWalk.i64_in _ (by omega)
 have g5 : wrap64 (m : Int) = (m : Int) := IntWalk.wrap64_in _ (by omega)
 have hsz : (Try.prog.info? 3).map (·.size) = some 1 := by kernel_rfl
 have HSZ := Aside0.mk hsz
 clear hm hc hcl h1 h2 hsz
 go_enter Try.func35, Try.ntmps35
 go_wp2_with (first | (go_at_call 38; (with_reducible refine (bits_Mul.calls 1 (m : Int) 0 (m : Int) _ HM.out).mono ?_); rintro e w' ⟨rfl, ⟨nd, rfl⟩⟩) | ((with_reducible refine gate_dst (N := 30) rfl ?_); refine Kd.R_make (Kd.int .i64) (w0 := w) w.heap.size 3 rfl (N := 30) rfl 51 _ _ rfl (m : Int) rfl rfl Try.underlying51 (.int .i64 0) 8 (by kernel_rfl) rfl (by decide) (by omega) 0 (ok := fun _ => True) (okp := fun _ => True) rfl (fun _ hk => hk) trivial (by omega) (by have := HN.out; omega) (pw_below_drewN (Below.refl _ w) _) (by simp) ?_; intro v1 w1 hR hb hg_ hnew_; clear hg_ hnew_; have HR := Aside0.mk hR; clear hR; have HB := Aside0.mk hb; clear hb; obtain ⟨g, cap, cur, rfl, hbg0, hg0, hle0, hmx0, hcs0⟩ := rep_made (m := m) HR.out (by simp) HN.out.1; have HG := Aside0.mk (And.intro hbg0 (And.intro hle0 (And.intro hmx0 hcs0))); have HH := Aside0.mk hg0; clear hbg0 hg0 hle0 hmx0 hcs0 HR) | ((with_reducible refine gate_dst (N := 33) rfl ?_); go_loud (refine wpList_copy_splice rfl (.tmp 31) (.tmp 32) 51 51 rfl 3 Try.underlying51 HSZ.out _ _ _ _ _ _ rfl rfl g 0 cur 3 HH.out [.int .i64 x] ?cn (rep_cp HB.out HL.out HC.out) ?cf ?c1 w.heap.size w HB.out HG.out.1 ?_); go_loud (case cn => exact (Nat.min_eq_left HN.out.1).symm); go_loud (case cf => exact Nat.le_trans (Nat.le_of_eq (Nat.zero_add _)) (Nat.le_trans HN.out.1 HG.out.2.1)); go_loud (case c1 => intro v hv; simp at hv; subst hv; rfl); intro w2 hg2 hb2; have HH2 := hg2; have HB2 := Aside0.mk hb2; clear hg2 hb2 HH HB))
 trace_state
 go_loopg [8] m (fun gg v8 wr => ∃ nn : Nat, ∃ cu : List Value, v8 = .int .i64 nn ∧ Aside0 (m - nn ≤ gg) ∧ Aside0 (1 ≤ nn ∧ nn ≤ m) ∧ Aside0 (wr.heap[g]? = some (.cells cu.toArray 3 (0, 0))) ∧ Aside0 (cu.length = cap ∧ cu.take nn = List.replicate nn (.int .i64 x)) ∧ Aside0 (Below w.heap.size w wr))
 case atStart => exact ⟨1, _, rfl, ⟨by omega⟩, ⟨⟨Nat.le_refl _, HN.out.1⟩⟩, ⟨HH2.out⟩, ⟨⟨by rw [length_splice _ _ _ (by have := HG.out.2; have := HN.out; simp; omega)]; exact HG.out.2.2.2, rep_splice cur (.int .i64 x) 0 1 (Nat.zero_le _) (by simp)⟩⟩, HB2⟩
 case round =>
  obtain ⟨nn, cu, rfl, hgg, hnn, hgr, hcu, hbr⟩ := hrel
  by_cases hlt : nn < m
  ·
   have hltz : decide ((nn : Int) < (m : Int)) = true := decide_eq_true (by omega)
   have hl3 : nn ≤ m := by omega
   have hl4 : ¬ cap = nn := by have := HG.out; omega
   have hl5 : nn ≤ cap := by have := HG.out; omega
   have hl6 : m ≤ cap := by have := HG.out; omega
   go_wp2
   obtain ⟨q, hq0, hq1, hq2, hq3⟩ : ∃ q, q = Nat.min nn (m - nn) ∧ q ≤ nn ∧ q ≤ m - nn ∧ 1 ≤ q := ⟨_, rfl, Nat.min_le_left _ _, Nat.min_le_right _ _, Nat.le_min.2 ⟨hnn.out.1, by omega⟩⟩
   have HQ := Aside0.mk (And.intro hq0 (And.intro hq1 (And.intro hq2 hq3)))
   have hq4 : nn + q ≤ m := by omega
   have hq5 : (nn : Int) + (q : Int) ≤ 9223372036854775807 := by have := HN.out; omega
   have hq6 : IntKind.i64.wrap ((nn : Int) + (q : Int)) = ((nn + q : Nat) : Int) := by rw [IntWalk.i64_in _ (by omega)]; omega
   have HQ4 := Aside0.mk (And.intro hq4 hq6)
   clear hq0 hq1 hq2 hq3 hq4 hq6
   have hcp := rep_cp2 (x := .int .i64 x) hgr.out hcu.out.2 HQ.out.2.1
   have HCP := Aside0.mk hcp
   clear hcp
   go_region_law? (refine step_copy_splice rfl (.tmp 41) (.tmp 44) 51 51 rfl 3 Try.underlying51 HSZ.out (some ⟨g, nn, none⟩) (some ⟨g, 0, none⟩) (m - nn) (cap - nn) nn cap (by simp [Act.eval, Act.put]) (by simp [Act.eval, Act.put]) g nn cu 3 (by exact hgr.out) (List.replicate q (.int .i64 x)) ((List.length_replicate).trans HQ.out.1) (by exact HCP.out) (by rw [List.length_replicate, hcu.out.1]; exact Nat.le_trans HQ4.out.1 (HG.out.2.2.2 ▸ HG.out.2.1)) (fun v hv => by rw [List.eq_of_mem_replicate hv]; rfl) w.heap.size w (by repeat (first | exact hbr.out | apply below_drew1)) HG.out.1 ?_; intro w4 hg4 hb4)
   have HB4 := Aside0.mk hb4
   clear hb4
   go_wp2
   go_roundg (m - (nn + q))
   case measure => have := hgg.out; have := HQ.out; omega
   case rel => exact ⟨nn + q, _, by first | rw [HQ4.out.2] | rw [← HQ4.out.2, IntKind.wrap_i64] | (simp only [Value.int.injEq, true_and]; exact HQ4.out.2), ⟨Nat.le_refl _⟩, ⟨⟨by have := hnn.out; omega, HQ4.out.1⟩⟩, ⟨hg4.out⟩, ⟨⟨by rw [length_splice _ _ _ (by rw [List.length_replicate, hcu.out.1]; exact Nat.le_trans HQ4.out.1 (HG.out.2.2.2 ▸ HG.out.2.1))]; exact hcu.out.1, rep_splice _ _ _ _ (by rw [hcu.out.1]; exact Nat.le_trans hnn.out.2 (HG.out.2.2.2 ▸ HG.out.2.1)) hcu.out.2⟩⟩, HB4⟩
  ·
   have hltz : decide ((nn : Int) < (m : Int)) = false := decide_eq_false (by omega)
   go_wp2
   go_ret
   have e1 : nn = m := by have := hnn.out; omega
   subst e1
   refine ⟨_, rfl, ?_, hbr.out⟩
   have := rep_own (base := w.heap.size) hgr.out HG.out.1 (by rw [hcu.out.1]; exact HG.out.2.2.2 ▸ HG.out.2.1) (by rw [hcu.out.1]; exact HG.out.2.2.2 ▸ HG.out.2.2.1) hcu.out.2
   rw [hcu.out.1] at this
   exact this
theorem slices_Repeat_int_int.calls (A0 : Option Addr) (c0 : Nat) (l0 : List Int) (a1 : Int) (r : List Int) (w : World) (hr0 : Kd.C (Kd.int .i64) w A0 l0.length l0) (hc0 : l0.length ≤ c0) (h : slices_Repeat_int_int.f l0 a1 = some r) :
  Calls Try.prog 35 #[.slice A0 l0.length c0, .int .i64 a1] w fun e w' => ∃ v0_ : Value, e = .returned (v0_) ∧ Kd.R (Kd.int .i64) 3 w' w.heap.size (fun _ => True) v0_ r ∧ Below w.heap.size w w' := by
 unfold slices_Repeat_int_int.f at h
 by_cases c : l0.length = 1 ∧ 1 ≤ a1 ∧ a1 ≤ 4096 ∧ bits_Mul.f 1 a1 = some (0, a1)
 ·
  rw [if_pos c] at h
  obtain rfl := Option.some.inj h
  obtain ⟨c1, c2, c3, c4⟩ := c
  obtain ⟨m, rfl⟩ : ∃ m : Nat, a1 = (m : Int) := ⟨a1.toNat, by omega⟩
  obtain ⟨ad, rfl, hx⟩ := Kd.at_int hr0 0 (by omega) (by omega)
  rw [show ad.add (0 : Int).toNat = ad from by cases ad; simp [Addr.add]] at hx
  rw [c1]
  refine (slices_Repeat_int_int.walk ad c0 m (rd l0 0) w (by omega) (by omega) c4 hx).mono ?_
  rintro e w' ⟨v', rfl, hown, hb⟩
  refine ⟨v', rfl, Kd.R_of_own (enc := fun x => .int .i64 x) (h1 := fun _ => rfl) ?_ (fun _ _ => trivial), hb⟩
  rw [Int.toNat_natCast, List.length_replicate]
  simpa [encs] using hown
 ·
  rw [if_neg c] at h
  cases h

/-! ### impl_distancesTo: function 26 -/
mutual
def impl_distancesTo.l0 : Nat → Int → List (S46) → List Int → List Int → Option (List Int)
 | 0, _, _, _, _ => none
 | k + 1, x1, x2, x7, x8 => if (x8.length : Int) > 0 then (impl_distancesTo.l1 k x1 x2 x7 x8 0) else (some x7)
def impl_distancesTo.l1 : Nat → Int → List (S46) → List Int → List Int → Int → Option (List Int)
 | 0, _, _, _, _, _ => none
 | k + 1, x1, x2, x7, x8, x9 => if x9 < x1 then (if 0 < (x8.length : Int) then ((impl_switches_allowed.f (rd x8 0) x2).bind fun t224 => (impl_distancesTo.j2 k x1 x2 x7 x8 x9 t224)) else (none)) else (impl_distancesTo.j2 k x1 x2 x7 x8 x9 false)
def impl_distancesTo.j2 : Nat → Int → List (S46) → List Int → List Int → Int → Bool → Option (List Int)
 | 0, _, _, _, _, _, _ => none
 | k + 1, x1, x2, x7, x8, x9, x34 => if x34 = true then (if 0 < (x8.length : Int) then (if 0 ≤ x9 then (if 0 ≤ (Go.bits .xor .i64 (rd x8 0) (shl .i64 1 x9)) then (if (Go.bits .xor .i64 (rd x8 0) (shl .i64 1 x9)) < (x7.length : Int) then (if (rd x7 (Go.bits .xor .i64 (rd x8 0) (shl .i64 1 x9))) < 0 then (if 0 ≤ (rd x8 0) then (if (rd x8 0) < (x7.length : Int) then (if x8.length < 17592186044416 then (impl_distancesTo.l1 k x1 x2 (x7.set ((Go.bits .xor .i64 (rd x8 0) (shl .i64 1 x9)) : Int).toNat (wrap64 ((rd x7 (rd x8 0)) + 1))) (x8 ++ [Go.bits .xor .i64 (rd x8 0) (shl .i64 1 x9)]) (wrap64 (x9 + 1))) else (none)) else (none)) else (none)) else (impl_distancesTo.l1 k x1 x2 x7 x8 (wrap64 (x9 + 1)))) else (none)) else (none)) else (none)) else (none)) else (if 1 ≤ (x8.length : Int) then (impl_distancesTo.l0 k x1 x2 x7 (x8.drop (1 : Int).toNat)) else (none))
end
def impl_distancesTo.f (k : Nat) (a0 : Int) (a1 : Int) (l2 : List (S46)) : Option (List Int) := if 0 ≤ a1 then ((slices_Repeat_int_int.f (([(-1)] : List Int)) (shl .i64 1 a1)).bind fun t216 => (if 0 ≤ a0 then (if a0 < (t216.length : Int) then (impl_distancesTo.l0 k a1 l2 (t216.set (a0 : Int).toNat 0) (([a0] : List Int))) else (none)) else (none))) else (none)
theorem impl_distancesTo.mono_l : ∀ k, (∀ y0 y1 y2 y3, LeO (impl_distancesTo.l0 k y0 y1 y2 y3) (impl_distancesTo.l0 (k + 1) y0 y1 y2 y3)) ∧ (∀ y0 y1 y2 y3 y4, LeO (impl_distancesTo.l1 k y0 y1 y2 y3 y4) (impl_distancesTo.l1 (k + 1) y0 y1 y2 y3 y4)) ∧ (∀ y0 y1 y2 y3 y4 y5, LeO (impl_distancesTo.j2 k y0 y1 y2 y3 y4 y5) (impl_distancesTo.j2 (k + 1) y0 y1 y2 y3 y4 y5))
 | 0 => ⟨fun _ _ _ _ r h => by simp [impl_distancesTo.l0] at h, fun _ _ _ _ _ r h => by simp [impl_distancesTo.l1] at h, fun _ _ _ _ _ _ r h => by simp [impl_distancesTo.j2] at h⟩
 | k + 1 => by
  obtain ⟨ih0, ih1, ih2⟩ := impl_distancesTo.mono_l k
  refine ⟨?_, ?_, ?_⟩
  ·
   intro y0 y1 y2 y3
   unfold impl_distancesTo.l0
   repeat' first
   | (with_reducible exact ih0 _ _ _ _)
   | (with_reducible exact ih1 _ _ _ _ _)
   | (with_reducible exact ih2 _ _ _ _ _ _)
   | (with_reducible exact LeO.refl _)
   | (with_reducible exact LeO.none _)
   | (with_reducible refine LeO.ite ?_ ?_)
   | (with_reducible refine LeO.bind ?_ (fun _ => ?_))
   | exact ih0 _ _ _ _
   | exact ih1 _ _ _ _ _
   | exact ih2 _ _ _ _ _ _
   | exact LeO.none _
   | refine LeO.ite ?_ ?_
   | refine LeO.bind ?_ (fun _ => ?_)
  ·
   intro y0 y1 y2 y3 y4
   unfold impl_distancesTo.l1
   repeat' first
   | (with_reducible exact ih0 _ _ _ _)
   | (with_reducible exact ih1 _ _ _ _ _)
   | (with_reducible exact ih2 _ _ _ _ _ _)
   | (with_reducible exact LeO.refl _)
   | (with_reducible exact LeO.none _)
   | (with_reducible refine LeO.ite ?_ ?_)
   | (with_reducible refine LeO.bind ?_ (fun _ => ?_))
   | exact ih0 _ _ _ _
   | exact ih1 _ _ _ _ _
   | exact ih2 _ _ _ _ _ _
   | exact LeO.none _
   | refine LeO.ite ?_ ?_
   | refine LeO.bind ?_ (fun _ => ?_)
  ·
   intro y0 y1 y2 y3 y4 y5
   unfold impl_distancesTo.j2
   repeat' first
   | (with_reducible exact ih0 _ _ _ _)
   | (with_reducible exact ih1 _ _ _ _ _)
   | (with_reducible exact ih2 _ _ _ _ _ _)
   | (with_reducible exact LeO.refl _)
   | (with_reducible exact LeO.none _)
   | (with_reducible refine LeO.ite ?_ ?_)
   | (with_reducible refine LeO.bind ?_ (fun _ => ?_))
   | exact ih0 _ _ _ _
   | exact ih1 _ _ _ _ _
   | exact ih2 _ _ _ _ _ _
   | exact LeO.none _
   | refine LeO.ite ?_ ?_
   | refine LeO.bind ?_ (fun _ => ?_)
theorem impl_distancesTo.mono : ∀ a0 a1 a2 k, LeO (impl_distancesTo.f k a0 a1 a2) (impl_distancesTo.f (k + 1) a0 a1 a2) := by
 intro a0 a1 a2 k
 obtain ⟨ih0, ih1, ih2⟩ := impl_distancesTo.mono_l k
 unfold impl_distancesTo.f
 repeat' first
   | (with_reducible exact ih0 _ _ _ _)
   | (with_reducible exact ih1 _ _ _ _ _)
   | (with_reducible exact ih2 _ _ _ _ _ _)
   | (with_reducible exact LeO.refl _)
   | (with_reducible exact LeO.none _)
   | (with_reducible refine LeO.ite ?_ ?_)
   | (with_reducible refine LeO.bind ?_ (fun _ => ?_))
   | exact ih0 _ _ _ _
   | exact ih1 _ _ _ _ _
   | exact ih2 _ _ _ _ _ _
   | exact LeO.none _
   | refine LeO.ite ?_ ?_
   | refine LeO.bind ?_ (fun _ => ?_)
set_option maxHeartbeats 8000000 in
set_option maxRecDepth 100000 in
theorem impl_distancesTo.calls (k : Nat) (a0 : Int) (a1 : Int) (A2 : Option Addr) (c2 : Nat) (l2 : List (S46)) (r : List Int) (w : World) (hr2 : Kd.C k46 w A2 l2.length l2) (hc2 : l2.length ≤ c2) (h : impl_distancesTo.f k a0 a1 l2 = some r) :
  Calls Try.prog 26 #[.int .i64 a0, .int .i64 a1, .slice A2 l2.length c2] w fun e w' => ∃ v0_ : Value, e = .returned (v0_) ∧ Kd.R (Kd.int .i64) 3 w' w.heap.size (fun _ => True) v0_ r ∧ Below w.heap.size w w' := by
 have HR2 := Aside0.mk hr2
 have HC2 := Aside0.mk hc2
 clear hr2 hc2
 have HB := Aside0.mk (Below.refl w.heap.size w)
 have H : (if 0 ≤ a1 then ((slices_Repeat_int_int.f (([(-1)] : List Int)) (shl .i64 1 a1)).bind fun t216 => (if 0 ≤ a0 then (if a0 < (t216.length : Int) then (impl_distancesTo.l0 k a1 l2 (t216.set (a0 : Int).toNat 0) (([a0] : List Int))) else (none)) else (none))) else (none)) = some r := h
 clear h
 obtain ⟨y213, hy213⟩ : ∃ y_ : List Int, y_ = (([(-1)] : List Int)) := ⟨_, rfl⟩
 replace H : (if 0 ≤ a1 then ((slices_Repeat_int_int.f y213 (shl .i64 1 a1)).bind fun t216 => (if 0 ≤ a0 then (if a0 < (t216.length : Int) then (impl_distancesTo.l0 k a1 l2 (t216.set (a0 : Int).toNat 0) (([a0] : List Int))) else (none)) else (none))) else (none)) = some r := by first | (rw [hy213]; with_reducible exact H) | (have H2_ := (Option.bind_some _ _).symm.trans H; rw [hy213]; with_reducible exact H2_) | (have H2_ := (Option.bind_some _ _).symm.trans H; with_reducible exact H2_) | with_reducible exact H | (rw [hy213]; exact H) | exact H
 have Ny213 := Aside0.mk hy213
 clear hy213
 by_cases c4 : 0 ≤ a1
 ·
  rw [if_pos c4] at H
  have c4b0 := eq_true c4
  have c4b1 : decide (0 ≤ a1) = true := decide_eq_true c4
  clear c4
  obtain ⟨ji5, hji5⟩ : ∃ j_ : Int, (shl .i64 1 a1) = j_ := ⟨_, rfl⟩
  replace H : ((slices_Repeat_int_int.f y213 (ji5)).bind fun t216 => (if 0 ≤ a0 then (if a0 < (t216.length : Int) then (impl_distancesTo.l0 k a1 l2 (t216.set (a0 : Int).toNat 0) (([a0] : List Int))) else (none)) else (none))) = some r := by first | (rw [hji5] at H; exact H) | (simp only [hji5] at H ⊢; exact H)
  have hji5_ : (IntKind.i64.wrap (1 * 2 ^ min a1.toNat 64)) = ji5 := hji5
  have hji5z : a1 ≤ 64 → (IntKind.i64.wrap (1 * 2 ^ a1.toNat)) = ji5 := shl_small hji5
  have hji5u : (IntKind.i64.wrap (2 ^ min a1.toNat 64)) = ji5 := by have h_ := hji5_; rw [Int.one_mul] at h_; exact h_
  have hji5v : a1 ≤ 64 → (IntKind.i64.wrap (2 ^ a1.toNat)) = ji5 := fun hle_ => by have h_ := hji5z hle_; rw [Int.one_mul] at h_; exact h_
  have hji5y : (wrap64 (1 * 2 ^ min a1.toNat 64)) = ji5 := (i64_w _).symm.trans hji5_
  have hji5x : a1 ≤ 64 → (wrap64 (1 * 2 ^ a1.toNat)) = ji5 := fun h_ => (i64_w _).symm.trans (hji5z h_)
  replace H := Option.bind_eq_some_iff.mp H
  obtain ⟨t216, A60, H⟩ := H
  replace H : (if 0 ≤ a0 then (if a0 < (t216.length : Int) then (impl_distancesTo.l0 k a1 l2 (t216.set (a0 : Int).toNat 0) (([a0] : List Int))) else (none)) else (none)) = some r := H
  have A6 := Aside0.mk A60
  clear A60
  by_cases c7 : 0 ≤ a0
  ·
   rw [if_pos c7] at H
   have c7b0 : decide (0 ≤ a0) = true := decide_eq_true c7
   clear c7
   by_cases c8 : a0 < (t216.length : Int)
   ·
    rw [if_pos c8] at H
    have c8b0 : decide (a0 < (t216.length : Int)) = true := decide_eq_true c8
    clear c8
    obtain ⟨y219, hy219⟩ : ∃ y_ : List Int, y_ = (t216.set (a0 : Int).toNat 0) := ⟨_, rfl⟩
    replace H : (impl_distancesTo.l0 k a1 l2 y219 (([a0] : List Int))) = some r := by first | (rw [hy219]; with_reducible exact H) | (have H2_ := (Option.bind_some _ _).symm.trans H; rw [hy219]; with_reducible exact H2_) | (have H2_ := (Option.bind_some _ _).symm.trans H; with_reducible exact H2_) | with_reducible exact H | (rw [hy219]; exact H) | exact H
    have Ny219 := Aside0.mk hy219
    clear hy219
    obtain ⟨y220, hy220⟩ : ∃ y_ : List Int, y_ = (([a0] : List Int)) := ⟨_, rfl⟩
    replace H : (impl_distancesTo.l0 k a1 l2 y219 y220) = some r := by first | (rw [hy220]; with_reducible exact H) | (have H2_ := (Option.bind_some _ _).symm.trans H; rw [hy220]; with_reducible exact H2_) | (have H2_ := (Option.bind_some _ _).symm.trans H; with_reducible exact H2_) | with_reducible exact H | (rw [hy220]; exact H) | exact H
    have Ny220 := Aside0.mk hy220
    clear hy220
    have H' := Aside0.mk H
    clear H
    go_enter Try.func26, Try.ntmps26
    go_wp2_with (first | ((with_reducible refine gate_dst (N := 11) rfl ?_); refine Kd.R_lit (Kd.int .i64) _ 3 ?hg (N := 11) ?hd (xs := ([(-1)] : List Int)) (inner := [.int .i64 (-1)]) (ok := fun _ => True) (okp := fun _ => True) ?hr ?hp (fun _ hk => hk) trivial (Below.refl _ _) (Nat.le_refl _) (by simp) ?_; (case hd => rfl); (case hg => rfl); (case hr => first | (go_simp; done) | (go_simp; rfl)); (case hp => exact (Reps.one (show Kd.M (Kd.int .i64) _ _ _ (-1) [.int .i64 (-1)] from rfl) (Reps.none _ _))); intro v214 w10 ho11 hb hg_ hnew_; clear hg_ hnew_; (first | rw [← Ny213.out] at ho11 | (simp only [Int.reduceToNat] at ho11; rw [← Ny213.out] at ho11)); have n0_ := Aside0.mk (Kd.R_lower ho11 (below_size (by repeat (first | (with_reducible first | exact HB.out | apply below_alloc | apply pw_below_drewN | apply below_drew1) | exact HB.out)))); have n1_ := Aside0.mk (below_step (by repeat (first | (with_reducible first | exact HB.out | apply below_alloc | apply pw_below_drewN | apply below_drew1) | exact HB.out)) hb); clear HB; have HO215 := n0_; have HB := n1_; clear n0_ n1_; clear hb ho11; obtain ⟨Ao12, co12, eo12⟩ := Kd.R_slice HO215.out; subst eo12) | (go_at_call 35; (with_reducible refine (slices_Repeat_int_int.calls _ _ y213 ji5 t216 _ ?side1 ?side2 A6.out).mono ?_); (case side1 => repeat (first | exact (Kd.R_reads' HO215.out).2.2 | (with_reducible refine Kd.C_alloc ?_ _) | (with_reducible refine Kd.C_drewN ?_ _) | (with_reducible refine Kd.C_drew ?_))); (case side2 => exact (Kd.R_reads' HO215.out).2.1); rintro e w13 ⟨v217, rfl, ho0, hb⟩; have n0_ := Aside0.mk (Kd.R_elder' (by (with_reducible repeat (first | apply Kd.R_alloc | apply Kd.R_drewN | apply Kd.R_drew)); exact HO215.out) (Kd.R_base ho0) hb); have n1_ := Aside0.mk (Kd.R_lower (Kd.R_new' ho0 (Kd.R_lt (by (with_reducible repeat (first | apply Kd.R_alloc | apply Kd.R_drewN | apply Kd.R_drew)); exact HO215.out))) (below_size (by repeat (first | (with_reducible first | exact HB.out | apply below_alloc | apply pw_below_drewN | apply below_drew1) | exact HB.out)))); have n2_ := Aside0.mk (below_step (by repeat (first | (with_reducible first | exact HB.out | apply below_alloc | apply pw_below_drewN | apply below_drew1) | exact HB.out)) hb); clear HO215; clear HB; have HO215 := n0_; have HO218 := n1_; have HB := n2_; clear n0_ n1_ n2_; (try clear hb); (try clear hb2); (try clear hk); (try clear hi); (try clear ho0); have p9 : 0 ≤ (a0 : Int) := of_decide_eq_true (by first | (with_reducible assumption) | assumption); have q9 : (a0 : Int) < ((t216.length : Int) : Int) := of_decide_eq_true (by first | (with_reducible assumption) | assumption); obtain ⟨go9, co9, eo9, gb9, gl9, cl9, HG9⟩ := Kd.R_form HO218.out (by omega); (first | cases eo9 | (injection eo9 with ea_ en_ ec_; (first | subst ea_ | (injection ea_ with ea_; subst ea_)); subst ec_; clear en_)); have GB9 := Aside0.mk gb9; have GG9 := Aside0.mk HG9; clear gb9 gl9 HG9; obtain ⟨hx9_0, hf9_0⟩ := Kd.R_celln 0 HO218.out (a0 : Int) p9 q9; replace p9 := eq_true p9; replace q9 := eq_true q9; have n_ := Aside0.mk (Kd.R_mono (ok' := (fun k_ => some k_ ≠ (.slice Ao12 y213.length co12 : Value).ownBlock)) HO218.out (fun k_ hk => hk.2)); clear HO218; have HO218 := n_; clear n_; obtain ⟨hy14_, hz14_⟩ := Kd.R_celln 0 HO218.out (a0 : Int) (of_decide_eq_true (by first | (with_reducible assumption) | assumption)) (of_decide_eq_true (by first | (with_reducible assumption) | assumption)); have HP14 := Kd.R_putg HO218.out (a0 : Int) 0) | ((with_reducible refine gate_store (t := 3) (p := 17) rfl ?_); (try (rw [drewN_self w13]; generalize hq_ : World.drewN w13 _ = w13; have n0_ := Aside0.mk (Kd.R_at hq_ HO215.out); have n1_ := Aside0.mk (Kd.R_at hq_ HO218.out); have n2_ := Aside0.mk (below_at hq_ HB.out); clear hq_ HO215 HO218 HB; have HO215 := n0_; have HO218 := n1_; have HB := n2_; clear n0_ n1_ n2_; (try (have n_ := Aside0.mk (Kd.R_mono (ok' := (fun k_ => some k_ ≠ (.slice Ao12 y213.length co12 : Value).ownBlock)) HO218.out (fun k_ hk => hk.2)); clear HO218; have HO218 := n_; clear n_)); (try (obtain ⟨hy14_, hz14_⟩ := Kd.R_celln 0 HO218.out (a0 : Int) (of_decide_eq_true (by first | (with_reducible assumption) | assumption)) (of_decide_eq_true (by first | (with_reducible assumption) | assumption)))); (try (have HP14 := Kd.R_putg HO218.out (a0 : Int) 0)))); refine store_event (t := 3) (p := 17) (v := ?vo_w15) (w1 := (w13.setCell ⟨go9, (a0 : Int).toNat, none⟩ (.int .i64 0))) ?hg ?ho ?hn ?hr ?_; (case ho => rfl); (case hg => rfl); (case hn => rfl); (case hr => first | (go_simp; done) | (go_simp; rfl)); intro w15 hw; have hg : w13.grownBy w15 (some go9) := (by rw [hw]; exact HP14.2); have hp_ : Kd.R (Kd.int .i64) 3 w15 w.heap.size (fun k_ => some k_ ≠ (.slice Ao12 y213.length co12 : Value).ownBlock) (.slice (some ⟨go9, 0, none⟩) t216.length co9) y219 := (by rw [hw, Ny219.out]; exact HP14.1); clear HP14; have n0_ := Aside0.mk (Kd.R_after (v := (.slice (some ⟨go9, 0, none⟩) t216.length co9)) (v1 := (.slice (some ⟨go9, 0, none⟩) t216.length co9)) (ok := (fun _ => True)) (by (with_reducible repeat (first | apply Kd.R_alloc | apply Kd.R_drewN | apply Kd.R_drew)); exact HO215.out) hg (.inl rfl)); have n1_ := Aside0.mk (hp_); have n2_ := Aside0.mk ((by rw [hw]; exact below_set (HB.out) GB9.out : Below w.heap.size w w15)); clear HO215; clear HO218; clear HB; have HO215 := n0_; have HO218 := n1_; have HB := n2_; clear n0_ n1_ n2_; clear hg hw hp_) | ((with_reducible refine gate_dst (N := 19) rfl ?_); refine Kd.R_lit (Kd.int .i64) _ 49 ?hg (N := 19) ?hd (xs := ([a0] : List Int)) (inner := [.int .i64 a0]) (ok := fun _ => True) (okp := fun _ => True) ?hr ?hp (fun _ hk => hk) trivial (Below.refl _ _) (Nat.le_refl _) (by simp) ?_; (case hd => rfl); (case hg => rfl); (case hr => first | (go_simp; done) | (go_simp; rfl)); (case hp => exact (Reps.one (show Kd.M (Kd.int .i64) _ _ _ a0 [.int .i64 a0] from rfl) (Reps.none _ _))); intro v221 w16 ho17 hb hg_ hnew_; clear hg_ hnew_; (first | rw [← Ny220.out] at ho17 | (simp only [Int.reduceToNat] at ho17; rw [← Ny220.out] at ho17)); have n0_ := Aside0.mk (Kd.R_below (by (with_reducible repeat (first | apply Kd.R_alloc | apply Kd.R_drewN | apply Kd.R_drew)); exact HO215.out) hb); have n1_ := Aside0.mk (Kd.R_below (by (with_reducible repeat (first | apply Kd.R_alloc | apply Kd.R_drewN | apply Kd.R_drew)); exact HO218.out) hb); have n2_ := Aside0.mk (Kd.R_lower ho17 (below_size (by repeat (first | (with_reducible first | exact HB.out | apply below_alloc | apply pw_below_drewN | apply below_drew1) | exact HB.out)))); have n3_ := Aside0.mk (below_step (by repeat (first | (with_reducible first | exact HB.out | apply below_alloc | apply pw_below_drewN | apply below_drew1) | exact HB.out)) hb); clear HO215; clear HO218; clear HB; have HO215 := n0_; have HO218 := n1_; have HO222 := n2_; have HB := n3_; clear n0_ n1_ n2_ n3_; clear hb ho17))
    repeat (go_quiet (first | ((with_reducible refine gate_dst (N := 11) rfl ?_); refine Kd.R_lit (Kd.int .i64) _ 3 ?hg (N := 11) ?hd (xs := ([(-1)] : List Int)) (inner := [.int .i64 (-1)]) (ok := fun _ => True) (okp := fun _ => True) ?hr ?hp (fun _ hk => hk) trivial (Below.refl _ _) (Nat.le_refl _) (by simp) ?_; (case hd => rfl); (case hg => rfl); (case hr => first | (go_simp; done) | (go_simp; rfl)); (case hp => exact (Reps.one (show Kd.M (Kd.int .i64) _ _ _ (-1) [.int .i64 (-1)] from rfl) (Reps.none _ _))); intro v214 w10 ho11 hb hg_ hnew_; clear hg_ hnew_; (first | rw [← Ny213.out] at ho11 | (simp only [Int.reduceToNat] at ho11; rw [← Ny213.out] at ho11)); have n0_ := Aside0.mk (Kd.R_lower ho11 (below_size (by repeat (first | (with_reducible first | exact HB.out | apply below_alloc | apply pw_below_drewN | apply below_drew1) | exact HB.out)))); have n1_ := Aside0.mk (below_step (by repeat (first | (with_reducible first | exact HB.out | apply below_alloc | apply pw_below_drewN | apply below_drew1) | exact HB.out)) hb); clear HB; have HO215 := n0_; have HB := n1_; clear n0_ n1_; clear hb ho11; obtain ⟨Ao12, co12, eo12⟩ := Kd.R_slice HO215.out; subst eo12) | (go_at_call 35; (with_reducible refine (slices_Repeat_int_int.calls _ _ y213 ji5 t216 _ ?side1 ?side2 A6.out).mono ?_); (case side1 => repeat (first | exact (Kd.R_reads' HO215.out).2.2 | (with_reducible refine Kd.C_alloc ?_ _) | (with_reducible refine Kd.C_drewN ?_ _) | (with_reducible refine Kd.C_drew ?_))); (case side2 => exact (Kd.R_reads' HO215.out).2.1); rintro e w13 ⟨v217, rfl, ho0, hb⟩; have n0_ := Aside0.mk (Kd.R_elder' (by (with_reducible repeat (first | apply Kd.R_alloc | apply Kd.R_drewN | apply Kd.R_drew)); exact HO215.out) (Kd.R_base ho0) hb); have n1_ := Aside0.mk (Kd.R_lower (Kd.R_new' ho0 (Kd.R_lt (by (with_reducible repeat (first | apply Kd.R_alloc | apply Kd.R_drewN | apply Kd.R_drew)); exact HO215.out))) (below_size (by repeat (first | (with_reducible first | exact HB.out | apply below_alloc | apply pw_below_drewN | apply below_drew1) | exact HB.out)))); have n2_ := Aside0.mk (below_step (by repeat (first | (with_reducible first | exact HB.out | apply below_alloc | apply pw_below_drewN | apply below_drew1) | exact HB.out)) hb); clear HO215; clear HB; have HO215 := n0_; have HO218 := n1_; have HB := n2_; clear n0_ n1_ n2_; (try clear hb); (try clear hb2); (try clear hk); (try clear hi); (try clear ho0); have p9 : 0 ≤ (a0 : Int) := of_decide_eq_true (by first | (with_reducible assumption) | assumption); have q9 : (a0 : Int) < ((t216.length : Int) : Int) := of_decide_eq_true (by first | (with_reducible assumption) | assumption); obtain ⟨go9, co9, eo9, gb9, gl9, cl9, HG9⟩ := Kd.R_form HO218.out (by omega); (first | cases eo9 | (injection eo9 with ea_ en_ ec_; (first | subst ea_ | (injection ea_ with ea_; subst ea_)); subst ec_; clear en_)); have GB9 := Aside0.mk gb9; have GG9 := Aside0.mk HG9; clear gb9 gl9 HG9; obtain ⟨hx9_0, hf9_0⟩ := Kd.R_celln 0 HO218.out (a0 : Int) p9 q9; replace p9 := eq_true p9; replace q9 := eq_true q9; have n_ := Aside0.mk (Kd.R_mono (ok' := (fun k_ => some k_ ≠ (.slice Ao12 y213.length co12 : Value).ownBlock)) HO218.out (fun k_ hk => hk.2)); clear HO218; have HO218 := n_; clear n_; obtain ⟨hy14_, hz14_⟩ := Kd.R_celln 0 HO218.out (a0 : Int) (of_decide_eq_true (by first | (with_reducible assumption) | assumption)) (of_decide_eq_true (by first | (with_reducible assumption) | assumption)); have HP14 := Kd.R_putg HO218.out (a0 : Int) 0) | ((with_reducible refine gate_store (t := 3) (p := 17) rfl ?_); (try (rw [drewN_self w13]; generalize hq_ : World.drewN w13 _ = w13; have n0_ := Aside0.mk (Kd.R_at hq_ HO215.out); have n1_ := Aside0.mk (Kd.R_at hq_ HO218.out); have n2_ := Aside0.mk (below_at hq_ HB.out); clear hq_ HO215 HO218 HB; have HO215 := n0_; have HO218 := n1_; have HB := n2_; clear n0_ n1_ n2_; (try (have n_ := Aside0.mk (Kd.R_mono (ok' := (fun k_ => some k_ ≠ (.slice Ao12 y213.length co12 : Value).ownBlock)) HO218.out (fun k_ hk => hk.2)); clear HO218; have HO218 := n_; clear n_)); (try (obtain ⟨hy14_, hz14_⟩ := Kd.R_celln 0 HO218.out (a0 : Int) (of_decide_eq_true (by first | (with_reducible assumption) | assumption)) (of_decide_eq_true (by first | (with_reducible assumption) | assumption)))); (try (have HP14 := Kd.R_putg HO218.out (a0 : Int) 0)))); refine store_event (t := 3) (p := 17) (v := ?vo_w15) (w1 := (w13.setCell ⟨go9, (a0 : Int).toNat, none⟩ (.int .i64 0))) ?hg ?ho ?hn ?hr ?_; (case ho => rfl); (case hg => rfl); (case hn => rfl); (case hr => first | (go_simp; done) | (go_simp; rfl)); intro w15 hw; have hg : w13.grownBy w15 (some go9) := (by rw [hw]; exact HP14.2); have hp_ : Kd.R (Kd.int .i64) 3 w15 w.heap.size (fun k_ => some k_ ≠ (.slice Ao12 y213.length co12 : Value).ownBlock) (.slice (some ⟨go9, 0, none⟩) t216.length co9) y219 := (by rw [hw, Ny219.out]; exact HP14.1); clear HP14; have n0_ := Aside0.mk (Kd.R_after (v := (.slice (some ⟨go9, 0, none⟩) t216.length co9)) (v1 := (.slice (some ⟨go9, 0, none⟩) t216.length co9)) (ok := (fun _ => True)) (by (with_reducible repeat (first | apply Kd.R_alloc | apply Kd.R_drewN | apply Kd.R_drew)); exact HO215.out) hg (.inl rfl)); have n1_ := Aside0.mk (hp_); have n2_ := Aside0.mk ((by rw [hw]; exact below_set (HB.out) GB9.out : Below w.heap.size w w15)); clear HO215; clear HO218; clear HB; have HO215 := n0_; have HO218 := n1_; have HB := n2_; clear n0_ n1_ n2_; clear hg hw hp_) | ((with_reducible refine gate_dst (N := 19) rfl ?_); refine Kd.R_lit (Kd.int .i64) _ 49 ?hg (N := 19) ?hd (xs := ([a0] : List Int)) (inner := [.int .i64 a0]) (ok := fun _ => True) (okp := fun _ => True) ?hr ?hp (fun _ hk => hk) trivial (Below.refl _ _) (Nat.le_refl _) (by simp) ?_; (case hd => rfl); (case hg => rfl); (case hr => first | (go_simp; done) | (go_simp; rfl)); (case hp => exact (Reps.one (show Kd.M (Kd.int .i64) _ _ _ a0 [.int .i64 a0] from rfl) (Reps.none _ _))); intro v221 w16 ho17 hb hg_ hnew_; clear hg_ hnew_; (first | rw [← Ny220.out] at ho17 | (simp only [Int.reduceToNat] at ho17; rw [← Ny220.out] at ho17)); have n0_ := Aside0.mk (Kd.R_below (by (with_reducible repeat (first | apply Kd.R_alloc | apply Kd.R_drewN | apply Kd.R_drew)); exact HO215.out) hb); have n1_ := Aside0.mk (Kd.R_below (by (with_reducible repeat (first | apply Kd.R_alloc | apply Kd.R_drewN | apply Kd.R_drew)); exact HO218.out) hb); have n2_ := Aside0.mk (Kd.R_lower ho17 (below_size (by repeat (first | (with_reducible first | exact HB.out | apply below_alloc | apply pw_below_drewN | apply below_drew1) | exact HB.out)))); have n3_ := Aside0.mk (below_step (by repeat (first | (with_reducible first | exact HB.out | apply below_alloc | apply pw_below_drewN | apply below_drew1) | exact HB.out)) hb); clear HO215; clear HO218; clear HB; have HO215 := n0_; have HO218 := n1_; have HO222 := n2_; have HB := n3_; clear n0_ n1_ n2_ n3_; clear hb ho17)); try go_wp2_with (first | ((with_reducible refine gate_dst (N := 11) rfl ?_); refine Kd.R_lit (Kd.int .i64) _ 3 ?hg (N := 11) ?hd (xs := ([(-1)] : List Int)) (inner := [.int .i64 (-1)]) (ok := fun _ => True) (okp := fun _ => True) ?hr ?hp (fun _ hk => hk) trivial (Below.refl _ _) (Nat.le_refl _) (by simp) ?_; (case hd => rfl); (case hg => rfl); (case hr => first | (go_simp; done) | (go_simp; rfl)); (case hp => exact (Reps.one (show Kd.M (Kd.int .i64) _ _ _ (-1) [.int .i64 (-1)] from rfl) (Reps.none _ _))); intro v214 w10 ho11 hb hg_ hnew_; clear hg_ hnew_; (first | rw [← Ny213.out] at ho11 | (simp only [Int.reduceToNat] at ho11; rw [← Ny213.out] at ho11)); have n0_ := Aside0.mk (Kd.R_lower ho11 (below_size (by repeat (first | (with_reducible first | exact HB.out | apply below_alloc | apply pw_below_drewN | apply below_drew1) | exact HB.out)))); have n1_ := Aside0.mk (below_step (by repeat (first | (with_reducible first | exact HB.out | apply below_alloc | apply pw_below_drewN | apply below_drew1) | exact HB.out)) hb); clear HB; have HO215 := n0_; have HB := n1_; clear n0_ n1_; clear hb ho11; obtain ⟨Ao12, co12, eo12⟩ := Kd.R_slice HO215.out; subst eo12) | (go_at_call 35; (with_reducible refine (slices_Repeat_int_int.calls _ _ y213 ji5 t216 _ ?side1 ?side2 A6.out).mono ?_); (case side1 => repeat (first | exact (Kd.R_reads' HO215.out).2.2 | (with_reducible refine Kd.C_alloc ?_ _) | (with_reducible refine Kd.C_drewN ?_ _) | (with_reducible refine Kd.C_drew ?_))); (case side2 => exact (Kd.R_reads' HO215.out).2.1); rintro e w13 ⟨v217, rfl, ho0, hb⟩; have n0_ := Aside0.mk (Kd.R_elder' (by (with_reducible repeat (first | apply Kd.R_alloc | apply Kd.R_drewN | apply Kd.R_drew)); exact HO215.out) (Kd.R_base ho0) hb); have n1_ := Aside0.mk (Kd.R_lower (Kd.R_new' ho0 (Kd.R_lt (by (with_reducible repeat (first | apply Kd.R_alloc | apply Kd.R_drewN | apply Kd.R_drew)); exact HO215.out))) (below_size (by repeat (first | (with_reducible first | exact HB.out | apply below_alloc | apply pw_below_drewN | apply below_drew1) | exact HB.out)))); have n2_ := Aside0.mk (below_step (by repeat (first | (with_reducible first | exact HB.out | apply below_alloc | apply pw_below_drewN | apply below_drew1) | exact HB.out)) hb); clear HO215; clear HB; have HO215 := n0_; have HO218 := n1_; have HB := n2_; clear n0_ n1_ n2_; (try clear hb); (try clear hb2); (try clear hk); (try clear hi); (try clear ho0); have p9 : 0 ≤ (a0 : Int) := of_decide_eq_true (by first | (with_reducible assumption) | assumption); have q9 : (a0 : Int) < ((t216.length : Int) : Int) := of_decide_eq_true (by first | (with_reducible assumption) | assumption); obtain ⟨go9, co9, eo9, gb9, gl9, cl9, HG9⟩ := Kd.R_form HO218.out (by omega); (first | cases eo9 | (injection eo9 with ea_ en_ ec_; (first | subst ea_ | (injection ea_ with ea_; subst ea_)); subst ec_; clear en_)); have GB9 := Aside0.mk gb9; have GG9 := Aside0.mk HG9; clear gb9 gl9 HG9; obtain ⟨hx9_0, hf9_0⟩ := Kd.R_celln 0 HO218.out (a0 : Int) p9 q9; replace p9 := eq_true p9; replace q9 := eq_true q9; have n_ := Aside0.mk (Kd.R_mono (ok' := (fun k_ => some k_ ≠ (.slice Ao12 y213.length co12 : Value).ownBlock)) HO218.out (fun k_ hk => hk.2)); clear HO218; have HO218 := n_; clear n_; obtain ⟨hy14_, hz14_⟩ := Kd.R_celln 0 HO218.out (a0 : Int) (of_decide_eq_true (by first | (with_reducible assumption) | assumption)) (of_decide_eq_true (by first | (with_reducible assumption) | assumption)); have HP14 := Kd.R_putg HO218.out (a0 : Int) 0) | ((with_reducible refine gate_store (t := 3) (p := 17) rfl ?_); (try (rw [drewN_self w13]; generalize hq_ : World.drewN w13 _ = w13; have n0_ := Aside0.mk (Kd.R_at hq_ HO215.out); have n1_ := Aside0.mk (Kd.R_at hq_ HO218.out); have n2_ := Aside0.mk (below_at hq_ HB.out); clear hq_ HO215 HO218 HB; have HO215 := n0_; have HO218 := n1_; have HB := n2_; clear n0_ n1_ n2_; (try (have n_ := Aside0.mk (Kd.R_mono (ok' := (fun k_ => some k_ ≠ (.slice Ao12 y213.length co12 : Value).ownBlock)) HO218.out (fun k_ hk => hk.2)); clear HO218; have HO218 := n_; clear n_)); (try (obtain ⟨hy14_, hz14_⟩ := Kd.R_celln 0 HO218.out (a0 : Int) (of_decide_eq_true (by first | (with_reducible assumption) | assumption)) (of_decide_eq_true (by first | (with_reducible assumption) | assumption)))); (try (have HP14 := Kd.R_putg HO218.out (a0 : Int) 0)))); refine store_event (t := 3) (p := 17) (v := ?vo_w15) (w1 := (w13.setCell ⟨go9, (a0 : Int).toNat, none⟩ (.int .i64 0))) ?hg ?ho ?hn ?hr ?_; (case ho => rfl); (case hg => rfl); (case hn => rfl); (case hr => first | (go_simp; done) | (go_simp; rfl)); intro w15 hw; have hg : w13.grownBy w15 (some go9) := (by rw [hw]; exact HP14.2); have hp_ : Kd.R (Kd.int .i64) 3 w15 w.heap.size (fun k_ => some k_ ≠ (.slice Ao12 y213.length co12 : Value).ownBlock) (.slice (some ⟨go9, 0, none⟩) t216.length co9) y219 := (by rw [hw, Ny219.out]; exact HP14.1); clear HP14; have n0_ := Aside0.mk (Kd.R_after (v := (.slice (some ⟨go9, 0, none⟩) t216.length co9)) (v1 := (.slice (some ⟨go9, 0, none⟩) t216.length co9)) (ok := (fun _ => True)) (by (with_reducible repeat (first | apply Kd.R_alloc | apply Kd.R_drewN | apply Kd.R_drew)); exact HO215.out) hg (.inl rfl)); have n1_ := Aside0.mk (hp_); have n2_ := Aside0.mk ((by rw [hw]; exact below_set (HB.out) GB9.out : Below w.heap.size w w15)); clear HO215; clear HO218; clear HB; have HO215 := n0_; have HO218 := n1_; have HB := n2_; clear n0_ n1_ n2_; clear hg hw hp_) | ((with_reducible refine gate_dst (N := 19) rfl ?_); refine Kd.R_lit (Kd.int .i64) _ 49 ?hg (N := 19) ?hd (xs := ([a0] : List Int)) (inner := [.int .i64 a0]) (ok := fun _ => True) (okp := fun _ => True) ?hr ?hp (fun _ hk => hk) trivial (Below.refl _ _) (Nat.le_refl _) (by simp) ?_; (case hd => rfl); (case hg => rfl); (case hr => first | (go_simp; done) | (go_simp; rfl)); (case hp => exact (Reps.one (show Kd.M (Kd.int .i64) _ _ _ a0 [.int .i64 a0] from rfl) (Reps.none _ _))); intro v221 w16 ho17 hb hg_ hnew_; clear hg_ hnew_; (first | rw [← Ny220.out] at ho17 | (simp only [Int.reduceToNat] at ho17; rw [← Ny220.out] at ho17)); have n0_ := Aside0.mk (Kd.R_below (by (with_reducible repeat (first | apply Kd.R_alloc | apply Kd.R_drewN | apply Kd.R_drew)); exact HO215.out) hb); have n1_ := Aside0.mk (Kd.R_below (by (with_reducible repeat (first | apply Kd.R_alloc | apply Kd.R_drewN | apply Kd.R_drew)); exact HO218.out) hb); have n2_ := Aside0.mk (Kd.R_lower ho17 (below_size (by repeat (first | (with_reducible first | exact HB.out | apply below_alloc | apply pw_below_drewN | apply below_drew1) | exact HB.out)))); have n3_ := Aside0.mk (below_step (by repeat (first | (with_reducible first | exact HB.out | apply below_alloc | apply pw_below_drewN | apply below_drew1) | exact HB.out)) hb); clear HO215; clear HO218; clear HB; have HO215 := n0_; have HO218 := n1_; have HO222 := n2_; have HB := n3_; clear n0_ n1_ n2_ n3_; clear hb ho17)))
    go_loopg [8] k (fun kq v8 w' => ∃ (x7_1 : List Int) (x8_1 : List Int), Aside0 (impl_distancesTo.l0 kq a1 l2 x7_1 x8_1 = some r) ∧ Aside0 (kq ≤ k) ∧ Aside0 (Kd.R (Kd.int .i64) 3 w' w.heap.size (fun _ => True) (.slice (some ⟨go9, 0, none⟩) t216.length co9) x7_1) ∧ Aside0 (Kd.Q (Kd.int .i64) 49 w' w.heap.size (fun _ => True) v8 x8_1) ∧ Aside0 (Below w.heap.size w w'))
    case atStart => exact ⟨(y219), (y220), H', ⟨Nat.le_refl _⟩, ⟨by (with_reducible repeat (first | apply Kd.R_alloc | apply Kd.R_drewN | apply Kd.R_drew)); exact Kd.R_mono HO218.out (fun _ hk => trivial)⟩, ⟨Kd.Q_of_R (by (with_reducible repeat (first | apply Kd.R_alloc | apply Kd.R_drewN | apply Kd.R_drew)); exact HO222.out)⟩, ⟨by repeat (first | (with_reducible first | exact HB.out | apply below_alloc | apply pw_below_drewN | apply below_drew1) | exact HB.out)⟩⟩
    case round =>
     clear H'
     try clear c2
     try clear p2
     try clear c4
     try clear c4b0
     try clear c4b1
     try clear p6
     try clear c7
     try clear c7b0
     try clear c8
     try clear c8b0
     try clear p9
     try clear q9
     try clear hx9
     try clear hf9
     try clear hx9_0
     try clear p9
     try clear q9
     obtain ⟨x7_1, x8_1, HA, HK1, HO_7, HO_8, HB⟩ := hrel
     have hl7_1 := (Kd.R_reads' HO_7.out).1
     rw [hl7_1] at HO_7
     (try simp only [hl7_1])
     (try simp only [hl7_1] at HO_8)
     cases gk with
     | zero => exact absurd HA.out (by simp [impl_distancesTo.l0])
     | succ k1 =>
      have H := HA.out
      clear HA
      simp only [impl_distancesTo.l0] at H
      by_cases c18 : (x8_1.length : Int) > 0
      ·
       rw [if_pos c18] at H
       have c18b0 : decide (0 < (x8_1.length : Int)) = true := decide_eq_true c18
       have c18b1 : decide (0 < x8_1.length) = true := decide_eq_true (by omega)
       clear c18
       have H' := Aside0.mk H
       clear H
       obtain ⟨Ao19, co19, eo19, _⟩ := Kd.Q_slice HO_8.out
       subst eo19
       go_wp2
       repeat (go_quiet (fail); try go_wp2)
       go_loopg [8, 9] k1 (fun kq v8 v9 w' => ∃ (x7_2 : List Int) (x8_2 : List Int) (x9_2 : Int), v9 = .int .i64 x9_2 ∧ Aside0 (impl_distancesTo.l1 kq a1 l2 x7_2 x8_2 x9_2 = some r) ∧ Aside0 (kq ≤ k1) ∧ Aside0 (Kd.R (Kd.int .i64) 3 w' w.heap.size (fun _ => True) (.slice (some ⟨go9, 0, none⟩) x7_1.length co9) x7_2) ∧ Aside0 (Kd.Q (Kd.int .i64) 49 w' w.heap.size (fun _ => True) v8 x8_2) ∧ Aside0 (Below w.heap.size w w'))
       case atStart => exact ⟨(x7_1), (x8_1), (0), (by first | rfl | (simp; done) | (simp [*]; done)), H', ⟨Nat.le_refl _⟩, ⟨by (try simp only [hl7_1]); (with_reducible repeat (first | apply Kd.R_alloc | apply Kd.R_drewN | apply Kd.R_drew)); exact HO_7.out⟩, ⟨by (try simp only [hl7_1]); (with_reducible repeat (first | apply Kd.Q_alloc | apply Kd.Q_drewN | apply Kd.Q_drew)); exact HO_8.out⟩, ⟨by repeat (first | (with_reducible first | exact HB.out | apply below_alloc | apply pw_below_drewN | apply below_drew1) | exact HB.out)⟩⟩
       case round =>
        clear H'
        try clear c1
        try clear c2
        try clear p2
        try clear c4
        try clear c4b0
        try clear c4b1
        try clear p6
        try clear c7
        try clear c7b0
        try clear c8
        try clear c8b0
        try clear p9
        try clear q9
        try clear hx9
        try clear hf9
        try clear c18
        try clear c18b0
        try clear c18b1
        try clear hx9_0
        try clear p2
        try clear p6
        try clear p9
        try clear q9
        obtain ⟨x7_2, x8_2, x9_2, rfl, HA, HK2, HO_7, HO_8, HB⟩ := hrel
        have hl7_2 := (Kd.R_reads' HO_7.out).1
        rw [hl7_2] at HO_7
        (try simp only [hl7_2])
        (try simp only [hl7_2] at HO_8)
        cases gk with
        | zero => exact absurd HA.out (by simp [impl_distancesTo.l1])
        | succ k2 =>
         have H := HA.out
         clear HA
         simp only [impl_distancesTo.l1] at H
         have HC20 := Aside0.mk H
         clear H
         go_upto_region 7 with (fail)
         repeat (go_quiet (fail); go_upto_region 7 with (fail))
         go_cut [34] (fun v34 wc => ∃ (kq : Nat) (x34_19 : Bool), v34 = .bool x34_19 ∧ Aside0 (impl_distancesTo.j2 kq a1 l2 x7_2 x8_2 x9_2 x34_19 = some r) ∧ Aside0 (kq ≤ k2) ∧ Aside0 (Kd.R (Kd.int .i64) 3 wc w.heap.size (fun _ => True) (.slice (some ⟨go9, 0, none⟩) x7_2.length co9) x7_2) ∧ Aside0 (Kd.Q (Kd.int .i64) 49 wc w.heap.size (fun _ => True) u8 x8_2) ∧ Aside0 (Below w.heap.size w wc))
         case first =>
          have H := HC20.out
          clear HC20
          by_cases c21 : x9_2 < a1
          ·
           rw [if_pos c21] at H
           have c21b0 : decide (x9_2 < a1) = true := decide_eq_true c21
           clear c21
           (first | rw [c21b0] | (simp only [i64_w, i32_w]; rw [c21b0]) | skip)
           by_cases c22 : 0 < (x8_2.length : Int)
           ·
            rw [if_pos c22] at H
            have c22b0 : decide (0 < (x8_2.length : Int)) = true := decide_eq_true c22
            have c22b1 : decide (0 < x8_2.length) = true := decide_eq_true (by omega)
            clear c22
            replace H := Option.bind_eq_some_iff.mp H
            obtain ⟨t224, A230, H⟩ := H
            replace H : (impl_distancesTo.j2 k2 a1 l2 x7_2 x8_2 x9_2 t224) = some r := H
            have A23 := Aside0.mk A230
            clear A230
            have H' := Aside0.mk H
            clear H
            obtain ⟨Ao24, co24, eo24, _⟩ := Kd.Q_slice HO_8.out
            subst eo24
            have p223 : 0 ≤ (0 : Int) := (by omega)
            have q223 : 0 < (x8_2.length : Int) := of_decide_eq_true (by first | (with_reducible assumption) | assumption)
            obtain ⟨ad223, e223, hx223_0⟩ := Kd.at_int (Kd.Q_reads' HO_8.out).2.2 0 p223 q223
            cases e223
            have qi223 : (0 < x8_2.length) = True := eq_true (by omega)
            (try rw [show ((0 : Int)).toNat = 0 from rfl] at hx223_0)
            (try rw [Addr.add_zero'] at hx223_0)
            replace p223 := eq_true p223
            replace q223 := eq_true q223
            go_wp2_with (first | (go_at_call 27; (with_reducible refine (impl_switches_allowed.calls (rd x8_2 0) _ _ l2 t224 _ ?side1 ?side2 A23.out).mono ?_); (case side1 => repeat (first | exact (Kd.C_below HR2.out HB.out) | (with_reducible refine Kd.C_alloc ?_ _) | (with_reducible refine Kd.C_drewN ?_ _) | (with_reducible refine Kd.C_drew ?_))); (case side2 => exact HC2.out); rintro e w25 ⟨rfl, hb⟩; have n0_ := Aside0.mk (Kd.R_below (by (with_reducible repeat (first | apply Kd.R_alloc | apply Kd.R_drewN | apply Kd.R_drew)); exact HO_7.out) hb); have n1_ := Aside0.mk (Kd.Q_below (by (with_reducible repeat (first | apply Kd.Q_alloc | apply Kd.Q_drewN | apply Kd.Q_drew)); exact HO_8.out) hb); have n2_ := Aside0.mk (below_step (by repeat (first | (with_reducible first | exact HB.out | apply below_alloc | apply pw_below_drewN | apply below_drew1) | exact HB.out)) hb); clear HO_7; clear HO_8; clear HB; have HO_7 := n0_; have HO_8 := n1_; have HB := n2_; clear n0_ n1_ n2_; (try clear hb); (try clear hb2); (try clear hk); (try clear hi)))
            repeat (go_quiet (first | (go_at_call 27; (with_reducible refine (impl_switches_allowed.calls (rd x8_2 0) _ _ l2 t224 _ ?side1 ?side2 A23.out).mono ?_); (case side1 => repeat (first | exact (Kd.C_below HR2.out HB.out) | (with_reducible refine Kd.C_alloc ?_ _) | (with_reducible refine Kd.C_drewN ?_ _) | (with_reducible refine Kd.C_drew ?_))); (case side2 => exact HC2.out); rintro e w25 ⟨rfl, hb⟩; have n0_ := Aside0.mk (Kd.R_below (by (with_reducible repeat (first | apply Kd.R_alloc | apply Kd.R_drewN | apply Kd.R_drew)); exact HO_7.out) hb); have n1_ := Aside0.mk (Kd.Q_below (by (with_reducible repeat (first | apply Kd.Q_alloc | apply Kd.Q_drewN | apply Kd.Q_drew)); exact HO_8.out) hb); have n2_ := Aside0.mk (below_step (by repeat (first | (with_reducible first | exact HB.out | apply below_alloc | apply pw_below_drewN | apply below_drew1) | exact HB.out)) hb); clear HO_7; clear HO_8; clear HB; have HO_7 := n0_; have HO_8 := n1_; have HB := n2_; clear n0_ n1_ n2_; (try clear hb); (try clear hb2); (try clear hk); (try clear hi))); try go_wp2_with (first | (go_at_call 27; (with_reducible refine (impl_switches_allowed.calls (rd x8_2 0) _ _ l2 t224 _ ?side1 ?side2 A23.out).mono ?_); (case side1 => repeat (first | exact (Kd.C_below HR2.out HB.out) | (with_reducible refine Kd.C_alloc ?_ _) | (with_reducible refine Kd.C_drewN ?_ _) | (with_reducible refine Kd.C_drew ?_))); (case side2 => exact HC2.out); rintro e w25 ⟨rfl, hb⟩; have n0_ := Aside0.mk (Kd.R_below (by (with_reducible repeat (first | apply Kd.R_alloc | apply Kd.R_drewN | apply Kd.R_drew)); exact HO_7.out) hb); have n1_ := Aside0.mk (Kd.Q_below (by (with_reducible repeat (first | apply Kd.Q_alloc | apply Kd.Q_drewN | apply Kd.Q_drew)); exact HO_8.out) hb); have n2_ := Aside0.mk (below_step (by repeat (first | (with_reducible first | exact HB.out | apply below_alloc | apply pw_below_drewN | apply below_drew1) | exact HB.out)) hb); clear HO_7; clear HO_8; clear HB; have HO_7 := n0_; have HO_8 := n1_; have HB := n2_; clear n0_ n1_ n2_; (try clear hb); (try clear hb2); (try clear hk); (try clear hi))))
            go_meet
            case rel => exact ⟨_, (t224), (by first | rfl | (simp; done) | (simp [*]; done)), H', ⟨by have := HK1.out; have := HK2.out; first | omega | exact Nat.le_refl _⟩, ⟨by (try simp only [hl7_1]); (try simp only [hl7_2]); (with_reducible repeat (first | apply Kd.R_alloc | apply Kd.R_drewN | apply Kd.R_drew)); exact HO_7.out⟩, ⟨by (try simp only [hl7_1]); (try simp only [hl7_2]); (with_reducible repeat (first | apply Kd.Q_alloc | apply Kd.Q_drewN | apply Kd.Q_drew)); exact HO_8.out⟩, ⟨by repeat (first | (with_reducible first | exact HB.out | apply below_alloc | apply pw_below_drewN | apply below_drew1) | exact HB.out)⟩⟩
           ·
            rw [if_neg c22] at H
            exact absurd H (by simp)
          ·
           rw [if_neg c21] at H
           have c21b0 : decide (x9_2 < a1) = false := decide_eq_false c21
           clear c21
           (first | rw [c21b0] | (simp only [i64_w, i32_w]; rw [c21b0]) | skip)
           have H' := Aside0.mk H
           clear H
           go_wp2
           repeat (go_quiet (fail); try go_wp2)
           go_meet
           case rel => exact ⟨_, (false), (by first | rfl | (simp; done) | (simp [*]; done)), H', ⟨by have := HK1.out; have := HK2.out; first | omega | exact Nat.le_refl _⟩, ⟨by (try simp only [hl7_1]); (try simp only [hl7_2]); (with_reducible repeat (first | apply Kd.R_alloc | apply Kd.R_drewN | apply Kd.R_drew)); exact HO_7.out⟩, ⟨by (try simp only [hl7_1]); (try simp only [hl7_2]); (with_reducible repeat (first | apply Kd.Q_alloc | apply Kd.Q_drewN | apply Kd.Q_drew)); exact HO_8.out⟩, ⟨by repeat (first | (with_reducible first | exact HB.out | apply below_alloc | apply pw_below_drewN | apply below_drew1) | exact HB.out)⟩⟩
         case rest =>
          clear HC20
          try clear c1
          try clear c2
          try clear p2
          try clear q2
          try clear hx2
          try clear qi2
          try clear c4
          try clear c4b0
          try clear c4b1
          try clear p6
          try clear c7
          try clear c7b0
          try clear c8
          try clear c8b0
          try clear p9
          try clear q9
          try clear hx9
          try clear hf9
          try clear c18
          try clear c18b0
          try clear c18b1
          try clear c21
          try clear c21b0
          try clear c22
          try clear c22b0
          try clear c22b1
          try clear p22
          try clear q22
          try clear hx22
          try clear qi22
          try clear hx223_0
          try clear hx9_0
          try clear p2
          try clear p223
          try clear p6
          try clear p9
          try clear q223
          try clear q9
          obtain ⟨kq, x34_19, rfl, HA, HJ19, HO_7, HO_8, HB⟩ := hcut
          cases kq with
          | zero => exact absurd HA.out (by simp [impl_distancesTo.j2])
          | succ kj19 =>
           have H := HA.out
           clear HA
           simp only [impl_distancesTo.j2] at H
           by_cases c26 : x34_19 = true
           ·
            subst c26
            have H1 : (if 0 < (x8_2.length : Int) then (if 0 ≤ x9_2 then (if 0 ≤ (Go.bits .xor .i64 (rd x8_2 0) (shl .i64 1 x9_2)) then (if (Go.bits .xor .i64 (rd x8_2 0) (shl .i64 1 x9_2)) < (x7_2.length : Int) then (if (rd x7_2 (Go.bits .xor .i64 (rd x8_2 0) (shl .i64 1 x9_2))) < 0 then (if 0 ≤ (rd x8_2 0) then (if (rd x8_2 0) < (x7_2.length : Int) then (if x8_2.length < 17592186044416 then (impl_distancesTo.l1 kj19 a1 l2 (x7_2.set ((Go.bits .xor .i64 (rd x8_2 0) (shl .i64 1 x9_2)) : Int).toNat (wrap64 ((rd x7_2 (rd x8_2 0)) + 1))) (x8_2 ++ [Go.bits .xor .i64 (rd x8_2 0) (shl .i64 1 x9_2)]) (wrap64 (x9_2 + 1))) else (none)) else (none)) else (none)) else (impl_distancesTo.l1 kj19 a1 l2 x7_2 x8_2 (wrap64 (x9_2 + 1)))) else (none)) else (none)) else (none)) else (none)) = some r := by rw [if_pos rfl] at H; exact H
            clear H
            have H := H1
            clear H1
            by_cases c27 : 0 < (x8_2.length : Int)
            ·
             rw [if_pos c27] at H
             have c27b0 : decide (0 < (x8_2.length : Int)) = true := decide_eq_true c27
             have c27b1 : decide (0 < x8_2.length) = true := decide_eq_true (by omega)
             clear c27
             by_cases c28 : 0 ≤ x9_2
             ·
              rw [if_pos c28] at H
              have c28b0 := eq_true c28
              have c28b1 : decide (0 ≤ x9_2) = true := decide_eq_true c28
              clear c28
              obtain ⟨ji29, hji29⟩ : ∃ j_ : Int, (shl .i64 1 x9_2) = j_ := ⟨_, rfl⟩
              replace H : (if 0 ≤ (Go.bits .xor .i64 (rd x8_2 0) (ji29)) then (if (Go.bits .xor .i64 (rd x8_2 0) (ji29)) < (x7_2.length : Int) then (if (rd x7_2 (Go.bits .xor .i64 (rd x8_2 0) (ji29))) < 0 then (if 0 ≤ (rd x8_2 0) then (if (rd x8_2 0) < (x7_2.length : Int) then (if x8_2.length < 17592186044416 then (impl_distancesTo.l1 kj19 a1 l2 (x7_2.set ((Go.bits .xor .i64 (rd x8_2 0) (ji29)) : Int).toNat (wrap64 ((rd x7_2 (rd x8_2 0)) + 1))) (x8_2 ++ [Go.bits .xor .i64 (rd x8_2 0) (ji29)]) (wrap64 (x9_2 + 1))) else (none)) else (none)) else (none)) else (impl_distancesTo.l1 kj19 a1 l2 x7_2 x8_2 (wrap64 (x9_2 + 1)))) else (none)) else (none)) = some r := by first | (rw [hji29] at H; exact H) | (simp only [hji29] at H ⊢; exact H)
              have hji29_ : (IntKind.i64.wrap (1 * 2 ^ min x9_2.toNat 64)) = ji29 := hji29
              have hji29z : x9_2 ≤ 64 → (IntKind.i64.wrap (1 * 2 ^ x9_2.toNat)) = ji29 := shl_small hji29
              have hji29u : (IntKind.i64.wrap (2 ^ min x9_2.toNat 64)) = ji29 := by have h_ := hji29_; rw [Int.one_mul] at h_; exact h_
              have hji29v : x9_2 ≤ 64 → (IntKind.i64.wrap (2 ^ x9_2.toNat)) = ji29 := fun hle_ => by have h_ := hji29z hle_; rw [Int.one_mul] at h_; exact h_
              have hji29y : (wrap64 (1 * 2 ^ min x9_2.toNat 64)) = ji29 := (i64_w _).symm.trans hji29_
              have hji29x : x9_2 ≤ 64 → (wrap64 (1 * 2 ^ x9_2.toNat)) = ji29 := fun h_ => (i64_w _).symm.trans (hji29z h_)
              by_cases c30 : 0 ≤ (Go.bits .xor .i64 (rd x8_2 0) (ji29))
              ·
               rw [if_pos c30] at H
               have c30b0 : decide (0 ≤ (Go.bits .xor .i64 (rd x8_2 0) (ji29))) = true := decide_eq_true c30
               clear c30
               by_cases c31 : (Go.bits .xor .i64 (rd x8_2 0) (ji29)) < (x7_2.length : Int)
               ·
                rw [if_pos c31] at H
                have c31b0 : decide ((Go.bits .xor .i64 (rd x8_2 0) (ji29)) < (x7_2.length : Int)) = true := decide_eq_true c31
                clear c31
                by_cases c32 : (rd x7_2 (Go.bits .xor .i64 (rd x8_2 0) (ji29))) < 0
                ·
                 rw [if_pos c32] at H
                 have c32b0 : decide ((rd x7_2 (Go.bits .xor .i64 (rd x8_2 0) (ji29))) < 0) = true := decide_eq_true c32
                 clear c32
                 by_cases c33 : 0 ≤ (rd x8_2 0)
                 ·
                  rw [if_pos c33] at H
                  have c33b0 : decide (0 ≤ (rd x8_2 0)) = true := decide_eq_true c33
                  clear c33
                  by_cases c34 : (rd x8_2 0) < (x7_2.length : Int)
                  ·
                   rw [if_pos c34] at H
                   have c34b0 : decide ((rd x8_2 0) < (x7_2.length : Int)) = true := decide_eq_true c34
                   clear c34
                   obtain ⟨y229, hy229⟩ : ∃ y_ : List Int, y_ = (x7_2.set ((Go.bits .xor .i64 (rd x8_2 0) (ji29)) : Int).toNat (wrap64 ((rd x7_2 (rd x8_2 0)) + 1))) := ⟨_, rfl⟩
                   replace H : (if x8_2.length < 17592186044416 then (impl_distancesTo.l1 kj19 a1 l2 y229 (x8_2 ++ [Go.bits .xor .i64 (rd x8_2 0) (ji29)]) (wrap64 (x9_2 + 1))) else (none)) = some r := by first | (rw [hy229]; with_reducible exact H) | (have H2_ := (Option.bind_some _ _).symm.trans H; rw [hy229]; with_reducible exact H2_) | (have H2_ := (Option.bind_some _ _).symm.trans H; with_reducible exact H2_) | with_reducible exact H | (rw [hy229]; exact H) | exact H
                   have Ny229 := Aside0.mk hy229
                   clear hy229
                   by_cases c36 : x8_2.length < 17592186044416
                   ·
                    rw [if_pos c36] at H
                    have LMc36 := Aside0.mk c36
                    clear c36
                    obtain ⟨y230, hy230⟩ : ∃ y_ : List Int, y_ = (x8_2 ++ [Go.bits .xor .i64 (rd x8_2 0) (ji29)]) := ⟨_, rfl⟩
                    replace H : (impl_distancesTo.l1 kj19 a1 l2 y229 y230 (wrap64 (x9_2 + 1))) = some r := by first | (rw [hy230]; with_reducible exact H) | (have H2_ := (Option.bind_some _ _).symm.trans H; rw [hy230]; with_reducible exact H2_) | (have H2_ := (Option.bind_some _ _).symm.trans H; with_reducible exact H2_) | with_reducible exact H | (rw [hy230]; exact H) | exact H
                    have Ny230 := Aside0.mk hy230
                    clear hy230
                    have H' := Aside0.mk H
                    clear H
                    obtain ⟨Ao37, co37, eo37, _⟩ := Kd.Q_slice HO_8.out
                    subst eo37
                    have p225 : 0 ≤ (0 : Int) := (by omega)
                    have q225 : 0 < (x8_2.length : Int) := of_decide_eq_true (by first | (with_reducible assumption) | assumption)
                    obtain ⟨ad225, e225, hx225_0⟩ := Kd.at_int (Kd.Q_reads' HO_8.out).2.2 0 p225 q225
                    cases e225
                    have qi225 : (0 < x8_2.length) = True := eq_true (by omega)
                    (try rw [show ((0 : Int)).toNat = 0 from rfl] at hx225_0)
                    (try rw [Addr.add_zero'] at hx225_0)
                    replace p225 := eq_true p225
                    replace q225 := eq_true q225
                    have p226 : 0 ≤ ((Go.bits .xor .i64 (rd x8_2 0) (ji29)) : Int) := of_decide_eq_true (by first | (with_reducible assumption) | assumption)
                    have q226 : (Go.bits .xor .i64 (rd x8_2 0) (ji29)) < (x7_2.length : Int) := of_decide_eq_true (by first | (with_reducible assumption) | assumption)
                    obtain ⟨ad226, e226, hx226_0⟩ := Kd.at_int (Kd.R_reads' HO_7.out).2.2 (Go.bits .xor .i64 (rd x8_2 0) (ji29)) p226 q226
                    obtain rfl : (⟨go9, 0, none⟩ : Addr) = ad226 := (by injection e226)
                    (first | simp only [add_plain] at hx226_0 | simp only [add_at] at hx226_0 | simp only [Addr.add, Nat.zero_add] at hx226_0 | skip)
                    replace p226 := eq_true p226
                    replace q226 := eq_true q226
                    have p227 : 0 ≤ (0 : Int) := (by omega)
                    have q227 : 0 < (x8_2.length : Int) := of_decide_eq_true (by first | (with_reducible assumption) | assumption)
                    obtain ⟨ad227, e227, hx227_0⟩ := Kd.at_int (Kd.Q_reads' HO_8.out).2.2 0 p227 q227
                    obtain rfl : ad225 = ad227 := (by injection e227)
                    have qi227 : (0 < x8_2.length) = True := eq_true (by omega)
                    (try rw [show ((0 : Int)).toNat = 0 from rfl] at hx227_0)
                    (try rw [Addr.add_zero'] at hx227_0)
                    replace p227 := eq_true p227
                    replace q227 := eq_true q227
                    have p228 : 0 ≤ ((rd x8_2 0) : Int) := of_decide_eq_true (by first | (with_reducible assumption) | assumption)
                    have q228 : (rd x8_2 0) < (x7_2.length : Int) := of_decide_eq_true (by first | (with_reducible assumption) | assumption)
                    obtain ⟨ad228, e228, hx228_0⟩ := Kd.at_int (Kd.R_reads' HO_7.out).2.2 (rd x8_2 0) p228 q228
                    obtain rfl : (⟨go9, 0, none⟩ : Addr) = ad228 := (by injection e228)
                    (first | simp only [add_plain] at hx228_0 | simp only [add_at] at hx228_0 | simp only [Addr.add, Nat.zero_add] at hx228_0 | skip)
                    replace p228 := eq_true p228
                    replace q228 := eq_true q228
                    have p35 : 0 ≤ ((Go.bits .xor .i64 (rd x8_2 0) (ji29)) : Int) := of_decide_eq_true (by first | (with_reducible assumption) | assumption)
                    have q35 : ((Go.bits .xor .i64 (rd x8_2 0) (ji29)) : Int) < ((x7_2.length : Int) : Int) := of_decide_eq_true (by first | (with_reducible assumption) | assumption)
                    obtain ⟨hx35_0, hf35_0⟩ := Kd.R_celln 0 HO_7.out ((Go.bits .xor .i64 (rd x8_2 0) (ji29)) : Int) p35 q35
                    replace p35 := eq_true p35
                    replace q35 := eq_true q35
                    have HP38 := Kd.R_putg HO_7.out ((Go.bits .xor .i64 (rd x8_2 0) (ji29)) : Int) (wrap64 ((rd x7_2 (rd x8_2 0)) + 1))
                    go_wp2_with (first | ((with_reducible refine gate_store (t := 3) (p := 57) rfl ?_); (try (rw [drewN_self wc]; generalize hq_ : World.drewN wc _ = wc; have n0_ := Aside0.mk (Kd.R_at hq_ HO_7.out); have n1_ := Aside0.mk (Kd.Q_at hq_ HO_8.out); have n2_ := Aside0.mk (below_at hq_ HB.out); clear hq_ HO_7 HO_8 HB; have HO_7 := n0_; have HO_8 := n1_; have HB := n2_; clear n0_ n1_ n2_; (try (obtain ⟨hx35_0, hf35_0⟩ := Kd.R_celln 0 HO_7.out ((Go.bits .xor .i64 (rd x8_2 0) (ji29)) : Int) (of_eq_true p35) (of_eq_true q35))); (try (have HP38 := Kd.R_putg HO_7.out ((Go.bits .xor .i64 (rd x8_2 0) (ji29)) : Int) (wrap64 ((rd x7_2 (rd x8_2 0)) + 1)))))); refine store_event (t := 3) (p := 57) (v := ?vo_w39) (w1 := (wc.setCell ⟨go9, ((Go.bits .xor .i64 (rd x8_2 0) (ji29)) : Int).toNat, none⟩ (.int .i64 (wrap64 ((rd x7_2 (rd x8_2 0)) + 1))))) ?hg ?ho ?hn ?hr ?_; (case ho => rfl); (case hg => rfl); (case hn => rfl); (case hr => first | (go_simp; done) | (go_simp; rfl)); intro w39 hw; have hg : wc.grownBy w39 (some go9) := (by rw [hw]; exact HP38.2); have hp_ : Kd.R (Kd.int .i64) 3 w39 w.heap.size (fun _ => True) (.slice (some ⟨go9, 0, none⟩) x7_2.length co9) y229 := (by rw [hw, Ny229.out]; exact HP38.1); clear HP38; have n0_ := Aside0.mk (hp_); have n1_ := Aside0.mk (Kd.Q_over' (v := (.slice (some ⟨go9, 0, none⟩) x7_2.length co9)) (by (with_reducible repeat (first | apply Kd.Q_alloc | apply Kd.Q_drewN | apply Kd.Q_drew)); exact HO_8.out) (Kd.R_typed HO_7.out) (by decide) hg); have n2_ := Aside0.mk ((by rw [hw]; exact below_set (HB.out) GB9.out : Below w.heap.size w w39)); clear HO_7; clear HO_8; clear HB; have HO_7 := n0_; have HO_8 := n1_; have HB := n2_; clear n0_ n1_ n2_; clear hg hw hp_) | ((with_reducible refine gate_builtin (b := .append) (xs := #[.tmp 58, .tmp 60]) rfl ?_); at_builtin; refine Kd.Q_append (Kd.int .i64) (w0 := w) w.heap.size rfl (.tmp 58) (.tmp 60) 61 49 (.int .i64 0) 8 rfl Try.underlying61 info49 rfl (by decide) (by omega) (.slice (some ad225) x8_2.length co37) x8_2 (Go.bits .xor .i64 (rd x8_2 0) (ji29)) [.int .i64 (Go.bits .xor .i64 (rd x8_2 0) (ji29))] (fun _ => True) (fun _ => False) rfl rfl ?aP (fun _ hk => hk.elim) ?aF ?aO ?aB ?aS ?aL ?_; (case aP => exact rfl); (case aB => exact (by repeat (first | (with_reducible first | exact HB.out | apply below_alloc | apply pw_below_drewN | apply below_drew1) | exact HB.out))); (case aF => exact (fun _ _ => trivial)); (case aO => exact (by (with_reducible repeat (first | apply Kd.Q_alloc | apply Kd.Q_drewN | apply Kd.Q_drew)); exact HO_8.out)); (case aS => exact (below_size (by repeat (first | (with_reducible first | exact HB.out | apply below_alloc | apply pw_below_drewN | apply below_drew1) | exact HB.out)))); (case aL => have := LMc36.out; omega); intro v231 w40 ho hb hg hat; rw [← Ny230.out] at ho; have n0_ := Aside0.mk (Kd.R_over' (by (with_reducible repeat (first | apply Kd.R_alloc | apply Kd.R_drewN | apply Kd.R_drew)); exact HO_7.out) (Kd.Q_typed (by (with_reducible repeat (first | apply Kd.Q_alloc | apply Kd.Q_drewN | apply Kd.Q_drew)); exact HO_8.out)) (by decide) hg); have n1_ := Aside0.mk (hb); have n2_ := Aside0.mk (ho); clear HO_7; clear HB; clear HO_8; have HO_7 := n0_; have HB := n1_; have HO232 := n2_; clear n0_ n1_ n2_; clear ho hb hg hat))
                    repeat (go_quiet (first | ((with_reducible refine gate_store (t := 3) (p := 57) rfl ?_); (try (rw [drewN_self wc]; generalize hq_ : World.drewN wc _ = wc; have n0_ := Aside0.mk (Kd.R_at hq_ HO_7.out); have n1_ := Aside0.mk (Kd.Q_at hq_ HO_8.out); have n2_ := Aside0.mk (below_at hq_ HB.out); clear hq_ HO_7 HO_8 HB; have HO_7 := n0_; have HO_8 := n1_; have HB := n2_; clear n0_ n1_ n2_; (try (obtain ⟨hx35_0, hf35_0⟩ := Kd.R_celln 0 HO_7.out ((Go.bits .xor .i64 (rd x8_2 0) (ji29)) : Int) (of_eq_true p35) (of_eq_true q35))); (try (have HP38 := Kd.R_putg HO_7.out ((Go.bits .xor .i64 (rd x8_2 0) (ji29)) : Int) (wrap64 ((rd x7_2 (rd x8_2 0)) + 1)))))); refine store_event (t := 3) (p := 57) (v := ?vo_w39) (w1 := (wc.setCell ⟨go9, ((Go.bits .xor .i64 (rd x8_2 0) (ji29)) : Int).toNat, none⟩ (.int .i64 (wrap64 ((rd x7_2 (rd x8_2 0)) + 1))))) ?hg ?ho ?hn ?hr ?_; (case ho => rfl); (case hg => rfl); (case hn => rfl); (case hr => first | (go_simp; done) | (go_simp; rfl)); intro w39 hw; have hg : wc.grownBy w39 (some go9) := (by rw [hw]; exact HP38.2); have hp_ : Kd.R (Kd.int .i64) 3 w39 w.heap.size (fun _ => True) (.slice (some ⟨go9, 0, none⟩) x7_2.length co9) y229 := (by rw [hw, Ny229.out]; exact HP38.1); clear HP38; have n0_ := Aside0.mk (hp_); have n1_ := Aside0.mk (Kd.Q_over' (v := (.slice (some ⟨go9, 0, none⟩) x7_2.length co9)) (by (with_reducible repeat (first | apply Kd.Q_alloc | apply Kd.Q_drewN | apply Kd.Q_drew)); exact HO_8.out) (Kd.R_typed HO_7.out) (by decide) hg); have n2_ := Aside0.mk ((by rw [hw]; exact below_set (HB.out) GB9.out : Below w.heap.size w w39)); clear HO_7; clear HO_8; clear HB; have HO_7 := n0_; have HO_8 := n1_; have HB := n2_; clear n0_ n1_ n2_; clear hg hw hp_) | ((with_reducible refine gate_builtin (b := .append) (xs := #[.tmp 58, .tmp 60]) rfl ?_); at_builtin; refine Kd.Q_append (Kd.int .i64) (w0 := w) w.heap.size rfl (.tmp 58) (.tmp 60) 61 49 (.int .i64 0) 8 rfl Try.underlying61 info49 rfl (by decide) (by omega) (.slice (some ad225) x8_2.length co37) x8_2 (Go.bits .xor .i64 (rd x8_2 0) (ji29)) [.int .i64 (Go.bits .xor .i64 (rd x8_2 0) (ji29))] (fun _ => True) (fun _ => False) rfl rfl ?aP (fun _ hk => hk.elim) ?aF ?aO ?aB ?aS ?aL ?_; (case aP => exact rfl); (case aB => exact (by repeat (first | (with_reducible first | exact HB.out | apply below_alloc | apply pw_below_drewN | apply below_drew1) | exact HB.out))); (case aF => exact (fun _ _ => trivial)); (case aO => exact (by (with_reducible repeat (first | apply Kd.Q_alloc | apply Kd.Q_drewN | apply Kd.Q_drew)); exact HO_8.out)); (case aS => exact (below_size (by repeat (first | (with_reducible first | exact HB.out | apply below_alloc | apply pw_below_drewN | apply below_drew1) | exact HB.out)))); (case aL => have := LMc36.out; omega); intro v231 w40 ho hb hg hat; rw [← Ny230.out] at ho; have n0_ := Aside0.mk (Kd.R_over' (by (with_reducible repeat (first | apply Kd.R_alloc | apply Kd.R_drewN | apply Kd.R_drew)); exact HO_7.out) (Kd.Q_typed (by (with_reducible repeat (first | apply Kd.Q_alloc | apply Kd.Q_drewN | apply Kd.Q_drew)); exact HO_8.out)) (by decide) hg); have n1_ := Aside0.mk (hb); have n2_ := Aside0.mk (ho); clear HO_7; clear HB; clear HO_8; have HO_7 := n0_; have HB := n1_; have HO232 := n2_; clear n0_ n1_ n2_; clear ho hb hg hat)); try go_wp2_with (first | ((with_reducible refine gate_store (t := 3) (p := 57) rfl ?_); (try (rw [drewN_self wc]; generalize hq_ : World.drewN wc _ = wc; have n0_ := Aside0.mk (Kd.R_at hq_ HO_7.out); have n1_ := Aside0.mk (Kd.Q_at hq_ HO_8.out); have n2_ := Aside0.mk (below_at hq_ HB.out); clear hq_ HO_7 HO_8 HB; have HO_7 := n0_; have HO_8 := n1_; have HB := n2_; clear n0_ n1_ n2_; (try (obtain ⟨hx35_0, hf35_0⟩ := Kd.R_celln 0 HO_7.out ((Go.bits .xor .i64 (rd x8_2 0) (ji29)) : Int) (of_eq_true p35) (of_eq_true q35))); (try (have HP38 := Kd.R_putg HO_7.out ((Go.bits .xor .i64 (rd x8_2 0) (ji29)) : Int) (wrap64 ((rd x7_2 (rd x8_2 0)) + 1)))))); refine store_event (t := 3) (p := 57) (v := ?vo_w39) (w1 := (wc.setCell ⟨go9, ((Go.bits .xor .i64 (rd x8_2 0) (ji29)) : Int).toNat, none⟩ (.int .i64 (wrap64 ((rd x7_2 (rd x8_2 0)) + 1))))) ?hg ?ho ?hn ?hr ?_; (case ho => rfl); (case hg => rfl); (case hn => rfl); (case hr => first | (go_simp; done) | (go_simp; rfl)); intro w39 hw; have hg : wc.grownBy w39 (some go9) := (by rw [hw]; exact HP38.2); have hp_ : Kd.R (Kd.int .i64) 3 w39 w.heap.size (fun _ => True) (.slice (some ⟨go9, 0, none⟩) x7_2.length co9) y229 := (by rw [hw, Ny229.out]; exact HP38.1); clear HP38; have n0_ := Aside0.mk (hp_); have n1_ := Aside0.mk (Kd.Q_over' (v := (.slice (some ⟨go9, 0, none⟩) x7_2.length co9)) (by (with_reducible repeat (first | apply Kd.Q_alloc | apply Kd.Q_drewN | apply Kd.Q_drew)); exact HO_8.out) (Kd.R_typed HO_7.out) (by decide) hg); have n2_ := Aside0.mk ((by rw [hw]; exact below_set (HB.out) GB9.out : Below w.heap.size w w39)); clear HO_7; clear HO_8; clear HB; have HO_7 := n0_; have HO_8 := n1_; have HB := n2_; clear n0_ n1_ n2_; clear hg hw hp_) | ((with_reducible refine gate_builtin (b := .append) (xs := #[.tmp 58, .tmp 60]) rfl ?_); at_builtin; refine Kd.Q_append (Kd.int .i64) (w0 := w) w.heap.size rfl (.tmp 58) (.tmp 60) 61 49 (.int .i64 0) 8 rfl Try.underlying61 info49 rfl (by decide) (by omega) (.slice (some ad225) x8_2.length co37) x8_2 (Go.bits .xor .i64 (rd x8_2 0) (ji29)) [.int .i64 (Go.bits .xor .i64 (rd x8_2 0) (ji29))] (fun _ => True) (fun _ => False) rfl rfl ?aP (fun _ hk => hk.elim) ?aF ?aO ?aB ?aS ?aL ?_; (case aP => exact rfl); (case aB => exact (by repeat (first | (with_reducible first | exact HB.out | apply below_alloc | apply pw_below_drewN | apply below_drew1) | exact HB.out))); (case aF => exact (fun _ _ => trivial)); (case aO => exact (by (with_reducible repeat (first | apply Kd.Q_alloc | apply Kd.Q_drewN | apply Kd.Q_drew)); exact HO_8.out)); (case aS => exact (below_size (by repeat (first | (with_reducible first | exact HB.out | apply below_alloc | apply pw_below_drewN | apply below_drew1) | exact HB.out)))); (case aL => have := LMc36.out; omega); intro v231 w40 ho hb hg hat; rw [← Ny230.out] at ho; have n0_ := Aside0.mk (Kd.R_over' (by (with_reducible repeat (first | apply Kd.R_alloc | apply Kd.R_drewN | apply Kd.R_drew)); exact HO_7.out) (Kd.Q_typed (by (with_reducible repeat (first | apply Kd.Q_alloc | apply Kd.Q_drewN | apply Kd.Q_drew)); exact HO_8.out)) (by decide) hg); have n1_ := Aside0.mk (hb); have n2_ := Aside0.mk (ho); clear HO_7; clear HB; clear HO_8; have HO_7 := n0_; have HB := n1_; have HO232 := n2_; clear n0_ n1_ n2_; clear ho hb hg hat)))
                    (try simp only [← hl7_2])
                    go_roundg kj19
                    case measure => have := HK1.out; have := HK2.out; have := HJ19.out; omega
                    case rel => exact ⟨(y229), (y230), (wrap64 (x9_2 + 1)), (by first | rfl | (simp; done) | (simp [*]; done)), H', ⟨by have := HK1.out; have := HK2.out; have := HJ19.out; omega⟩, ⟨by (try simp only [hl7_1]); (try simp only [hl7_2]); (with_reducible repeat (first | apply Kd.R_alloc | apply Kd.R_drewN | apply Kd.R_drew)); exact HO_7.out⟩, ⟨by (try simp only [hl7_1]); (try simp only [hl7_2]); (with_reducible repeat (first | apply Kd.Q_alloc | apply Kd.Q_drewN | apply Kd.Q_drew)); exact HO232.out⟩, ⟨by repeat (first | (with_reducible first | exact HB.out | apply below_alloc | apply pw_below_drewN | apply below_drew1) | exact HB.out)⟩⟩
                   ·
                    rw [if_neg c36] at H
                    exact absurd H (by simp)
                  ·
                   rw [if_neg c34] at H
                   exact absurd H (by simp)
                 ·
                  rw [if_neg c33] at H
                  exact absurd H (by simp)
                ·
                 rw [if_neg c32] at H
                 have c32b0 : decide ((rd x7_2 (Go.bits .xor .i64 (rd x8_2 0) (ji29))) < 0) = false := decide_eq_false c32
                 clear c32
                 have H' := Aside0.mk H
                 clear H
                 obtain ⟨Ao41, co41, eo41, _⟩ := Kd.Q_slice HO_8.out
                 subst eo41
                 have p225 : 0 ≤ (0 : Int) := (by omega)
                 have q225 : 0 < (x8_2.length : Int) := of_decide_eq_true (by first | (with_reducible assumption) | assumption)
                 obtain ⟨ad225, e225, hx225_0⟩ := Kd.at_int (Kd.Q_reads' HO_8.out).2.2 0 p225 q225
                 cases e225
                 have qi225 : (0 < x8_2.length) = True := eq_true (by omega)
                 (try rw [show ((0 : Int)).toNat = 0 from rfl] at hx225_0)
                 (try rw [Addr.add_zero'] at hx225_0)
                 replace p225 := eq_true p225
                 replace q225 := eq_true q225
                 have p226 : 0 ≤ ((Go.bits .xor .i64 (rd x8_2 0) (ji29)) : Int) := of_decide_eq_true (by first | (with_reducible assumption) | assumption)
                 have q226 : (Go.bits .xor .i64 (rd x8_2 0) (ji29)) < (x7_2.length : Int) := of_decide_eq_true (by first | (with_reducible assumption) | assumption)
                 obtain ⟨ad226, e226, hx226_0⟩ := Kd.at_int (Kd.R_reads' HO_7.out).2.2 (Go.bits .xor .i64 (rd x8_2 0) (ji29)) p226 q226
                 obtain rfl : (⟨go9, 0, none⟩ : Addr) = ad226 := (by injection e226)
                 (first | simp only [add_plain] at hx226_0 | simp only [add_at] at hx226_0 | simp only [Addr.add, Nat.zero_add] at hx226_0 | skip)
                 replace p226 := eq_true p226
                 replace q226 := eq_true q226
                 go_wp2
                 repeat (go_quiet (fail); try go_wp2)
                 (try simp only [← hl7_2])
                 go_roundg kj19
                 case measure => have := HK1.out; have := HK2.out; have := HJ19.out; omega
                 case rel => exact ⟨(x7_2), (x8_2), (wrap64 (x9_2 + 1)), (by first | rfl | (simp; done) | (simp [*]; done)), H', ⟨by have := HK1.out; have := HK2.out; have := HJ19.out; omega⟩, ⟨by (try simp only [hl7_1]); (try simp only [hl7_2]); (with_reducible repeat (first | apply Kd.R_alloc | apply Kd.R_drewN | apply Kd.R_drew)); exact HO_7.out⟩, ⟨by (try simp only [hl7_1]); (try simp only [hl7_2]); (with_reducible repeat (first | apply Kd.Q_alloc | apply Kd.Q_drewN | apply Kd.Q_drew)); exact HO_8.out⟩, ⟨by repeat (first | (with_reducible first | exact HB.out | apply below_alloc | apply pw_below_drewN | apply below_drew1) | exact HB.out)⟩⟩
               ·
                rw [if_neg c31] at H
                exact absurd H (by simp)
              ·
               rw [if_neg c30] at H
               exact absurd H (by simp)
             ·
              rw [if_neg c28] at H
              exact absurd H (by simp)
            ·
             rw [if_neg c27] at H
             exact absurd H (by simp)
           ·
            replace c26 := Bool.eq_false_iff.mpr c26
            subst c26
            have H1 : (if 1 ≤ (x8_2.length : Int) then (impl_distancesTo.l0 kj19 a1 l2 x7_2 (x8_2.drop (1 : Int).toNat)) else (none)) = some r := by rw [if_neg (show ¬ (false = true) by decide)] at H; exact H
            clear H
            have H := H1
            clear H1
            by_cases c42 : 1 ≤ (x8_2.length : Int)
            ·
             rw [if_pos c42] at H
             have c42b0 := eq_true c42
             have c42b1 : decide (1 ≤ (x8_2.length : Int)) = true := decide_eq_true c42
             clear c42
             obtain ⟨y233, hy233⟩ : ∃ y_ : List Int, y_ = (x8_2.drop (1 : Int).toNat) := ⟨_, rfl⟩
             replace H : (impl_distancesTo.l0 kj19 a1 l2 x7_2 y233) = some r := by first | (rw [hy233]; with_reducible exact H) | (have H2_ := (Option.bind_some _ _).symm.trans H; rw [hy233]; with_reducible exact H2_) | (have H2_ := (Option.bind_some _ _).symm.trans H; with_reducible exact H2_) | with_reducible exact H | (rw [hy233]; exact H) | exact H
             have Ny233 := Aside0.mk hy233
             clear hy233
             have H' := Aside0.mk H
             clear H
             obtain ⟨Ao43, co43, eo43, _⟩ := Kd.Q_slice HO_8.out
             subst eo43
             have q44 : (1 : Int) ≤ ((x8_2.length : Int) : Int) := of_decide_eq_true (by first | (with_reducible assumption) | assumption)
             obtain ⟨i044, hi044, _, hsz44, _⟩ := info_parts info49
             have hcut44 := cut_from (P := Try.prog) 61 49 .i64 Try.underlying61 hi044 1 hsz44 Ao43 x8_2.length co43 1 (by omega) q44
             have hr44 := Kd.Q_drop (k := (1 : Int).toNat) HO_8.out (by omega)
             obtain ⟨A44, hA44⟩ : ∃ A1, A1 = (if co43 = (1 : Int).toNat then Ao43 else (Ao43 : Option Addr).map (·.add ((1 : Int).toNat * 1))) := ⟨_, rfl⟩
             obtain ⟨c44, hc44⟩ : ∃ c1, c1 = co43 - (1 : Int).toNat := ⟨_, rfl⟩
             have hy44 : y233.length = x8_2.length - (1 : Int).toNat := (by rw [Ny233.out, List.length_drop])
             rw [← Ny233.out] at hr44
             rw [← hy44, ← hA44, ← hc44] at hcut44
             replace hr44 : Kd.Q (Kd.int .i64) 49 wc w.heap.size (fun _ => True) (.slice A44 y233.length c44) y233 := (by rw [hA44, hc44, hy44]; exact hr44)
             have HE44 : Aside0 ((Value.slice A44 y233.length c44).ownBlock = (.slice Ao43 x8_2.length co43 : Value).ownBlock) := ⟨by rw [hA44]; split <;> (cases (Ao43 : Option Addr) <;> rfl)⟩
             clear hy44 hi044 hsz44 HO_8 hA44 hc44
             have HO235 := Aside0.mk hr44
             clear hr44
             replace q44 := eq_true q44
             go_wp2
             repeat (go_quiet (fail); try go_wp2)
             (try simp only [← hl7_1, ← hl7_2])
             go_roundg kj19
             case measure => have := HK1.out; have := HK2.out; have := HJ19.out; omega
             case rel => exact ⟨(x7_2), (y233), H', ⟨by have := HK1.out; have := HK2.out; have := HJ19.out; omega⟩, ⟨by (try simp only [hl7_1]); (try simp only [hl7_2]); (with_reducible repeat (first | apply Kd.R_alloc | apply Kd.R_drewN | apply Kd.R_drew)); exact HO_7.out⟩, ⟨by (try simp only [hl7_1]); (try simp only [hl7_2]); (with_reducible repeat (first | apply Kd.Q_alloc | apply Kd.Q_drewN | apply Kd.Q_drew)); exact HO235.out⟩, ⟨by repeat (first | (with_reducible first | exact HB.out | apply below_alloc | apply pw_below_drewN | apply below_drew1) | exact HB.out)⟩⟩
            ·
             rw [if_neg c42] at H
             exact absurd H (by simp)
      ·
       rw [if_neg c18] at H
       have c18b0 : decide (0 < (x8_1.length : Int)) = false := decide_eq_false c18
       have c18b1 : decide (0 < x8_1.length) = false := decide_eq_false (by omega)
       clear c18
       obtain rfl := Option.some.inj H
       obtain ⟨Ao45, co45, eo45, _⟩ := Kd.Q_slice HO_8.out
       subst eo45
       go_wp2
       repeat (go_quiet (fail); try go_wp2)
       go_ret
       exact ⟨_, by first | rfl | (simp [errW_none, errW_some] <;> rfl) | (simp only [← hji5]; first | rfl | (simp [errW_none, errW_some] <;> rfl)) | (simp [*, errW_none, errW_some] <;> rfl), by (with_reducible repeat (first | apply Kd.R_alloc | apply Kd.R_drewN | apply Kd.R_drew)); exact HO_7.out, by repeat (first | (with_reducible first | exact HB.out | apply below_alloc | apply pw_below_drewN | apply below_drew1) | exact HB.out)⟩
   ·
    rw [if_neg c8] at H
    exact absurd H (by simp)
  ·
   rw [if_neg c7] at H
   exact absurd H (by simp)
 ·
  rw [if_neg c4] at H
  exact absurd H (by simp)

/-! ### impl_switches_order: function 28 -/
def impl_switches_order.f (a0 : Int) (a1 : Int) : Option (Int) := if 0 ≤ a1 then (if (Go.bits .and .i64 (shr .i64 a0 a1) 1) = 1 then (some (wrap64 ((wrap64 (-a1)) - 1))) else (some (wrap64 (a1 + 1)))) else (none)
set_option maxHeartbeats 8000000 in
set_option maxRecDepth 100000 in
theorem impl_switches_order.calls (a0 : Int) (a1 : Int) (r : Int) (w : World) (h : impl_switches_order.f a0 a1 = some r) :
  Calls Try.prog 28 #[.int .i64 a0, .int .i64 a1] w fun e w' => e = .returned (.int .i64 r) ∧ Drawn0 w w' := by
 have H : (if 0 ≤ a1 then (if (Go.bits .and .i64 (shr .i64 a0 a1) 1) = 1 then (some (wrap64 ((wrap64 (-a1)) - 1))) else (some (wrap64 (a1 + 1)))) else (none)) = some r := h
 clear h
 by_cases c3 : 0 ≤ a1
 ·
  rw [if_pos c3] at H
  have c3b0 := eq_true c3
  have c3b1 : decide (0 ≤ a1) = true := decide_eq_true c3
  clear c3
  obtain ⟨ji4, hji4⟩ : ∃ j_ : Int, (shr .i64 a0 a1) = j_ := ⟨_, rfl⟩
  replace H : (if (Go.bits .and .i64 (ji4) 1) = 1 then (some (wrap64 ((wrap64 (-a1)) - 1))) else (some (wrap64 (a1 + 1)))) = some r := by first | (rw [hji4] at H; exact H) | (simp only [hji4] at H ⊢; exact H)
  have hji4_ : (a0 / 2 ^ min a1.toNat 64) = ji4 := hji4
  have hji4z : a1 ≤ 64 → (a0 / 2 ^ a1.toNat) = ji4 := shr_small hji4
  by_cases c5 : (Go.bits .and .i64 (ji4) 1) = 1
  ·
   rw [if_pos c5] at H
   have c5b0 : ((Go.bits .and .i64 (ji4) 1) == 1) = true := beq_iff_eq.mpr c5
   have c5b1 : ((Go.bits .and .i64 (ji4) 1) != 1) = false := bne_eq_false_iff_eq.mpr c5
   clear c5
   obtain rfl := Option.some.inj H
   go_enter Try.func28, Try.ntmps28
   go_wp2
   go_ret
   exact ⟨by first | rfl | (simp; done) | (simp only [← hji4] <;> (first | rfl | simp)) | (simp [*]; done), by repeat (first | exact Drawn0.refl _ | apply Drawn0.step)⟩
  ·
   rw [if_neg c5] at H
   have c5b0 : ((Go.bits .and .i64 (ji4) 1) == 1) = false := beq_eq_false_iff_ne.mpr c5
   have c5b1 : ((Go.bits .and .i64 (ji4) 1) != 1) = true := bne_iff_ne.mpr c5
   obtain rfl := Option.some.inj H
   go_enter Try.func28, Try.ntmps28
   go_wp2
   go_ret
   exact ⟨by first | rfl | (simp; done) | (simp only [← hji4] <;> (first | rfl | simp)) | (simp [*]; done), by repeat (first | exact Drawn0.refl _ | apply Drawn0.step)⟩
 ·
  rw [if_neg c3] at H
  exact absurd H (by simp)

/-! ### impl_abs: function 29 -/
def impl_abs.f (a0 : Int) : Option (Int) := some (mx a0 (wrap64 (-a0)))
set_option maxHeartbeats 8000000 in
set_option maxRecDepth 100000 in
theorem impl_abs.calls (a0 : Int) (r : Int) (w : World) (h : impl_abs.f a0 = some r) :
  Calls Try.prog 29 #[.int .i64 a0] w fun e w' => e = .returned (.int .i64 r) ∧ Below w.heap.size w w' := by
 have HB := Aside0.mk (Below.refl w.heap.size w)
 have H : (some (mx a0 (wrap64 (-a0)))) = some r := h
 clear h
 obtain ⟨ji2, hji2⟩ : ∃ j_ : Int, (mx a0 (wrap64 (-a0))) = j_ := ⟨_, rfl⟩
 replace H : (some ji2) = some r := by first | (rw [hji2] at H; exact H) | (simp only [hji2] at H ⊢; exact H)
 have hji2_ : (if a0 < (wrap64 (-a0)) then (wrap64 (-a0)) else a0) = ji2 := hji2
 obtain rfl := Option.some.inj H
 go_enter Try.func29, Try.ntmps29
 go_wp2
 go_ret
 exact ⟨by first | rfl | (simp [errW_none, errW_some] <;> rfl) | (simp only [← hji2]; first | rfl | (simp [errW_none, errW_some] <;> rfl)) | (simp [*, errW_none, errW_some] <;> rfl), by repeat (first | (with_reducible first | exact HB.out | apply below_alloc | apply pw_below_drewN | apply below_drew1) | exact HB.out)⟩

end Go.Proofs.Ytffodlggihmonaa.PFnExactShortestOrders
