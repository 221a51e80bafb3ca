-- written by a program of this session (mkp.py) out of the translation; Lean checks it. -- squeezed
import Derived.Test.YtffodlggihmonaaDoorPFnSwitchingx0
import Derived.Test.YtffodlggihmonaaDoorPFnSwitchingx1
import Derived.Test.YtffodlggihmonaaDoorPFnSwitchingx4
import Derived.Test.YtffodlggihmonaaDoorPFnSwitchingx5
import Derived.Test.YtffodlggihmonaaDoorPFnSwitchingx6
import Derived.Test.YtffodlggihmonaaDoorPFnSwitchingx7
import Derived.Test.YtffodlggihmonaaDoorPFnSwitchingx8
import Derived.Test.YtffodlggihmonaaDoorPFnSwitchingx9
namespace Go.Proofs.YtffodlggihmonaaDoor.PFnSwitching
open Go.RowKit Go.Proofs.YtffodlggihmonaaDoorW.PrintWords Go.Proofs.YtffodlggihmonaaDoorW.PrintLast Go.Proofs.YtffodlggihmonaaDoorW.PrintMore
attribute [local go_sem] bin_leq bin_gtr bin_geq max2_int min2_int max_two min_two max_three min_three max_four min_four   -- for this text's walks alone
set_option linter.unusedVariables false
set_option linter.unusedSimpArgs false

set_option maxHeartbeats 8000000 in
set_option maxRecDepth 100000 in
theorem laws_FnSwitching.p5 {k : Nat} {A0 : Option Addr} {c0 : Nat} {l0 : List Int} {A1 : Option Addr} {c1 : Nat} {l1 : List Int} {r : Bool} (hr_ : r = true) {w : World} (HT_ : Aside0 (LenW w)) (HR0 : Aside0 ((Kd.int IntKind.u8).C w A0 l0.length l0)) (HC0 : Aside0 (l0.length ≤ c0)) (HR1 : Aside0 ((Kd.int IntKind.u8).C w A1 l1.length l1)) (HC1 : Aside0 (l1.length ≤ c1)) (A3 : Aside0 (laws_r8Long.f l0 l1 = some false)) {t256 : Int} (A5 : Aside0 (laws_r8At.f l1 0 4 = some t256)) {t257 : List S51} (A6 : Aside0 (spec_R8Rules.f k l0 (wrap64 (2 + t256)) = some t257)) {y260 : List Bool} (Ny260 : Aside0 (y260 = [])) {y263 : List Bool} (Ny263 : Aside0 (y263 = [])) {v261 : Value} {v264 : Value} {w10 : World} (HO262 : Aside0 (Kd.bool.R 4 w10 w.heap.size (fun k => True ∧ some k ≠ v264.ownBlock) v261 y260)) (HO265 : Aside0 (Kd.bool.R 4 w10 w.heap.size (fun k => True ∧ some k ≠ v261.ownBlock) v264 y263)) {x7_1 x8_1 : List Bool} {x9_1 x10_1 : Int} {k1 : Nat} (HK1 : Aside0 (k1 + 1 ≤ k)) {t276 : List Int} {t277 : Int} (A29 : Aside0 (impl_ShortestOrders.f k1 x7_1 x8_1 t257 = some (t276, t277))) {t280 t281 : Int} (A30 : Aside0 (impl_CountAllowed.f k1 (wrap64 (2 + t256)) t257 = some (t280, t281))) {t282 t283 : Int} (A31 : Aside0 (impl_CountReached.f k1 x7_1 t257 = some (t282, t283))) {t284 : List Int} {t285 : Int} (A32 : Aside0 (impl_BrokenRules.f k1 x7_1 t257 = some (t284, t285))) {t288 : List Int} {t289 : Int} (A33 : Aside0 (impl_NextOrders.f k1 x7_1 t257 = some (t288, t289))) {Ao35 : Option Addr} {co35 : Nat} {Ao36 : Option Addr} {co36 : Nat} {Ao37 : Option Addr} {co37 : Nat} (HO259 : Aside0 (k51.R 51 w10 w.heap.size (fun x => True) (Value.slice Ao37 t257.length co37) t257)) {v286 : Value} {w42 : World} {v290 : Value} {kj33 : Nat} (HJ33 : Aside0 (kj33 + 1 ≤ k1)) {t292 : List Bool} {t293 t294 : Int} (A93 : Aside0 (impl_RunOrders.f kj33 x7_1 t276 t257 = some (t292, t293, t294))) {Ao95 : Option Addr} {co95 : Nat} (HO279 : Aside0 ((Kd.int IntKind.i64).R 2 w42 w.heap.size (fun k => (True ∧ some k ≠ v286.ownBlock) ∧ some k ≠ v290.ownBlock) (Value.slice Ao95 t276.length co95) t276)) (HO287 : Aside0 ((Kd.int IntKind.i64).R 2 w42 w.heap.size (fun k => (True ∧ some k ≠ (Value.slice Ao95 t276.length co95).ownBlock) ∧ some k ≠ v290.ownBlock) v286 t284)) (HO291 : Aside0 ((Kd.int IntKind.i64).R 2 w42 w.heap.size (fun k => (True ∧ some k ≠ (Value.slice Ao95 t276.length co95).ownBlock) ∧ some k ≠ v286.ownBlock) v290 t288)) {w96 : World} {v295 : Value} (HO296 : Aside0 (Kd.bool.R 4 w96 w.heap.size (fun k => (True ∧ some k ≠ (Value.slice Ao35 x7_1.length co35).ownBlock) ∧ some k ≠ (Value.slice Ao36 x8_1.length co36).ownBlock) v295 t292)) {kj93 : Nat} (HJ93 : Aside0 (kj93 + 1 ≤ kj33)) {u4 : Value} {x24_4 : Int} {k4 : Nat} (HK4 : Aside0 (k4 + 1 ≤ kj93)) {t299 : ByteArray} (A109 : Aside0 (impl_OrdersText.f k4 t276 = some t299)) {t300 : List Int} {t301 : Bool} (A110 : Aside0 (impl_ReadOrders.f k4 t299 = some (t300, t301))) {w113 : World} {v302 : Value} (HO_21 : Aside0 (Kd.bool.R 4 w113 w.heap.size (fun k_ => some k_ ≠ (Value.slice Ao35 x7_1.length co35).ownBlock ∧ some k_ ≠ (Value.slice Ao36 x8_1.length co36).ownBlock) v295 t292)) (HO303 : Aside0 ((Kd.int IntKind.i64).R 2 w113 w.heap.size (fun k => ((True ∧ some k ≠ (Value.slice Ao95 t276.length co95).ownBlock) ∧ some k ≠ v286.ownBlock) ∧ some k ≠ v290.ownBlock) v302 t300)) {wc_z1 : World} (HO_19 : Aside0 ((Kd.int IntKind.i64).R 2 wc_z1 w.heap.size (fun k_ => some k_ ≠ (Value.slice Ao95 t276.length co95).ownBlock ∧ some k_ ≠ v286.ownBlock) v290 t288)) {kj110 : Nat} (HJ110 : Aside0 (kj110 + 1 ≤ k4)) {kj117 : Nat} (HJ117 : Aside0 (kj117 + 1 ≤ kj110)) {t307 : List Int} {t308 : Int} (A124 : Aside0 (impl_UndoOrders.f kj117 t276 = some (t307, t308))) (HC125 : Aside0 ((if t308 = 0 then j6 kj117 t257 x7_1 x8_1 t307 t308 (decide ((t284.length : Int) > 0)) else j6 kj117 t257 x7_1 x8_1 t307 t308 true) = some r)) {w126 : World} {v309 : Value} (HO_6 : Aside0 (k51.R 51 w126 w.heap.size (fun x => True) (Value.slice Ao37 t257.length co37) t257)) (HO_7 : Aside0 (Kd.bool.R 4 w126 w.heap.size (fun k_ => some k_ ≠ (Value.slice Ao36 x8_1.length co36).ownBlock) (Value.slice Ao35 x7_1.length co35) x7_1)) (HO_8 : Aside0 (Kd.bool.R 4 w126 w.heap.size (fun k_ => some k_ ≠ (Value.slice Ao35 x7_1.length co35).ownBlock) (Value.slice Ao36 x8_1.length co36) x8_1)) (HO_11 : Aside0 ((Kd.int IntKind.i64).R 2 w126 w.heap.size (fun k => some k ≠ v286.ownBlock ∧ some k ≠ v309.ownBlock) (Value.slice Ao95 t276.length co95) t276)) (HO_17 : Aside0 ((Kd.int IntKind.i64).R 2 w126 w.heap.size (fun k => some k ≠ (Value.slice Ao95 t276.length co95).ownBlock ∧ some k ≠ v309.ownBlock) v286 t284)) (HO310 : Aside0 ((Kd.int IntKind.i64).R 2 w126 w.heap.size (fun k => (True ∧ some k ≠ (Value.slice Ao95 t276.length co95).ownBlock) ∧ some k ≠ v286.ownBlock) v309 t307)) (HB : Aside0 (Below w.heap.size w w126)) {K_z1 : Act → World → Prop} (a_z1 : ∀ (aq : Act) (wq : World), Code.wp Tryd.prog ((Code.region 40 #[{ dst := some 250, op := Op.move (Operand.tmp 8), type := 27, pos := "laws.go:787", after := #[], guard := none }, { dst := some 251, op := Op.move (Operand.tmp 27), type := 28, pos := "laws.go:787", after := #[], guard := none }, { dst := some 252, op := Op.move (Operand.tmp 6), type := 25, pos := "laws.go:787", after := #[], guard := none }, { dst := some 253, op := Op.call { callee := Callee.value (Operand.func 14), args := #[Operand.tmp 250, Operand.tmp 251, Operand.tmp 252], argTypes := #[27, 28, 25] }, type := 35, pos := "laws.go:787", after := #[{ on := 0, ground := Ground.data }, { on := 1, ground := Ground.data }, { on := 2, ground := Ground.data }], guard := none }, { dst := some 249, op := Op.move (Operand.tmp 253), type := 35, pos := "laws.go:787", after := #[{ on := 3, ground := Ground.data }], guard := none }, { dst := some 254, op := Op.extract (Operand.tmp 249) 0, type := 27, pos := "laws.go:787", after := #[{ on := 4, ground := Ground.data }], guard := none }, { dst := some 255, op := Op.extract (Operand.tmp 249) 1, type := 2, pos := "laws.go:787", after := #[{ on := 4, ground := Ground.data }, { on := 8, ground := Ground.gcOnly Departure.lateStores }], guard := none }, { dst := some 256, op := Op.extract (Operand.tmp 249) 2, type := 2, pos := "laws.go:787", after := #[{ on := 4, ground := Ground.data }, { on := 9, ground := Ground.gcOnly Departure.lateStores }], guard := none }, { dst := some 29, op := Op.assign (Operand.tmp 254), type := 27, pos := "laws.go:787", after := #[{ on := 5, ground := Ground.data }, { on := 3, ground := Ground.chain }, { on := 0, ground := Ground.phase }, { on := 1, ground := Ground.phase }, { on := 2, ground := Ground.phase }, { on := 3, ground := Ground.phase }, { on := 4, ground := Ground.phase }, { on := 5, ground := Ground.phase }, { on := 6, ground := Ground.textOnly Departure.lateStores }, { on := 7, ground := Ground.textOnly Departure.lateStores }], guard := none }, { dst := some 30, op := Op.assign (Operand.tmp 255), type := 2, pos := "laws.go:787", after := #[{ on := 6, ground := Ground.data }, { on := 8, ground := Ground.chain }, { on := 0, ground := Ground.phase }, { on := 1, ground := Ground.phase }, { on := 2, ground := Ground.phase }, { on := 3, ground := Ground.phase }, { on := 4, ground := Ground.phase }, { on := 5, ground := Ground.phase }, { on := 6, ground := Ground.phase }, { on := 7, ground := Ground.textOnly Departure.lateStores }, { on := 8, ground := Ground.phase }], guard := none }, { dst := some 31, op := Op.assign (Operand.tmp 256), type := 2, pos := "laws.go:787", after := #[{ on := 7, ground := Ground.data }, { on := 9, ground := Ground.chain }, { on := 0, ground := Ground.phase }, { on := 1, ground := Ground.phase }, { on := 2, ground := Ground.phase }, { on := 3, ground := Ground.phase }, { on := 4, ground := Ground.phase }, { on := 5, ground := Ground.phase }, { on := 6, ground := Ground.phase }, { on := 7, ground := Ground.phase }, { on := 8, ground := Ground.phase }, { on := 9, ground := Ground.phase }], guard := none }] false).seq (((Code.region 41 #[{ dst := some 257, op := Op.move (Operand.tmp 31), type := 2, pos := "laws.go:788", after := #[], guard := none }, { dst := some 258, op := Op.binOp BinOp.neq 2 (Operand.tmp 257) (Operand.const (Value.int IntKind.i64 0)) 2, type := 4, pos := "laws.go:788", after := #[{ on := 0, ground := Ground.data }], guard := none }, { dst := some 259, op := Op.move (Operand.tmp 258), type := 4, pos := "laws.go:788", after := #[{ on := 1, ground := Ground.data }], guard := none }, { dst := some 260, op := Op.move (Operand.tmp 29), type := 27, pos := "laws.go:788", after := #[{ on := 2, ground := Ground.guard }], guard := some (2, false) }, { dst := some 261, op := Op.call { callee := Callee.builtin Builtin.len, args := #[Operand.tmp 260], argTypes := #[27] }, type := 3, pos := "laws.go:788", after := #[{ on := 3, ground := Ground.data }, { on := 2, ground := Ground.guard }], guard := some (2, false) }, { dst := some 262, op := Op.move (Operand.tmp 7), type := 27, pos := "laws.go:788", after := #[{ on := 2, ground := Ground.guard }], guard := some (2, false) }, { dst := some 263, op := Op.call { callee := Callee.builtin Builtin.len, args := #[Operand.tmp 262], argTypes := #[27] }, type := 3, pos := "laws.go:788", after := #[{ on := 5, ground := Ground.data }, { on := 2, ground := Ground.guard }], guard := some (2, false) }, { dst := some 264, op := Op.binOp BinOp.neq 3 (Operand.tmp 261) (Operand.tmp 263) 3, type := 4, pos := "laws.go:788", after := #[{ on := 4, ground := Ground.data }, { on := 6, ground := Ground.data }, { on := 2, ground := Ground.guard }], guard := some (2, false) }, { dst := some 265, op := Op.pick (Operand.tmp 259) (Operand.const (Value.bool true)) (Operand.tmp 264), type := 4, pos := "laws.go:788", after := #[{ on := 2, ground := Ground.data }, { on := 7, ground := Ground.data }], guard := none }] false).seq (Code.cond (Operand.tmp 265) ((Code.region 42 #[{ dst := some 4, op := Op.assign (Operand.const (Value.bool false)), type := 4, pos := "laws.go:789", after := #[], guard := none }] false).seq Code.ret) Code.skip)).seq (((Code.region 43 #[{ dst := some 32, op := Op.assign (Operand.const (Value.int IntKind.i64 0)), type := 3, pos := "laws.go:791", after := #[], guard := none }] false).seq (Code.block 4 (((Code.region 44 #[{ dst := some 266, op := Op.move (Operand.tmp 32), type := 3, pos := "laws.go:791", after := #[], guard := none }, { dst := some 267, op := Op.move (Operand.tmp 7), type := 27, pos := "laws.go:791", after := #[], guard := none }, { dst := some 268, op := Op.call { callee := Callee.builtin Builtin.len, args := #[Operand.tmp 267], argTypes := #[27] }, type := 3, pos := "laws.go:791", after := #[{ on := 1, ground := Ground.data }], guard := none }, { dst := some 269, op := Op.binOp BinOp.lss 3 (Operand.tmp 266) (Operand.tmp 268) 3, type := 4, pos := "laws.go:791", after := #[{ on := 0, ground := Ground.data }, { on := 2, ground := Ground.data }], guard := none }] false).seq (Code.cond (Operand.tmp 269) Code.skip (Code.exit 4))).seq ((Code.block 5 ((Code.region 46 #[{ dst := some 272, op := Op.move (Operand.tmp 29), type := 27, pos := "laws.go:792", after := #[], guard := none }, { dst := some 273, op := Op.move (Operand.tmp 32), type := 3, pos := "laws.go:792", after := #[], guard := none }, { dst := some 274, op := Op.indexAddr 27 (Operand.tmp 272) (Operand.tmp 273), type := 0, pos := "laws.go:792", after := #[{ on := 0, ground := Ground.data }, { on := 1, ground := Ground.data }], guard := none }, { dst := some 275, op := Op.load 4 (Operand.tmp 274), type := 4, pos := "laws.go:792", after := #[{ on := 2, ground := Ground.data }], guard := none }, { dst := some 276, op := Op.move (Operand.tmp 7), type := 27, pos := "laws.go:792", after := #[], guard := none }, { dst := some 277, op := Op.move (Operand.tmp 32), type := 3, pos := "laws.go:792", after := #[], guard := none }, { dst := some 278, op := Op.indexAddr 27 (Operand.tmp 276) (Operand.tmp 277), type := 0, pos := "laws.go:792", after := #[{ on := 4, ground := Ground.data }, { on := 5, ground := Ground.data }], guard := none }, { dst := some 279, op := Op.load 4 (Operand.tmp 278), type := 4, pos := "laws.go:792", after := #[{ on := 6, ground := Ground.data }], guard := none }, { dst := some 280, op := Op.binOp BinOp.neq 4 (Operand.tmp 275) (Operand.tmp 279) 4, type := 4, pos := "laws.go:792", after := #[{ on := 3, ground := Ground.data }, { on := 7, ground := Ground.data }], guard := none }] true).seq (Code.cond (Operand.tmp 280) ((Code.region 47 #[{ dst := some 4, op := Op.assign (Operand.const (Value.bool false)), type := 4, pos := "laws.go:793", after := #[], guard := none }] false).seq Code.ret) Code.skip))).seq (Code.region 45 #[{ dst := some 270, op := Op.move (Operand.tmp 32), type := 3, pos := "laws.go:791", after := #[], guard := none }, { dst := some 271, op := Op.binOp BinOp.add 3 (Operand.tmp 270) (Operand.const (Value.int IntKind.i64 1)) 3, type := 3, pos := "laws.go:791", after := #[{ on := 0, ground := Ground.data }], guard := none }, { dst := some 32, op := Op.assign (Operand.tmp 271), type := 3, pos := "laws.go:791", after := #[{ on := 1, ground := Ground.data }, { on := 0, ground := Ground.phase }, { on := 1, ground := Ground.phase }], guard := none }] false))).loop)).seq ((Code.region 48 #[{ dst := some 4, op := Op.assign (Operand.const (Value.bool true)), type := 4, pos := "laws.go:796", after := #[], guard := none }] false).seq Code.ret)))) (bodyPost Tryd.prog Tryd.f3 fun e w' => e = Ending.returned (Value.bool r) ∧ Below w.heap.size w w') aq wq → K_z1 aq wq) {K_z : Act → World → Prop} (a_z : ∀ (aq : Act) (wq : World), Code.wp Tryd.prog (Code.cond (Operand.tmp 246) ((Code.region 39 #[{ dst := some 247, op := Op.move (Operand.tmp 28), type := 2, pos := "laws.go:785", after := #[], guard := none }, { dst := some 248, op := Op.binOp BinOp.eql 2 (Operand.tmp 247) (Operand.const (Value.int IntKind.i64 0)) 2, type := 4, pos := "laws.go:785", after := #[{ on := 0, ground := Ground.data }], guard := none }, { dst := some 4, op := Op.assign (Operand.tmp 248), type := 4, pos := "laws.go:785", after := #[{ on := 1, ground := Ground.data }, { on := 0, ground := Ground.phase }, { on := 1, ground := Ground.phase }], guard := none }] false).seq Code.ret) Code.skip) (Exit.then K_z1 (bodyPost Tryd.prog Tryd.f3 fun e w' => e = Ending.returned (Value.bool r) ∧ Below w.heap.size w w')) aq wq → K_z aq wq) {wc : World} {u33 u34 u35 u36 u37 u38 u39 u40 u41 u42 u43 u44 u45 u46 u47 u48 u49 u50 u51 u52 u53 u54 u55 u56 u57 u58 u59 u60 u61 u62 u63 u64 u65 u66 u67 u68 u69 u70 u71 u72 u73 u74 u75 u76 u77 u78 u79 u80 u81 u82 u83 u84 u85 u86 u87 u88 u89 u90 u91 u92 u93 u94 u95 u96 u97 u98 u99 u100 u101 u102 u103 u104 u105 u106 u107 u108 u109 u110 u111 u112 u113 u114 u115 u116 u117 u118 u119 u120 u121 u122 u123 u124 u125 u126 u127 u128 u129 u130 u131 u132 u133 u134 u135 u136 u137 u138 u139 u140 u141 u142 u143 u144 u145 u146 u147 u148 u149 u150 u151 u152 u153 u154 u155 u156 u157 u158 u159 u160 u161 u162 u163 u164 u165 u166 u167 u168 u169 u170 u171 u172 u173 u174 u175 u176 u177 u178 u179 u180 u181 u182 u183 u184 u185 u186 u187 u188 u189 u190 u191 u192 u193 u194 u195 u196 u197 u198 u199 u200 u201 u202 u203 u204 u205 u206 u207 u208 u209 u210 u211 u212 u213 u214 u215 u216 u217 u218 u219 u220 u221 u222 u223 u224 u225 u226 u227 u228 u229 u230 u231 u232 u233 u234 u235 u236 u237 u238 u239 u240 u241 u242 u243 u244 u245 u246 u247 u248 u249 u250 u251 u252 u253 u254 u255 u256 u257 u258 u259 u260 u261 u262 u263 u264 u265 u266 u267 u268 u269 u270 u271 u272 u273 u274 u275 u276 u277 u278 u279 u280 : Value} (hcut : ∃ kq x246_124, u246 = Value.bool x246_124 ∧ Aside0 (j6 kq t257 x7_1 x8_1 t307 t308 x246_124 = some r) ∧ Aside0 (kq ≤ kj117) ∧ Aside0 (k51.R 51 wc w.heap.size (fun x => True) (Value.slice Ao37 t257.length co37) t257) ∧ Aside0 (Kd.bool.R 4 wc w.heap.size (fun k_ => some k_ ≠ (Value.slice Ao36 x8_1.length co36).ownBlock) (Value.slice Ao35 x7_1.length co35) x7_1) ∧ Aside0 (Kd.bool.R 4 wc w.heap.size (fun k_ => some k_ ≠ (Value.slice Ao35 x7_1.length co35).ownBlock) (Value.slice Ao36 x8_1.length co36) x8_1) ∧ Aside0 ((Kd.int IntKind.i64).R 2 wc w.heap.size (fun x => True) v309 t307) ∧ Aside0 (Below w.heap.size w wc)) :
  K_z { tmps := #[Value.slice A0 l0.length c0, Value.slice A1 l1.length c1, undef, undef, u4, Value.int IntKind.i64 (wrap64 (2 + t256)), Value.slice Ao37 t257.length co37, Value.slice Ao35 x7_1.length co35, Value.slice Ao36 x8_1.length co36, Value.int IntKind.i64 x9_1, Value.int IntKind.i64 x10_1, Value.slice Ao95 t276.length co95, Value.int IntKind.i64 t277, Value.int IntKind.i64 t280, Value.int IntKind.i64 t281, Value.int IntKind.i64 t282, Value.int IntKind.i64 t283, v286, Value.int IntKind.i64 t285, v290, Value.int IntKind.i64 t289, v295, Value.int IntKind.i64 t293, Value.int IntKind.i64 t294, Value.int IntKind.i64 x24_4, v302, Value.bool t301, v309, Value.int IntKind.i64 t308, undef, undef, undef, undef, u33, u34, u35, u36, u37, u38, u39, u40, u41, u42, u43, u44, u45, u46, u47, u48, u49, u50, u51, u52, u53, u54, u55, u56, u57, u58, u59, u60, u61, u62, u63, u64, u65, u66, u67, u68, u69, u70, u71, u72, u73, u74, u75, u76, u77, u78, u79, u80, u81, u82, u83, u84, u85, u86, u87, u88, u89, u90, u91, u92, u93, u94, u95, u96, u97, u98, u99, u100, u101, u102, u103, u104, u105, u106, u107, u108, u109, u110, u111, u112, u113, u114, u115, u116, u117, u118, u119, u120, u121, u122, u123, u124, u125, u126, u127, u128, u129, u130, u131, u132, u133, u134, u135, u136, u137, u138, u139, u140, u141, u142, u143, u144, u145, u146, u147, u148, u149, u150, u151, u152, u153, u154, u155, u156, u157, u158, u159, u160, u161, u162, u163, u164, u165, u166, u167, u168, u169, u170, u171, u172, u173, u174, u175, u176, u177, u178, u179, u180, u181, u182, u183, u184, u185, u186, u187, u188, u189, u190, u191, u192, u193, u194, u195, u196, u197, u198, u199, u200, u201, u202, u203, u204, u205, u206, u207, u208, u209, u210, u211, u212, u213, u214, u215, u216, u217, u218, u219, u220, u221, u222, u223, u224, u225, u226, u227, u228, u229, u230, u231, u232, u233, u234, u235, u236, u237, u238, u239, u240, u241, u242, u243, u244, u245, u246, u247, u248, u249, u250, u251, u252, u253, u254, u255, u256, u257, u258, u259, u260, u261, u262, u263, u264, u265, u266, u267, u268, u269, u270, u271, u272, u273, u274, u275, u276, u277, u278, u279, u280], defers := [] } wc := by
                      clear HC125
                      try clear c4
                      try clear c12b0
                      try clear c91
                      try clear c92b0
                      try clear c92b1
                      try clear c102
                      try clear c103b0
                      try clear c117
                      try clear c123
                      obtain ⟨kq, x246_124, rfl, HA, HJ124, HO_6, HO_7, HO_8, HO_27, HB⟩ := hcut
                      cases kq with
                      | zero => exact absurd HA.out (by simp [laws_FnSwitching.j6])
                      | succ kj124 =>
                       have H := HA.out
                       clear HA
                       simp only [laws_FnSwitching.j6] at H
                       by_cases c129 : x246_124 = true
                       ·
                        subst c129
                        have H1 : (some (t308 == 0)) = some r := by rw [if_pos rfl] at H; exact H
                        clear H
                        have H := H1
                        clear H1
                        obtain rfl := Option.some.inj H
                        go_wp2
                        repeat (go_quiet (fail); try go_wp2)
                        go_ret
                        exact ⟨by first | rfl | (simp [errW_none, errW_some] <;> rfl) | (simp [*, errW_none, errW_some] <;> rfl), mvB HB.out⟩
                       ·
                        replace c129 := Bool.eq_false_iff.mpr c129
                        subst c129
                        have H1 : ((impl_RunOrders.f kj124 x8_1 t307 t257).bind fun bt311 => (if bt311.2.2 = 0 then (laws_FnSwitching.j7 kj124 x7_1 bt311.1 ((bt311.1.length : Int) != (x7_1.length : Int))) else (laws_FnSwitching.j7 kj124 x7_1 bt311.1 true))) = some r := by rw [if_neg (show ¬ (false = true) by decide)] at H; exact H
                        clear H
                        have H := H1
                        clear H1
                        replace H := Option.bind_eq_some_iff.mp H
                        obtain ⟨⟨t311, t312, t313⟩, A1300, H⟩ := H
                        replace H : (if t313 = 0 then (laws_FnSwitching.j7 kj124 x7_1 t311 ((t311.length : Int) != (x7_1.length : Int))) else (laws_FnSwitching.j7 kj124 x7_1 t311 true)) = some r := H
                        have A130 := Aside0.mk A1300
                        clear A1300
                        have HC131 := Aside0.mk H
                        clear H
                        obtain ⟨Ao132, co132, eo132⟩ := Kd.R_slice HO_27.out
                        subst eo132
                        go_upto_region 41 with (first | (go_at_call 14; (with_reducible refine (impl_RunOrders.calls kj124 _ _ x8_1 _ _ t307 _ _ t257 t311 t312 t313 _ ?side1 ?side2 ?side3 ?side4 ?side5 ?side6 A130.out).mono ?_); (case side1 => exact mvC (Kd.R_reads' HO_8.out).2.2); (case side2 => exact (Kd.R_reads' HO_8.out).2.1); (case side3 => exact mvC (Kd.R_reads' HO_27.out).2.2); (case side4 => exact (Kd.R_reads' HO_27.out).2.1); (case side5 => exact mvC (Kd.R_reads' HO_6.out).2.2); (case side6 => exact (Kd.R_reads' HO_6.out).2.1); rintro e w133 ⟨v314, rfl, ho0, hb⟩; have n0_ := Aside0.mk (Kd.R_below (mv HO_6.out) hb); have n1_ := Aside0.mk (Kd.R_elder' (mv HO_7.out) (Kd.R_base ho0) hb); have n2_ := Aside0.mk (Kd.R_elder' (mv HO_8.out) (Kd.R_base ho0) hb); have n3_ := Aside0.mk (Kd.R_below (mv HO_27.out) hb); have n4_ := Aside0.mk (Kd.R_lower (Kd.R_new' (Kd.R_new' ho0 (Kd.R_lt (mv HO_7.out))) (Kd.R_lt (mv HO_8.out))) (below_size (mvB HB.out))); have n5_ := Aside0.mk (below_step (mvB HB.out) hb); clear HO_6 HO_7 HO_8 HO_27 HB; revert n0_ n1_ n2_ n3_ n4_ n5_; intro HO_6 HO_7 HO_8 HO_27 HO315 HB; (try clear hb); (try clear ho0)))
                        repeat (go_quiet (first | (go_at_call 14; (with_reducible refine (impl_RunOrders.calls kj124 _ _ x8_1 _ _ t307 _ _ t257 t311 t312 t313 _ ?side1 ?side2 ?side3 ?side4 ?side5 ?side6 A130.out).mono ?_); (case side1 => exact mvC (Kd.R_reads' HO_8.out).2.2); (case side2 => exact (Kd.R_reads' HO_8.out).2.1); (case side3 => exact mvC (Kd.R_reads' HO_27.out).2.2); (case side4 => exact (Kd.R_reads' HO_27.out).2.1); (case side5 => exact mvC (Kd.R_reads' HO_6.out).2.2); (case side6 => exact (Kd.R_reads' HO_6.out).2.1); rintro e w133 ⟨v314, rfl, ho0, hb⟩; have n0_ := Aside0.mk (Kd.R_below (mv HO_6.out) hb); have n1_ := Aside0.mk (Kd.R_elder' (mv HO_7.out) (Kd.R_base ho0) hb); have n2_ := Aside0.mk (Kd.R_elder' (mv HO_8.out) (Kd.R_base ho0) hb); have n3_ := Aside0.mk (Kd.R_below (mv HO_27.out) hb); have n4_ := Aside0.mk (Kd.R_lower (Kd.R_new' (Kd.R_new' ho0 (Kd.R_lt (mv HO_7.out))) (Kd.R_lt (mv HO_8.out))) (below_size (mvB HB.out))); have n5_ := Aside0.mk (below_step (mvB HB.out) hb); clear HO_6 HO_7 HO_8 HO_27 HB; revert n0_ n1_ n2_ n3_ n4_ n5_; intro HO_6 HO_7 HO_8 HO_27 HO315 HB; (try clear hb); (try clear ho0))); go_upto_region 41 with (first | (go_at_call 14; (with_reducible refine (impl_RunOrders.calls kj124 _ _ x8_1 _ _ t307 _ _ t257 t311 t312 t313 _ ?side1 ?side2 ?side3 ?side4 ?side5 ?side6 A130.out).mono ?_); (case side1 => exact mvC (Kd.R_reads' HO_8.out).2.2); (case side2 => exact (Kd.R_reads' HO_8.out).2.1); (case side3 => exact mvC (Kd.R_reads' HO_27.out).2.2); (case side4 => exact (Kd.R_reads' HO_27.out).2.1); (case side5 => exact mvC (Kd.R_reads' HO_6.out).2.2); (case side6 => exact (Kd.R_reads' HO_6.out).2.1); rintro e w133 ⟨v314, rfl, ho0, hb⟩; have n0_ := Aside0.mk (Kd.R_below (mv HO_6.out) hb); have n1_ := Aside0.mk (Kd.R_elder' (mv HO_7.out) (Kd.R_base ho0) hb); have n2_ := Aside0.mk (Kd.R_elder' (mv HO_8.out) (Kd.R_base ho0) hb); have n3_ := Aside0.mk (Kd.R_below (mv HO_27.out) hb); have n4_ := Aside0.mk (Kd.R_lower (Kd.R_new' (Kd.R_new' ho0 (Kd.R_lt (mv HO_7.out))) (Kd.R_lt (mv HO_8.out))) (below_size (mvB HB.out))); have n5_ := Aside0.mk (below_step (mvB HB.out) hb); clear HO_6 HO_7 HO_8 HO_27 HB; revert n0_ n1_ n2_ n3_ n4_ n5_; intro HO_6 HO_7 HO_8 HO_27 HO315 HB; (try clear hb); (try clear ho0))))
                        (try simp only [Act.put, List.setIfInBounds_toArray, List.set_cons_zero, List.set_cons_succ])
                        go_cut [265] (fun v265 wc => ∃ (kq : Nat) (x265_130 : Bool), v265 = .bool x265_130 ∧ Aside0 (laws_FnSwitching.j7 kq x7_1 t311 x265_130 = some r) ∧ Aside0 (kq ≤ kj124) ∧ Aside0 (Kd.R Kd.bool 4 wc w.heap.size (fun k_ => some k_ ≠ (v314 : Value).ownBlock) (.slice Ao35 x7_1.length co35) x7_1) ∧ Aside0 (Kd.R Kd.bool 4 wc w.heap.size (fun k_ => some k_ ≠ ((.slice Ao35 x7_1.length co35) : Value).ownBlock) v314 t311) ∧ Aside0 (Below w.heap.size w wc))
                        case first =>
                         have H := HC131.out
                         clear HC131
                         by_cases c134 : t313 = 0
                         ·
                          rw [if_pos c134] at H
                          have c134b0 : (t313 == 0) = true := beq_iff_eq.mpr c134
                          have c134b1 : (t313 != 0) = false := bne_eq_false_iff_eq.mpr c134
                          clear c134
                          (first | rw [c134b0] | (simp only [i64_w, i32_w]; rw [c134b0]) | skip)
                          have H' := Aside0.mk H
                          clear H
                          obtain ⟨Ao135, co135, eo135⟩ := Kd.R_slice HO315.out
                          subst eo135
                          go_wp2
                          repeat (go_quiet (fail); try go_wp2)
                          go_meet
                          case rel => exact ⟨_, (((t311.length : Int) != (x7_1.length : Int))), rs, H', ⟨by have := HK1.out; have := HJ33.out; have := HJ93.out; have := HK4.out; have := HJ110.out; have := HJ117.out; have := HJ124.out; first | omega | exact Nat.le_refl _⟩, ⟨by (with_reducible repeat (first | apply Kd.R_alloc | apply Kd.R_drewN | apply Kd.R_drew)); exact Kd.R_mono HO_7.out (fun _ hk => hk.2)⟩, ⟨by (with_reducible repeat (first | apply Kd.R_alloc | apply Kd.R_drewN | apply Kd.R_drew)); exact Kd.R_mono HO315.out (fun _ hk => hk.1.2)⟩, ⟨mvB HB.out⟩⟩
                         ·
                          rw [if_neg c134] at H
                          have c134b0 : (t313 == 0) = false := beq_eq_false_iff_ne.mpr c134
                          have c134b1 : (t313 != 0) = true := bne_iff_ne.mpr c134
                          (first | rw [c134b0] | (simp only [i64_w, i32_w]; rw [c134b0]) | skip)
                          exact (laws_FnSwitching.no_j7 hr_ _ _ _ H).elim
                        case rest =>
                         clear HC131
                         try clear c4
                         try clear c12b0
                         try clear c91
                         try clear c92b0
                         try clear c92b1
                         try clear c102
                         try clear c103b0
                         try clear c117
                         try clear c123
                         try clear c129
                         obtain ⟨kq, x265_130, rfl, HA, HJ130, HO_7, HO_29, HB⟩ := hcut
                         cases kq with
                         | zero => exact absurd HA.out (by simp [laws_FnSwitching.j7])
                         | succ kj130 =>
                          have H := HA.out
                          clear HA
                          simp only [laws_FnSwitching.j7] at H
                          by_cases c136 : x265_130 = true
                          ·
                           subst c136
                           have H1 : (some false) = some r := by rw [if_pos rfl] at H; exact H
                           clear H
                           have H := H1
                           clear H1
                           exact absurd (Option.some.inj H) (by rw [hr_]; decide)
                          ·
                           replace c136 := Bool.eq_false_iff.mpr c136
                           subst c136
                           have H1 : (laws_FnSwitching.l2 kj130 x7_1 t311 0) = some r := by rw [if_neg (show ¬ (false = true) by decide)] at H; exact H
                           clear H
                           have H := H1
                           clear H1
                           have H' := Aside0.mk H
                           clear H
                           go_wp2
                           repeat (go_quiet (fail); try go_wp2)
                           go_loopg [32] kj130 (fun kq v32 w' => ∃ (x32_9 : Int), v32 = .int .i64 x32_9 ∧ Aside0 (laws_FnSwitching.l2 kq x7_1 t311 x32_9 = some r) ∧ Aside0 (kq ≤ kj130) ∧ Aside0 (Kd.R Kd.bool 4 w' w.heap.size (fun k_ => some k_ ≠ (v314 : Value).ownBlock) (.slice Ao35 x7_1.length co35) x7_1) ∧ Aside0 (Kd.R Kd.bool 4 w' w.heap.size (fun k_ => some k_ ≠ ((.slice Ao35 x7_1.length co35) : Value).ownBlock) v314 t311) ∧ Aside0 (Below w.heap.size w w'))
                           case atStart => exact ⟨(0), rs, H', ⟨Nat.le_refl _⟩, ⟨mv HO_7.out⟩, ⟨mv HO_29.out⟩, ⟨mvB HB.out⟩⟩
                           case round =>
                            clear H'
                            try clear c4
                            try clear c12b0
                            try clear c91
                            try clear c92b0
                            try clear c92b1
                            try clear c102
                            try clear c103b0
                            try clear c117
                            try clear c123
                            try clear c129
                            try clear c136
                            obtain ⟨x32_9, rfl, HA, HK9, HO_7, HO_29, HB⟩ := hrel
                            cases gk with
                            | zero => exact absurd HA.out (by simp [laws_FnSwitching.l2])
                            | succ k9 =>
                             have H := HA.out
                             clear HA
                             simp only [laws_FnSwitching.l2] at H
                             by_cases c137 : x32_9 < (x7_1.length : Int)
                             ·
                              rw [if_pos c137] at H
                              have c137b0 : decide (x32_9 < (x7_1.length : Int)) = true := decide_eq_true c137
                              clear c137
                              by_cases c138 : 0 ≤ x32_9
                              ·
                               rw [if_pos c138] at H
                               have c138b0 : decide (0 ≤ x32_9) = true := decide_eq_true c138
                               clear c138
                               by_cases c139 : x32_9 < (t311.length : Int)
                               ·
                                rw [if_pos c139] at H
                                have c139b0 : decide (x32_9 < (t311.length : Int)) = true := decide_eq_true c139
                                clear c139
                                by_cases c140 : ((rdOf false t311 x32_9) != (rdOf false x7_1 x32_9)) = true
                                ·
                                 rw [if_pos c140] at H
                                 have c140b0 : ((rdOf false t311 x32_9) != (rdOf false x7_1 x32_9)) = true := c140
                                 (try (have c140b1 : decide ((rdOf false t311 x32_9) = (rdOf false x7_1 x32_9)) = false := by simpa using c140))
                                 (try (have c140b2 : ((rdOf false t311 x32_9) == (rdOf false x7_1 x32_9)) = false := by simpa using c140))
                                 (try (have c140b3 : ¬ ((rdOf false t311 x32_9) = (rdOf false x7_1 x32_9)) := by simpa using c140))
                                 clear c140
                                 exact absurd (Option.some.inj H) (by rw [hr_]; decide)
                                ·
                                 rw [if_neg c140] at H
                                 have c140b0 : ((rdOf false t311 x32_9) != (rdOf false x7_1 x32_9)) = false := by simpa using c140
                                 (try (have c140b1 : decide ((rdOf false t311 x32_9) = (rdOf false x7_1 x32_9)) = true := by simpa using c140))
                                 (try (have c140b2 : ((rdOf false t311 x32_9) == (rdOf false x7_1 x32_9)) = true := by simpa using c140))
                                 clear c140
                                 have H' := Aside0.mk H
                                 clear H
                                 obtain ⟨Ao142, co142, eo142⟩ := Kd.R_slice HO_29.out
                                 subst eo142
                                 have p316 : 0 ≤ (x32_9 : Int) := od
                                 have q316 : x32_9 < (t311.length : Int) := od
                                 obtain ⟨ad316, e316, hx316_0⟩ := Kd.at_bool (Kd.R_reads' HO_29.out).2.2 x32_9 p316 q316
                                 cases e316
                                 replace p316 := eq_true p316
                                 replace q316 := eq_true q316
                                 have p317 : 0 ≤ (x32_9 : Int) := od
                                 have q317 : x32_9 < (x7_1.length : Int) := od
                                 obtain ⟨ad317, e317, hx317_0⟩ := Kd.at_bool (Kd.R_reads' HO_7.out).2.2 x32_9 p317 q317
                                 cases e317
                                 replace p317 := eq_true p317
                                 replace q317 := eq_true q317
                                 go_wp2
                                 repeat (go_quiet (fail); try go_wp2)
                                 go_roundg k9
                                 case measure => have := HK1.out; have := HJ33.out; have := HJ93.out; have := HK4.out; have := HJ110.out; have := HJ117.out; have := HJ124.out; have := HJ130.out; have := HK9.out; omega
                                 case rel => exact ⟨(wrap64 (x32_9 + 1)), rs, H', ⟨by have := HK1.out; have := HJ33.out; have := HJ93.out; have := HK4.out; have := HJ110.out; have := HJ117.out; have := HJ124.out; have := HJ130.out; have := HK9.out; omega⟩, ⟨mv HO_7.out⟩, ⟨mv HO_29.out⟩, ⟨mvB HB.out⟩⟩
                               ·
                                rw [if_neg c139] at H
                                exact absurd H (by simp)
                              ·
                               rw [if_neg c138] at H
                               exact absurd H (by simp)
                             ·
                              rw [if_neg c137] at H
                              have c137b0 : decide (x32_9 < (x7_1.length : Int)) = false := decide_eq_false c137
                              clear c137
                              obtain rfl := Option.some.inj H
                              go_wp2
                              repeat (go_quiet (fail); try go_wp2)
                              go_ret
                              exact ⟨by first | rfl | (simp [errW_none, errW_some] <;> rfl) | (simp [*, errW_none, errW_some] <;> rfl), mvB HB.out⟩
set_option maxHeartbeats 8000000 in
set_option maxRecDepth 100000 in
theorem laws_FnSwitching.p3 {k : Nat} {A0 : Option Addr} {c0 : Nat} {l0 : List Int} {A1 : Option Addr} {c1 : Nat} {l1 : List Int} {r : Bool} (hr_ : r = true) {w : World} (HT_ : Aside0 (LenW w)) (HR0 : Aside0 ((Kd.int IntKind.u8).C w A0 l0.length l0)) (HC0 : Aside0 (l0.length ≤ c0)) (HR1 : Aside0 ((Kd.int IntKind.u8).C w A1 l1.length l1)) (HC1 : Aside0 (l1.length ≤ c1)) (A3 : Aside0 (laws_r8Long.f l0 l1 = some false)) {t256 : Int} (A5 : Aside0 (laws_r8At.f l1 0 4 = some t256)) {t257 : List S51} (A6 : Aside0 (spec_R8Rules.f k l0 (wrap64 (2 + t256)) = some t257)) {y260 : List Bool} (Ny260 : Aside0 (y260 = [])) {y263 : List Bool} (Ny263 : Aside0 (y263 = [])) {v261 : Value} {v264 : Value} {w10 : World} (HO262 : Aside0 (Kd.bool.R 4 w10 w.heap.size (fun k => True ∧ some k ≠ v264.ownBlock) v261 y260)) (HO265 : Aside0 (Kd.bool.R 4 w10 w.heap.size (fun k => True ∧ some k ≠ v261.ownBlock) v264 y263)) {x7_1 x8_1 : List Bool} {x9_1 x10_1 : Int} {k1 : Nat} (HK1 : Aside0 (k1 + 1 ≤ k)) {t276 : List Int} {t277 : Int} (A29 : Aside0 (impl_ShortestOrders.f k1 x7_1 x8_1 t257 = some (t276, t277))) {t280 t281 : Int} (A30 : Aside0 (impl_CountAllowed.f k1 (wrap64 (2 + t256)) t257 = some (t280, t281))) {t282 t283 : Int} (A31 : Aside0 (impl_CountReached.f k1 x7_1 t257 = some (t282, t283))) {t284 : List Int} {t285 : Int} (A32 : Aside0 (impl_BrokenRules.f k1 x7_1 t257 = some (t284, t285))) {t288 : List Int} {t289 : Int} (A33 : Aside0 (impl_NextOrders.f k1 x7_1 t257 = some (t288, t289))) {Ao35 : Option Addr} {co35 : Nat} {Ao36 : Option Addr} {co36 : Nat} {Ao37 : Option Addr} {co37 : Nat} (HO259 : Aside0 (k51.R 51 w10 w.heap.size (fun x => True) (Value.slice Ao37 t257.length co37) t257)) {v286 : Value} {w42 : World} {v290 : Value} {kj33 : Nat} (HJ33 : Aside0 (kj33 + 1 ≤ k1)) {t292 : List Bool} {t293 t294 : Int} (A93 : Aside0 (impl_RunOrders.f kj33 x7_1 t276 t257 = some (t292, t293, t294))) {Ao95 : Option Addr} {co95 : Nat} (HO279 : Aside0 ((Kd.int IntKind.i64).R 2 w42 w.heap.size (fun k => (True ∧ some k ≠ v286.ownBlock) ∧ some k ≠ v290.ownBlock) (Value.slice Ao95 t276.length co95) t276)) (HO287 : Aside0 ((Kd.int IntKind.i64).R 2 w42 w.heap.size (fun k => (True ∧ some k ≠ (Value.slice Ao95 t276.length co95).ownBlock) ∧ some k ≠ v290.ownBlock) v286 t284)) (HO291 : Aside0 ((Kd.int IntKind.i64).R 2 w42 w.heap.size (fun k => (True ∧ some k ≠ (Value.slice Ao95 t276.length co95).ownBlock) ∧ some k ≠ v286.ownBlock) v290 t288)) {w96 : World} {v295 : Value} (HO296 : Aside0 (Kd.bool.R 4 w96 w.heap.size (fun k => (True ∧ some k ≠ (Value.slice Ao35 x7_1.length co35).ownBlock) ∧ some k ≠ (Value.slice Ao36 x8_1.length co36).ownBlock) v295 t292)) {kj93 : Nat} (HJ93 : Aside0 (kj93 + 1 ≤ kj33)) {u4 : Value} {x24_4 : Int} {k4 : Nat} (HK4 : Aside0 (k4 + 1 ≤ kj93)) (c103b0 : decide (x24_4 < (x8_1.length : Int)) = false) {t299 : ByteArray} (A109 : Aside0 (impl_OrdersText.f k4 t276 = some t299)) {t300 : List Int} {t301 : Bool} (A110 : Aside0 (impl_ReadOrders.f k4 t299 = some (t300, t301))) (HC111 : Aside0 ((if t301 = true then (laws_r8Same.f k4 t300 t276).bind fun t304 => j4 k4 t257 x7_1 x8_1 t276 t284 t288 !t304 else j4 k4 t257 x7_1 x8_1 t276 t284 t288 true) = some r)) {w113 : World} {v302 : Value} (HO_6 : Aside0 (k51.R 51 w113 w.heap.size (fun x => True) (Value.slice Ao37 t257.length co37) t257)) (HO_7 : Aside0 (Kd.bool.R 4 w113 w.heap.size (fun k_ => some k_ ≠ (Value.slice Ao36 x8_1.length co36).ownBlock ∧ some k_ ≠ v295.ownBlock) (Value.slice Ao35 x7_1.length co35) x7_1)) (HO_8 : Aside0 (Kd.bool.R 4 w113 w.heap.size (fun k_ => some k_ ≠ (Value.slice Ao35 x7_1.length co35).ownBlock ∧ some k_ ≠ v295.ownBlock) (Value.slice Ao36 x8_1.length co36) x8_1)) (HO_11 : Aside0 ((Kd.int IntKind.i64).R 2 w113 w.heap.size (fun k => (some k ≠ v286.ownBlock ∧ some k ≠ v290.ownBlock) ∧ some k ≠ v302.ownBlock) (Value.slice Ao95 t276.length co95) t276)) (HO_17 : Aside0 ((Kd.int IntKind.i64).R 2 w113 w.heap.size (fun k => (some k ≠ (Value.slice Ao95 t276.length co95).ownBlock ∧ some k ≠ v290.ownBlock) ∧ some k ≠ v302.ownBlock) v286 t284)) (HO_19 : Aside0 ((Kd.int IntKind.i64).R 2 w113 w.heap.size (fun k => (some k ≠ (Value.slice Ao95 t276.length co95).ownBlock ∧ some k ≠ v286.ownBlock) ∧ some k ≠ v302.ownBlock) v290 t288)) (HO_21 : Aside0 (Kd.bool.R 4 w113 w.heap.size (fun k_ => some k_ ≠ (Value.slice Ao35 x7_1.length co35).ownBlock ∧ some k_ ≠ (Value.slice Ao36 x8_1.length co36).ownBlock) v295 t292)) (HO303 : Aside0 ((Kd.int IntKind.i64).R 2 w113 w.heap.size (fun k => ((True ∧ some k ≠ (Value.slice Ao95 t276.length co95).ownBlock) ∧ some k ≠ v286.ownBlock) ∧ some k ≠ v290.ownBlock) v302 t300)) (HB : Aside0 (Below w.heap.size w w113)) {K_z1 : Act → World → Prop} (a_z1 : ∀ (aq : Act) (wq : World), Code.wp Tryd.prog (((Code.region 35 #[{ dst := some 224, op := Op.move (Operand.tmp 11), type := 28, pos := "laws.go:780", after := #[], guard := none }, { dst := some 225, op := Op.call { callee := Callee.builtin Builtin.len, args := #[Operand.tmp 224], argTypes := #[28] }, type := 3, pos := "laws.go:780", after := #[{ on := 0, ground := Ground.data }], guard := none }, { dst := some 226, op := Op.binOp BinOp.gtr 3 (Operand.tmp 225) (Operand.const (Value.int IntKind.i64 0)) 3, type := 4, pos := "laws.go:780", after := #[{ on := 1, ground := Ground.data }], guard := none }, { dst := some 227, op := Op.move (Operand.tmp 226), type := 4, pos := "laws.go:780", after := #[{ on := 2, ground := Ground.data }], guard := none }, { dst := some 228, op := Op.move (Operand.tmp 19), type := 28, pos := "laws.go:780", after := #[{ on := 3, ground := Ground.guard }], guard := some (3, true) }, { dst := some 229, op := Op.move (Operand.tmp 11), type := 28, pos := "laws.go:780", after := #[{ on := 3, ground := Ground.guard }], guard := some (3, true) }, { dst := some 230, op := Op.indexAddr 28 (Operand.tmp 229) (Operand.const (Value.int IntKind.i64 0)), type := 0, pos := "laws.go:780", after := #[{ on := 5, ground := Ground.data }, { on := 3, ground := Ground.guard }], guard := some (3, true) }, { dst := some 231, op := Op.load 2 (Operand.tmp 230), type := 2, pos := "laws.go:780", after := #[{ on := 6, ground := Ground.data }, { on := 3, ground := Ground.guard }], guard := some (3, true) }, { dst := some 232, op := Op.call { callee := Callee.value (Operand.func 18), args := #[Operand.tmp 228, Operand.tmp 231], argTypes := #[28, 2] }, type := 4, pos := "laws.go:780", after := #[{ on := 4, ground := Ground.data }, { on := 7, ground := Ground.data }, { on := 3, ground := Ground.chain }, { on := 3, ground := Ground.guard }], guard := some (3, true) }, { dst := some 233, op := Op.unOp UnOp.not 4 (Operand.tmp 232), type := 4, pos := "laws.go:780", after := #[{ on := 8, ground := Ground.data }, { on := 3, ground := Ground.guard }], guard := some (3, true) }, { dst := some 234, op := Op.pick (Operand.tmp 227) (Operand.tmp 233) (Operand.const (Value.bool false)), type := 4, pos := "laws.go:780", after := #[{ on := 3, ground := Ground.data }, { on := 9, ground := Ground.data }], guard := none }] false).seq (Code.cond (Operand.tmp 234) ((Code.region 36 #[{ dst := some 4, op := Op.assign (Operand.const (Value.bool false)), type := 4, pos := "laws.go:781", after := #[], guard := none }] false).seq Code.ret) Code.skip)).seq ((Code.region 37 #[{ dst := some 236, op := Op.move (Operand.tmp 11), type := 28, pos := "laws.go:783", after := #[], guard := none }, { dst := some 237, op := Op.call { callee := Callee.value (Operand.func 19), args := #[Operand.tmp 236], argTypes := #[28] }, type := 29, pos := "laws.go:783", after := #[{ on := 0, ground := Ground.data }], guard := none }, { dst := some 235, op := Op.move (Operand.tmp 237), type := 29, pos := "laws.go:783", after := #[{ on := 1, ground := Ground.data }], guard := none }, { dst := some 238, op := Op.extract (Operand.tmp 235) 0, type := 28, pos := "laws.go:783", after := #[{ on := 2, ground := Ground.data }], guard := none }, { dst := some 239, op := Op.extract (Operand.tmp 235) 1, type := 2, pos := "laws.go:783", after := #[{ on := 2, ground := Ground.data }, { on := 5, ground := Ground.gcOnly Departure.lateStores }], guard := none }, { dst := some 27, op := Op.assign (Operand.tmp 238), type := 28, pos := "laws.go:783", after := #[{ on := 3, ground := Ground.data }, { on := 1, ground := Ground.chain }, { on := 0, ground := Ground.phase }, { on := 1, ground := Ground.phase }, { on := 2, ground := Ground.phase }, { on := 3, ground := Ground.phase }, { on := 4, ground := Ground.textOnly Departure.lateStores }], guard := none }, { dst := some 28, op := Op.assign (Operand.tmp 239), type := 2, pos := "laws.go:783", after := #[{ on := 4, ground := Ground.data }, { on := 5, ground := Ground.chain }, { on := 0, ground := Ground.phase }, { on := 1, ground := Ground.phase }, { on := 2, ground := Ground.phase }, { on := 3, ground := Ground.phase }, { on := 4, ground := Ground.phase }, { on := 5, ground := Ground.phase }], guard := none }] false).seq (((Code.region 38 #[{ dst := some 240, op := Op.move (Operand.tmp 28), type := 2, pos := "laws.go:784", after := #[], guard := none }, { dst := some 241, op := Op.binOp BinOp.neq 2 (Operand.tmp 240) (Operand.const (Value.int IntKind.i64 0)) 2, type := 4, pos := "laws.go:784", after := #[{ on := 0, ground := Ground.data }], guard := none }, { dst := some 242, op := Op.move (Operand.tmp 241), type := 4, pos := "laws.go:784", after := #[{ on := 1, ground := Ground.data }], guard := none }, { dst := some 243, op := Op.move (Operand.tmp 17), type := 28, pos := "laws.go:784", after := #[{ on := 2, ground := Ground.guard }], guard := some (2, false) }, { dst := some 244, op := Op.call { callee := Callee.builtin Builtin.len, args := #[Operand.tmp 243], argTypes := #[28] }, type := 3, pos := "laws.go:784", after := #[{ on := 3, ground := Ground.data }, { on := 2, ground := Ground.guard }], guard := some (2, false) }, { dst := some 245, op := Op.binOp BinOp.gtr 3 (Operand.tmp 244) (Operand.const (Value.int IntKind.i64 0)) 3, type := 4, pos := "laws.go:784", after := #[{ on := 4, ground := Ground.data }, { on := 2, ground := Ground.guard }], guard := some (2, false) }, { dst := some 246, op := Op.pick (Operand.tmp 242) (Operand.const (Value.bool true)) (Operand.tmp 245), type := 4, pos := "laws.go:784", after := #[{ on := 2, ground := Ground.data }, { on := 5, ground := Ground.data }], guard := none }] false).seq (Code.cond (Operand.tmp 246) ((Code.region 39 #[{ dst := some 247, op := Op.move (Operand.tmp 28), type := 2, pos := "laws.go:785", after := #[], guard := none }, { dst := some 248, op := Op.binOp BinOp.eql 2 (Operand.tmp 247) (Operand.const (Value.int IntKind.i64 0)) 2, type := 4, pos := "laws.go:785", after := #[{ on := 0, ground := Ground.data }], guard := none }, { dst := some 4, op := Op.assign (Operand.tmp 248), type := 4, pos := "laws.go:785", after := #[{ on := 1, ground := Ground.data }, { on := 0, ground := Ground.phase }, { on := 1, ground := Ground.phase }], guard := none }] false).seq Code.ret) Code.skip)).seq ((Code.region 40 #[{ dst := some 250, op := Op.move (Operand.tmp 8), type := 27, pos := "laws.go:787", after := #[], guard := none }, { dst := some 251, op := Op.move (Operand.tmp 27), type := 28, pos := "laws.go:787", after := #[], guard := none }, { dst := some 252, op := Op.move (Operand.tmp 6), type := 25, pos := "laws.go:787", after := #[], guard := none }, { dst := some 253, op := Op.call { callee := Callee.value (Operand.func 14), args := #[Operand.tmp 250, Operand.tmp 251, Operand.tmp 252], argTypes := #[27, 28, 25] }, type := 35, pos := "laws.go:787", after := #[{ on := 0, ground := Ground.data }, { on := 1, ground := Ground.data }, { on := 2, ground := Ground.data }], guard := none }, { dst := some 249, op := Op.move (Operand.tmp 253), type := 35, pos := "laws.go:787", after := #[{ on := 3, ground := Ground.data }], guard := none }, { dst := some 254, op := Op.extract (Operand.tmp 249) 0, type := 27, pos := "laws.go:787", after := #[{ on := 4, ground := Ground.data }], guard := none }, { dst := some 255, op := Op.extract (Operand.tmp 249) 1, type := 2, pos := "laws.go:787", after := #[{ on := 4, ground := Ground.data }, { on := 8, ground := Ground.gcOnly Departure.lateStores }], guard := none }, { dst := some 256, op := Op.extract (Operand.tmp 249) 2, type := 2, pos := "laws.go:787", after := #[{ on := 4, ground := Ground.data }, { on := 9, ground := Ground.gcOnly Departure.lateStores }], guard := none }, { dst := some 29, op := Op.assign (Operand.tmp 254), type := 27, pos := "laws.go:787", after := #[{ on := 5, ground := Ground.data }, { on := 3, ground := Ground.chain }, { on := 0, ground := Ground.phase }, { on := 1, ground := Ground.phase }, { on := 2, ground := Ground.phase }, { on := 3, ground := Ground.phase }, { on := 4, ground := Ground.phase }, { on := 5, ground := Ground.phase }, { on := 6, ground := Ground.textOnly Departure.lateStores }, { on := 7, ground := Ground.textOnly Departure.lateStores }], guard := none }, { dst := some 30, op := Op.assign (Operand.tmp 255), type := 2, pos := "laws.go:787", after := #[{ on := 6, ground := Ground.data }, { on := 8, ground := Ground.chain }, { on := 0, ground := Ground.phase }, { on := 1, ground := Ground.phase }, { on := 2, ground := Ground.phase }, { on := 3, ground := Ground.phase }, { on := 4, ground := Ground.phase }, { on := 5, ground := Ground.phase }, { on := 6, ground := Ground.phase }, { on := 7, ground := Ground.textOnly Departure.lateStores }, { on := 8, ground := Ground.phase }], guard := none }, { dst := some 31, op := Op.assign (Operand.tmp 256), type := 2, pos := "laws.go:787", after := #[{ on := 7, ground := Ground.data }, { on := 9, ground := Ground.chain }, { on := 0, ground := Ground.phase }, { on := 1, ground := Ground.phase }, { on := 2, ground := Ground.phase }, { on := 3, ground := Ground.phase }, { on := 4, ground := Ground.phase }, { on := 5, ground := Ground.phase }, { on := 6, ground := Ground.phase }, { on := 7, ground := Ground.phase }, { on := 8, ground := Ground.phase }, { on := 9, ground := Ground.phase }], guard := none }] false).seq (((Code.region 41 #[{ dst := some 257, op := Op.move (Operand.tmp 31), type := 2, pos := "laws.go:788", after := #[], guard := none }, { dst := some 258, op := Op.binOp BinOp.neq 2 (Operand.tmp 257) (Operand.const (Value.int IntKind.i64 0)) 2, type := 4, pos := "laws.go:788", after := #[{ on := 0, ground := Ground.data }], guard := none }, { dst := some 259, op := Op.move (Operand.tmp 258), type := 4, pos := "laws.go:788", after := #[{ on := 1, ground := Ground.data }], guard := none }, { dst := some 260, op := Op.move (Operand.tmp 29), type := 27, pos := "laws.go:788", after := #[{ on := 2, ground := Ground.guard }], guard := some (2, false) }, { dst := some 261, op := Op.call { callee := Callee.builtin Builtin.len, args := #[Operand.tmp 260], argTypes := #[27] }, type := 3, pos := "laws.go:788", after := #[{ on := 3, ground := Ground.data }, { on := 2, ground := Ground.guard }], guard := some (2, false) }, { dst := some 262, op := Op.move (Operand.tmp 7), type := 27, pos := "laws.go:788", after := #[{ on := 2, ground := Ground.guard }], guard := some (2, false) }, { dst := some 263, op := Op.call { callee := Callee.builtin Builtin.len, args := #[Operand.tmp 262], argTypes := #[27] }, type := 3, pos := "laws.go:788", after := #[{ on := 5, ground := Ground.data }, { on := 2, ground := Ground.guard }], guard := some (2, false) }, { dst := some 264, op := Op.binOp BinOp.neq 3 (Operand.tmp 261) (Operand.tmp 263) 3, type := 4, pos := "laws.go:788", after := #[{ on := 4, ground := Ground.data }, { on := 6, ground := Ground.data }, { on := 2, ground := Ground.guard }], guard := some (2, false) }, { dst := some 265, op := Op.pick (Operand.tmp 259) (Operand.const (Value.bool true)) (Operand.tmp 264), type := 4, pos := "laws.go:788", after := #[{ on := 2, ground := Ground.data }, { on := 7, ground := Ground.data }], guard := none }] false).seq (Code.cond (Operand.tmp 265) ((Code.region 42 #[{ dst := some 4, op := Op.assign (Operand.const (Value.bool false)), type := 4, pos := "laws.go:789", after := #[], guard := none }] false).seq Code.ret) Code.skip)).seq (((Code.region 43 #[{ dst := some 32, op := Op.assign (Operand.const (Value.int IntKind.i64 0)), type := 3, pos := "laws.go:791", after := #[], guard := none }] false).seq (Code.block 4 (((Code.region 44 #[{ dst := some 266, op := Op.move (Operand.tmp 32), type := 3, pos := "laws.go:791", after := #[], guard := none }, { dst := some 267, op := Op.move (Operand.tmp 7), type := 27, pos := "laws.go:791", after := #[], guard := none }, { dst := some 268, op := Op.call { callee := Callee.builtin Builtin.len, args := #[Operand.tmp 267], argTypes := #[27] }, type := 3, pos := "laws.go:791", after := #[{ on := 1, ground := Ground.data }], guard := none }, { dst := some 269, op := Op.binOp BinOp.lss 3 (Operand.tmp 266) (Operand.tmp 268) 3, type := 4, pos := "laws.go:791", after := #[{ on := 0, ground := Ground.data }, { on := 2, ground := Ground.data }], guard := none }] false).seq (Code.cond (Operand.tmp 269) Code.skip (Code.exit 4))).seq ((Code.block 5 ((Code.region 46 #[{ dst := some 272, op := Op.move (Operand.tmp 29), type := 27, pos := "laws.go:792", after := #[], guard := none }, { dst := some 273, op := Op.move (Operand.tmp 32), type := 3, pos := "laws.go:792", after := #[], guard := none }, { dst := some 274, op := Op.indexAddr 27 (Operand.tmp 272) (Operand.tmp 273), type := 0, pos := "laws.go:792", after := #[{ on := 0, ground := Ground.data }, { on := 1, ground := Ground.data }], guard := none }, { dst := some 275, op := Op.load 4 (Operand.tmp 274), type := 4, pos := "laws.go:792", after := #[{ on := 2, ground := Ground.data }], guard := none }, { dst := some 276, op := Op.move (Operand.tmp 7), type := 27, pos := "laws.go:792", after := #[], guard := none }, { dst := some 277, op := Op.move (Operand.tmp 32), type := 3, pos := "laws.go:792", after := #[], guard := none }, { dst := some 278, op := Op.indexAddr 27 (Operand.tmp 276) (Operand.tmp 277), type := 0, pos := "laws.go:792", after := #[{ on := 4, ground := Ground.data }, { on := 5, ground := Ground.data }], guard := none }, { dst := some 279, op := Op.load 4 (Operand.tmp 278), type := 4, pos := "laws.go:792", after := #[{ on := 6, ground := Ground.data }], guard := none }, { dst := some 280, op := Op.binOp BinOp.neq 4 (Operand.tmp 275) (Operand.tmp 279) 4, type := 4, pos := "laws.go:792", after := #[{ on := 3, ground := Ground.data }, { on := 7, ground := Ground.data }], guard := none }] true).seq (Code.cond (Operand.tmp 280) ((Code.region 47 #[{ dst := some 4, op := Op.assign (Operand.const (Value.bool false)), type := 4, pos := "laws.go:793", after := #[], guard := none }] false).seq Code.ret) Code.skip))).seq (Code.region 45 #[{ dst := some 270, op := Op.move (Operand.tmp 32), type := 3, pos := "laws.go:791", after := #[], guard := none }, { dst := some 271, op := Op.binOp BinOp.add 3 (Operand.tmp 270) (Operand.const (Value.int IntKind.i64 1)) 3, type := 3, pos := "laws.go:791", after := #[{ on := 0, ground := Ground.data }], guard := none }, { dst := some 32, op := Op.assign (Operand.tmp 271), type := 3, pos := "laws.go:791", after := #[{ on := 1, ground := Ground.data }, { on := 0, ground := Ground.phase }, { on := 1, ground := Ground.phase }], guard := none }] false))).loop)).seq ((Code.region 48 #[{ dst := some 4, op := Op.assign (Operand.const (Value.bool true)), type := 4, pos := "laws.go:796", after := #[], guard := none }] false).seq Code.ret))))))) (bodyPost Tryd.prog Tryd.f3 fun e w' => e = Ending.returned (Value.bool r) ∧ Below w.heap.size w w') aq wq → K_z1 aq wq) {K_z : Act → World → Prop} (a_z : ∀ (aq : Act) (wq : World), Code.wp Tryd.prog (Code.cond (Operand.tmp 223) ((Code.region 34 #[{ dst := some 4, op := Op.assign (Operand.const (Value.bool false)), type := 4, pos := "laws.go:778", after := #[], guard := none }] false).seq Code.ret) Code.skip) (Exit.then K_z1 (bodyPost Tryd.prog Tryd.f3 fun e w' => e = Ending.returned (Value.bool r) ∧ Below w.heap.size w w')) aq wq → K_z aq wq) {wc : World} {u33 u34 u35 u36 u37 u38 u39 u40 u41 u42 u43 u44 u45 u46 u47 u48 u49 u50 u51 u52 u53 u54 u55 u56 u57 u58 u59 u60 u61 u62 u63 u64 u65 u66 u67 u68 u69 u70 u71 u72 u73 u74 u75 u76 u77 u78 u79 u80 u81 u82 u83 u84 u85 u86 u87 u88 u89 u90 u91 u92 u93 u94 u95 u96 u97 u98 u99 u100 u101 u102 u103 u104 u105 u106 u107 u108 u109 u110 u111 u112 u113 u114 u115 u116 u117 u118 u119 u120 u121 u122 u123 u124 u125 u126 u127 u128 u129 u130 u131 u132 u133 u134 u135 u136 u137 u138 u139 u140 u141 u142 u143 u144 u145 u146 u147 u148 u149 u150 u151 u152 u153 u154 u155 u156 u157 u158 u159 u160 u161 u162 u163 u164 u165 u166 u167 u168 u169 u170 u171 u172 u173 u174 u175 u176 u177 u178 u179 u180 u181 u182 u183 u184 u185 u186 u187 u188 u189 u190 u191 u192 u193 u194 u195 u196 u197 u198 u199 u200 u201 u202 u203 u204 u205 u206 u207 u208 u209 u210 u211 u212 u213 u214 u215 u216 u217 u218 u219 u220 u221 u222 u223 u224 u225 u226 u227 u228 u229 u230 u231 u232 u233 u234 u235 u236 u237 u238 u239 u240 u241 u242 u243 u244 u245 u246 u247 u248 u249 u250 u251 u252 u253 u254 u255 u256 u257 u258 u259 u260 u261 u262 u263 u264 u265 u266 u267 u268 u269 u270 u271 u272 u273 u274 u275 u276 u277 u278 u279 u280 : Value} (hcut : ∃ kq x223_110, u223 = Value.bool x223_110 ∧ Aside0 (j4 kq t257 x7_1 x8_1 t276 t284 t288 x223_110 = some r) ∧ Aside0 (kq ≤ k4) ∧ Aside0 (k51.R 51 wc w.heap.size (fun x => True) (Value.slice Ao37 t257.length co37) t257) ∧ Aside0 (Kd.bool.R 4 wc w.heap.size (fun k_ => some k_ ≠ (Value.slice Ao36 x8_1.length co36).ownBlock) (Value.slice Ao35 x7_1.length co35) x7_1) ∧ Aside0 (Kd.bool.R 4 wc w.heap.size (fun k_ => some k_ ≠ (Value.slice Ao35 x7_1.length co35).ownBlock) (Value.slice Ao36 x8_1.length co36) x8_1) ∧ Aside0 ((Kd.int IntKind.i64).R 2 wc w.heap.size (fun k_ => some k_ ≠ v286.ownBlock ∧ some k_ ≠ v290.ownBlock) (Value.slice Ao95 t276.length co95) t276) ∧ Aside0 ((Kd.int IntKind.i64).R 2 wc w.heap.size (fun k_ => some k_ ≠ (Value.slice Ao95 t276.length co95).ownBlock ∧ some k_ ≠ v290.ownBlock) v286 t284) ∧ Aside0 ((Kd.int IntKind.i64).R 2 wc w.heap.size (fun k_ => some k_ ≠ (Value.slice Ao95 t276.length co95).ownBlock ∧ some k_ ≠ v286.ownBlock) v290 t288) ∧ Aside0 (Below w.heap.size w wc)) :
  K_z { tmps := #[Value.slice A0 l0.length c0, Value.slice A1 l1.length c1, undef, undef, u4, Value.int IntKind.i64 (wrap64 (2 + t256)), Value.slice Ao37 t257.length co37, Value.slice Ao35 x7_1.length co35, Value.slice Ao36 x8_1.length co36, Value.int IntKind.i64 x9_1, Value.int IntKind.i64 x10_1, Value.slice Ao95 t276.length co95, Value.int IntKind.i64 t277, Value.int IntKind.i64 t280, Value.int IntKind.i64 t281, Value.int IntKind.i64 t282, Value.int IntKind.i64 t283, v286, Value.int IntKind.i64 t285, v290, Value.int IntKind.i64 t289, v295, Value.int IntKind.i64 t293, Value.int IntKind.i64 t294, Value.int IntKind.i64 x24_4, v302, Value.bool t301, undef, undef, undef, undef, undef, undef, u33, u34, u35, u36, u37, u38, u39, u40, u41, u42, u43, u44, u45, u46, u47, u48, u49, u50, u51, u52, u53, u54, u55, u56, u57, u58, u59, u60, u61, u62, u63, u64, u65, u66, u67, u68, u69, u70, u71, u72, u73, u74, u75, u76, u77, u78, u79, u80, u81, u82, u83, u84, u85, u86, u87, u88, u89, u90, u91, u92, u93, u94, u95, u96, u97, u98, u99, u100, u101, u102, u103, u104, u105, u106, u107, u108, u109, u110, u111, u112, u113, u114, u115, u116, u117, u118, u119, u120, u121, u122, u123, u124, u125, u126, u127, u128, u129, u130, u131, u132, u133, u134, u135, u136, u137, u138, u139, u140, u141, u142, u143, u144, u145, u146, u147, u148, u149, u150, u151, u152, u153, u154, u155, u156, u157, u158, u159, u160, u161, u162, u163, u164, u165, u166, u167, u168, u169, u170, u171, u172, u173, u174, u175, u176, u177, u178, u179, u180, u181, u182, u183, u184, u185, u186, u187, u188, u189, u190, u191, u192, u193, u194, u195, u196, u197, u198, u199, u200, u201, u202, u203, u204, u205, u206, u207, u208, u209, u210, u211, u212, u213, u214, u215, u216, u217, u218, u219, u220, u221, u222, u223, u224, u225, u226, u227, u228, u229, u230, u231, u232, u233, u234, u235, u236, u237, u238, u239, u240, u241, u242, u243, u244, u245, u246, u247, u248, u249, u250, u251, u252, u253, u254, u255, u256, u257, u258, u259, u260, u261, u262, u263, u264, u265, u266, u267, u268, u269, u270, u271, u272, u273, u274, u275, u276, u277, u278, u279, u280], defers := [] } wc := by
                clear HC111
                try clear c4
                try clear c12b0
                try clear c91
                try clear c92b0
                try clear c92b1
                try clear c102
                try clear c103b0
                obtain ⟨kq, x223_110, rfl, HA, HJ110, HO_6, HO_7, HO_8, HO_11, HO_17, HO_19, HB⟩ := hcut
                cases kq with
                | zero => exact absurd HA.out (by simp [laws_FnSwitching.j4])
                | succ kj110 =>
                 have H := HA.out
                 clear HA
                 simp only [laws_FnSwitching.j4] at H
                 by_cases c117 : x223_110 = true
                 ·
                  subst c117
                  have H1 : (some false) = some r := by rw [if_pos rfl] at H; exact H
                  clear H
                  have H := H1
                  clear H1
                  exact absurd (Option.some.inj H) (by rw [hr_]; decide)
                 ·
                  replace c117 := Bool.eq_false_iff.mpr c117
                  subst c117
                  have H1 : (if (t276.length : Int) > 0 then (if 0 < (t276.length : Int) then ((laws_r8Has.f kj110 t288 (rd t276 0)).bind fun t306 => (laws_FnSwitching.j5 kj110 t257 x7_1 x8_1 t276 t284 (!t306))) else (none)) else (laws_FnSwitching.j5 kj110 t257 x7_1 x8_1 t276 t284 false)) = some r := by rw [if_neg (show ¬ (false = true) by decide)] at H; exact H
                  clear H
                  have H := H1
                  clear H1
                  have HC118 := Aside0.mk H
                  clear H
                  go_upto_region 35 with (fail)
                  repeat (go_quiet (fail); go_upto_region 35 with (fail))
                  go_cut [234] (fun v234 wc => ∃ (kq : Nat) (x234_117 : Bool), v234 = .bool x234_117 ∧ Aside0 (laws_FnSwitching.j5 kq t257 x7_1 x8_1 t276 t284 x234_117 = some r) ∧ Aside0 (kq ≤ kj110) ∧ Aside0 (Kd.R k51 51 wc w.heap.size (fun _ => True) (.slice Ao37 t257.length co37) t257) ∧ Aside0 (Kd.R Kd.bool 4 wc w.heap.size (fun k_ => some k_ ≠ ((.slice Ao36 x8_1.length co36) : Value).ownBlock) (.slice Ao35 x7_1.length co35) x7_1) ∧ Aside0 (Kd.R Kd.bool 4 wc w.heap.size (fun k_ => some k_ ≠ ((.slice Ao35 x7_1.length co35) : Value).ownBlock) (.slice Ao36 x8_1.length co36) x8_1) ∧ Aside0 (Kd.R (Kd.int .i64) 2 wc w.heap.size (fun k_ => some k_ ≠ (v286 : Value).ownBlock) (.slice Ao95 t276.length co95) t276) ∧ Aside0 (Kd.R (Kd.int .i64) 2 wc w.heap.size (fun k_ => some k_ ≠ ((.slice Ao95 t276.length co95) : Value).ownBlock) v286 t284) ∧ Aside0 (Below w.heap.size w wc))
                  case first =>
                   have H := HC118.out
                   clear HC118
                   by_cases c119 : (t276.length : Int) > 0
                   ·
                    rw [if_pos c119] at H
                    have c119b0 : decide (0 < (t276.length : Int)) = true := decide_eq_true c119
                    have c119b1 : decide (0 < t276.length) = true := decide_eq_true (by omega)
                    clear c119
                    (first | rw [c119b0] | (simp only [i64_w, i32_w]; rw [c119b0]) | skip)
                    by_cases c120 : 0 < (t276.length : Int)
                    ·
                     rw [if_pos c120] at H
                     have c120b0 : decide (0 < (t276.length : Int)) = true := decide_eq_true c120
                     have c120b1 : decide (0 < t276.length) = true := decide_eq_true (by omega)
                     clear c120
                     replace H := Option.bind_eq_some_iff.mp H
                     obtain ⟨t306, A1210, H⟩ := H
                     replace H : (laws_FnSwitching.j5 kj110 t257 x7_1 x8_1 t276 t284 (!t306)) = some r := H
                     have A121 := Aside0.mk A1210
                     clear A1210
                     have H' := Aside0.mk H
                     clear H
                     have p305 : 0 ≤ (0 : Int) := (by omega)
                     have q305 : 0 < (t276.length : Int) := od
                     obtain ⟨ad305, e305, hx305_0⟩ := Kd.at_int (Kd.R_reads' HO_11.out).2.2 0 p305 q305
                     cases e305
                     have qi305 : (0 < t276.length) = True := eq_true (by omega)
                     (try rw [show ((0 : Int)).toNat = 0 from rfl] at hx305_0)
                     (try rw [Addr.add_zero'] at hx305_0)
                     replace p305 := eq_true p305
                     replace q305 := eq_true q305
                     obtain ⟨Ao122, co122, eo122⟩ := Kd.R_slice HO_19.out
                     subst eo122
                     go_wp2_with (first | (go_at_call 18; (with_reducible refine (laws_r8Has.calls kj110 _ _ t288 (rd t276 0) t306 _ ?side1 ?side2 A121.out).mono ?_); (case side1 => exact mvC (Kd.R_reads' HO_19.out).2.2); (case side2 => exact (Kd.R_reads' HO_19.out).2.1); rintro e w' ⟨rfl, ⟨nd, rfl⟩⟩; (try first | exact ⟨rfl, _, World.drewN_drewN _ _ _⟩ | exact ⟨rfl, _, Eq.trans (World.drewN_drewN _ _ _) (congrArg (World.drewN _) (Nat.add_assoc _ _ _))⟩)))
                     repeat (go_quiet (first | (go_at_call 18; (with_reducible refine (laws_r8Has.calls kj110 _ _ t288 (rd t276 0) t306 _ ?side1 ?side2 A121.out).mono ?_); (case side1 => exact mvC (Kd.R_reads' HO_19.out).2.2); (case side2 => exact (Kd.R_reads' HO_19.out).2.1); rintro e w' ⟨rfl, ⟨nd, rfl⟩⟩; (try first | exact ⟨rfl, _, World.drewN_drewN _ _ _⟩ | exact ⟨rfl, _, Eq.trans (World.drewN_drewN _ _ _) (congrArg (World.drewN _) (Nat.add_assoc _ _ _))⟩))); try go_wp2_with (first | (go_at_call 18; (with_reducible refine (laws_r8Has.calls kj110 _ _ t288 (rd t276 0) t306 _ ?side1 ?side2 A121.out).mono ?_); (case side1 => exact mvC (Kd.R_reads' HO_19.out).2.2); (case side2 => exact (Kd.R_reads' HO_19.out).2.1); rintro e w' ⟨rfl, ⟨nd, rfl⟩⟩; (try first | exact ⟨rfl, _, World.drewN_drewN _ _ _⟩ | exact ⟨rfl, _, Eq.trans (World.drewN_drewN _ _ _) (congrArg (World.drewN _) (Nat.add_assoc _ _ _))⟩))))
                     go_meet
                     case rel => exact ⟨_, (!t306), rs, H', ⟨by have := HK1.out; have := HJ33.out; have := HJ93.out; have := HK4.out; have := HJ110.out; first | omega | exact Nat.le_refl _⟩, ⟨mv HO_6.out⟩, ⟨mv HO_7.out⟩, ⟨mv HO_8.out⟩, ⟨by (with_reducible repeat (first | apply Kd.R_alloc | apply Kd.R_drewN | apply Kd.R_drew)); exact Kd.R_mono HO_11.out (fun _ hk => hk.1)⟩, ⟨by (with_reducible repeat (first | apply Kd.R_alloc | apply Kd.R_drewN | apply Kd.R_drew)); exact Kd.R_mono HO_17.out (fun _ hk => hk.1)⟩, ⟨mvB HB.out⟩⟩
                    ·
                     rw [if_neg c120] at H
                     exact absurd H (by simp)
                   ·
                    rw [if_neg c119] at H
                    have c119b0 : decide (0 < (t276.length : Int)) = false := decide_eq_false c119
                    have c119b1 : decide (0 < t276.length) = false := decide_eq_false (by omega)
                    clear c119
                    (first | rw [c119b0] | (simp only [i64_w, i32_w]; rw [c119b0]) | skip)
                    have H' := Aside0.mk H
                    clear H
                    go_wp2
                    repeat (go_quiet (fail); try go_wp2)
                    go_meet
                    case rel => exact ⟨_, (false), rs, H', ⟨by have := HK1.out; have := HJ33.out; have := HJ93.out; have := HK4.out; have := HJ110.out; first | omega | exact Nat.le_refl _⟩, ⟨mv HO_6.out⟩, ⟨mv HO_7.out⟩, ⟨mv HO_8.out⟩, ⟨by (with_reducible repeat (first | apply Kd.R_alloc | apply Kd.R_drewN | apply Kd.R_drew)); exact Kd.R_mono HO_11.out (fun _ hk => hk.1)⟩, ⟨by (with_reducible repeat (first | apply Kd.R_alloc | apply Kd.R_drewN | apply Kd.R_drew)); exact Kd.R_mono HO_17.out (fun _ hk => hk.1)⟩, ⟨mvB HB.out⟩⟩
                  case rest =>
                   clear HC118
                   try clear c4
                   try clear c12b0
                   try clear c91
                   try clear c92b0
                   try clear c92b1
                   try clear c102
                   try clear c103b0
                   try clear c117
                   obtain ⟨kq, x234_117, rfl, HA, HJ117, HO_6, HO_7, HO_8, HO_11, HO_17, HB⟩ := hcut
                   cases kq with
                   | zero => exact absurd HA.out (by simp [laws_FnSwitching.j5])
                   | succ kj117 =>
                    have H := HA.out
                    clear HA
                    simp only [laws_FnSwitching.j5] at H
                    by_cases c123 : x234_117 = true
                    ·
                     subst c123
                     have H1 : (some false) = some r := by rw [if_pos rfl] at H; exact H
                     clear H
                     have H := H1
                     clear H1
                     exact absurd (Option.some.inj H) (by rw [hr_]; decide)
                    ·
                     replace c123 := Bool.eq_false_iff.mpr c123
                     subst c123
                     have H1 : ((impl_UndoOrders.f kj117 t276).bind fun bt307 => (if bt307.2 = 0 then (laws_FnSwitching.j6 kj117 t257 x7_1 x8_1 bt307.1 bt307.2 (decide ((t284.length : Int) > 0))) else (laws_FnSwitching.j6 kj117 t257 x7_1 x8_1 bt307.1 bt307.2 true))) = some r := by rw [if_neg (show ¬ (false = true) by decide)] at H; exact H
                     clear H
                     have H := H1
                     clear H1
                     replace H := Option.bind_eq_some_iff.mp H
                     obtain ⟨⟨t307, t308⟩, A1240, H⟩ := H
                     replace H : (if t308 = 0 then (laws_FnSwitching.j6 kj117 t257 x7_1 x8_1 t307 t308 (decide ((t284.length : Int) > 0))) else (laws_FnSwitching.j6 kj117 t257 x7_1 x8_1 t307 t308 true)) = some r := H
                     have A124 := Aside0.mk A1240
                     clear A1240
                     have HC125 := Aside0.mk H
                     clear H
                     go_upto_region 38 with (first | (go_at_call 19; (with_reducible refine (impl_UndoOrders.calls kj117 _ _ t276 t307 t308 _ ?side1 ?side2 A124.out).mono ?_); (case side1 => exact mvC (Kd.R_reads' HO_11.out).2.2); (case side2 => exact (Kd.R_reads' HO_11.out).2.1); rintro e w126 ⟨v309, rfl, ho0, hb⟩; have n0_ := Aside0.mk (Kd.R_below (mv HO_6.out) hb); have n1_ := Aside0.mk (Kd.R_below (mv HO_7.out) hb); have n2_ := Aside0.mk (Kd.R_below (mv HO_8.out) hb); have n3_ := Aside0.mk (Kd.R_elder' (mv HO_11.out) (Kd.R_base ho0) hb); have n4_ := Aside0.mk (Kd.R_elder' (mv HO_17.out) (Kd.R_base ho0) hb); have n5_ := Aside0.mk (Kd.R_lower (Kd.R_new' (Kd.R_new' ho0 (Kd.R_lt (mv HO_11.out))) (Kd.R_lt (mv HO_17.out))) (below_size (mvB HB.out))); have n6_ := Aside0.mk (below_step (mvB HB.out) hb); clear HO_6 HO_7 HO_8 HO_11 HO_17 HB; revert n0_ n1_ n2_ n3_ n4_ n5_ n6_; intro HO_6 HO_7 HO_8 HO_11 HO_17 HO310 HB; (try clear hb); (try clear ho0)))
                     repeat (go_quiet (first | (go_at_call 19; (with_reducible refine (impl_UndoOrders.calls kj117 _ _ t276 t307 t308 _ ?side1 ?side2 A124.out).mono ?_); (case side1 => exact mvC (Kd.R_reads' HO_11.out).2.2); (case side2 => exact (Kd.R_reads' HO_11.out).2.1); rintro e w126 ⟨v309, rfl, ho0, hb⟩; have n0_ := Aside0.mk (Kd.R_below (mv HO_6.out) hb); have n1_ := Aside0.mk (Kd.R_below (mv HO_7.out) hb); have n2_ := Aside0.mk (Kd.R_below (mv HO_8.out) hb); have n3_ := Aside0.mk (Kd.R_elder' (mv HO_11.out) (Kd.R_base ho0) hb); have n4_ := Aside0.mk (Kd.R_elder' (mv HO_17.out) (Kd.R_base ho0) hb); have n5_ := Aside0.mk (Kd.R_lower (Kd.R_new' (Kd.R_new' ho0 (Kd.R_lt (mv HO_11.out))) (Kd.R_lt (mv HO_17.out))) (below_size (mvB HB.out))); have n6_ := Aside0.mk (below_step (mvB HB.out) hb); clear HO_6 HO_7 HO_8 HO_11 HO_17 HB; revert n0_ n1_ n2_ n3_ n4_ n5_ n6_; intro HO_6 HO_7 HO_8 HO_11 HO_17 HO310 HB; (try clear hb); (try clear ho0))); go_upto_region 38 with (first | (go_at_call 19; (with_reducible refine (impl_UndoOrders.calls kj117 _ _ t276 t307 t308 _ ?side1 ?side2 A124.out).mono ?_); (case side1 => exact mvC (Kd.R_reads' HO_11.out).2.2); (case side2 => exact (Kd.R_reads' HO_11.out).2.1); rintro e w126 ⟨v309, rfl, ho0, hb⟩; have n0_ := Aside0.mk (Kd.R_below (mv HO_6.out) hb); have n1_ := Aside0.mk (Kd.R_below (mv HO_7.out) hb); have n2_ := Aside0.mk (Kd.R_below (mv HO_8.out) hb); have n3_ := Aside0.mk (Kd.R_elder' (mv HO_11.out) (Kd.R_base ho0) hb); have n4_ := Aside0.mk (Kd.R_elder' (mv HO_17.out) (Kd.R_base ho0) hb); have n5_ := Aside0.mk (Kd.R_lower (Kd.R_new' (Kd.R_new' ho0 (Kd.R_lt (mv HO_11.out))) (Kd.R_lt (mv HO_17.out))) (below_size (mvB HB.out))); have n6_ := Aside0.mk (below_step (mvB HB.out) hb); clear HO_6 HO_7 HO_8 HO_11 HO_17 HB; revert n0_ n1_ n2_ n3_ n4_ n5_ n6_; intro HO_6 HO_7 HO_8 HO_11 HO_17 HO310 HB; (try clear hb); (try clear ho0))))
                     (try simp only [Act.put, List.setIfInBounds_toArray, List.set_cons_zero, List.set_cons_succ])
                     go_cut [246] (fun v246 wc => ∃ (kq : Nat) (x246_124 : Bool), v246 = .bool x246_124 ∧ Aside0 (laws_FnSwitching.j6 kq t257 x7_1 x8_1 t307 t308 x246_124 = some r) ∧ Aside0 (kq ≤ kj117) ∧ Aside0 (Kd.R k51 51 wc w.heap.size (fun _ => True) (.slice Ao37 t257.length co37) t257) ∧ Aside0 (Kd.R Kd.bool 4 wc w.heap.size (fun k_ => some k_ ≠ ((.slice Ao36 x8_1.length co36) : Value).ownBlock) (.slice Ao35 x7_1.length co35) x7_1) ∧ Aside0 (Kd.R Kd.bool 4 wc w.heap.size (fun k_ => some k_ ≠ ((.slice Ao35 x7_1.length co35) : Value).ownBlock) (.slice Ao36 x8_1.length co36) x8_1) ∧ Aside0 (Kd.R (Kd.int .i64) 2 wc w.heap.size (fun _ => True) v309 t307) ∧ Aside0 (Below w.heap.size w wc))
                     case first =>
                      have H := HC125.out
                      clear HC125
                      by_cases c127 : t308 = 0
                      ·
                       rw [if_pos c127] at H
                       have c127b0 : (t308 == 0) = true := beq_iff_eq.mpr c127
                       have c127b1 : (t308 != 0) = false := bne_eq_false_iff_eq.mpr c127
                       clear c127
                       (first | rw [c127b0] | (simp only [i64_w, i32_w]; rw [c127b0]) | skip)
                       have H' := Aside0.mk H
                       clear H
                       obtain ⟨Ao128, co128, eo128⟩ := Kd.R_slice HO_17.out
                       subst eo128
                       go_wp2
                       repeat (go_quiet (fail); try go_wp2)
                       go_meet
                       case rel => exact ⟨_, (decide ((t284.length : Int) > 0)), rs, H', ⟨by have := HK1.out; have := HJ33.out; have := HJ93.out; have := HK4.out; have := HJ110.out; have := HJ117.out; first | omega | exact Nat.le_refl _⟩, ⟨mv HO_6.out⟩, ⟨mv HO_7.out⟩, ⟨mv HO_8.out⟩, ⟨by (with_reducible repeat (first | apply Kd.R_alloc | apply Kd.R_drewN | apply Kd.R_drew)); exact Kd.R_mono HO310.out (fun _ hk => trivial)⟩, ⟨mvB HB.out⟩⟩
                      ·
                       rw [if_neg c127] at H
                       have c127b0 : (t308 == 0) = false := beq_eq_false_iff_ne.mpr c127
                       have c127b1 : (t308 != 0) = true := bne_iff_ne.mpr c127
                       (first | rw [c127b0] | (simp only [i64_w, i32_w]; rw [c127b0]) | skip)
                       have H' := Aside0.mk H
                       clear H
                       go_wp2
                       repeat (go_quiet (fail); try go_wp2)
                       go_meet
                       case rel => exact ⟨_, (true), rs, H', ⟨by have := HK1.out; have := HJ33.out; have := HJ93.out; have := HK4.out; have := HJ110.out; have := HJ117.out; first | omega | exact Nat.le_refl _⟩, ⟨mv HO_6.out⟩, ⟨mv HO_7.out⟩, ⟨mv HO_8.out⟩, ⟨by (with_reducible repeat (first | apply Kd.R_alloc | apply Kd.R_drewN | apply Kd.R_drew)); exact Kd.R_mono HO310.out (fun _ hk => trivial)⟩, ⟨mvB HB.out⟩⟩
                     case rest =>
                      exact laws_FnSwitching.p5 hr_ HT_ HR0 HC0 HR1 HC1 A3 A5 A6 Ny260 Ny263 HO262 HO265 HK1 A29 A30 A31 A32 A33 HO259 HJ33 A93 HO279 HO287 HO291 HO296 HJ93 HK4 A109 A110 HO_21 HO303 HO_19 HJ110 HJ117 A124 HC125 HO_6 HO_7 HO_8 HO_11 HO_17 HO310 HB (by assumption) (by assumption) hcut
end Go.Proofs.YtffodlggihmonaaDoor.PFnSwitching
