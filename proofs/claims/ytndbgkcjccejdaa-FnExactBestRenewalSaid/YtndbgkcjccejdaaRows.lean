/-
  No cell of these rows narrows 'for every input' (looked for: loops, veiled, ifaces, maps, wideKeys, modest, calm, conditions, laid).
  DERIVED. THE GIVEN ROWS OF THIS SEAT. 4 by the template 'for every input the law returns true; each argument reads behind the call as it read before'; 0 by the template 'total and deterministic' (their statements: YtndbgkcjccejdaaTotals.lean).
  GIVEN WITH THE SEED: the statements are not yours to turn. If you find one false, say at which input.
  Laid BY PROGRAM, IN A SANDBOX (cutbox-rows.mjs): the forced cells as the released guide's own fill.sh prints them over the translation ec924a020c640607… (all of the seat's roots in one cut). By AI agents, Wed Nov 11 2026. No macro, syntax, notation, axiom, sorry.
-/
import Derived.Test.YtndbgkcjccejdaaChecked
import GoSem.Claim
import GoSem.ClaimJoined
import GoSem.ClaimMapViews
import Derived.JoinedTies
import Derived.KernelRfl
namespace Go.Proofs.Ytndbgkcjccejdaa
/- THE CELL 'sum', in the pinned program and in every row, IS THE sha256 OF THE DUMP (.gsa) THAT YtndbgkcjccejdaaProg.lean LOADS. Nothing in Lean hashes anything: it is a label: what it is worth is what the hold of that sum in a sandbox is worth. -/
noncomputable def Try.pinned : Pinned := { name := "ytndbgkcjccejdaa", sum := "ec924a020c64060732b7b5ef157d3f2c4e8a83c42ce39aba9efd0451eaedc23c", checked := Try.checked }
namespace Rows
def none {H : Type} : Left H := { results := [], args := [] }

/-- 'laws.FnExactCheapestPumps': WHATEVER THE INPUT: true; the input reads as it did. -/
def fnExactCheapestPumpsSpec : ChangeSpec := { name := "fnExactCheapestPumps", fn := fun _ => fun
  | [d1, d2, d3, d4, d5] => { results := [.lit (.bool true)], args := [d1, d2, d3, d4, d5] }
  | _ => none }
def fnExactCheapestPumpsRow : OpenClaim := { program := "ytndbgkcjccejdaa", sum := "ec924a020c64060732b7b5ef157d3f2c4e8a83c42ce39aba9efd0451eaedc23c", func := "loop.example/g01011/laws.FnExactCheapestPumps", spec := "fnExactCheapestPumps", recurses := true, apart := false }
def FnExactCheapestPumpsSaid : Prop := fnExactCheapestPumpsRow.holds Try.pinned (OpenSpec.ofChange fnExactCheapestPumpsSpec)

/-- ITS FALSE NEIGHBOUR: 'it returns false'. Refute it at one input. -/
def fnExactCheapestPumpsWrong : ChangeSpec := { name := "fnExactCheapestPumps", fn := fun _ => fun
  | [d1, d2, d3, d4, d5] => { results := [.lit (.bool false)], args := [d1, d2, d3, d4, d5] }
  | _ => none }
def FnExactCheapestPumpsWrongFalsely : Prop := fnExactCheapestPumpsRow.holds Try.pinned (OpenSpec.ofChange fnExactCheapestPumpsWrong)

/-- 'laws.FnSpeeds': WHATEVER THE INPUT: true; the input reads as it did. -/
def fnSpeedsSpec : ChangeSpec := { name := "fnSpeeds", fn := fun _ => fun
  | [d1, d2] => { results := [.lit (.bool true)], args := [d1, d2] }
  | _ => none }
def fnSpeedsRow : OpenClaim := { program := "ytndbgkcjccejdaa", sum := "ec924a020c64060732b7b5ef157d3f2c4e8a83c42ce39aba9efd0451eaedc23c", func := "loop.example/g01011/laws.FnSpeeds", spec := "fnSpeeds", unfollowed := true, recurses := true, apart := false }
def FnSpeedsSaid : Prop := fnSpeedsRow.holds Try.pinned (OpenSpec.ofChange fnSpeedsSpec)

/-- ITS FALSE NEIGHBOUR: 'it returns false'. Refute it at one input. -/
def fnSpeedsWrong : ChangeSpec := { name := "fnSpeeds", fn := fun _ => fun
  | [d1, d2] => { results := [.lit (.bool false)], args := [d1, d2] }
  | _ => none }
def FnSpeedsWrongFalsely : Prop := fnSpeedsRow.holds Try.pinned (OpenSpec.ofChange fnSpeedsWrong)

/-- 'laws.FnExactBestRenewal': WHATEVER THE INPUT: true; the input reads as it did. -/
def fnExactBestRenewalSpec : ChangeSpec := { name := "fnExactBestRenewal", fn := fun _ => fun
  | [d1, d2, d3, d4, d5, d6, d7] => { results := [.lit (.bool true)], args := [d1, d2, d3, d4, d5, d6, d7] }
  | _ => none }
def fnExactBestRenewalRow : OpenClaim := { program := "ytndbgkcjccejdaa", sum := "ec924a020c64060732b7b5ef157d3f2c4e8a83c42ce39aba9efd0451eaedc23c", func := "loop.example/g01011/laws.FnExactBestRenewal", spec := "fnExactBestRenewal", unfollowed := true, recurses := true, apart := false }
def FnExactBestRenewalSaid : Prop := fnExactBestRenewalRow.holds Try.pinned (OpenSpec.ofChange fnExactBestRenewalSpec)

/-- ITS FALSE NEIGHBOUR: 'it returns false'. Refute it at one input. -/
def fnExactBestRenewalWrong : ChangeSpec := { name := "fnExactBestRenewal", fn := fun _ => fun
  | [d1, d2, d3, d4, d5, d6, d7] => { results := [.lit (.bool false)], args := [d1, d2, d3, d4, d5, d6, d7] }
  | _ => none }
def FnExactBestRenewalWrongFalsely : Prop := fnExactBestRenewalRow.holds Try.pinned (OpenSpec.ofChange fnExactBestRenewalWrong)

/-- 'laws.FnRenewals': WHATEVER THE INPUT: true; the input reads as it did. -/
def fnRenewalsSpec : ChangeSpec := { name := "fnRenewals", fn := fun _ => fun
  | [d1, d2] => { results := [.lit (.bool true)], args := [d1, d2] }
  | _ => none }
def fnRenewalsRow : OpenClaim := { program := "ytndbgkcjccejdaa", sum := "ec924a020c64060732b7b5ef157d3f2c4e8a83c42ce39aba9efd0451eaedc23c", func := "loop.example/g01011/laws.FnRenewals", spec := "fnRenewals", unfollowed := true, recurses := true, apart := false }
def FnRenewalsSaid : Prop := fnRenewalsRow.holds Try.pinned (OpenSpec.ofChange fnRenewalsSpec)

/-- ITS FALSE NEIGHBOUR: 'it returns false'. Refute it at one input. -/
def fnRenewalsWrong : ChangeSpec := { name := "fnRenewals", fn := fun _ => fun
  | [d1, d2] => { results := [.lit (.bool false)], args := [d1, d2] }
  | _ => none }
def FnRenewalsWrongFalsely : Prop := fnRenewalsRow.holds Try.pinned (OpenSpec.ofChange fnRenewalsWrong)

/- THE SECOND FORM. 'bulk': how many values and letters a reading holds, each counted each time it is reached (what is shared counts as often as it is met; a slice's spare places count too). A statement '..UptoSaid' is the law's where the arguments, and the package variables that the reading takes, are together of bulk at most 1048576: NARROWER than '..Said'. Prove '..Said' where nothing that the law and all that it calls make is longer than what came in: it says more and counts as full. Else prove '..UptoSaid'. A law counts once. -/
mutual
def uptoBulk {H : Type} : DataW H → Nat
  | .lit (.string bytes) => bytes.length + 1
  | .lit _ => 1
  | .nil => 1
  | .ptr d => uptoBulk d + 1
  | .slice elems spare => uptoBulkAll elems + uptoBulkAll spare + 1
  | .agg parts => uptoBulkAll parts + 1
  | .iface _ d => uptoBulk d + 1
  | .map entries => uptoBulkEntries entries + 1
  | .held _ => 1
def uptoBulkAll {H : Type} : List (DataW H) → Nat
  | [] => 0
  | d :: r => uptoBulk d + uptoBulkAll r
def uptoBulkEntries {H : Type} : List (Lit × DataW H) → Nat
  | [] => 0
  | x :: r => uptoBulkEntry x + uptoBulkEntries r
def uptoBulkEntry {H : Type} : Lit × DataW H → Nat
  | (.string bytes, d) => bytes.length + uptoBulk d + 1
  | (_, d) => uptoBulk d + 1
 end
def uptoSmall : (H : Type) → List (DataW H) → Bool := fun _ ds => decide (uptoBulkAll ds ≤ 1048576)
def OpenSpec.upto (s : _root_.Go.ChangeSpec) : _root_.Go.OpenSpec := { _root_.Go.OpenSpec.ofChange s with cond := some uptoSmall }

/-- 'laws.FnExactCheapestPumps', WHERE WHAT IT READS IS OF BULK AT MOST 1048576: true; the input reads as it did. -/
def fnExactCheapestPumpsUptoRow : OpenClaim := { program := "ytndbgkcjccejdaa", sum := "ec924a020c64060732b7b5ef157d3f2c4e8a83c42ce39aba9efd0451eaedc23c", func := "loop.example/g01011/laws.FnExactCheapestPumps", spec := "fnExactCheapestPumps", recurses := true, apart := false, narrowed := true }
def FnExactCheapestPumpsUptoSaid : Prop := fnExactCheapestPumpsUptoRow.holds Try.pinned (OpenSpec.upto fnExactCheapestPumpsSpec)

/-- 'laws.FnSpeeds', WHERE WHAT IT READS IS OF BULK AT MOST 1048576: true; the input reads as it did. -/
def fnSpeedsUptoRow : OpenClaim := { program := "ytndbgkcjccejdaa", sum := "ec924a020c64060732b7b5ef157d3f2c4e8a83c42ce39aba9efd0451eaedc23c", func := "loop.example/g01011/laws.FnSpeeds", spec := "fnSpeeds", unfollowed := true, recurses := true, apart := false, narrowed := true }
def FnSpeedsUptoSaid : Prop := fnSpeedsUptoRow.holds Try.pinned (OpenSpec.upto fnSpeedsSpec)

/-- 'laws.FnExactBestRenewal', WHERE WHAT IT READS IS OF BULK AT MOST 1048576: true; the input reads as it did. -/
def fnExactBestRenewalUptoRow : OpenClaim := { program := "ytndbgkcjccejdaa", sum := "ec924a020c64060732b7b5ef157d3f2c4e8a83c42ce39aba9efd0451eaedc23c", func := "loop.example/g01011/laws.FnExactBestRenewal", spec := "fnExactBestRenewal", unfollowed := true, recurses := true, apart := false, narrowed := true }
def FnExactBestRenewalUptoSaid : Prop := fnExactBestRenewalUptoRow.holds Try.pinned (OpenSpec.upto fnExactBestRenewalSpec)

/-- 'laws.FnRenewals', WHERE WHAT IT READS IS OF BULK AT MOST 1048576: true; the input reads as it did. -/
def fnRenewalsUptoRow : OpenClaim := { program := "ytndbgkcjccejdaa", sum := "ec924a020c64060732b7b5ef157d3f2c4e8a83c42ce39aba9efd0451eaedc23c", func := "loop.example/g01011/laws.FnRenewals", spec := "fnRenewals", unfollowed := true, recurses := true, apart := false, narrowed := true }
def FnRenewalsUptoSaid : Prop := fnRenewalsUptoRow.holds Try.pinned (OpenSpec.upto fnRenewalsSpec)

end Rows
end Go.Proofs.Ytndbgkcjccejdaa
