/-
  No cell of these rows narrows 'for every input' (looked for: loops, veiled, ifaces, maps, wideKeys, modest, calm, conditions, laid).
  DERIVED. THE GIVEN ROWS OF THIS SEAT. 12 by the template 'for every input the law returns true; each argument reads behind the call as it read before'; 0 by the template 'total and deterministic' (their statements: YtfmdjhfnbiekaaaTotals.lean).
  GIVEN WITH THE SEED: the statements are not yours to turn. If you find one false, say at which input.
  Laid BY PROGRAM, IN A SANDBOX (cutbox-rows.mjs): the forced cells as the released guide's own fill.sh prints them over the translation d6063b49ab2d0a10… (all of the seat's roots in one cut). By AI agents, Wed Nov 11 2026. No macro, syntax, notation, axiom, sorry.
-/
import Derived.Test.YtfmdjhfnbiekaaaChecked
import GoSem.Claim
import GoSem.ClaimJoined
import GoSem.ClaimMapViews
import Derived.JoinedTies
import Derived.KernelRfl
namespace Go.Proofs.Ytfmdjhfnbiekaaa
/- THE CELL 'sum', in the pinned program and in every row, IS THE sha256 OF THE DUMP (.gsa) THAT YtfmdjhfnbiekaaaProg.lean LOADS. Nothing in Lean hashes anything: it is a label: what it is worth is what the hold of that sum in a sandbox is worth. -/
noncomputable def Try.pinned : Pinned := { name := "ytfmdjhfnbiekaaa", sum := "d6063b49ab2d0a10eed4b9e3a44953c65617350ea4b23b2bfc4f6d6125db2624", checked := Try.checked }
namespace Rows
def none {H : Type} : Left H := { results := [], args := [] }

/-- 'vernierlaw03.WholeTells': WHATEVER THE INPUT: true; the input reads as it did. -/
def wholeTellsSpec : ChangeSpec := { name := "wholeTells", fn := fun _ => fun
  | [d1, d2, d3] => { results := [.lit (.bool true)], args := [d1, d2, d3] }
  | _ => none }
def wholeTellsRow : OpenClaim := { program := "ytfmdjhfnbiekaaa", sum := "d6063b49ab2d0a10eed4b9e3a44953c65617350ea4b23b2bfc4f6d6125db2624", func := "vernier/vernierlaw03.WholeTells", spec := "wholeTells", inPlace := ["math/bits.Add64", "math/bits.Sub64"], unfollowed := true, recurses := true, apart := false }
def WholeTellsSaid : Prop := wholeTellsRow.holds Try.pinned (OpenSpec.ofChange wholeTellsSpec)

/-- ITS FALSE NEIGHBOUR: 'it returns false'. Refute it at one input. -/
def wholeTellsWrong : ChangeSpec := { name := "wholeTells", fn := fun _ => fun
  | [d1, d2, d3] => { results := [.lit (.bool false)], args := [d1, d2, d3] }
  | _ => none }
def WholeTellsWrongFalsely : Prop := wholeTellsRow.holds Try.pinned (OpenSpec.ofChange wholeTellsWrong)

/-- 'vernierlaw07.FaddTells': WHATEVER THE INPUT: true; the input reads as it did. -/
def faddTellsSpec : ChangeSpec := { name := "faddTells", fn := fun _ => fun
  | [d1, d2, d3] => { results := [.lit (.bool true)], args := [d1, d2, d3] }
  | _ => none }
def faddTellsRow : OpenClaim := { program := "ytfmdjhfnbiekaaa", sum := "d6063b49ab2d0a10eed4b9e3a44953c65617350ea4b23b2bfc4f6d6125db2624", func := "vernier/vernierlaw07.FaddTells", spec := "faddTells", inPlace := ["math/bits.Add64", "math/bits.Sub64"], apart := false }
def FaddTellsSaid : Prop := faddTellsRow.holds Try.pinned (OpenSpec.ofChange faddTellsSpec)

/-- ITS FALSE NEIGHBOUR: 'it returns false'. Refute it at one input. -/
def faddTellsWrong : ChangeSpec := { name := "faddTells", fn := fun _ => fun
  | [d1, d2, d3] => { results := [.lit (.bool false)], args := [d1, d2, d3] }
  | _ => none }
def FaddTellsWrongFalsely : Prop := faddTellsRow.holds Try.pinned (OpenSpec.ofChange faddTellsWrong)

/-- 'vernierlaw07.FaddOrder': WHATEVER THE INPUT: true; the input reads as it did. -/
def faddOrderSpec : ChangeSpec := { name := "faddOrder", fn := fun _ => fun
  | [d1, d2, d3] => { results := [.lit (.bool true)], args := [d1, d2, d3] }
  | _ => none }
def faddOrderRow : OpenClaim := { program := "ytfmdjhfnbiekaaa", sum := "d6063b49ab2d0a10eed4b9e3a44953c65617350ea4b23b2bfc4f6d6125db2624", func := "vernier/vernierlaw07.FaddOrder", spec := "faddOrder", inPlace := ["math/bits.Add64", "math/bits.Sub64"], apart := false }
def FaddOrderSaid : Prop := faddOrderRow.holds Try.pinned (OpenSpec.ofChange faddOrderSpec)

/-- ITS FALSE NEIGHBOUR: 'it returns false'. Refute it at one input. -/
def faddOrderWrong : ChangeSpec := { name := "faddOrder", fn := fun _ => fun
  | [d1, d2, d3] => { results := [.lit (.bool false)], args := [d1, d2, d3] }
  | _ => none }
def FaddOrderWrongFalsely : Prop := faddOrderRow.holds Try.pinned (OpenSpec.ofChange faddOrderWrong)

/-- 'vernierlaw07.FaddExact': WHATEVER THE INPUT: true; the input reads as it did. -/
def faddExactSpec : ChangeSpec := { name := "faddExact", fn := fun _ => fun
  | [d1, d2, d3, d4, d5] => { results := [.lit (.bool true)], args := [d1, d2, d3, d4, d5] }
  | _ => none }
def faddExactRow : OpenClaim := { program := "ytfmdjhfnbiekaaa", sum := "d6063b49ab2d0a10eed4b9e3a44953c65617350ea4b23b2bfc4f6d6125db2624", func := "vernier/vernierlaw07.FaddExact", spec := "faddExact", inPlace := ["math/bits.Add64", "math/bits.Sub64"], apart := false }
def FaddExactSaid : Prop := faddExactRow.holds Try.pinned (OpenSpec.ofChange faddExactSpec)

/-- ITS FALSE NEIGHBOUR: 'it returns false'. Refute it at one input. -/
def faddExactWrong : ChangeSpec := { name := "faddExact", fn := fun _ => fun
  | [d1, d2, d3, d4, d5] => { results := [.lit (.bool false)], args := [d1, d2, d3, d4, d5] }
  | _ => none }
def FaddExactWrongFalsely : Prop := faddExactRow.holds Try.pinned (OpenSpec.ofChange faddExactWrong)

/-- 'vernierlaw07.FaddSums': WHATEVER THE INPUT: true; the input reads as it did. -/
def faddSumsSpec : ChangeSpec := { name := "faddSums", fn := fun _ => fun
  | [d1, d2] => { results := [.lit (.bool true)], args := [d1, d2] }
  | _ => none }
def faddSumsRow : OpenClaim := { program := "ytfmdjhfnbiekaaa", sum := "d6063b49ab2d0a10eed4b9e3a44953c65617350ea4b23b2bfc4f6d6125db2624", func := "vernier/vernierlaw07.FaddSums", spec := "faddSums", inPlace := ["math/bits.Add64", "math/bits.Sub64"], apart := false }
def FaddSumsSaid : Prop := faddSumsRow.holds Try.pinned (OpenSpec.ofChange faddSumsSpec)

/-- ITS FALSE NEIGHBOUR: 'it returns false'. Refute it at one input. -/
def faddSumsWrong : ChangeSpec := { name := "faddSums", fn := fun _ => fun
  | [d1, d2] => { results := [.lit (.bool false)], args := [d1, d2] }
  | _ => none }
def FaddSumsWrongFalsely : Prop := faddSumsRow.holds Try.pinned (OpenSpec.ofChange faddSumsWrong)

/-- 'vernierlaw02.NatdivBack': WHATEVER THE INPUT: true; the input reads as it did. -/
def natdivBackSpec : ChangeSpec := { name := "natdivBack", fn := fun _ => fun
  | [d1, d2] => { results := [.lit (.bool true)], args := [d1, d2] }
  | _ => none }
def natdivBackRow : OpenClaim := { program := "ytfmdjhfnbiekaaa", sum := "d6063b49ab2d0a10eed4b9e3a44953c65617350ea4b23b2bfc4f6d6125db2624", func := "vernier/vernierlaw02.NatdivBack", spec := "natdivBack", inPlace := ["math/bits.Add64", "math/bits.Sub64"], unfollowed := true, recurses := true, named := ["math/bits.divideError", "math/bits.overflowError"], apart := false }
def NatdivBackSaid : Prop := natdivBackRow.holds Try.pinned (OpenSpec.ofChange natdivBackSpec)

/-- ITS FALSE NEIGHBOUR: 'it returns false'. Refute it at one input. -/
def natdivBackWrong : ChangeSpec := { name := "natdivBack", fn := fun _ => fun
  | [d1, d2] => { results := [.lit (.bool false)], args := [d1, d2] }
  | _ => none }
def NatdivBackWrongFalsely : Prop := natdivBackRow.holds Try.pinned (OpenSpec.ofChange natdivBackWrong)

/-- 'vernierlaw02.NatdivTells': WHATEVER THE INPUT: true; the input reads as it did. -/
def natdivTellsSpec : ChangeSpec := { name := "natdivTells", fn := fun _ => fun
  | [d1, d2, d3] => { results := [.lit (.bool true)], args := [d1, d2, d3] }
  | _ => none }
def natdivTellsRow : OpenClaim := { program := "ytfmdjhfnbiekaaa", sum := "d6063b49ab2d0a10eed4b9e3a44953c65617350ea4b23b2bfc4f6d6125db2624", func := "vernier/vernierlaw02.NatdivTells", spec := "natdivTells", inPlace := ["math/bits.Add64", "math/bits.Sub64"], unfollowed := true, recurses := true, named := ["math/bits.divideError", "math/bits.overflowError"], apart := false }
def NatdivTellsSaid : Prop := natdivTellsRow.holds Try.pinned (OpenSpec.ofChange natdivTellsSpec)

/-- ITS FALSE NEIGHBOUR: 'it returns false'. Refute it at one input. -/
def natdivTellsWrong : ChangeSpec := { name := "natdivTells", fn := fun _ => fun
  | [d1, d2, d3] => { results := [.lit (.bool false)], args := [d1, d2, d3] }
  | _ => none }
def NatdivTellsWrongFalsely : Prop := natdivTellsRow.holds Try.pinned (OpenSpec.ofChange natdivTellsWrong)

/-- 'vernierlaw13.FconvWhole': WHATEVER THE INPUT: true; the input reads as it did. -/
def fconvWholeSpec : ChangeSpec := { name := "fconvWhole", fn := fun _ => fun
  | [d1, d2] => { results := [.lit (.bool true)], args := [d1, d2] }
  | _ => none }
def fconvWholeRow : OpenClaim := { program := "ytfmdjhfnbiekaaa", sum := "d6063b49ab2d0a10eed4b9e3a44953c65617350ea4b23b2bfc4f6d6125db2624", func := "vernier/vernierlaw13.FconvWhole", spec := "fconvWhole", inPlace := ["math/bits.Add64", "math/bits.Sub64"], apart := false }
def FconvWholeSaid : Prop := fconvWholeRow.holds Try.pinned (OpenSpec.ofChange fconvWholeSpec)

/-- ITS FALSE NEIGHBOUR: 'it returns false'. Refute it at one input. -/
def fconvWholeWrong : ChangeSpec := { name := "fconvWhole", fn := fun _ => fun
  | [d1, d2] => { results := [.lit (.bool false)], args := [d1, d2] }
  | _ => none }
def FconvWholeWrongFalsely : Prop := fconvWholeRow.holds Try.pinned (OpenSpec.ofChange fconvWholeWrong)

/-- 'vernierlaw05.RatioMany': WHATEVER THE INPUT: true; the input reads as it did. -/
def ratioManySpec : ChangeSpec := { name := "ratioMany", fn := fun _ => fun
  | [d] => { results := [.lit (.bool true)], args := [d] }
  | _ => none }
def ratioManyRow : OpenClaim := { program := "ytfmdjhfnbiekaaa", sum := "d6063b49ab2d0a10eed4b9e3a44953c65617350ea4b23b2bfc4f6d6125db2624", func := "vernier/vernierlaw05.RatioMany", spec := "ratioMany", inPlace := ["math/bits.Add64", "math/bits.Sub64"], unfollowed := true, recurses := true, named := ["math/bits.divideError", "math/bits.overflowError"], apart := false }
def RatioManySaid : Prop := ratioManyRow.holds Try.pinned (OpenSpec.ofChange ratioManySpec)

/-- ITS FALSE NEIGHBOUR: 'it returns false'. Refute it at one input. -/
def ratioManyWrong : ChangeSpec := { name := "ratioMany", fn := fun _ => fun
  | [d] => { results := [.lit (.bool false)], args := [d] }
  | _ => none }
def RatioManyWrongFalsely : Prop := ratioManyRow.holds Try.pinned (OpenSpec.ofChange ratioManyWrong)

/-- 'vernierlaw05.RatioOf': WHATEVER THE INPUT: true; the input reads as it did. -/
def ratioOfSpec : ChangeSpec := { name := "ratioOf", fn := fun _ => fun
  | [d1, d2] => { results := [.lit (.bool true)], args := [d1, d2] }
  | _ => none }
def ratioOfRow : OpenClaim := { program := "ytfmdjhfnbiekaaa", sum := "d6063b49ab2d0a10eed4b9e3a44953c65617350ea4b23b2bfc4f6d6125db2624", func := "vernier/vernierlaw05.RatioOf", spec := "ratioOf", inPlace := ["math/bits.Add64", "math/bits.Sub64"], unfollowed := true, recurses := true, named := ["math/bits.divideError", "math/bits.overflowError"], apart := false }
def RatioOfSaid : Prop := ratioOfRow.holds Try.pinned (OpenSpec.ofChange ratioOfSpec)

/-- ITS FALSE NEIGHBOUR: 'it returns false'. Refute it at one input. -/
def ratioOfWrong : ChangeSpec := { name := "ratioOf", fn := fun _ => fun
  | [d1, d2] => { results := [.lit (.bool false)], args := [d1, d2] }
  | _ => none }
def RatioOfWrongFalsely : Prop := ratioOfRow.holds Try.pinned (OpenSpec.ofChange ratioOfWrong)

/-- 'vernierlaw05.RatioTells': WHATEVER THE INPUT: true; the input reads as it did. -/
def ratioTellsSpec : ChangeSpec := { name := "ratioTells", fn := fun _ => fun
  | [d1, d2] => { results := [.lit (.bool true)], args := [d1, d2] }
  | _ => none }
def ratioTellsRow : OpenClaim := { program := "ytfmdjhfnbiekaaa", sum := "d6063b49ab2d0a10eed4b9e3a44953c65617350ea4b23b2bfc4f6d6125db2624", func := "vernier/vernierlaw05.RatioTells", spec := "ratioTells", inPlace := ["math/bits.Add64", "math/bits.Sub64"], unfollowed := true, recurses := true, named := ["math/bits.divideError", "math/bits.overflowError"], apart := false }
def RatioTellsSaid : Prop := ratioTellsRow.holds Try.pinned (OpenSpec.ofChange ratioTellsSpec)

/-- ITS FALSE NEIGHBOUR: 'it returns false'. Refute it at one input. -/
def ratioTellsWrong : ChangeSpec := { name := "ratioTells", fn := fun _ => fun
  | [d1, d2] => { results := [.lit (.bool false)], args := [d1, d2] }
  | _ => none }
def RatioTellsWrongFalsely : Prop := ratioTellsRow.holds Try.pinned (OpenSpec.ofChange ratioTellsWrong)

/-- 'vernierlaw05.RatioBack': WHATEVER THE INPUT: true; the input reads as it did. -/
def ratioBackSpec : ChangeSpec := { name := "ratioBack", fn := fun _ => fun
  | [d1, d2] => { results := [.lit (.bool true)], args := [d1, d2] }
  | _ => none }
def ratioBackRow : OpenClaim := { program := "ytfmdjhfnbiekaaa", sum := "d6063b49ab2d0a10eed4b9e3a44953c65617350ea4b23b2bfc4f6d6125db2624", func := "vernier/vernierlaw05.RatioBack", spec := "ratioBack", inPlace := ["math/bits.Add64", "math/bits.Sub64"], unfollowed := true, recurses := true, named := ["math/bits.divideError", "math/bits.overflowError"], apart := false }
def RatioBackSaid : Prop := ratioBackRow.holds Try.pinned (OpenSpec.ofChange ratioBackSpec)

/-- ITS FALSE NEIGHBOUR: 'it returns false'. Refute it at one input. -/
def ratioBackWrong : ChangeSpec := { name := "ratioBack", fn := fun _ => fun
  | [d1, d2] => { results := [.lit (.bool false)], args := [d1, d2] }
  | _ => none }
def RatioBackWrongFalsely : Prop := ratioBackRow.holds Try.pinned (OpenSpec.ofChange ratioBackWrong)

/- THE SECOND FORM. 'bulk': how many values and letters a reading holds, each counted each time it is reached (what is shared counts as often as it is met; a slice's spare places count too). A statement '..UptoSaid' is the law's where the arguments, and the package variables that the reading takes, are together of bulk at most 1048576: NARROWER than '..Said'. Prove '..Said' where nothing that the law and all that it calls make is longer than what came in: it says more and counts as full. Else prove '..UptoSaid'. A law counts once. -/
mutual
def uptoBulk {H : Type} : DataW H → Nat
  | .lit (.string bytes) => bytes.length + 1
  | .lit _ => 1
  | .nil => 1
  | .ptr d => uptoBulk d + 1
  | .slice elems spare => uptoBulkAll elems + uptoBulkAll spare + 1
  | .agg parts => uptoBulkAll parts + 1
  | .iface _ d => uptoBulk d + 1
  | .map entries => uptoBulkEntries entries + 1
  | .held _ => 1
def uptoBulkAll {H : Type} : List (DataW H) → Nat
  | [] => 0
  | d :: r => uptoBulk d + uptoBulkAll r
def uptoBulkEntries {H : Type} : List (Lit × DataW H) → Nat
  | [] => 0
  | x :: r => uptoBulkEntry x + uptoBulkEntries r
def uptoBulkEntry {H : Type} : Lit × DataW H → Nat
  | (.string bytes, d) => bytes.length + uptoBulk d + 1
  | (_, d) => uptoBulk d + 1
 end
def uptoSmall : (H : Type) → List (DataW H) → Bool := fun _ ds => decide (uptoBulkAll ds ≤ 1048576)
def OpenSpec.upto (s : _root_.Go.ChangeSpec) : _root_.Go.OpenSpec := { _root_.Go.OpenSpec.ofChange s with cond := some uptoSmall }

/-- 'vernierlaw03.WholeTells', WHERE WHAT IT READS IS OF BULK AT MOST 1048576: true; the input reads as it did. -/
def wholeTellsUptoRow : OpenClaim := { program := "ytfmdjhfnbiekaaa", sum := "d6063b49ab2d0a10eed4b9e3a44953c65617350ea4b23b2bfc4f6d6125db2624", func := "vernier/vernierlaw03.WholeTells", spec := "wholeTells", inPlace := ["math/bits.Add64", "math/bits.Sub64"], unfollowed := true, recurses := true, apart := false, narrowed := true }
def WholeTellsUptoSaid : Prop := wholeTellsUptoRow.holds Try.pinned (OpenSpec.upto wholeTellsSpec)

/-- 'vernierlaw07.FaddTells', WHERE WHAT IT READS IS OF BULK AT MOST 1048576: true; the input reads as it did. -/
def faddTellsUptoRow : OpenClaim := { program := "ytfmdjhfnbiekaaa", sum := "d6063b49ab2d0a10eed4b9e3a44953c65617350ea4b23b2bfc4f6d6125db2624", func := "vernier/vernierlaw07.FaddTells", spec := "faddTells", inPlace := ["math/bits.Add64", "math/bits.Sub64"], apart := false, narrowed := true }
def FaddTellsUptoSaid : Prop := faddTellsUptoRow.holds Try.pinned (OpenSpec.upto faddTellsSpec)

/-- 'vernierlaw07.FaddOrder', WHERE WHAT IT READS IS OF BULK AT MOST 1048576: true; the input reads as it did. -/
def faddOrderUptoRow : OpenClaim := { program := "ytfmdjhfnbiekaaa", sum := "d6063b49ab2d0a10eed4b9e3a44953c65617350ea4b23b2bfc4f6d6125db2624", func := "vernier/vernierlaw07.FaddOrder", spec := "faddOrder", inPlace := ["math/bits.Add64", "math/bits.Sub64"], apart := false, narrowed := true }
def FaddOrderUptoSaid : Prop := faddOrderUptoRow.holds Try.pinned (OpenSpec.upto faddOrderSpec)

/-- 'vernierlaw07.FaddExact', WHERE WHAT IT READS IS OF BULK AT MOST 1048576: true; the input reads as it did. -/
def faddExactUptoRow : OpenClaim := { program := "ytfmdjhfnbiekaaa", sum := "d6063b49ab2d0a10eed4b9e3a44953c65617350ea4b23b2bfc4f6d6125db2624", func := "vernier/vernierlaw07.FaddExact", spec := "faddExact", inPlace := ["math/bits.Add64", "math/bits.Sub64"], apart := false, narrowed := true }
def FaddExactUptoSaid : Prop := faddExactUptoRow.holds Try.pinned (OpenSpec.upto faddExactSpec)

/-- 'vernierlaw07.FaddSums', WHERE WHAT IT READS IS OF BULK AT MOST 1048576: true; the input reads as it did. -/
def faddSumsUptoRow : OpenClaim := { program := "ytfmdjhfnbiekaaa", sum := "d6063b49ab2d0a10eed4b9e3a44953c65617350ea4b23b2bfc4f6d6125db2624", func := "vernier/vernierlaw07.FaddSums", spec := "faddSums", inPlace := ["math/bits.Add64", "math/bits.Sub64"], apart := false, narrowed := true }
def FaddSumsUptoSaid : Prop := faddSumsUptoRow.holds Try.pinned (OpenSpec.upto faddSumsSpec)

/-- 'vernierlaw02.NatdivBack', WHERE WHAT IT READS IS OF BULK AT MOST 1048576: true; the input reads as it did. -/
def natdivBackUptoRow : OpenClaim := { program := "ytfmdjhfnbiekaaa", sum := "d6063b49ab2d0a10eed4b9e3a44953c65617350ea4b23b2bfc4f6d6125db2624", func := "vernier/vernierlaw02.NatdivBack", spec := "natdivBack", inPlace := ["math/bits.Add64", "math/bits.Sub64"], unfollowed := true, recurses := true, named := ["math/bits.divideError", "math/bits.overflowError"], apart := false, narrowed := true }
def NatdivBackUptoSaid : Prop := natdivBackUptoRow.holds Try.pinned (OpenSpec.upto natdivBackSpec)

/-- 'vernierlaw02.NatdivTells', WHERE WHAT IT READS IS OF BULK AT MOST 1048576: true; the input reads as it did. -/
def natdivTellsUptoRow : OpenClaim := { program := "ytfmdjhfnbiekaaa", sum := "d6063b49ab2d0a10eed4b9e3a44953c65617350ea4b23b2bfc4f6d6125db2624", func := "vernier/vernierlaw02.NatdivTells", spec := "natdivTells", inPlace := ["math/bits.Add64", "math/bits.Sub64"], unfollowed := true, recurses := true, named := ["math/bits.divideError", "math/bits.overflowError"], apart := false, narrowed := true }
def NatdivTellsUptoSaid : Prop := natdivTellsUptoRow.holds Try.pinned (OpenSpec.upto natdivTellsSpec)

/-- 'vernierlaw13.FconvWhole', WHERE WHAT IT READS IS OF BULK AT MOST 1048576: true; the input reads as it did. -/
def fconvWholeUptoRow : OpenClaim := { program := "ytfmdjhfnbiekaaa", sum := "d6063b49ab2d0a10eed4b9e3a44953c65617350ea4b23b2bfc4f6d6125db2624", func := "vernier/vernierlaw13.FconvWhole", spec := "fconvWhole", inPlace := ["math/bits.Add64", "math/bits.Sub64"], apart := false, narrowed := true }
def FconvWholeUptoSaid : Prop := fconvWholeUptoRow.holds Try.pinned (OpenSpec.upto fconvWholeSpec)

/-- 'vernierlaw05.RatioMany', WHERE WHAT IT READS IS OF BULK AT MOST 1048576: true; the input reads as it did. -/
def ratioManyUptoRow : OpenClaim := { program := "ytfmdjhfnbiekaaa", sum := "d6063b49ab2d0a10eed4b9e3a44953c65617350ea4b23b2bfc4f6d6125db2624", func := "vernier/vernierlaw05.RatioMany", spec := "ratioMany", inPlace := ["math/bits.Add64", "math/bits.Sub64"], unfollowed := true, recurses := true, named := ["math/bits.divideError", "math/bits.overflowError"], apart := false, narrowed := true }
def RatioManyUptoSaid : Prop := ratioManyUptoRow.holds Try.pinned (OpenSpec.upto ratioManySpec)

/-- 'vernierlaw05.RatioOf', WHERE WHAT IT READS IS OF BULK AT MOST 1048576: true; the input reads as it did. -/
def ratioOfUptoRow : OpenClaim := { program := "ytfmdjhfnbiekaaa", sum := "d6063b49ab2d0a10eed4b9e3a44953c65617350ea4b23b2bfc4f6d6125db2624", func := "vernier/vernierlaw05.RatioOf", spec := "ratioOf", inPlace := ["math/bits.Add64", "math/bits.Sub64"], unfollowed := true, recurses := true, named := ["math/bits.divideError", "math/bits.overflowError"], apart := false, narrowed := true }
def RatioOfUptoSaid : Prop := ratioOfUptoRow.holds Try.pinned (OpenSpec.upto ratioOfSpec)

/-- 'vernierlaw05.RatioTells', WHERE WHAT IT READS IS OF BULK AT MOST 1048576: true; the input reads as it did. -/
def ratioTellsUptoRow : OpenClaim := { program := "ytfmdjhfnbiekaaa", sum := "d6063b49ab2d0a10eed4b9e3a44953c65617350ea4b23b2bfc4f6d6125db2624", func := "vernier/vernierlaw05.RatioTells", spec := "ratioTells", inPlace := ["math/bits.Add64", "math/bits.Sub64"], unfollowed := true, recurses := true, named := ["math/bits.divideError", "math/bits.overflowError"], apart := false, narrowed := true }
def RatioTellsUptoSaid : Prop := ratioTellsUptoRow.holds Try.pinned (OpenSpec.upto ratioTellsSpec)

/-- 'vernierlaw05.RatioBack', WHERE WHAT IT READS IS OF BULK AT MOST 1048576: true; the input reads as it did. -/
def ratioBackUptoRow : OpenClaim := { program := "ytfmdjhfnbiekaaa", sum := "d6063b49ab2d0a10eed4b9e3a44953c65617350ea4b23b2bfc4f6d6125db2624", func := "vernier/vernierlaw05.RatioBack", spec := "ratioBack", inPlace := ["math/bits.Add64", "math/bits.Sub64"], unfollowed := true, recurses := true, named := ["math/bits.divideError", "math/bits.overflowError"], apart := false, narrowed := true }
def RatioBackUptoSaid : Prop := ratioBackUptoRow.holds Try.pinned (OpenSpec.upto ratioBackSpec)

end Rows
end Go.Proofs.Ytfmdjhfnbiekaaa
