/-
  No cell of these rows narrows 'for every input' (looked for: loops, veiled, ifaces, maps, wideKeys, modest, calm, conditions, laid).
  DERIVED. THE GIVEN ROWS OF THIS SEAT. 9 by the template 'for every input the law returns true; each argument reads behind the call as it read before'; 0 by the template 'total and deterministic' (their statements: YtjnpmipoenijdaaTotals.lean).
  GIVEN WITH THE SEED: the statements are not yours to turn. If you find one false, say at which input.
  Laid BY PROGRAM, IN A SANDBOX (cutbox-rows.mjs): the forced cells as the released guide's own fill.sh prints them over the translation f2ed4add66dc430c… (all of the seat's roots in one cut). By AI agents, Wed Nov 11 2026. No macro, syntax, notation, axiom, sorry.
-/
import Derived.Test.YtjnpmipoenijdaaChecked
import GoSem.Claim
import GoSem.ClaimJoined
import GoSem.ClaimMapViews
import Derived.JoinedTies
import Derived.KernelRfl
namespace Go.Proofs.Ytjnpmipoenijdaa
/- THE CELL 'sum', in the pinned program and in every row, IS THE sha256 OF THE DUMP (.gsa) THAT YtjnpmipoenijdaaProg.lean LOADS. Nothing in Lean hashes anything: it is a label: what it is worth is what the hold of that sum in a sandbox is worth. -/
noncomputable def Try.pinned : Pinned := { name := "ytjnpmipoenijdaa", sum := "f2ed4add66dc430c37bd702817581c386d58ba4f0fde9c3b113b84d71d7c2129", checked := Try.checked }
namespace Rows
def none {H : Type} : Left H := { results := [], args := [] }

/-- 'causeylaw07.HuffTells': WHATEVER THE INPUT: true; the input reads as it did. -/
def huffTellsSpec : ChangeSpec := { name := "huffTells", fn := fun _ => fun
  | [d1, d2, d3, d4, d5] => { results := [.lit (.bool true)], args := [d1, d2, d3, d4, d5] }
  | _ => none }
def huffTellsRow : OpenClaim := { program := "ytjnpmipoenijdaa", sum := "f2ed4add66dc430c37bd702817581c386d58ba4f0fde9c3b113b84d71d7c2129", func := "causey/causeylaw07.HuffTells", spec := "huffTells", inPlace := ["internal/bytealg.IndexByteString"], unfollowed := true, recurses := true, plainKeys := false, apart := false }
def HuffTellsSaid : Prop := huffTellsRow.holds Try.pinned (OpenSpec.ofChange huffTellsSpec)

/-- ITS FALSE NEIGHBOUR: 'it returns false'. Refute it at one input. -/
def huffTellsWrong : ChangeSpec := { name := "huffTells", fn := fun _ => fun
  | [d1, d2, d3, d4, d5] => { results := [.lit (.bool false)], args := [d1, d2, d3, d4, d5] }
  | _ => none }
def HuffTellsWrongFalsely : Prop := huffTellsRow.holds Try.pinned (OpenSpec.ofChange huffTellsWrong)

/-- 'causeylaw07.HuffApart': WHATEVER THE INPUT: true; the input reads as it did. -/
def huffApartSpec : ChangeSpec := { name := "huffApart", fn := fun _ => fun
  | [d1, d2] => { results := [.lit (.bool true)], args := [d1, d2] }
  | _ => none }
def huffApartRow : OpenClaim := { program := "ytjnpmipoenijdaa", sum := "f2ed4add66dc430c37bd702817581c386d58ba4f0fde9c3b113b84d71d7c2129", func := "causey/causeylaw07.HuffApart", spec := "huffApart", inPlace := ["internal/bytealg.IndexByteString"], unfollowed := true, recurses := true, plainKeys := false, apart := false }
def HuffApartSaid : Prop := huffApartRow.holds Try.pinned (OpenSpec.ofChange huffApartSpec)

/-- ITS FALSE NEIGHBOUR: 'it returns false'. Refute it at one input. -/
def huffApartWrong : ChangeSpec := { name := "huffApart", fn := fun _ => fun
  | [d1, d2] => { results := [.lit (.bool false)], args := [d1, d2] }
  | _ => none }
def HuffApartWrongFalsely : Prop := huffApartRow.holds Try.pinned (OpenSpec.ofChange huffApartWrong)

/-- 'causeylaw07.HuffBack': WHATEVER THE INPUT: true; the input reads as it did. -/
def huffBackSpec : ChangeSpec := { name := "huffBack", fn := fun _ => fun
  | [d1, d2] => { results := [.lit (.bool true)], args := [d1, d2] }
  | _ => none }
def huffBackRow : OpenClaim := { program := "ytjnpmipoenijdaa", sum := "f2ed4add66dc430c37bd702817581c386d58ba4f0fde9c3b113b84d71d7c2129", func := "causey/causeylaw07.HuffBack", spec := "huffBack", inPlace := ["internal/bytealg.IndexByteString"], unfollowed := true, recurses := true, plainKeys := false, apart := false }
def HuffBackSaid : Prop := huffBackRow.holds Try.pinned (OpenSpec.ofChange huffBackSpec)

/-- ITS FALSE NEIGHBOUR: 'it returns false'. Refute it at one input. -/
def huffBackWrong : ChangeSpec := { name := "huffBack", fn := fun _ => fun
  | [d1, d2] => { results := [.lit (.bool false)], args := [d1, d2] }
  | _ => none }
def HuffBackWrongFalsely : Prop := huffBackRow.holds Try.pinned (OpenSpec.ofChange huffBackWrong)

/-- 'causeylaw07.HuffRow': WHATEVER THE INPUT: true; the input reads as it did. -/
def huffRowSpec : ChangeSpec := { name := "huffRow", fn := fun _ => fun
  | [d] => { results := [.lit (.bool true)], args := [d] }
  | _ => none }
def huffRowRow : OpenClaim := { program := "ytjnpmipoenijdaa", sum := "f2ed4add66dc430c37bd702817581c386d58ba4f0fde9c3b113b84d71d7c2129", func := "causey/causeylaw07.HuffRow", spec := "huffRow", inPlace := ["internal/bytealg.IndexByteString"], unfollowed := true, recurses := true, plainKeys := false, apart := false }
def HuffRowSaid : Prop := huffRowRow.holds Try.pinned (OpenSpec.ofChange huffRowSpec)

/-- ITS FALSE NEIGHBOUR: 'it returns false'. Refute it at one input. -/
def huffRowWrong : ChangeSpec := { name := "huffRow", fn := fun _ => fun
  | [d] => { results := [.lit (.bool false)], args := [d] }
  | _ => none }
def HuffRowWrongFalsely : Prop := huffRowRow.holds Try.pinned (OpenSpec.ofChange huffRowWrong)

/-- 'causeylaw07.HuffMore': WHATEVER THE INPUT: true; the input reads as it did. -/
def huffMoreSpec : ChangeSpec := { name := "huffMore", fn := fun _ => fun
  | [d] => { results := [.lit (.bool true)], args := [d] }
  | _ => none }
def huffMoreRow : OpenClaim := { program := "ytjnpmipoenijdaa", sum := "f2ed4add66dc430c37bd702817581c386d58ba4f0fde9c3b113b84d71d7c2129", func := "causey/causeylaw07.HuffMore", spec := "huffMore", inPlace := ["internal/bytealg.IndexByteString"], unfollowed := true, recurses := true, plainKeys := false, apart := false }
def HuffMoreSaid : Prop := huffMoreRow.holds Try.pinned (OpenSpec.ofChange huffMoreSpec)

/-- ITS FALSE NEIGHBOUR: 'it returns false'. Refute it at one input. -/
def huffMoreWrong : ChangeSpec := { name := "huffMore", fn := fun _ => fun
  | [d] => { results := [.lit (.bool false)], args := [d] }
  | _ => none }
def HuffMoreWrongFalsely : Prop := huffMoreRow.holds Try.pinned (OpenSpec.ofChange huffMoreWrong)

/-- 'causeylaw08.TextTells': WHATEVER THE INPUT: true; the input reads as it did. -/
def textTellsSpec : ChangeSpec := { name := "textTells", fn := fun _ => fun
  | [d1, d2] => { results := [.lit (.bool true)], args := [d1, d2] }
  | _ => none }
def textTellsRow : OpenClaim := { program := "ytjnpmipoenijdaa", sum := "f2ed4add66dc430c37bd702817581c386d58ba4f0fde9c3b113b84d71d7c2129", func := "causey/causeylaw08.TextTells", spec := "textTells", inPlace := ["internal/bytealg.IndexByteString"], unfollowed := true, recurses := true, plainKeys := false, apart := false }
def TextTellsSaid : Prop := textTellsRow.holds Try.pinned (OpenSpec.ofChange textTellsSpec)

/-- ITS FALSE NEIGHBOUR: 'it returns false'. Refute it at one input. -/
def textTellsWrong : ChangeSpec := { name := "textTells", fn := fun _ => fun
  | [d1, d2] => { results := [.lit (.bool false)], args := [d1, d2] }
  | _ => none }
def TextTellsWrongFalsely : Prop := textTellsRow.holds Try.pinned (OpenSpec.ofChange textTellsWrong)

/-- 'causeylaw08.TextBack': WHATEVER THE INPUT: true; the input reads as it did. -/
def textBackSpec : ChangeSpec := { name := "textBack", fn := fun _ => fun
  | [d1, d2] => { results := [.lit (.bool true)], args := [d1, d2] }
  | _ => none }
def textBackRow : OpenClaim := { program := "ytjnpmipoenijdaa", sum := "f2ed4add66dc430c37bd702817581c386d58ba4f0fde9c3b113b84d71d7c2129", func := "causey/causeylaw08.TextBack", spec := "textBack", inPlace := ["internal/bytealg.IndexByteString"], unfollowed := true, recurses := true, plainKeys := false, apart := false }
def TextBackSaid : Prop := textBackRow.holds Try.pinned (OpenSpec.ofChange textBackSpec)

/-- ITS FALSE NEIGHBOUR: 'it returns false'. Refute it at one input. -/
def textBackWrong : ChangeSpec := { name := "textBack", fn := fun _ => fun
  | [d1, d2] => { results := [.lit (.bool false)], args := [d1, d2] }
  | _ => none }
def TextBackWrongFalsely : Prop := textBackRow.holds Try.pinned (OpenSpec.ofChange textBackWrong)

/-- 'causeylaw08.TextOnly': WHATEVER THE INPUT: true; the input reads as it did. -/
def textOnlySpec : ChangeSpec := { name := "textOnly", fn := fun _ => fun
  | [d] => { results := [.lit (.bool true)], args := [d] }
  | _ => none }
def textOnlyRow : OpenClaim := { program := "ytjnpmipoenijdaa", sum := "f2ed4add66dc430c37bd702817581c386d58ba4f0fde9c3b113b84d71d7c2129", func := "causey/causeylaw08.TextOnly", spec := "textOnly", inPlace := ["internal/bytealg.IndexByteString"], unfollowed := true, recurses := true, plainKeys := false, apart := false }
def TextOnlySaid : Prop := textOnlyRow.holds Try.pinned (OpenSpec.ofChange textOnlySpec)

/-- ITS FALSE NEIGHBOUR: 'it returns false'. Refute it at one input. -/
def textOnlyWrong : ChangeSpec := { name := "textOnly", fn := fun _ => fun
  | [d] => { results := [.lit (.bool false)], args := [d] }
  | _ => none }
def TextOnlyWrongFalsely : Prop := textOnlyRow.holds Try.pinned (OpenSpec.ofChange textOnlyWrong)

/-- 'causeylaw08.TextMany': WHATEVER THE INPUT: true; the input reads as it did. -/
def textManySpec : ChangeSpec := { name := "textMany", fn := fun _ => fun
  | [d1, d2] => { results := [.lit (.bool true)], args := [d1, d2] }
  | _ => none }
def textManyRow : OpenClaim := { program := "ytjnpmipoenijdaa", sum := "f2ed4add66dc430c37bd702817581c386d58ba4f0fde9c3b113b84d71d7c2129", func := "causey/causeylaw08.TextMany", spec := "textMany", inPlace := ["internal/bytealg.IndexByteString"], unfollowed := true, recurses := true, plainKeys := false, apart := false }
def TextManySaid : Prop := textManyRow.holds Try.pinned (OpenSpec.ofChange textManySpec)

/-- ITS FALSE NEIGHBOUR: 'it returns false'. Refute it at one input. -/
def textManyWrong : ChangeSpec := { name := "textMany", fn := fun _ => fun
  | [d1, d2] => { results := [.lit (.bool false)], args := [d1, d2] }
  | _ => none }
def TextManyWrongFalsely : Prop := textManyRow.holds Try.pinned (OpenSpec.ofChange textManyWrong)

/- THE SECOND FORM. 'bulk': how many values and letters a reading holds, each counted each time it is reached (what is shared counts as often as it is met; a slice's spare places count too). A statement '..UptoSaid' is the law's where the arguments, and the package variables that the reading takes, are together of bulk at most 1048576: NARROWER than '..Said'. Prove '..Said' where nothing that the law and all that it calls make is longer than what came in: it says more and counts as full. Else prove '..UptoSaid'. A law counts once. -/
mutual
def uptoBulk {H : Type} : DataW H → Nat
  | .lit (.string bytes) => bytes.length + 1
  | .lit _ => 1
  | .nil => 1
  | .ptr d => uptoBulk d + 1
  | .slice elems spare => uptoBulkAll elems + uptoBulkAll spare + 1
  | .agg parts => uptoBulkAll parts + 1
  | .iface _ d => uptoBulk d + 1
  | .map entries => uptoBulkEntries entries + 1
  | .held _ => 1
def uptoBulkAll {H : Type} : List (DataW H) → Nat
  | [] => 0
  | d :: r => uptoBulk d + uptoBulkAll r
def uptoBulkEntries {H : Type} : List (Lit × DataW H) → Nat
  | [] => 0
  | x :: r => uptoBulkEntry x + uptoBulkEntries r
def uptoBulkEntry {H : Type} : Lit × DataW H → Nat
  | (.string bytes, d) => bytes.length + uptoBulk d + 1
  | (_, d) => uptoBulk d + 1
 end
def uptoSmall : (H : Type) → List (DataW H) → Bool := fun _ ds => decide (uptoBulkAll ds ≤ 1048576)
def OpenSpec.upto (s : _root_.Go.ChangeSpec) : _root_.Go.OpenSpec := { _root_.Go.OpenSpec.ofChange s with cond := some uptoSmall }

/-- 'causeylaw07.HuffTells', WHERE WHAT IT READS IS OF BULK AT MOST 1048576: true; the input reads as it did. -/
def huffTellsUptoRow : OpenClaim := { program := "ytjnpmipoenijdaa", sum := "f2ed4add66dc430c37bd702817581c386d58ba4f0fde9c3b113b84d71d7c2129", func := "causey/causeylaw07.HuffTells", spec := "huffTells", inPlace := ["internal/bytealg.IndexByteString"], unfollowed := true, recurses := true, plainKeys := false, apart := false, narrowed := true }
def HuffTellsUptoSaid : Prop := huffTellsUptoRow.holds Try.pinned (OpenSpec.upto huffTellsSpec)

/-- 'causeylaw07.HuffApart', WHERE WHAT IT READS IS OF BULK AT MOST 1048576: true; the input reads as it did. -/
def huffApartUptoRow : OpenClaim := { program := "ytjnpmipoenijdaa", sum := "f2ed4add66dc430c37bd702817581c386d58ba4f0fde9c3b113b84d71d7c2129", func := "causey/causeylaw07.HuffApart", spec := "huffApart", inPlace := ["internal/bytealg.IndexByteString"], unfollowed := true, recurses := true, plainKeys := false, apart := false, narrowed := true }
def HuffApartUptoSaid : Prop := huffApartUptoRow.holds Try.pinned (OpenSpec.upto huffApartSpec)

/-- 'causeylaw07.HuffBack', WHERE WHAT IT READS IS OF BULK AT MOST 1048576: true; the input reads as it did. -/
def huffBackUptoRow : OpenClaim := { program := "ytjnpmipoenijdaa", sum := "f2ed4add66dc430c37bd702817581c386d58ba4f0fde9c3b113b84d71d7c2129", func := "causey/causeylaw07.HuffBack", spec := "huffBack", inPlace := ["internal/bytealg.IndexByteString"], unfollowed := true, recurses := true, plainKeys := false, apart := false, narrowed := true }
def HuffBackUptoSaid : Prop := huffBackUptoRow.holds Try.pinned (OpenSpec.upto huffBackSpec)

/-- 'causeylaw07.HuffRow', WHERE WHAT IT READS IS OF BULK AT MOST 1048576: true; the input reads as it did. -/
def huffRowUptoRow : OpenClaim := { program := "ytjnpmipoenijdaa", sum := "f2ed4add66dc430c37bd702817581c386d58ba4f0fde9c3b113b84d71d7c2129", func := "causey/causeylaw07.HuffRow", spec := "huffRow", inPlace := ["internal/bytealg.IndexByteString"], unfollowed := true, recurses := true, plainKeys := false, apart := false, narrowed := true }
def HuffRowUptoSaid : Prop := huffRowUptoRow.holds Try.pinned (OpenSpec.upto huffRowSpec)

/-- 'causeylaw07.HuffMore', WHERE WHAT IT READS IS OF BULK AT MOST 1048576: true; the input reads as it did. -/
def huffMoreUptoRow : OpenClaim := { program := "ytjnpmipoenijdaa", sum := "f2ed4add66dc430c37bd702817581c386d58ba4f0fde9c3b113b84d71d7c2129", func := "causey/causeylaw07.HuffMore", spec := "huffMore", inPlace := ["internal/bytealg.IndexByteString"], unfollowed := true, recurses := true, plainKeys := false, apart := false, narrowed := true }
def HuffMoreUptoSaid : Prop := huffMoreUptoRow.holds Try.pinned (OpenSpec.upto huffMoreSpec)

/-- 'causeylaw08.TextTells', WHERE WHAT IT READS IS OF BULK AT MOST 1048576: true; the input reads as it did. -/
def textTellsUptoRow : OpenClaim := { program := "ytjnpmipoenijdaa", sum := "f2ed4add66dc430c37bd702817581c386d58ba4f0fde9c3b113b84d71d7c2129", func := "causey/causeylaw08.TextTells", spec := "textTells", inPlace := ["internal/bytealg.IndexByteString"], unfollowed := true, recurses := true, plainKeys := false, apart := false, narrowed := true }
def TextTellsUptoSaid : Prop := textTellsUptoRow.holds Try.pinned (OpenSpec.upto textTellsSpec)

/-- 'causeylaw08.TextBack', WHERE WHAT IT READS IS OF BULK AT MOST 1048576: true; the input reads as it did. -/
def textBackUptoRow : OpenClaim := { program := "ytjnpmipoenijdaa", sum := "f2ed4add66dc430c37bd702817581c386d58ba4f0fde9c3b113b84d71d7c2129", func := "causey/causeylaw08.TextBack", spec := "textBack", inPlace := ["internal/bytealg.IndexByteString"], unfollowed := true, recurses := true, plainKeys := false, apart := false, narrowed := true }
def TextBackUptoSaid : Prop := textBackUptoRow.holds Try.pinned (OpenSpec.upto textBackSpec)

/-- 'causeylaw08.TextOnly', WHERE WHAT IT READS IS OF BULK AT MOST 1048576: true; the input reads as it did. -/
def textOnlyUptoRow : OpenClaim := { program := "ytjnpmipoenijdaa", sum := "f2ed4add66dc430c37bd702817581c386d58ba4f0fde9c3b113b84d71d7c2129", func := "causey/causeylaw08.TextOnly", spec := "textOnly", inPlace := ["internal/bytealg.IndexByteString"], unfollowed := true, recurses := true, plainKeys := false, apart := false, narrowed := true }
def TextOnlyUptoSaid : Prop := textOnlyUptoRow.holds Try.pinned (OpenSpec.upto textOnlySpec)

/-- 'causeylaw08.TextMany', WHERE WHAT IT READS IS OF BULK AT MOST 1048576: true; the input reads as it did. -/
def textManyUptoRow : OpenClaim := { program := "ytjnpmipoenijdaa", sum := "f2ed4add66dc430c37bd702817581c386d58ba4f0fde9c3b113b84d71d7c2129", func := "causey/causeylaw08.TextMany", spec := "textMany", inPlace := ["internal/bytealg.IndexByteString"], unfollowed := true, recurses := true, plainKeys := false, apart := false, narrowed := true }
def TextManyUptoSaid : Prop := textManyUptoRow.holds Try.pinned (OpenSpec.upto textManySpec)

end Rows
end Go.Proofs.Ytjnpmipoenijdaa
