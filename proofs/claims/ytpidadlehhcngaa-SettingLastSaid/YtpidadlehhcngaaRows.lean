/-
  No cell of these rows narrows 'for every input' (looked for: loops, veiled, ifaces, maps, wideKeys, modest, calm, conditions, laid).
  DERIVED. THE GIVEN ROWS OF THIS SEAT. 4 by the template 'for every input the law returns true; each argument reads behind the call as it read before'; 0 by the template 'total and deterministic' (their statements: YtpidadlehhcngaaTotals.lean).
  GIVEN WITH THE SEED: the statements are not yours to turn. If you find one false, say at which input.
  Laid BY PROGRAM, IN A SANDBOX (cutbox-rows.mjs): the forced cells as the released guide's own fill.sh prints them over the translation a6e41f572d296b8b… (all of the seat's roots in one cut). By AI agents, Wed Nov 11 2026. No macro, syntax, notation, axiom, sorry.
-/
import Derived.Test.YtpidadlehhcngaaChecked
import GoSem.Claim
import GoSem.ClaimJoined
import GoSem.ClaimMapViews
import Derived.JoinedTies
import Derived.KernelRfl
namespace Go.Proofs.Ytpidadlehhcngaa
/- THE CELL 'sum', in the pinned program and in every row, IS THE sha256 OF THE DUMP (.gsa) THAT YtpidadlehhcngaaProg.lean LOADS. Nothing in Lean hashes anything: it is a label: what it is worth is what the hold of that sum in a sandbox is worth. -/
noncomputable def Try.pinned : Pinned := { name := "ytpidadlehhcngaa", sum := "a6e41f572d296b8b2a68020ec9a50eece3c3b6dea2daf1e9ddaca6fac3b538e4", checked := Try.checked }
namespace Rows
def none {H : Type} : Left H := { results := [], args := [] }

/-- 'causeylaw21.SettingTells': WHATEVER THE INPUT: true; the input reads as it did. -/
def settingTellsSpec : ChangeSpec := { name := "settingTells", fn := fun _ => fun
  | [d1, d2, d3, d4] => { results := [.lit (.bool true)], args := [d1, d2, d3, d4] }
  | _ => none }
def settingTellsRow : OpenClaim := { program := "ytpidadlehhcngaa", sum := "a6e41f572d296b8b2a68020ec9a50eece3c3b6dea2daf1e9ddaca6fac3b538e4", func := "causey/causeylaw21.SettingTells", spec := "settingTells", unfollowed := true, recurses := true, apart := false }
def SettingTellsSaid : Prop := settingTellsRow.holds Try.pinned (OpenSpec.ofChange settingTellsSpec)

/-- ITS FALSE NEIGHBOUR: 'it returns false'. Refute it at one input. -/
def settingTellsWrong : ChangeSpec := { name := "settingTells", fn := fun _ => fun
  | [d1, d2, d3, d4] => { results := [.lit (.bool false)], args := [d1, d2, d3, d4] }
  | _ => none }
def SettingTellsWrongFalsely : Prop := settingTellsRow.holds Try.pinned (OpenSpec.ofChange settingTellsWrong)

/-- 'causeylaw21.SettingLast': WHATEVER THE INPUT: true; the input reads as it did. -/
def settingLastSpec : ChangeSpec := { name := "settingLast", fn := fun _ => fun
  | [d1, d2] => { results := [.lit (.bool true)], args := [d1, d2] }
  | _ => none }
def settingLastRow : OpenClaim := { program := "ytpidadlehhcngaa", sum := "a6e41f572d296b8b2a68020ec9a50eece3c3b6dea2daf1e9ddaca6fac3b538e4", func := "causey/causeylaw21.SettingLast", spec := "settingLast", unfollowed := true, recurses := true, apart := false }
def SettingLastSaid : Prop := settingLastRow.holds Try.pinned (OpenSpec.ofChange settingLastSpec)

/-- ITS FALSE NEIGHBOUR: 'it returns false'. Refute it at one input. -/
def settingLastWrong : ChangeSpec := { name := "settingLast", fn := fun _ => fun
  | [d1, d2] => { results := [.lit (.bool false)], args := [d1, d2] }
  | _ => none }
def SettingLastWrongFalsely : Prop := settingLastRow.holds Try.pinned (OpenSpec.ofChange settingLastWrong)

/-- 'causeylaw21.SettingOwes': WHATEVER THE INPUT: true; the input reads as it did. -/
def settingOwesSpec : ChangeSpec := { name := "settingOwes", fn := fun _ => fun
  | [d1, d2, d3] => { results := [.lit (.bool true)], args := [d1, d2, d3] }
  | _ => none }
def settingOwesRow : OpenClaim := { program := "ytpidadlehhcngaa", sum := "a6e41f572d296b8b2a68020ec9a50eece3c3b6dea2daf1e9ddaca6fac3b538e4", func := "causey/causeylaw21.SettingOwes", spec := "settingOwes", unfollowed := true, recurses := true, apart := false }
def SettingOwesSaid : Prop := settingOwesRow.holds Try.pinned (OpenSpec.ofChange settingOwesSpec)

/-- ITS FALSE NEIGHBOUR: 'it returns false'. Refute it at one input. -/
def settingOwesWrong : ChangeSpec := { name := "settingOwes", fn := fun _ => fun
  | [d1, d2, d3] => { results := [.lit (.bool false)], args := [d1, d2, d3] }
  | _ => none }
def SettingOwesWrongFalsely : Prop := settingOwesRow.holds Try.pinned (OpenSpec.ofChange settingOwesWrong)

/-- 'causeylaw21.SettingAcks': WHATEVER THE INPUT: true; the input reads as it did. -/
def settingAcksSpec : ChangeSpec := { name := "settingAcks", fn := fun _ => fun
  | [d] => { results := [.lit (.bool true)], args := [d] }
  | _ => none }
def settingAcksRow : OpenClaim := { program := "ytpidadlehhcngaa", sum := "a6e41f572d296b8b2a68020ec9a50eece3c3b6dea2daf1e9ddaca6fac3b538e4", func := "causey/causeylaw21.SettingAcks", spec := "settingAcks", unfollowed := true, recurses := true, apart := false }
def SettingAcksSaid : Prop := settingAcksRow.holds Try.pinned (OpenSpec.ofChange settingAcksSpec)

/-- ITS FALSE NEIGHBOUR: 'it returns false'. Refute it at one input. -/
def settingAcksWrong : ChangeSpec := { name := "settingAcks", fn := fun _ => fun
  | [d] => { results := [.lit (.bool false)], args := [d] }
  | _ => none }
def SettingAcksWrongFalsely : Prop := settingAcksRow.holds Try.pinned (OpenSpec.ofChange settingAcksWrong)

/- THE SECOND FORM. 'bulk': how many values and letters a reading holds, each counted each time it is reached (what is shared counts as often as it is met; a slice's spare places count too). A statement '..UptoSaid' is the law's where the arguments, and the package variables that the reading takes, are together of bulk at most 1048576: NARROWER than '..Said'. Prove '..Said' where nothing that the law and all that it calls make is longer than what came in: it says more and counts as full. Else prove '..UptoSaid'. A law counts once. -/
mutual
def uptoBulk {H : Type} : DataW H → Nat
  | .lit (.string bytes) => bytes.length + 1
  | .lit _ => 1
  | .nil => 1
  | .ptr d => uptoBulk d + 1
  | .slice elems spare => uptoBulkAll elems + uptoBulkAll spare + 1
  | .agg parts => uptoBulkAll parts + 1
  | .iface _ d => uptoBulk d + 1
  | .map entries => uptoBulkEntries entries + 1
  | .held _ => 1
def uptoBulkAll {H : Type} : List (DataW H) → Nat
  | [] => 0
  | d :: r => uptoBulk d + uptoBulkAll r
def uptoBulkEntries {H : Type} : List (Lit × DataW H) → Nat
  | [] => 0
  | x :: r => uptoBulkEntry x + uptoBulkEntries r
def uptoBulkEntry {H : Type} : Lit × DataW H → Nat
  | (.string bytes, d) => bytes.length + uptoBulk d + 1
  | (_, d) => uptoBulk d + 1
 end
def uptoSmall : (H : Type) → List (DataW H) → Bool := fun _ ds => decide (uptoBulkAll ds ≤ 1048576)
def OpenSpec.upto (s : _root_.Go.ChangeSpec) : _root_.Go.OpenSpec := { _root_.Go.OpenSpec.ofChange s with cond := some uptoSmall }

/-- 'causeylaw21.SettingTells', WHERE WHAT IT READS IS OF BULK AT MOST 1048576: true; the input reads as it did. -/
def settingTellsUptoRow : OpenClaim := { program := "ytpidadlehhcngaa", sum := "a6e41f572d296b8b2a68020ec9a50eece3c3b6dea2daf1e9ddaca6fac3b538e4", func := "causey/causeylaw21.SettingTells", spec := "settingTells", unfollowed := true, recurses := true, apart := false, narrowed := true }
def SettingTellsUptoSaid : Prop := settingTellsUptoRow.holds Try.pinned (OpenSpec.upto settingTellsSpec)

/-- 'causeylaw21.SettingLast', WHERE WHAT IT READS IS OF BULK AT MOST 1048576: true; the input reads as it did. -/
def settingLastUptoRow : OpenClaim := { program := "ytpidadlehhcngaa", sum := "a6e41f572d296b8b2a68020ec9a50eece3c3b6dea2daf1e9ddaca6fac3b538e4", func := "causey/causeylaw21.SettingLast", spec := "settingLast", unfollowed := true, recurses := true, apart := false, narrowed := true }
def SettingLastUptoSaid : Prop := settingLastUptoRow.holds Try.pinned (OpenSpec.upto settingLastSpec)

/-- 'causeylaw21.SettingOwes', WHERE WHAT IT READS IS OF BULK AT MOST 1048576: true; the input reads as it did. -/
def settingOwesUptoRow : OpenClaim := { program := "ytpidadlehhcngaa", sum := "a6e41f572d296b8b2a68020ec9a50eece3c3b6dea2daf1e9ddaca6fac3b538e4", func := "causey/causeylaw21.SettingOwes", spec := "settingOwes", unfollowed := true, recurses := true, apart := false, narrowed := true }
def SettingOwesUptoSaid : Prop := settingOwesUptoRow.holds Try.pinned (OpenSpec.upto settingOwesSpec)

/-- 'causeylaw21.SettingAcks', WHERE WHAT IT READS IS OF BULK AT MOST 1048576: true; the input reads as it did. -/
def settingAcksUptoRow : OpenClaim := { program := "ytpidadlehhcngaa", sum := "a6e41f572d296b8b2a68020ec9a50eece3c3b6dea2daf1e9ddaca6fac3b538e4", func := "causey/causeylaw21.SettingAcks", spec := "settingAcks", unfollowed := true, recurses := true, apart := false, narrowed := true }
def SettingAcksUptoSaid : Prop := settingAcksUptoRow.holds Try.pinned (OpenSpec.upto settingAcksSpec)

end Rows
end Go.Proofs.Ytpidadlehhcngaa
