/- Ab, part 26: parts of a function's code, by their place, so that each can have a theorem of its own. -/
import Derived.Test.YtamielbdedbnaaaA25
set_option linter.unusedSimpArgs false
set_option linter.unusedVariables false
namespace Go.Ab
open Go.RowKit
/-- the part of the code at a place: 0 and 1 pick a sequence's (or a test's) first and second part; 0 goes into a block or a loop -/
def subC : List Nat → Code → Code
  | [], c => c
  | k :: r, .seq a b => if k = 0 then subC r a else subC r b
  | k :: r, .cond _ a b => if k = 0 then subC r a else subC r b
  | _ :: r, .block _ c => subC r c
  | _ :: r, .loop c => subC r c
  | _ :: _, c => c
def bodyOf (f : Func) : Code := f.body.getD .skip
end Go.Ab
