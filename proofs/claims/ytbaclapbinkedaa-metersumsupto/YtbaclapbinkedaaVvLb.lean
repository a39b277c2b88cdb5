/- Functions of Go's library whose contracts the shelf has: as contracts over abstract values. -/
import Derived.Test.YtbaclapbinkedaaVvZ
import Derived.Shelf.Strings.OnBuilder
import Derived.Shelf.Strings.SplitShaped
namespace Go.Vv
open Go Go.RowKit Go.Proofs Go.Shelf

def strJoin (xs:List (List UInt8)) (sep:List UInt8):Option (List UInt8):=if xs.length≤140737488355328∧(Lib.join xs sep).length≤140737488355328 then some (Lib.join xs sep) else none

def strSplit (s sep:List UInt8):Option (List (List UInt8)):=if s.length < 4294967281∧1≤sep.length then some (Lib.split s sep) else none

end Go.Vv
