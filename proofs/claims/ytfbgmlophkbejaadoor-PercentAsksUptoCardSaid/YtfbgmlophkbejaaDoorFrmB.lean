/- Forms: a text's pieces, a piece's field, fields written. Plain. -/
import Derived.Test.YtfbgmlophkbejaaDoorPctM
import Derived.Test.YtfbgmlophkbejaaDoorMaxA
import Derived.Test.YtfbgmlophkbejaaDoorShelf
import Derived.Test.YtfbgmlophkbejaaDoorScX
set_option linter.unusedVariables false
set_option linter.unusedSimpArgs false
namespace Go.Proofs.YtfbgmlophkbejaaDoor
open Go.RowKit Go.Proofs.YtfbgmlophkbejaaDoorW.PrintWords Go.Proofs.YtfbgmlophkbejaaDoorW.PrintLast
def spl (c : UInt8) : List UInt8→List (List UInt8)
 | [] => [[]]
 | b :: r => if b=c then [] :: spl c r else (b :: (spl c r).headD []) :: (spl c r).tail
def lastB (s : ByteArray) : Nat:=s.size - ((spl 38 s.data.toList).getLastD []).length
end Go.Proofs.YtfbgmlophkbejaaDoor
