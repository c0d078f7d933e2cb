/- The library's functions that the program of passes calls, laid over its translation. -/
import Derived.Test.YtbkfcdheckkjaaaProg
import Derived.Shelf.Lay
import Derived.Shelf.SlGeneric
import Derived.Shelf.SlSortCmp.NoneTotal
import Derived.Shelf.SlicesQ.IndexFunc
import Derived.Ground.SlsfProg
import Derived.Ground.SlgfProg
namespace Go.Proofs.Ytbkfcdheckkjaaa
open Go.Shelf Go.RowKit Go.Lib Go.Sort

shelf_lay_g SlLaysF.n6 Slsf 6 at Try 36 as Try.sortInt
shelf_lay_g SlLaysH0.n6 Slgf 6 at Try 40 as Try.idxPass
end Go.Proofs.Ytbkfcdheckkjaaa
