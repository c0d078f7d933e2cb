/- The library's functions that the program of windows calls, laid over its translation. -/
import Derived.Test.YtnkmngkinjjbfaaDoorProg
import Derived.Shelf.Lay
import Derived.Shelf.SlGeneric
import Derived.Shelf.SlSortCmp.NoneTotal
import Derived.Shelf.SlicesQ.IndexFunc
import Derived.Ground.SlsfProg
import Derived.Ground.SlgfProg
namespace Go.Proofs.YtnkmngkinjjbfaaDoor
open Go.Shelf Go.RowKit Go.Lib Go.Sort

shelf_lay_g SlLaysF0.n6 Slsf 6 at Tryd 47 as Tryd.sortWin
shelf_lay_g SlLaysH0.n6 Slgf 6 at Tryd 54 as Tryd.idxWin
end Go.Proofs.YtnkmngkinjjbfaaDoor
