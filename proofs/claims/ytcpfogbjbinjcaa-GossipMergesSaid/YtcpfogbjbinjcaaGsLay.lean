/- The library's functions that the program of replicas calls, laid over its translation. -/
import Derived.Test.YtcpfogbjbinjcaaProg
import Derived.Shelf.Lay
import Derived.Shelf.SlGeneric
import Derived.Shelf.SlSortCmp.NoneTotal
import Derived.Shelf.SlMaps.Clone
import Derived.Ground.SlsfProg
import Derived.Ground.SlmcProg
namespace Go.Proofs.Ytcpfogbjbinjcaa
open Go.Shelf Go.RowKit Go.Lib Go.Sort

shelf_lay_g SlLaysF0.n6 Slsf 6 at Try 39 as Try.sortEv
shelf_lay_g SlLaysW.n5 Slmc 5 at Try 38 as Try.cloneEv
end Go.Proofs.Ytcpfogbjbinjcaa
