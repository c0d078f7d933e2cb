/- Texts that belong together. -/
import Derived.Test.YtmmlmhnjjfnpnaaGreatTpQa
import Derived.Shelf.SlSortCmp.NoneTotal
set_option linter.all false
namespace Go.Proofs.YtmmlmhnjjfnpnaaGreat
open Go.RowKit Go.Sort
theorem tR {α:Type} [Inhabited α] (enc:α→Value) (w:World) (g n:Nat) (d:Array α) (os:Array Obj):w.grownBy (sortWorld enc w g 0 n d os) (some g):=by
 refine⟨rfl,rfl,rfl,by simp[sortWorld,grow,putRow,mapBlock,Sort.ahead],fun j hj hne=>?_⟩;have hne':g≠j:=fun e=>hne (by rw[e]);have hj':j<(putRow enc (Sort.ahead w n) g 0 d).heap.size:=by simpa[putRow,mapBlock,Sort.ahead]using hj
 show((putRow enc (Sort.ahead w n) g 0 d).heap ++ os)[j]? = _;rw[Array.getElem?_append_left hj'];simp[putRow,mapBlock,Sort.ahead,Array.getElem?_modify,hne']
end Go.Proofs.YtmmlmhnjjfnpnaaGreat
