/- Texts that belong together. -/
import Derived.Test.YtmmlmhnjjfnpnaaGreatTpQt
set_option linter.all false
namespace Go.Proofs.YtmmlmhnjjfnpnaaGreat
section
variable {n:Nat} {c:C5} {s:D7} {T:Int} {N:Nat} (J:JI n c s T N)
include J
end
end Go.Proofs.YtmmlmhnjjfnpnaaGreat
