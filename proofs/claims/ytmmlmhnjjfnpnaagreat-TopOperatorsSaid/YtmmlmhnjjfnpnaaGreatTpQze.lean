/- Texts that belong together. -/
import Derived.Test.YtmmlmhnjjfnpnaaGreatTpQzc
import Derived.Test.YtmmlmhnjjfnpnaaGreatTpQzd
set_option linter.all false
namespace Go.Proofs.YtmmlmhnjjfnpnaaGreat
open Go.RowKit Go.ChangeMaps
theorem Bb8 {w:World} {B g n k:Nat} {e:TypeId} {cs:List Value} (h:w.heap[g]? =some (.cells cs.toArray e)) (hB:B≤g) (hn:cs.length=n*k) (hm:n≤maxLen):w.ownsRow B e k (.slice (some ⟨g,0,none⟩) n n) n cs:=by
 refine⟨hn,.inr ⟨g,n,cs.toArray,rfl,hB,h,Nat.le_refl _,hm,by simpa using hn,by rw[←hn];simp⟩⟩
theorem Bb9 {s:D7} {i:Int} (h:s.idx i=none):E8 i (s.ix.map fun x=>(x.1,Value.int .i64 (x.2:Int))) 0=none:=by
 refine oN _ _ fun q hq e=>?_;obtain⟨x,hx,rfl⟩:=List.mem_map.1 hq;unfold D7.idx at h;rw[Option.map_eq_none_iff,List.find?_eq_none]at h;exact h x hx (by simpa using e)
theorem I8.since {wB w w':World} {p bi gg gs:Nat} {vr vp:Value} {R:List A9} {s:D7} (h:I8 w wB.heap.size p bi gg gs vr vp R s) (hX:∃y:A7 wB,w=y.w) (hk:B7 (K9 p bi gg gs vr vp R) w w'):∃y:A7 wB,w'=y.w:=by
 obtain⟨y,rfl⟩:=hX;exact B7.since y hk (fun b hb=>(h.ltS hb).1)
theorem qO (r:A9):∀v∈r.cs,v.oneCell'=true:=by
 intro v hv;simp only[A9.cs,List.mem_cons,List.not_mem_nil,or_false]at hv;rcases hv with rfl|rfl|rfl|rfl|rfl|rfl|rfl|rfl|rfl|rfl|rfl|rfl|rfl<;>rfl
theorem Al8 (r:E0):∀v∈r.cs,v.oneCell'=true:=by
 intro v hv;simp only[E0.cs,List.mem_cons,List.not_mem_nil,or_false]at hv;rcases hv with rfl|rfl|rfl|rfl|rfl<;>rfl
theorem Al9 (r:I2):∀v∈r.cs,v.oneCell'=true:=by
 intro v hv;simp only[I2.cs,List.mem_cons,List.not_mem_nil,or_false]at hv;rcases hv with rfl|rfl|rfl|rfl<;>rfl
def vY:Value:=.agg #[.int .i64 0,.int .i64 0,.int .i64 0,.int .i64 0,.int .i64 0,.int .i64 0,.bool false,.slice none 0 0,.slice none 0 0,.int .i64 0,.int .i64 0,.int .i64 0,.int .i64 0]
theorem Am0:M6 Tryz.prog 31 40 vY 13 136:=M6.mk' Tryz.underlying31 (by kernel_rfl) (by rfl) (by decide)
theorem Am1:M6 Tryz.prog 37 152 (.agg #[.int .i64 0,.int .i64 0,.int .i64 0,.int .i64 0,.int .i64 0]) 5 40:=M6.mk' Tryz.underlying37 (by kernel_rfl) (by rfl) (by decide)
theorem Am2:M6 Tryz.prog 38 44 (.agg #[.int .i64 0,.int .i64 0,.int .i64 0,.int .i64 0]) 4 32:=M6.mk' Tryz.underlying38 (by kernel_rfl) (by rfl) (by decide)
theorem Bc0:M6 Tryz.prog 102 4 (.bool false) 1 1:=M6.mk' Tryz.underlying102 (by kernel_rfl) (by rfl) (by decide)
end Go.Proofs.YtmmlmhnjjfnpnaaGreat
