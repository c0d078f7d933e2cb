/- Texts that belong together. -/
import Derived.Test.YtmmlmhnjjfnpnaaGreatTpMy
import Derived.Test.YtmmlmhnjjfnpnaaGreatTpMz
set_option linter.all false
namespace Go.Proofs.YtmmlmhnjjfnpnaaGreat
open Go.RowKit Go.ChangeMaps
theorem own_newK {w:World} {B g n k:Nat} {e:TypeId} {cs:List Value} (h:w.heap[g]? =some (.cells cs.toArray e)) (hB:B≤g) (hn:cs.length=n*k) (hm:n≤maxLen):w.ownsRow B e k (.slice (some ⟨g,0,none⟩) n n) n cs:=by
 refine⟨hn,.inr ⟨g,n,cs.toArray,rfl,hB,h,Nat.le_refl _,hm,by simpa using hn,by rw[←hn];simp⟩⟩
theorem idx_none {s:Sto} {i:Int} (h:s.idx i=none):lkF i (s.ix.map fun x=>(x.1,Value.int .i64 (x.2:Int))) 0=none:=by
 refine lkF_none _ _ fun q hq e=>?_;obtain⟨x,hx,rfl⟩:=List.mem_map.1 hq;unfold Sto.idx at h;rw[Option.map_eq_none_iff,List.find?_eq_none]at h;exact h x hx (by simpa using e)
theorem StoM.since {wB w w':World} {p bi gg gs:Nat} {vr vp:Value} {R:List Ride} {s:Sto} (h:StoM w wB.heap.size p bi gg gs vr vp R s) (hX:∃y:Since wB,w=y.w) (hk:KpS (StoS p bi gg gs vr vp R) w w'):∃y:Since wB,w'=y.w:=by
 obtain⟨y,rfl⟩:=hX;exact KpS.since y hk (fun b hb=>(h.ltS hb).1)
theorem ride_oneT (r:Ride):∀v∈r.cs,v.oneCell'=true:=by
 intro v hv;simp only[Ride.cs,List.mem_cons,List.not_mem_nil,or_false]at hv;rcases hv with rfl|rfl|rfl|rfl|rfl|rfl|rfl|rfl|rfl|rfl|rfl|rfl|rfl<;>rfl
theorem leg_oneT (r:Leg):∀v∈r.cs,v.oneCell'=true:=by
 intro v hv;simp only[Leg.cs,List.mem_cons,List.not_mem_nil,or_false]at hv;rcases hv with rfl|rfl|rfl|rfl|rfl<;>rfl
theorem pse_oneT (r:Pse):∀v∈r.cs,v.oneCell'=true:=by
 intro v hv;simp only[Pse.cs,List.mem_cons,List.not_mem_nil,or_false]at hv;rcases hv with rfl|rfl|rfl|rfl<;>rfl
def zeroRideT:Value:=.agg #[.int .i64 0,.int .i64 0,.int .i64 0,.int .i64 0,.int .i64 0,.int .i64 0,.bool false,.slice none 0 0,.slice none 0 0,.int .i64 0,.int .i64 0,.int .i64 0,.int .i64 0]
theorem sRideT:SliceOf Tryz.prog 31 40 zeroRideT 13 136:=SliceOf.mk' Tryz.underlying31 (by kernel_rfl) (by rfl) (by decide)
theorem sLegT:SliceOf Tryz.prog 37 152 (.agg #[.int .i64 0,.int .i64 0,.int .i64 0,.int .i64 0,.int .i64 0]) 5 40:=SliceOf.mk' Tryz.underlying37 (by kernel_rfl) (by rfl) (by decide)
theorem sPseT:SliceOf Tryz.prog 38 44 (.agg #[.int .i64 0,.int .i64 0,.int .i64 0,.int .i64 0]) 4 32:=SliceOf.mk' Tryz.underlying38 (by kernel_rfl) (by rfl) (by decide)
theorem sBoolT:SliceOf Tryz.prog 102 4 (.bool false) 1 1:=SliceOf.mk' Tryz.underlying102 (by kernel_rfl) (by rfl) (by decide)
end Go.Proofs.YtmmlmhnjjfnpnaaGreat
