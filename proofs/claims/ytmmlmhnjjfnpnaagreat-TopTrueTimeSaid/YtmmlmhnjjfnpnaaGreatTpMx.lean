/- Texts that belong together. -/
import Derived.Test.YtmmlmhnjjfnpnaaGreatTpMl
import Derived.Test.YtmmlmhnjjfnpnaaGreatTpMo
import Derived.Test.YtmmlmhnjjfnpnaaGreatTpMw
import Derived.Shelf.SlSortCmp.NoneTotal
import Derived.Lib.SliceRun
set_option linter.all false
namespace Go.Proofs.YtmmlmhnjjfnpnaaGreat
open Go.RowKit Go.ChangeMaps Go.Sort Go.Shelf Go.Lib
section
variable {P:Program} {ρ:Ren} {α:Type} [Inhabited α] {enc:α→List Value} {k:Nat}
def SortedK (enc:α→List Value) (k:Nat) (lt:α→α→Bool) (w:World) (base:Nat) (e:TypeId) (v:Value) (l:List α) (o:Ending) (w':World):Prop:=
 o= .returned (.tuple #[])∧w.grownBy w' v.ownBlock∧∃l':List α,l'.Perm l∧(l'.Pairwise fun x y=>lt y x=false)∧w'.ownsRow base e k v l.length (flat enc l')
theorem sortK_calls (L:SlLaysF0.n6 P ρ) (aE:∀w,(isAgg (ρ.t 24)).run P w= .ok true w) (zE:∀w,(Go.sizeOf (ρ.t 24)).run P w= .ok k w) (hk:∀x,(enc x).length=k) (h0:0<k) (h1:∀x,∀v∈enc x,v.oneCell'=true) (cf:α→α→Int) (hO:SWO (ltOf cf)) (F:FuncId)
 (eg:∀args w,(callFunc F args).run P w= .ok (.enter F args) w) (hc:∀u v w,Calls P F #[.agg (enc u).toArray,.agg (enc v).toArray] w fun e w'=>e= .returned (.int .i64 (cf u v))∧Gr w w')
 (w:World) (base:Nat) (e:TypeId) (v:Value) (n:Nat) (l:List α) (hown:w.ownsRow base e k v n (flat enc l)) (hl:l.length<4611686018427387904):
 Calls P (ρ.f 6) #[v,.func (.func F) #[] #[]] w (SortedK enc k (ltOf cf) w base e v l):=by
 obtain⟨rfl,a,cap,rfl,hcap,hels,hbase,hblk⟩:=own_els hk h0 hown;by_cases hz:l.length=0
 ·have hl0:l=[]:=List.eq_nil_of_length_eq_zero hz
  subst hl0;refine(AnyF.slices_SortFunc_none (P:=P) {L with} a cap (.func (.func F) #[] #[]) w).mono ?_;rintro _ _ ⟨rfl,rfl⟩;exact⟨rfl,World.grownBy.refl _ _,[],List.Perm.refl _,List.Pairwise.nil,hown⟩
 ·obtain⟨x,hx⟩:∃x,l[0]? =some x:=⟨l[0]'(by omega),List.getElem?_eq_getElem (by omega)⟩
  obtain⟨g,off,ha,hg,_⟩:=hels 0 x hx;subst ha;obtain rfl:off=0:=by
   obtain⟨_,⟨hbad,_⟩|⟨g',cap',cur,he,_⟩⟩:=hown
   ·cases hbad
   ·simp at he;exact he.1.2
  have hH:=own_holdsK (l:=l) hk h0 hown;have hcmp:CmpLays P F #[] enc k cf g 0 l.toArray.size w:=fun m os dk _ u v=>by
   have:=hc u v (sortWorldK enc k w g 0 m dk os);exact this
  have hs:=AnyQ.slices_SortFunc L k aE zE enc hk h1 cf hO F #[] g 0 cap l.toArray w eg hcmp hH hg (by simpa using hl);have hsz:l.toArray.size=l.length:=by simp
  rw[hsz]at hs;refine hs.mono ?_;rintro _ _ ⟨rfl,d,n,os,⟨p1,p2,p3⟩,hsd,rfl⟩;have hd:d.size=l.length:=by rw[p1,hsz]
  refine⟨rfl,grownBy_sortK _ _ _ _ _ _ _,d.toList,?_,?_,own_sortK hk h0 hown d hd n os⟩
  ·rw[show d.extract 0 l.length=d from by rw[←hd];exact Array.extract_size,show l.toArray.extract 0 l.length=l.toArray from by simp]at p3
   simpa using p3
  ·rw[List.pairwise_iff_getElem]
   intro i j hi hj hij;have:=hsd i j (Nat.zero_le _) hij (by simpa[hd]using hj);rw[getElem!_pos d i (by simpa using hi),getElem!_pos d j (by simpa using hj)]at this;simpa using this
end
end Go.Proofs.YtmmlmhnjjfnpnaaGreat
namespace Go.Proofs.YtmmlmhnjjfnpnaaGreat
open Go.RowKit Go.ChangeMaps Go.Sort
def ncmp (u v:Ev):Int:=orI [ccmp u.d v.d,ccmp u.q v.q,ecmp u v]
theorem ncmp_less (u v:Ev):decide (ncmp u v<0)=lessN u v:=by
 have he:=ecmp_less u v;unfold less at he;have h1:lessN u v=if u.d=v.d then(if u.q=v.q then lexB u.ks v.ks else decide (u.q<v.q))else decide (u.d<v.d):=by
  unfold lessN Ev.ns;rw[lexB,lexB]
 rw[h1];unfold ncmp orI;generalize ecmp u v=c at *;generalize lexB u.ks v.ks=z at *;unfold ccmp;by_cases h2:u.d=v.d
 ·rw[if_pos h2]
  by_cases h3:u.q=v.q
  ·rw[if_pos h3]
   subst he;by_cases hc:c=0
   ·simp[h2,h3,hc]
   ·simp[h2,h3,hc]
  ·rw[if_neg h3]
   by_cases h4:u.q<v.q
   ·simp[h2,h4]
   ·have h5:v.q<u.q:=by omega
    simp[h2,h4,h5]
 ·rw[if_neg h2]
  by_cases h4:u.d<v.d
  ·simp[h4]
  ·have h5:v.d<u.d:=by omega
   simp[h4,h5]
set_option maxRecDepth 100000 in
set_option maxHeartbeats 8000000 in
theorem ncmp_calls (u v:Ev) (w:World):Calls Tryz.prog 176 #[u.ag,v.ag] w fun e w'=>e= .returned (.int .i64 (ncmp u v))∧Gr w w':=by
 have hc:∀w,Calls Tryz.prog 177 #[.agg #[.int .i64 u.d,.int .i64 u.q,.int .i64 u.a,.int .i64 u.t,.int .i64 u.k,.int .i64 u.b,.int .i64 u.p,.int .i64 u.r,.int .i64 u.i],.agg #[.int .i64 v.d,.int .i64 v.q,.int .i64 v.a,.int .i64 v.t,.int .i64 v.k,.int .i64 v.b,.int .i64 v.p,.int .i64 v.r,.int .i64 v.i]] w fun e w'=>e= .returned (.int .i64 (ecmp u v))∧Gr w w':=fun w=>ecmp_calls u v w;have HN:=Lib.hid (show orI [ccmp u.d v.d,ccmp u.q v.q,ecmp u v]=ncmp u v from rfl);generalize ecmp u v=c at *;unfold Ev.ag;go_enter Tryz.func176,Tryz.ntmps176;go_upto_region 1 with fail;have hb0_0:∀y:GrW ((w.alloc (.cells #[.int .i64 u.d,.int .i64 u.q,.int .i64 u.a,.int .i64 u.t,.int .i64 u.k,.int .i64 u.b,.int .i64 u.p,.int .i64 u.r,.int .i64 u.i] 63)).alloc (.cells #[.int .i64 v.d,.int .i64 v.q,.int .i64 v.a,.int .i64 v.t,.int .i64 v.k,.int .i64 v.b,.int .i64 v.p,.int .i64 v.r,.int .i64 v.i] 63)),y.w.cell? ⟨w.heap.size,0,none⟩=some (.int .i64 u.d):=GrW.cell (by simp[go_sem]);have hb0_1:∀y:GrW ((w.alloc (.cells #[.int .i64 u.d,.int .i64 u.q,.int .i64 u.a,.int .i64 u.t,.int .i64 u.k,.int .i64 u.b,.int .i64 u.p,.int .i64 u.r,.int .i64 u.i] 63)).alloc (.cells #[.int .i64 v.d,.int .i64 v.q,.int .i64 v.a,.int .i64 v.t,.int .i64 v.k,.int .i64 v.b,.int .i64 v.p,.int .i64 v.r,.int .i64 v.i] 63)),y.w.cell? ⟨w.heap.size,1,none⟩=some (.int .i64 u.q):=GrW.cell (by simp[go_sem]);have hb0_2:∀y:GrW ((w.alloc (.cells #[.int .i64 u.d,.int .i64 u.q,.int .i64 u.a,.int .i64 u.t,.int .i64 u.k,.int .i64 u.b,.int .i64 u.p,.int .i64 u.r,.int .i64 u.i] 63)).alloc (.cells #[.int .i64 v.d,.int .i64 v.q,.int .i64 v.a,.int .i64 v.t,.int .i64 v.k,.int .i64 v.b,.int .i64 v.p,.int .i64 v.r,.int .i64 v.i] 63)),y.w.cell? ⟨w.heap.size,2,none⟩=some (.int .i64 u.a):=GrW.cell (by simp[go_sem]);have hb0_3:∀y:GrW ((w.alloc (.cells #[.int .i64 u.d,.int .i64 u.q,.int .i64 u.a,.int .i64 u.t,.int .i64 u.k,.int .i64 u.b,.int .i64 u.p,.int .i64 u.r,.int .i64 u.i] 63)).alloc (.cells #[.int .i64 v.d,.int .i64 v.q,.int .i64 v.a,.int .i64 v.t,.int .i64 v.k,.int .i64 v.b,.int .i64 v.p,.int .i64 v.r,.int .i64 v.i] 63)),y.w.cell? ⟨w.heap.size,3,none⟩=some (.int .i64 u.t):=GrW.cell (by simp[go_sem]);have hb0_4:∀y:GrW ((w.alloc (.cells #[.int .i64 u.d,.int .i64 u.q,.int .i64 u.a,.int .i64 u.t,.int .i64 u.k,.int .i64 u.b,.int .i64 u.p,.int .i64 u.r,.int .i64 u.i] 63)).alloc (.cells #[.int .i64 v.d,.int .i64 v.q,.int .i64 v.a,.int .i64 v.t,.int .i64 v.k,.int .i64 v.b,.int .i64 v.p,.int .i64 v.r,.int .i64 v.i] 63)),y.w.cell? ⟨w.heap.size,4,none⟩=some (.int .i64 u.k):=GrW.cell (by simp[go_sem]);have hb0_5:∀y:GrW ((w.alloc (.cells #[.int .i64 u.d,.int .i64 u.q,.int .i64 u.a,.int .i64 u.t,.int .i64 u.k,.int .i64 u.b,.int .i64 u.p,.int .i64 u.r,.int .i64 u.i] 63)).alloc (.cells #[.int .i64 v.d,.int .i64 v.q,.int .i64 v.a,.int .i64 v.t,.int .i64 v.k,.int .i64 v.b,.int .i64 v.p,.int .i64 v.r,.int .i64 v.i] 63)),y.w.cell? ⟨w.heap.size,5,none⟩=some (.int .i64 u.b):=GrW.cell (by simp[go_sem]);have hb0_6:∀y:GrW ((w.alloc (.cells #[.int .i64 u.d,.int .i64 u.q,.int .i64 u.a,.int .i64 u.t,.int .i64 u.k,.int .i64 u.b,.int .i64 u.p,.int .i64 u.r,.int .i64 u.i] 63)).alloc (.cells #[.int .i64 v.d,.int .i64 v.q,.int .i64 v.a,.int .i64 v.t,.int .i64 v.k,.int .i64 v.b,.int .i64 v.p,.int .i64 v.r,.int .i64 v.i] 63)),y.w.cell? ⟨w.heap.size,6,none⟩=some (.int .i64 u.p):=GrW.cell (by simp[go_sem]);have hb0_7:∀y:GrW ((w.alloc (.cells #[.int .i64 u.d,.int .i64 u.q,.int .i64 u.a,.int .i64 u.t,.int .i64 u.k,.int .i64 u.b,.int .i64 u.p,.int .i64 u.r,.int .i64 u.i] 63)).alloc (.cells #[.int .i64 v.d,.int .i64 v.q,.int .i64 v.a,.int .i64 v.t,.int .i64 v.k,.int .i64 v.b,.int .i64 v.p,.int .i64 v.r,.int .i64 v.i] 63)),y.w.cell? ⟨w.heap.size,7,none⟩=some (.int .i64 u.r):=GrW.cell (by simp[go_sem]);have hb0_8:∀y:GrW ((w.alloc (.cells #[.int .i64 u.d,.int .i64 u.q,.int .i64 u.a,.int .i64 u.t,.int .i64 u.k,.int .i64 u.b,.int .i64 u.p,.int .i64 u.r,.int .i64 u.i] 63)).alloc (.cells #[.int .i64 v.d,.int .i64 v.q,.int .i64 v.a,.int .i64 v.t,.int .i64 v.k,.int .i64 v.b,.int .i64 v.p,.int .i64 v.r,.int .i64 v.i] 63)),y.w.cell? ⟨w.heap.size,8,none⟩=some (.int .i64 u.i):=GrW.cell (by simp[go_sem]);have hb1_0:∀y:GrW ((w.alloc (.cells #[.int .i64 u.d,.int .i64 u.q,.int .i64 u.a,.int .i64 u.t,.int .i64 u.k,.int .i64 u.b,.int .i64 u.p,.int .i64 u.r,.int .i64 u.i] 63)).alloc (.cells #[.int .i64 v.d,.int .i64 v.q,.int .i64 v.a,.int .i64 v.t,.int .i64 v.k,.int .i64 v.b,.int .i64 v.p,.int .i64 v.r,.int .i64 v.i] 63)),y.w.cell? ⟨w.heap.size+1,0,none⟩=some (.int .i64 v.d):=GrW.cell (by simp[go_sem]);have hb1_1:∀y:GrW ((w.alloc (.cells #[.int .i64 u.d,.int .i64 u.q,.int .i64 u.a,.int .i64 u.t,.int .i64 u.k,.int .i64 u.b,.int .i64 u.p,.int .i64 u.r,.int .i64 u.i] 63)).alloc (.cells #[.int .i64 v.d,.int .i64 v.q,.int .i64 v.a,.int .i64 v.t,.int .i64 v.k,.int .i64 v.b,.int .i64 v.p,.int .i64 v.r,.int .i64 v.i] 63)),y.w.cell? ⟨w.heap.size+1,1,none⟩=some (.int .i64 v.q):=GrW.cell (by simp[go_sem]);have hb1_2:∀y:GrW ((w.alloc (.cells #[.int .i64 u.d,.int .i64 u.q,.int .i64 u.a,.int .i64 u.t,.int .i64 u.k,.int .i64 u.b,.int .i64 u.p,.int .i64 u.r,.int .i64 u.i] 63)).alloc (.cells #[.int .i64 v.d,.int .i64 v.q,.int .i64 v.a,.int .i64 v.t,.int .i64 v.k,.int .i64 v.b,.int .i64 v.p,.int .i64 v.r,.int .i64 v.i] 63)),y.w.cell? ⟨w.heap.size+1,2,none⟩=some (.int .i64 v.a):=GrW.cell (by simp[go_sem]);have hb1_3:∀y:GrW ((w.alloc (.cells #[.int .i64 u.d,.int .i64 u.q,.int .i64 u.a,.int .i64 u.t,.int .i64 u.k,.int .i64 u.b,.int .i64 u.p,.int .i64 u.r,.int .i64 u.i] 63)).alloc (.cells #[.int .i64 v.d,.int .i64 v.q,.int .i64 v.a,.int .i64 v.t,.int .i64 v.k,.int .i64 v.b,.int .i64 v.p,.int .i64 v.r,.int .i64 v.i] 63)),y.w.cell? ⟨w.heap.size+1,3,none⟩=some (.int .i64 v.t):=GrW.cell (by simp[go_sem]);have hb1_4:∀y:GrW ((w.alloc (.cells #[.int .i64 u.d,.int .i64 u.q,.int .i64 u.a,.int .i64 u.t,.int .i64 u.k,.int .i64 u.b,.int .i64 u.p,.int .i64 u.r,.int .i64 u.i] 63)).alloc (.cells #[.int .i64 v.d,.int .i64 v.q,.int .i64 v.a,.int .i64 v.t,.int .i64 v.k,.int .i64 v.b,.int .i64 v.p,.int .i64 v.r,.int .i64 v.i] 63)),y.w.cell? ⟨w.heap.size+1,4,none⟩=some (.int .i64 v.k):=GrW.cell (by simp[go_sem]);have hb1_5:∀y:GrW ((w.alloc (.cells #[.int .i64 u.d,.int .i64 u.q,.int .i64 u.a,.int .i64 u.t,.int .i64 u.k,.int .i64 u.b,.int .i64 u.p,.int .i64 u.r,.int .i64 u.i] 63)).alloc (.cells #[.int .i64 v.d,.int .i64 v.q,.int .i64 v.a,.int .i64 v.t,.int .i64 v.k,.int .i64 v.b,.int .i64 v.p,.int .i64 v.r,.int .i64 v.i] 63)),y.w.cell? ⟨w.heap.size+1,5,none⟩=some (.int .i64 v.b):=GrW.cell (by simp[go_sem]);have hb1_6:∀y:GrW ((w.alloc (.cells #[.int .i64 u.d,.int .i64 u.q,.int .i64 u.a,.int .i64 u.t,.int .i64 u.k,.int .i64 u.b,.int .i64 u.p,.int .i64 u.r,.int .i64 u.i] 63)).alloc (.cells #[.int .i64 v.d,.int .i64 v.q,.int .i64 v.a,.int .i64 v.t,.int .i64 v.k,.int .i64 v.b,.int .i64 v.p,.int .i64 v.r,.int .i64 v.i] 63)),y.w.cell? ⟨w.heap.size+1,6,none⟩=some (.int .i64 v.p):=GrW.cell (by simp[go_sem]);have hb1_7:∀y:GrW ((w.alloc (.cells #[.int .i64 u.d,.int .i64 u.q,.int .i64 u.a,.int .i64 u.t,.int .i64 u.k,.int .i64 u.b,.int .i64 u.p,.int .i64 u.r,.int .i64 u.i] 63)).alloc (.cells #[.int .i64 v.d,.int .i64 v.q,.int .i64 v.a,.int .i64 v.t,.int .i64 v.k,.int .i64 v.b,.int .i64 v.p,.int .i64 v.r,.int .i64 v.i] 63)),y.w.cell? ⟨w.heap.size+1,7,none⟩=some (.int .i64 v.r):=GrW.cell (by simp[go_sem]);have hb1_8:∀y:GrW ((w.alloc (.cells #[.int .i64 u.d,.int .i64 u.q,.int .i64 u.a,.int .i64 u.t,.int .i64 u.k,.int .i64 u.b,.int .i64 u.p,.int .i64 u.r,.int .i64 u.i] 63)).alloc (.cells #[.int .i64 v.d,.int .i64 v.q,.int .i64 v.a,.int .i64 v.t,.int .i64 v.k,.int .i64 v.b,.int .i64 v.p,.int .i64 v.r,.int .i64 v.i] 63)),y.w.cell? ⟨w.heap.size+1,8,none⟩=some (.int .i64 v.i):=GrW.cell (by simp[go_sem]);have HG:=Lib.hid (show Gr w ((w.alloc (.cells #[.int .i64 u.d,.int .i64 u.q,.int .i64 u.a,.int .i64 u.t,.int .i64 u.k,.int .i64 u.b,.int .i64 u.p,.int .i64 u.r,.int .i64 u.i] 63)).alloc (.cells #[.int .i64 v.d,.int .i64 v.q,.int .i64 v.a,.int .i64 v.t,.int .i64 v.k,.int .i64 v.b,.int .i64 v.p,.int .i64 v.r,.int .i64 v.i] 63))from(Gr.alloc _ _).trans (Gr.alloc _ _));obtain⟨y0,hy0⟩:=GrW.refl ((w.alloc (.cells #[.int .i64 u.d,.int .i64 u.q,.int .i64 u.a,.int .i64 u.t,.int .i64 u.k,.int .i64 u.b,.int .i64 u.p,.int .i64 u.r,.int .i64 u.i] 63)).alloc (.cells #[.int .i64 v.d,.int .i64 v.q,.int .i64 v.a,.int .i64 v.t,.int .i64 v.k,.int .i64 v.b,.int .i64 v.p,.int .i64 v.r,.int .i64 v.i] 63));generalize hW:((w.alloc (.cells #[.int .i64 u.d,.int .i64 u.q,.int .i64 u.a,.int .i64 u.t,.int .i64 u.k,.int .i64 u.b,.int .i64 u.p,.int .i64 u.r,.int .i64 u.i] 63)).alloc (.cells #[.int .i64 v.d,.int .i64 v.q,.int .i64 v.a,.int .i64 v.t,.int .i64 v.k,.int .i64 v.b,.int .i64 v.p,.int .i64 v.r,.int .i64 v.i] 63))=W at *;clear hW;generalize w.heap.size=bx at *;rw[hy0];clear hy0;have k0_0:∀w',Gr W w'→w'.cell? ⟨bx,0,none⟩=some (.int .i64 u.d):=fun w' h=>hb0_0 ⟨w',h⟩;have k0_1:∀w',Gr W w'→w'.cell? ⟨bx,1,none⟩=some (.int .i64 u.q):=fun w' h=>hb0_1 ⟨w',h⟩;have k0_2:∀w',Gr W w'→w'.cell? ⟨bx,2,none⟩=some (.int .i64 u.a):=fun w' h=>hb0_2 ⟨w',h⟩;have k0_3:∀w',Gr W w'→w'.cell? ⟨bx,3,none⟩=some (.int .i64 u.t):=fun w' h=>hb0_3 ⟨w',h⟩;have k0_4:∀w',Gr W w'→w'.cell? ⟨bx,4,none⟩=some (.int .i64 u.k):=fun w' h=>hb0_4 ⟨w',h⟩;have k0_5:∀w',Gr W w'→w'.cell? ⟨bx,5,none⟩=some (.int .i64 u.b):=fun w' h=>hb0_5 ⟨w',h⟩;have k0_6:∀w',Gr W w'→w'.cell? ⟨bx,6,none⟩=some (.int .i64 u.p):=fun w' h=>hb0_6 ⟨w',h⟩;have k0_7:∀w',Gr W w'→w'.cell? ⟨bx,7,none⟩=some (.int .i64 u.r):=fun w' h=>hb0_7 ⟨w',h⟩;have k0_8:∀w',Gr W w'→w'.cell? ⟨bx,8,none⟩=some (.int .i64 u.i):=fun w' h=>hb0_8 ⟨w',h⟩;have k1_0:∀w',Gr W w'→w'.cell? ⟨bx+1,0,none⟩=some (.int .i64 v.d):=fun w' h=>hb1_0 ⟨w',h⟩;have k1_1:∀w',Gr W w'→w'.cell? ⟨bx+1,1,none⟩=some (.int .i64 v.q):=fun w' h=>hb1_1 ⟨w',h⟩;have k1_2:∀w',Gr W w'→w'.cell? ⟨bx+1,2,none⟩=some (.int .i64 v.a):=fun w' h=>hb1_2 ⟨w',h⟩;have k1_3:∀w',Gr W w'→w'.cell? ⟨bx+1,3,none⟩=some (.int .i64 v.t):=fun w' h=>hb1_3 ⟨w',h⟩;have k1_4:∀w',Gr W w'→w'.cell? ⟨bx+1,4,none⟩=some (.int .i64 v.k):=fun w' h=>hb1_4 ⟨w',h⟩;have k1_5:∀w',Gr W w'→w'.cell? ⟨bx+1,5,none⟩=some (.int .i64 v.b):=fun w' h=>hb1_5 ⟨w',h⟩;have k1_6:∀w',Gr W w'→w'.cell? ⟨bx+1,6,none⟩=some (.int .i64 v.p):=fun w' h=>hb1_6 ⟨w',h⟩;have k1_7:∀w',Gr W w'→w'.cell? ⟨bx+1,7,none⟩=some (.int .i64 v.r):=fun w' h=>hb1_7 ⟨w',h⟩;have k1_8:∀w',Gr W w'→w'.cell? ⟨bx+1,8,none⟩=some (.int .i64 v.i):=fun w' h=>hb1_8 ⟨w',h⟩;clear hb0_0 hb0_1 hb0_2 hb0_3 hb0_4 hb0_5 hb0_6 hb0_7 hb0_8 hb1_0 hb1_1 hb1_2 hb1_3 hb1_4 hb1_5 hb1_6 hb1_7 hb1_8;go_region_held3 (fun w'=>Gr W w') (first|assumption|exact Gr.drew' (GrW.g _)|exact GrW.g _|exact Gr.trans (by assumption) (by assumption)|exact Gr.alloc' (by assumption) _|exact Gr.alloc' (Gr.drew' (GrW.g _)) _) (first|(go_at_call 34;((with_reducible refine(ccmp_calls _ _ _).mono ?_);rintro _ _ ⟨rfl,rfl⟩))|(go_at_call 177;((with_reducible refine(hc _).mono ?_);rintro _ w1 ⟨rfl,hg1⟩;(have hgW:Gr W w1:=Gr.trans (by first|assumption|exact Gr.drew' (GrW.g _)|exact GrW.g _) hg1);clear hg1))|(go_at_call 52;((with_reducible refine(or3d_calls _ _ _ _ _).mono ?_);rintro _ _ ⟨rfl,rfl⟩))|(go_at_call 52;((with_reducible refine(or3_calls _ _ _ _ _).mono ?_);rintro _ _ ⟨rfl,rfl⟩)));all_goals
  go_wp2_with fail;go_ret;exact⟨ret_int HN.out,HG.out.trans (by first|assumption|exact Gr.alloc' (by assumption) _|exact Gr.drew' (Gr.alloc' (by assumption) _)|exact Gr.alloc' (Gr.drew' (GrW.g _)) _|exact Gr.drew' (GrW.g _))⟩
end Go.Proofs.YtmmlmhnjjfnpnaaGreat
namespace Go.Proofs.YtmmlmhnjjfnpnaaGreat
open Go.RowKit Go.ChangeMaps Go.Sort Go.Shelf Go.Lib
theorem ltOf_ecmp:ltOf ecmp=less:=by
 funext x y;unfold ltOf;exact ecmp_less x y
theorem swo_less:SWO (ltOf ecmp):=by
 rw[ltOf_ecmp];exact⟨less_irrefl,fun x y z h1 h2=>less_trans h1 h2,fun x y z h1 h2=>less_ntrans h1 h2⟩
theorem cs_one (x:Ev):∀v∈x.cs,v.oneCell'=true:=fun v hv=>by
 simp[Ev.cs]at hv;rcases hv with rfl|rfl|rfl|rfl|rfl|rfl|rfl|rfl|rfl<;>rfl
theorem ltOf_ncmp:ltOf ncmp=lessN:=by
 funext x y;unfold ltOf;exact ncmp_less x y
theorem swo_lessN:SWO (ltOf ncmp):=by
 rw[ltOf_ncmp];exact⟨lessN_irrefl,fun x y z h1 h2=>lessN_trans h1 h2,fun x y z h1 h2=>lessN_ntrans h1 h2⟩
def SortPostL (srt:List Ev→List Ev) (w:World) (base:Nat) (v:Value) (l:List Ev) (e:Ending) (w':World):Prop:=
 e= .returned (.tuple #[])∧w.grownBy w' v.ownBlock∧w'.ownsRow base 63 9 v l.length (flat Ev.cs (srt l))
theorem esort_calls (w:World) (base:Nat) (v:Value) (n:Nat) (l:List Ev) (hown:w.ownsRow base 63 9 v n (flat Ev.cs l)) (hl:l.length<4611686018427387904):
 Calls Tryz.prog 91 #[v,.func (.func 177) #[] #[]] w (SortPostL sortE w base v l):=by
 obtain⟨rfl,a,cap,rfl,hcap,hels,hbase,hblk⟩:=own_els cs_len (by decide) hown;by_cases h0:l.length=0
 ·have hl0:l=[]:=List.eq_nil_of_length_eq_zero h0
  subst hl0;have hc:=AnyF.slices_SortFunc_none {Tryz.sortEv with} a cap (.func (.func 177) #[] #[]) w;change Calls Tryz.prog 91 _ _ _ at hc;refine hc.mono ?_;rintro _ _ ⟨rfl,rfl⟩;exact⟨rfl,World.grownBy.refl _ _,by rw[show sortE []=[]from by simp[sortE]];exact hown⟩
 ·obtain⟨x,hx⟩:∃x,l[0]? =some x:=⟨l[0]'(by omega),List.getElem?_eq_getElem (by omega)⟩
  obtain⟨g,off,ha,hg,_⟩:=hels 0 x hx;subst ha;obtain rfl:off=0:=by
   obtain⟨_,⟨hbad,_⟩|⟨g',cap',cur,he,_⟩⟩:=hown
   ·cases hbad
   ·simp at he;exact he.1.2
  have hH:=own_holdsK (l:=l) cs_len (by decide) hown;have eg:∀args w,(callFunc 177 args).run Tryz.prog w= .ok (.enter 177 args) w:=enters_of Tryz.func177 (by kernel_rfl) rfl;have hcmp:CmpLays Tryz.prog 177 #[] Ev.cs 9 ecmp g 0 l.toArray.size w:=fun m os dk _ u v=>by
   have:=ecmp_calls u v (sortWorldK Ev.cs 9 w g 0 m dk os);exact this
  have hc:=AnyQ.slices_SortFunc_total Tryz.sortEv 9 Tryz.isAgg63 Tryz.sizeOf63 Ev.cs cs_len cs_one ecmp swo_less 177 #[] g 0 cap l.toArray w eg hcmp hH hg (by simpa using hl) (fun u v h1 h2=>by rw[ltOf_ecmp]at h1 h2;exact less_total h1 h2);change Calls Tryz.prog 91 _ _ _ at hc;refine hc.mono ?_;rintro _ _ ⟨rfl,n,os,rfl⟩;have hsort:(l.toArray.toList.mergeSort fun x y=>!ltOf ecmp y x)=sortE l:=by rw[ltOf_ecmp];rfl
  rw[hsort];refine⟨rfl,grownBy_sortK _ _ _ _ _ _ _,?_⟩;have:=own_sortK cs_len (by decide) hown (sortE l).toArray (by simp[sortE_length]) n os;simpa using this
theorem nsort_calls (w:World) (base:Nat) (v:Value) (n:Nat) (l:List Ev) (hown:w.ownsRow base 63 9 v n (flat Ev.cs l)) (hl:l.length<4611686018427387904):
 Calls Tryz.prog 91 #[v,.func (.func 176) #[] #[]] w (SortPostL sortN w base v l):=by
 obtain⟨rfl,a,cap,rfl,hcap,hels,hbase,hblk⟩:=own_els cs_len (by decide) hown;by_cases h0:l.length=0
 ·have hl0:l=[]:=List.eq_nil_of_length_eq_zero h0
  subst hl0;have hc:=AnyF.slices_SortFunc_none {Tryz.sortEv with} a cap (.func (.func 176) #[] #[]) w;change Calls Tryz.prog 91 _ _ _ at hc;refine hc.mono ?_;rintro _ _ ⟨rfl,rfl⟩;exact⟨rfl,World.grownBy.refl _ _,by rw[show sortN []=[]from by simp[sortN]];exact hown⟩
 ·obtain⟨x,hx⟩:∃x,l[0]? =some x:=⟨l[0]'(by omega),List.getElem?_eq_getElem (by omega)⟩
  obtain⟨g,off,ha,hg,_⟩:=hels 0 x hx;subst ha;obtain rfl:off=0:=by
   obtain⟨_,⟨hbad,_⟩|⟨g',cap',cur,he,_⟩⟩:=hown
   ·cases hbad
   ·simp at he;exact he.1.2
  have hH:=own_holdsK (l:=l) cs_len (by decide) hown;have eg:∀args w,(callFunc 176 args).run Tryz.prog w= .ok (.enter 176 args) w:=enters_of Tryz.func176 (by kernel_rfl) rfl;have hcmp:CmpLays Tryz.prog 176 #[] Ev.cs 9 ncmp g 0 l.toArray.size w:=fun m os dk _ u v=>by
   have:=ncmp_calls u v (sortWorldK Ev.cs 9 w g 0 m dk os);exact this
  have hc:=AnyQ.slices_SortFunc_total Tryz.sortEv 9 Tryz.isAgg63 Tryz.sizeOf63 Ev.cs cs_len cs_one ncmp swo_lessN 176 #[] g 0 cap l.toArray w eg hcmp hH hg (by simpa using hl) (fun u v h1 h2=>by rw[ltOf_ncmp]at h1 h2;exact lessN_total h1 h2);change Calls Tryz.prog 91 _ _ _ at hc;refine hc.mono ?_;rintro _ _ ⟨rfl,n,os,rfl⟩;have hsort:(l.toArray.toList.mergeSort fun x y=>!ltOf ncmp y x)=sortN l:=by rw[ltOf_ncmp];rfl
  rw[hsort];refine⟨rfl,grownBy_sortK _ _ _ _ _ _ _,?_⟩;have:=own_sortK cs_len (by decide) hown (sortN l).toArray (by simp[sortN_length]) n os;simpa using this
end Go.Proofs.YtmmlmhnjjfnpnaaGreat
namespace Go.Proofs.YtmmlmhnjjfnpnaaGreat
open Go.RowKit
theorem sEvt:SliceOf Tryz.prog 25 63 (.agg #[.int .i64 0,.int .i64 0,.int .i64 0,.int .i64 0,.int .i64 0,.int .i64 0,.int .i64 0,.int .i64 0,.int .i64 0]) 9 72:=SliceOf.mk' Tryz.underlying25 (by kernel_rfl) rfl (by decide)
def CloneRes (w:World) (T:TypeId) (k n:Nat) (xs:List Value) (o:Ending) (w':World):Prop:=
 ∃(a:Option Addr) (c:Nat) (y:Since w),o= .returned (.slice a n c)∧w'=y.w∧y.w.ownsRow w.heap.size T k (.slice a n c) n xs
set_option maxRecDepth 100000 in
set_option maxHeartbeats 4000000 in
theorem cloneEv_calls (w:World) (x:Since w) (a:Option Addr) (l:List Ev) (c:Nat) (h:Els Ev.cs 9 w a l) (hl:l.length≤100000):
 Calls Tryz.prog 175 #[.slice a l.length c] x.w (CloneRes w 63 9 l.length (flat Ev.cs l)):=by
 have H:=Lib.hid h;have Hp:=Lib.hid (fun(a':Option Addr) (c':Nat) (y:Since w) (h:y.w.ownsRow w.heap.size 63 9 (.slice a' l.length c') l.length (flat Ev.cs l))=>show CloneRes w 63 9 l.length (flat Ev.cs l) (.returned (.slice a' l.length c')) y.w from⟨a',c',y,rfl,rfl,h⟩);generalize CloneRes w 63 9 l.length (flat Ev.cs l)=PO at *;clear h;have qn:=fun(w:World) (a:Option Addr) (n c n' c':Nat)=>Lib.run_eql_slice_nil (P:=Tryz.prog) w _ _ a n c n' c' Tryz.underlying25
 cases a with
 |none=>
  have hn:l=[]:=by
   cases l with
   |nil=>rfl
   |cons e l=>obtain⟨b,off,hb,_⟩:=H.out 0 e rfl;cases hb
  subst hn
  have HB:=Lib.hid (Hp.out none 0 x ⟨rfl,.inl ⟨rfl,rfl⟩⟩)
  go_enter Tryz.func175,Tryz.ntmps175
  go_wp2_with fail
  exact HB.out
 |some ad=>
  go_enter Tryz.func175,Tryz.ntmps175
  go_wp2_with(at_builtin;(refine wpList_appendEls (w0:=w) (enc:=Ev.cs) (k:=9) cs_len (by decide) cs_one ?hw rfl _ _ 25 rfl w.heap.size (Nat.le_refl _) ?hb 63 (.agg #[.int .i64 0,.int .i64 0,.int .i64 0,.int .i64 0,.int .i64 0,.int .i64 0,.int .i64 0,.int .i64 0,.int .i64 0]) 72 sEvt (.slice (some ⟨x.w.heap.size,0,none⟩) 0 0) 0 [] rfl ?hown (some ad) l c rfl ?hels (fun h=>by cases h) ?h63 ?hbytes ?_;rotate_right 1;intro v2 q2 hown2 _ hg2;refine Hid.out ?_))
  case hw=>exact IsSince.alloc (IsSince.of x) _
  case hb=>have:=x.b.size;simp;omega
  case hown=>exact own_empty (k:=9) (Blk.new x.w _) x.b.size
  case hels=>exact(Since.els H.out x).to (IsSince.alloc (IsSince.self _) _)
  case h63=>unfold maxLen;omega
  case hbytes=>omega
  rw[List.nil_append,Nat.zero_add]at hown2
  obtain⟨_,a5,c5,rfl,_⟩:=own_els cs_len (by decide) hown2
  have HB:=Lib.hid (Hp.out a5 c5 q2 hown2)
  clear hown2 hg2
  refine Lib.hid ?_
  go_wp2_with fail
  exact HB.out
end Go.Proofs.YtmmlmhnjjfnpnaaGreat
namespace Go.Proofs.YtmmlmhnjjfnpnaaGreat
open Go.RowKit
set_option maxRecDepth 100000 in
set_option maxHeartbeats 4000000 in
theorem eset_calls (w:World) (x:Since w) (a:Option Addr) (l:List Ev) (c:Nat) (h:Els Ev.cs 9 w a l) (hl:l.length≤100000):
 Calls Tryz.prog 122 #[.slice a l.length c] x.w (OwnRet w 63 9 (flat Ev.cs (setL l))):=by
 have H:=Lib.hid h;have HP:=Lib.hid (fun(a:Option Addr) (n c:Nat) (y:Since w) (h:y.w.ownsRow w.heap.size 63 9 (.slice a n c) n (flat Ev.cs (setL l)))=>show OwnRet w 63 9 (flat Ev.cs (setL l)) (.returned (.slice a n c)) y.w from⟨a,n,c,y,rfl,rfl,h⟩);have HN:=Lib.hid (sortN_length l);have HK:=Lib.hid (show(kept (sortN l) l.length).length≤l.length from kept_len _ _);generalize OwnRet w 63 9 (flat Ev.cs (setL l))=PO at *;clear h;go_enter Tryz.func122,Tryz.ntmps122;go_wp2_with fail;have h1:=cloneEv_calls w x a l c H.out hl;refine h1.mono ?_;clear h1;rintro _ _ ⟨a1,c1,y1,rfl,rfl,hown⟩;have h2:=nsort_calls y1.w w.heap.size _ _ l hown (by omega);have Hb:=Lib.hid (own_block hown);clear hown;go_wp2_with fail;refine h2.mono ?_;clear h2;rintro _ w2 ⟨rfl,hg,hown⟩;obtain⟨y2,rfl⟩:=y1.grown hg Hb.out;clear hg Hb;have h3:=compact_calls w y2 _ _ (sortN l) hown (by rw[HN.out];exact hl);rw[HN.out]at h3;clear hown;go_wp2_with fail;refine h3.mono ?_;clear h3;rintro _ _ ⟨a3,n3,c3,y3,rfl,rfl,hown⟩;obtain⟨hn3,_⟩:=own_els cs_len (by decide) hown;have h4:=esort_calls y3.w w.heap.size _ _ _ hown (by have:=HK.out;omega);have Hb:=Lib.hid (own_block hown);have Hn:=Lib.hid hn3;clear hown hn3;go_wp2_with fail;refine h4.mono ?_;clear h4;rintro _ w4 ⟨rfl,hg,hown⟩;obtain⟨y4,rfl⟩:=y3.grown hg Hb.out;have HR:=Lib.hid (HP.out a3 n3 c3 y4 (by rw[Hn.out];rw[Hn.out]at hown;exact hown));clear hown hg Hb;go_wp2_with fail;exact HR.out
end Go.Proofs.YtmmlmhnjjfnpnaaGreat
