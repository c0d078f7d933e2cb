/- Texts that belong together. -/
import Derived.Test.YtmmlmhnjjfnpnaaGreatTpQl
import Derived.Test.YtmmlmhnjjfnpnaaGreatTpQq
import Derived.Test.YtmmlmhnjjfnpnaaGreatTpQza
import Derived.Shelf.SlSortCmp.NoneTotal
import Derived.Lib.SliceRun
set_option linter.all false
namespace Go.Proofs.YtmmlmhnjjfnpnaaGreat
set_option maxRecDepth 200000
set_option maxHeartbeats 64000000
section
open Go.RowKit Go.ChangeMaps Go.Sort Go.Shelf Go.Lib
section
variable {P:Program} {ρ:Ren} {α:Type} [Inhabited α] {enc:α→List Value} {k:Nat}
def AZ5 (enc:α→List Value) (k:Nat) (lt:α→α→Bool) (w:World) (base:Nat) (e:TypeId) (v:Value) (l:List α) (o:Ending) (w':World):Prop:=
 o= .returned (.tuple #[])∧w.grownBy w' v.ownBlock∧∃l':List α,l'.Perm l∧(l'.Pairwise fun x y=>lt y x=false)∧w'.ownsRow base e k v l.length (B4 enc l')
theorem Al3 (L:SlLaysF0.n6 P ρ) (aE:∀w,(isAgg (ρ.t 24)).run P w= .ok true w) (zE:∀w,(Go.sizeOf (ρ.t 24)).run P w= .ok k w) (hk:∀x,(enc x).length=k) (h0:0<k) (h1:∀x,∀v∈enc x,v.oneCell'=true) (cf:α→α→Int) (hO:SWO (ltOf cf)) (F:FuncId)
 (eg:∀args w,(callFunc F args).run P w= .ok (.enter F args) w) (hc:∀u v w,Calls P F #[.agg (enc u).toArray,.agg (enc v).toArray] w fun e w'=>e= .returned (.int .i64 (cf u v))∧Gr w w')
 (w:World) (base:Nat) (e:TypeId) (v:Value) (n:Nat) (l:List α) (hown:w.ownsRow base e k v n (B4 enc l)) (hl:l.length<4611686018427387904):
 Calls P (ρ.f 6) #[v,.func (.func F) #[] #[]] w (AZ5 enc k (ltOf cf) w base e v l):=by
 obtain⟨rfl,a,cap,rfl,hcap,hels,hbase,hblk⟩:=O9 hk h0 hown;by_cases hz:l.length=0
 ·have hl0:l=[]:=List.eq_nil_of_length_eq_zero hz
  subst hl0;refine(AnyF.slices_SortFunc_none (P:=P) {L with} a cap (.func (.func F) #[] #[]) w).mono ?_;rintro _ _ ⟨rfl,rfl⟩;exact⟨rfl,World.grownBy.refl _ _,[],List.Perm.refl _,List.Pairwise.nil,hown⟩
 ·obtain⟨x,hx⟩:∃x,l[0]? =some x:=⟨l[0]'(by omega),A4 (by omega)⟩
  obtain⟨g,off,ha,hg,_⟩:=hels 0 x hx;subst ha;obtain rfl:off=0:=by
   obtain⟨_,⟨hbad,_⟩|⟨g',cap',cur,he,_⟩⟩:=hown
   ·cases hbad
   ·simp at he;exact he.1.2
  have hH:=kE (l:=l) hk h0 hown;have hcmp:CmpLays P F #[] enc k cf g 0 l.toArray.size w:=fun m os dk _ u v=>by
   have:=hc u v (sortWorldK enc k w g 0 m dk os);exact this
  have hs:=AnyQ.slices_SortFunc L k aE zE enc hk h1 cf hO F #[] g 0 cap l.toArray w eg hcmp hH hg (by simpa using hl);have hsz:l.toArray.size=l.length:=by simp
  rw[hsz]at hs;refine hs.mono ?_;rintro _ _ ⟨rfl,d,n,os,⟨p1,p2,p3⟩,hsd,rfl⟩;have hd:d.size=l.length:=by rw[p1,hsz]
  refine⟨rfl,kD _ _ _ _ _ _ _,d.toList,?_,?_,oT hk h0 hown d hd n os⟩
  ·rw[show d.extract 0 l.length=d from by rw[←hd];exact Array.extract_size,show l.toArray.extract 0 l.length=l.toArray from by simp]at p3
   simpa using p3
  ·rw[List.pairwise_iff_getElem]
   intro i j hi hj hij;have:=hsd i j (Nat.zero_le _) hij (by simpa[hd]using hj);rw[getElem!_pos d i (by simpa using hi),getElem!_pos d j (by simpa using hj)]at this;simpa using this
end
end
section
open Go.RowKit Go.ChangeMaps Go.Sort
def gD (u v:Ev):Int:=dD [R9 u.d v.d,R9 u.q v.q,l9 u v]
theorem AZ6 (u v:Ev):decide (gD u v<0)=aM u v:=by
 have he:=Ad7 u v;unfold T4 at he;have h1:aM u v=if u.d=v.d then(if u.q=v.q then lexB u.ks v.ks else decide (u.q<v.q))else decide (u.d<v.d):=by
  unfold aM Ev.ns;rw[lexB,lexB]
 rw[h1];unfold gD dD;generalize l9 u v=c at *;generalize lexB u.ks v.ks=z at *;unfold R9;by_cases h2:u.d=v.d
 ·rw[if_pos h2]
  by_cases h3:u.q=v.q
  ·rw[if_pos h3]
   subst he;by_cases hc:c=0
   ·simp[h2,h3,hc]
   ·simp[h2,h3,hc]
  ·rw[if_neg h3]
   by_cases h4:u.q<v.q
   ·simp[h2,h4]
   ·have h5:v.q<u.q:=by omega
    simp[h2,h4,h5]
 ·rw[if_neg h2]
  by_cases h4:u.d<v.d
  ·simp[h4]
  ·have h5:v.d<u.d:=by omega
   simp[h4,h5]
theorem AZ7 (u v:Ev) (w:World):Calls Tryz.prog 176 #[u.ag,v.ag] w fun e w'=>e= .returned (.int .i64 (gD u v))∧Gr w w':=by
 have hc:∀w,Calls Tryz.prog 177 #[.agg #[.int .i64 u.d,.int .i64 u.q,.int .i64 u.a,.int .i64 u.t,.int .i64 u.k,.int .i64 u.b,.int .i64 u.p,.int .i64 u.r,.int .i64 u.i],.agg #[.int .i64 v.d,.int .i64 v.q,.int .i64 v.a,.int .i64 v.t,.int .i64 v.k,.int .i64 v.b,.int .i64 v.p,.int .i64 v.r,.int .i64 v.i]] w fun e w'=>e= .returned (.int .i64 (l9 u v))∧Gr w w':=fun w=>Ad6 u v w;have HN:=A3 (show dD [R9 u.d v.d,R9 u.q v.q,l9 u v]=gD u v from rfl);generalize l9 u v=c at *;unfold Ev.ag;go_enter Tryz.func176,Tryz.ntmps176;go_upto_region 1 with fail;have D9:∀y:C3 ((w.alloc (.cells #[.int .i64 u.d,.int .i64 u.q,.int .i64 u.a,.int .i64 u.t,.int .i64 u.k,.int .i64 u.b,.int .i64 u.p,.int .i64 u.r,.int .i64 u.i] 63)).alloc (.cells #[.int .i64 v.d,.int .i64 v.q,.int .i64 v.a,.int .i64 v.t,.int .i64 v.k,.int .i64 v.b,.int .i64 v.p,.int .i64 v.r,.int .i64 v.i] 63)),y.w.cell? ⟨w.heap.size,0,none⟩=some (.int .i64 u.d):=C3.cell (by simp[go_sem]);have E7:∀y:C3 ((w.alloc (.cells #[.int .i64 u.d,.int .i64 u.q,.int .i64 u.a,.int .i64 u.t,.int .i64 u.k,.int .i64 u.b,.int .i64 u.p,.int .i64 u.r,.int .i64 u.i] 63)).alloc (.cells #[.int .i64 v.d,.int .i64 v.q,.int .i64 v.a,.int .i64 v.t,.int .i64 v.k,.int .i64 v.b,.int .i64 v.p,.int .i64 v.r,.int .i64 v.i] 63)),y.w.cell? ⟨w.heap.size,1,none⟩=some (.int .i64 u.q):=C3.cell (by simp[go_sem]);have F9:∀y:C3 ((w.alloc (.cells #[.int .i64 u.d,.int .i64 u.q,.int .i64 u.a,.int .i64 u.t,.int .i64 u.k,.int .i64 u.b,.int .i64 u.p,.int .i64 u.r,.int .i64 u.i] 63)).alloc (.cells #[.int .i64 v.d,.int .i64 v.q,.int .i64 v.a,.int .i64 v.t,.int .i64 v.k,.int .i64 v.b,.int .i64 v.p,.int .i64 v.r,.int .i64 v.i] 63)),y.w.cell? ⟨w.heap.size,2,none⟩=some (.int .i64 u.a):=C3.cell (by simp[go_sem]);have G0:∀y:C3 ((w.alloc (.cells #[.int .i64 u.d,.int .i64 u.q,.int .i64 u.a,.int .i64 u.t,.int .i64 u.k,.int .i64 u.b,.int .i64 u.p,.int .i64 u.r,.int .i64 u.i] 63)).alloc (.cells #[.int .i64 v.d,.int .i64 v.q,.int .i64 v.a,.int .i64 v.t,.int .i64 v.k,.int .i64 v.b,.int .i64 v.p,.int .i64 v.r,.int .i64 v.i] 63)),y.w.cell? ⟨w.heap.size,3,none⟩=some (.int .i64 u.t):=C3.cell (by simp[go_sem]);have G8:∀y:C3 ((w.alloc (.cells #[.int .i64 u.d,.int .i64 u.q,.int .i64 u.a,.int .i64 u.t,.int .i64 u.k,.int .i64 u.b,.int .i64 u.p,.int .i64 u.r,.int .i64 u.i] 63)).alloc (.cells #[.int .i64 v.d,.int .i64 v.q,.int .i64 v.a,.int .i64 v.t,.int .i64 v.k,.int .i64 v.b,.int .i64 v.p,.int .i64 v.r,.int .i64 v.i] 63)),y.w.cell? ⟨w.heap.size,4,none⟩=some (.int .i64 u.k):=C3.cell (by simp[go_sem]);have K4:∀y:C3 ((w.alloc (.cells #[.int .i64 u.d,.int .i64 u.q,.int .i64 u.a,.int .i64 u.t,.int .i64 u.k,.int .i64 u.b,.int .i64 u.p,.int .i64 u.r,.int .i64 u.i] 63)).alloc (.cells #[.int .i64 v.d,.int .i64 v.q,.int .i64 v.a,.int .i64 v.t,.int .i64 v.k,.int .i64 v.b,.int .i64 v.p,.int .i64 v.r,.int .i64 v.i] 63)),y.w.cell? ⟨w.heap.size,5,none⟩=some (.int .i64 u.b):=C3.cell (by simp[go_sem]);have O0:∀y:C3 ((w.alloc (.cells #[.int .i64 u.d,.int .i64 u.q,.int .i64 u.a,.int .i64 u.t,.int .i64 u.k,.int .i64 u.b,.int .i64 u.p,.int .i64 u.r,.int .i64 u.i] 63)).alloc (.cells #[.int .i64 v.d,.int .i64 v.q,.int .i64 v.a,.int .i64 v.t,.int .i64 v.k,.int .i64 v.b,.int .i64 v.p,.int .i64 v.r,.int .i64 v.i] 63)),y.w.cell? ⟨w.heap.size,6,none⟩=some (.int .i64 u.p):=C3.cell (by simp[go_sem]);have Q6:∀y:C3 ((w.alloc (.cells #[.int .i64 u.d,.int .i64 u.q,.int .i64 u.a,.int .i64 u.t,.int .i64 u.k,.int .i64 u.b,.int .i64 u.p,.int .i64 u.r,.int .i64 u.i] 63)).alloc (.cells #[.int .i64 v.d,.int .i64 v.q,.int .i64 v.a,.int .i64 v.t,.int .i64 v.k,.int .i64 v.b,.int .i64 v.p,.int .i64 v.r,.int .i64 v.i] 63)),y.w.cell? ⟨w.heap.size,7,none⟩=some (.int .i64 u.r):=C3.cell (by simp[go_sem]);have R0:∀y:C3 ((w.alloc (.cells #[.int .i64 u.d,.int .i64 u.q,.int .i64 u.a,.int .i64 u.t,.int .i64 u.k,.int .i64 u.b,.int .i64 u.p,.int .i64 u.r,.int .i64 u.i] 63)).alloc (.cells #[.int .i64 v.d,.int .i64 v.q,.int .i64 v.a,.int .i64 v.t,.int .i64 v.k,.int .i64 v.b,.int .i64 v.p,.int .i64 v.r,.int .i64 v.i] 63)),y.w.cell? ⟨w.heap.size,8,none⟩=some (.int .i64 u.i):=C3.cell (by simp[go_sem]);have T9:∀y:C3 ((w.alloc (.cells #[.int .i64 u.d,.int .i64 u.q,.int .i64 u.a,.int .i64 u.t,.int .i64 u.k,.int .i64 u.b,.int .i64 u.p,.int .i64 u.r,.int .i64 u.i] 63)).alloc (.cells #[.int .i64 v.d,.int .i64 v.q,.int .i64 v.a,.int .i64 v.t,.int .i64 v.k,.int .i64 v.b,.int .i64 v.p,.int .i64 v.r,.int .i64 v.i] 63)),y.w.cell? ⟨w.heap.size+1,0,none⟩=some (.int .i64 v.d):=C3.cell (by simp[go_sem]);have V9:∀y:C3 ((w.alloc (.cells #[.int .i64 u.d,.int .i64 u.q,.int .i64 u.a,.int .i64 u.t,.int .i64 u.k,.int .i64 u.b,.int .i64 u.p,.int .i64 u.r,.int .i64 u.i] 63)).alloc (.cells #[.int .i64 v.d,.int .i64 v.q,.int .i64 v.a,.int .i64 v.t,.int .i64 v.k,.int .i64 v.b,.int .i64 v.p,.int .i64 v.r,.int .i64 v.i] 63)),y.w.cell? ⟨w.heap.size+1,1,none⟩=some (.int .i64 v.q):=C3.cell (by simp[go_sem]);have i7:∀y:C3 ((w.alloc (.cells #[.int .i64 u.d,.int .i64 u.q,.int .i64 u.a,.int .i64 u.t,.int .i64 u.k,.int .i64 u.b,.int .i64 u.p,.int .i64 u.r,.int .i64 u.i] 63)).alloc (.cells #[.int .i64 v.d,.int .i64 v.q,.int .i64 v.a,.int .i64 v.t,.int .i64 v.k,.int .i64 v.b,.int .i64 v.p,.int .i64 v.r,.int .i64 v.i] 63)),y.w.cell? ⟨w.heap.size+1,2,none⟩=some (.int .i64 v.a):=C3.cell (by simp[go_sem]);have j7:∀y:C3 ((w.alloc (.cells #[.int .i64 u.d,.int .i64 u.q,.int .i64 u.a,.int .i64 u.t,.int .i64 u.k,.int .i64 u.b,.int .i64 u.p,.int .i64 u.r,.int .i64 u.i] 63)).alloc (.cells #[.int .i64 v.d,.int .i64 v.q,.int .i64 v.a,.int .i64 v.t,.int .i64 v.k,.int .i64 v.b,.int .i64 v.p,.int .i64 v.r,.int .i64 v.i] 63)),y.w.cell? ⟨w.heap.size+1,3,none⟩=some (.int .i64 v.t):=C3.cell (by simp[go_sem]);have j8:∀y:C3 ((w.alloc (.cells #[.int .i64 u.d,.int .i64 u.q,.int .i64 u.a,.int .i64 u.t,.int .i64 u.k,.int .i64 u.b,.int .i64 u.p,.int .i64 u.r,.int .i64 u.i] 63)).alloc (.cells #[.int .i64 v.d,.int .i64 v.q,.int .i64 v.a,.int .i64 v.t,.int .i64 v.k,.int .i64 v.b,.int .i64 v.p,.int .i64 v.r,.int .i64 v.i] 63)),y.w.cell? ⟨w.heap.size+1,4,none⟩=some (.int .i64 v.k):=C3.cell (by simp[go_sem]);have p7:∀y:C3 ((w.alloc (.cells #[.int .i64 u.d,.int .i64 u.q,.int .i64 u.a,.int .i64 u.t,.int .i64 u.k,.int .i64 u.b,.int .i64 u.p,.int .i64 u.r,.int .i64 u.i] 63)).alloc (.cells #[.int .i64 v.d,.int .i64 v.q,.int .i64 v.a,.int .i64 v.t,.int .i64 v.k,.int .i64 v.b,.int .i64 v.p,.int .i64 v.r,.int .i64 v.i] 63)),y.w.cell? ⟨w.heap.size+1,5,none⟩=some (.int .i64 v.b):=C3.cell (by simp[go_sem]);have i8:∀y:C3 ((w.alloc (.cells #[.int .i64 u.d,.int .i64 u.q,.int .i64 u.a,.int .i64 u.t,.int .i64 u.k,.int .i64 u.b,.int .i64 u.p,.int .i64 u.r,.int .i64 u.i] 63)).alloc (.cells #[.int .i64 v.d,.int .i64 v.q,.int .i64 v.a,.int .i64 v.t,.int .i64 v.k,.int .i64 v.b,.int .i64 v.p,.int .i64 v.r,.int .i64 v.i] 63)),y.w.cell? ⟨w.heap.size+1,6,none⟩=some (.int .i64 v.p):=C3.cell (by simp[go_sem]);have x9:∀y:C3 ((w.alloc (.cells #[.int .i64 u.d,.int .i64 u.q,.int .i64 u.a,.int .i64 u.t,.int .i64 u.k,.int .i64 u.b,.int .i64 u.p,.int .i64 u.r,.int .i64 u.i] 63)).alloc (.cells #[.int .i64 v.d,.int .i64 v.q,.int .i64 v.a,.int .i64 v.t,.int .i64 v.k,.int .i64 v.b,.int .i64 v.p,.int .i64 v.r,.int .i64 v.i] 63)),y.w.cell? ⟨w.heap.size+1,7,none⟩=some (.int .i64 v.r):=C3.cell (by simp[go_sem]);have aA:∀y:C3 ((w.alloc (.cells #[.int .i64 u.d,.int .i64 u.q,.int .i64 u.a,.int .i64 u.t,.int .i64 u.k,.int .i64 u.b,.int .i64 u.p,.int .i64 u.r,.int .i64 u.i] 63)).alloc (.cells #[.int .i64 v.d,.int .i64 v.q,.int .i64 v.a,.int .i64 v.t,.int .i64 v.k,.int .i64 v.b,.int .i64 v.p,.int .i64 v.r,.int .i64 v.i] 63)),y.w.cell? ⟨w.heap.size+1,8,none⟩=some (.int .i64 v.i):=C3.cell (by simp[go_sem]);have HG:=A3 (show Gr w ((w.alloc (.cells #[.int .i64 u.d,.int .i64 u.q,.int .i64 u.a,.int .i64 u.t,.int .i64 u.k,.int .i64 u.b,.int .i64 u.p,.int .i64 u.r,.int .i64 u.i] 63)).alloc (.cells #[.int .i64 v.d,.int .i64 v.q,.int .i64 v.a,.int .i64 v.t,.int .i64 v.k,.int .i64 v.b,.int .i64 v.p,.int .i64 v.r,.int .i64 v.i] 63))from(Gr.alloc _ _).trans (Gr.alloc _ _));obtain⟨y0,hy0⟩:=C3.refl ((w.alloc (.cells #[.int .i64 u.d,.int .i64 u.q,.int .i64 u.a,.int .i64 u.t,.int .i64 u.k,.int .i64 u.b,.int .i64 u.p,.int .i64 u.r,.int .i64 u.i] 63)).alloc (.cells #[.int .i64 v.d,.int .i64 v.q,.int .i64 v.a,.int .i64 v.t,.int .i64 v.k,.int .i64 v.b,.int .i64 v.p,.int .i64 v.r,.int .i64 v.i] 63));generalize hW:((w.alloc (.cells #[.int .i64 u.d,.int .i64 u.q,.int .i64 u.a,.int .i64 u.t,.int .i64 u.k,.int .i64 u.b,.int .i64 u.p,.int .i64 u.r,.int .i64 u.i] 63)).alloc (.cells #[.int .i64 v.d,.int .i64 v.q,.int .i64 v.a,.int .i64 v.t,.int .i64 v.k,.int .i64 v.b,.int .i64 v.p,.int .i64 v.r,.int .i64 v.i] 63))=W at *;clear hW;generalize w.heap.size=bx at *;rw[hy0];clear hy0;have k0_0:∀w',Gr W w'→w'.cell? ⟨bx,0,none⟩=some (.int .i64 u.d):=fun w' h=>D9 ⟨w',h⟩;have k0_1:∀w',Gr W w'→w'.cell? ⟨bx,1,none⟩=some (.int .i64 u.q):=fun w' h=>E7 ⟨w',h⟩;have k0_2:∀w',Gr W w'→w'.cell? ⟨bx,2,none⟩=some (.int .i64 u.a):=fun w' h=>F9 ⟨w',h⟩;have k0_3:∀w',Gr W w'→w'.cell? ⟨bx,3,none⟩=some (.int .i64 u.t):=fun w' h=>G0 ⟨w',h⟩;have k0_4:∀w',Gr W w'→w'.cell? ⟨bx,4,none⟩=some (.int .i64 u.k):=fun w' h=>G8 ⟨w',h⟩;have k0_5:∀w',Gr W w'→w'.cell? ⟨bx,5,none⟩=some (.int .i64 u.b):=fun w' h=>K4 ⟨w',h⟩;have k0_6:∀w',Gr W w'→w'.cell? ⟨bx,6,none⟩=some (.int .i64 u.p):=fun w' h=>O0 ⟨w',h⟩;have k0_7:∀w',Gr W w'→w'.cell? ⟨bx,7,none⟩=some (.int .i64 u.r):=fun w' h=>Q6 ⟨w',h⟩;have k0_8:∀w',Gr W w'→w'.cell? ⟨bx,8,none⟩=some (.int .i64 u.i):=fun w' h=>R0 ⟨w',h⟩;have k1_0:∀w',Gr W w'→w'.cell? ⟨bx+1,0,none⟩=some (.int .i64 v.d):=fun w' h=>T9 ⟨w',h⟩;have k1_1:∀w',Gr W w'→w'.cell? ⟨bx+1,1,none⟩=some (.int .i64 v.q):=fun w' h=>V9 ⟨w',h⟩;have k1_2:∀w',Gr W w'→w'.cell? ⟨bx+1,2,none⟩=some (.int .i64 v.a):=fun w' h=>i7 ⟨w',h⟩;have k1_3:∀w',Gr W w'→w'.cell? ⟨bx+1,3,none⟩=some (.int .i64 v.t):=fun w' h=>j7 ⟨w',h⟩;have k1_4:∀w',Gr W w'→w'.cell? ⟨bx+1,4,none⟩=some (.int .i64 v.k):=fun w' h=>j8 ⟨w',h⟩;have k1_5:∀w',Gr W w'→w'.cell? ⟨bx+1,5,none⟩=some (.int .i64 v.b):=fun w' h=>p7 ⟨w',h⟩;have k1_6:∀w',Gr W w'→w'.cell? ⟨bx+1,6,none⟩=some (.int .i64 v.p):=fun w' h=>i8 ⟨w',h⟩;have k1_7:∀w',Gr W w'→w'.cell? ⟨bx+1,7,none⟩=some (.int .i64 v.r):=fun w' h=>x9 ⟨w',h⟩;have k1_8:∀w',Gr W w'→w'.cell? ⟨bx+1,8,none⟩=some (.int .i64 v.i):=fun w' h=>aA ⟨w',h⟩;clear D9 E7 F9 G0 G8 K4 O0 Q6 R0 T9 V9 i7 j7 j8 p7 i8 x9 aA;go_region_held3 (fun w'=>Gr W w') (first|assumption|exact Gr.drew' (C3.g _)|exact C3.g _|exact Gr.trans (by assumption) (by assumption)|exact Gr.alloc' (by assumption) _|exact Gr.alloc' (Gr.drew' (C3.g _)) _) (first|(go_at_call 34;((with_reducible refine(fT _ _ _).mono ?_);rintro _ _ ⟨rfl,rfl⟩))|(go_at_call 177;((with_reducible refine(hc _).mono ?_);rintro _ w1 ⟨rfl,hg1⟩;(have hgW:Gr W w1:=Gr.trans (by first|assumption|exact Gr.drew' (C3.g _)|exact C3.g _) hg1);clear hg1))|(go_at_call 52;((with_reducible refine(oZ _ _ _ _ _).mono ?_);rintro _ _ ⟨rfl,rfl⟩))|(go_at_call 52;((with_reducible refine(Ab9 _ _ _ _ _).mono ?_);rintro _ _ ⟨rfl,rfl⟩)));all_goals
  go_wp2_with fail;go_ret;exact⟨D5 HN.out,HG.out.trans (by first|assumption|exact Gr.alloc' (by assumption) _|exact Gr.drew' (Gr.alloc' (by assumption) _)|exact Gr.alloc' (Gr.drew' (C3.g _)) _|exact Gr.drew' (C3.g _))⟩
end
section
open Go.RowKit Go.ChangeMaps Go.Sort Go.Shelf Go.Lib
theorem vT:ltOf l9=T4:=by
 funext x y;unfold ltOf;exact Ad7 x y
theorem AZ8:SWO (ltOf l9):=by
 rw[vT];exact⟨uB,fun x y z h1 h2=>uC h1 h2,fun x y z h1 h2=>Ad1 h1 h2⟩
theorem qL (x:Ev):∀v∈x.cs,v.oneCell'=true:=fun v hv=>by
 simp[Ev.cs]at hv;rcases hv with rfl|rfl|rfl|rfl|rfl|rfl|rfl|rfl|rfl<;>rfl
theorem vU:ltOf gD=aM:=by
 funext x y;unfold ltOf;exact AZ6 x y
theorem AZ9:SWO (ltOf gD):=by
 rw[vU];exact⟨AY0,fun x y z h1 h2=>Ak6 h1 h2,fun x y z h1 h2=>AY1 h1 h2⟩
def Al4 (srt:List Ev→List Ev) (w:World) (base:Nat) (v:Value) (l:List Ev) (e:Ending) (w':World):Prop:=
 e= .returned (.tuple #[])∧w.grownBy w' v.ownBlock∧w'.ownsRow base 63 9 v l.length (B4 Ev.cs (srt l))
theorem Ba0 (w:World) (base:Nat) (v:Value) (n:Nat) (l:List Ev) (hown:w.ownsRow base 63 9 v n (B4 Ev.cs l)) (hl:l.length<4611686018427387904):
 Calls Tryz.prog 91 #[v,.func (.func 177) #[] #[]] w (Al4 fV w base v l):=by
 obtain⟨rfl,a,cap,rfl,hcap,hels,hbase,hblk⟩:=O9 b9 (by decide) hown;by_cases h0:l.length=0
 ·have hl0:l=[]:=List.eq_nil_of_length_eq_zero h0
  subst hl0;have hc:=AnyF.slices_SortFunc_none {Tryz.sortEv with} a cap (.func (.func 177) #[] #[]) w;change Calls Tryz.prog 91 _ _ _ at hc;refine hc.mono ?_;rintro _ _ ⟨rfl,rfl⟩;exact⟨rfl,World.grownBy.refl _ _,by rw[show fV []=[]from by simp[fV]];exact hown⟩
 ·obtain⟨x,hx⟩:∃x,l[0]? =some x:=⟨l[0]'(by omega),A4 (by omega)⟩
  obtain⟨g,off,ha,hg,_⟩:=hels 0 x hx;subst ha;obtain rfl:off=0:=by
   obtain⟨_,⟨hbad,_⟩|⟨g',cap',cur,he,_⟩⟩:=hown
   ·cases hbad
   ·simp at he;exact he.1.2
  have hH:=kE (l:=l) b9 (by decide) hown;have eg:∀args w,(callFunc 177 args).run Tryz.prog w= .ok (.enter 177 args) w:=enters_of Tryz.func177 (by kernel_rfl) rfl;have hcmp:CmpLays Tryz.prog 177 #[] Ev.cs 9 l9 g 0 l.toArray.size w:=fun m os dk _ u v=>by
   have:=Ad6 u v (sortWorldK Ev.cs 9 w g 0 m dk os);exact this
  have hc:=AnyQ.slices_SortFunc_total Tryz.sortEv 9 Tryz.isAgg63 Tryz.sizeOf63 Ev.cs b9 qL l9 AZ8 177 #[] g 0 cap l.toArray w eg hcmp hH hg (by simpa using hl) (fun u v h1 h2=>by rw[vT]at h1 h2;exact Ac9 h1 h2);change Calls Tryz.prog 91 _ _ _ at hc;refine hc.mono ?_;rintro _ _ ⟨rfl,n,os,rfl⟩;have hsort:(l.toArray.toList.mergeSort fun x y=>!ltOf l9 y x)=fV l:=by rw[vT];rfl
  rw[hsort];refine⟨rfl,kD _ _ _ _ _ _ _,?_⟩;have:=oT b9 (by decide) hown (fV l).toArray (by simp[Ad3]) n os;simpa using this
theorem Ba1 (w:World) (base:Nat) (v:Value) (n:Nat) (l:List Ev) (hown:w.ownsRow base 63 9 v n (B4 Ev.cs l)) (hl:l.length<4611686018427387904):
 Calls Tryz.prog 91 #[v,.func (.func 176) #[] #[]] w (Al4 eE w base v l):=by
 obtain⟨rfl,a,cap,rfl,hcap,hels,hbase,hblk⟩:=O9 b9 (by decide) hown;by_cases h0:l.length=0
 ·have hl0:l=[]:=List.eq_nil_of_length_eq_zero h0
  subst hl0;have hc:=AnyF.slices_SortFunc_none {Tryz.sortEv with} a cap (.func (.func 176) #[] #[]) w;change Calls Tryz.prog 91 _ _ _ at hc;refine hc.mono ?_;rintro _ _ ⟨rfl,rfl⟩;exact⟨rfl,World.grownBy.refl _ _,by rw[show eE []=[]from by simp[eE]];exact hown⟩
 ·obtain⟨x,hx⟩:∃x,l[0]? =some x:=⟨l[0]'(by omega),A4 (by omega)⟩
  obtain⟨g,off,ha,hg,_⟩:=hels 0 x hx;subst ha;obtain rfl:off=0:=by
   obtain⟨_,⟨hbad,_⟩|⟨g',cap',cur,he,_⟩⟩:=hown
   ·cases hbad
   ·simp at he;exact he.1.2
  have hH:=kE (l:=l) b9 (by decide) hown;have eg:∀args w,(callFunc 176 args).run Tryz.prog w= .ok (.enter 176 args) w:=enters_of Tryz.func176 (by kernel_rfl) rfl;have hcmp:CmpLays Tryz.prog 176 #[] Ev.cs 9 gD g 0 l.toArray.size w:=fun m os dk _ u v=>by
   have:=AZ7 u v (sortWorldK Ev.cs 9 w g 0 m dk os);exact this
  have hc:=AnyQ.slices_SortFunc_total Tryz.sortEv 9 Tryz.isAgg63 Tryz.sizeOf63 Ev.cs b9 qL gD AZ9 176 #[] g 0 cap l.toArray w eg hcmp hH hg (by simpa using hl) (fun u v h1 h2=>by rw[vU]at h1 h2;exact Ak7 h1 h2);change Calls Tryz.prog 91 _ _ _ at hc;refine hc.mono ?_;rintro _ _ ⟨rfl,n,os,rfl⟩;have hsort:(l.toArray.toList.mergeSort fun x y=>!ltOf gD y x)=eE l:=by rw[vU];rfl
  rw[hsort];refine⟨rfl,kD _ _ _ _ _ _ _,?_⟩;have:=oT b9 (by decide) hown (eE l).toArray (by simp[vN]) n os;simpa using this
end
section
open Go.RowKit
theorem Al5:M6 Tryz.prog 25 63 (.agg #[.int .i64 0,.int .i64 0,.int .i64 0,.int .i64 0,.int .i64 0,.int .i64 0,.int .i64 0,.int .i64 0,.int .i64 0]) 9 72:=M6.mk' Tryz.underlying25 (by kernel_rfl) rfl (by decide)
def eF (w:World) (T:TypeId) (k n:Nat) (xs:List Value) (o:Ending) (w':World):Prop:=
 ∃(a:Option Addr) (c:Nat) (y:A7 w),o= .returned (.slice a n c)∧w'=y.w∧y.w.ownsRow w.heap.size T k (.slice a n c) n xs
theorem Ba2 (w:World) (x:A7 w) (a:Option Addr) (l:List Ev) (c:Nat) (h:D0 Ev.cs 9 w a l) (hl:l.length≤100000):
 Calls Tryz.prog 175 #[.slice a l.length c] x.w (eF w 63 9 l.length (B4 Ev.cs l)):=by
 have H:=A3 h;have Hp:=A3 (fun(a':Option Addr) (c':Nat) (y:A7 w) (h:y.w.ownsRow w.heap.size 63 9 (.slice a' l.length c') l.length (B4 Ev.cs l))=>show eF w 63 9 l.length (B4 Ev.cs l) (.returned (.slice a' l.length c')) y.w from⟨a',c',y,rfl,rfl,h⟩);generalize eF w 63 9 l.length (B4 Ev.cs l)=PO at *;clear h;have qn:=fun(w:World) (a:Option Addr) (n c n' c':Nat)=>Lib.run_eql_slice_nil (P:=Tryz.prog) w _ _ a n c n' c' Tryz.underlying25
 cases a with
 |none=>
  have hn:l=[]:=by
   cases l with
   |nil=>rfl
   |cons e l=>obtain⟨b,off,hb,_⟩:=H.out 0 e rfl;cases hb
  subst hn
  have HB:=A3 (Hp.out none 0 x ⟨rfl,.inl ⟨rfl,rfl⟩⟩)
  go_enter Tryz.func175,Tryz.ntmps175
  go_wp2_with fail
  exact HB.out
 |some ad=>
  go_enter Tryz.func175,Tryz.ntmps175
  go_wp2_with(at_builtin;(refine cY (w0:=w) (enc:=Ev.cs) (k:=9) b9 (by decide) qL ?hw rfl _ _ 25 rfl w.heap.size (Nat.le_refl _) ?hb 63 (.agg #[.int .i64 0,.int .i64 0,.int .i64 0,.int .i64 0,.int .i64 0,.int .i64 0,.int .i64 0,.int .i64 0,.int .i64 0]) 72 Al5 (.slice (some ⟨x.w.heap.size,0,none⟩) 0 0) 0 [] rfl ?hown (some ad) l c rfl ?hels (fun h=>by cases h) ?h63 ?hbytes ?_;rotate_right 1;intro v2 q2 hown2 _ hg2;refine Hid.out ?_))
  case hw=>exact A8.alloc (A8.of x) _
  case hb=>have:=x.b.size;simp;omega
  case hown=>exact jW (k:=9) (cZ.new x.w _) x.b.size
  case hels=>exact(A7.els H.out x).to (A8.alloc (A8.self _) _)
  case h63=>unfold maxLen;omega
  case hbytes=>omega
  rw[List.nil_append,Nat.zero_add]at hown2
  obtain⟨_,a5,c5,rfl,_⟩:=O9 b9 (by decide) hown2
  have HB:=A3 (Hp.out a5 c5 q2 hown2)
  clear hown2 hg2
  refine A3 ?_
  go_wp2_with fail
  exact HB.out
end
section
open Go.RowKit
theorem Ba3 (w:World) (x:A7 w) (a:Option Addr) (l:List Ev) (c:Nat) (h:D0 Ev.cs 9 w a l) (hl:l.length≤100000):
 Calls Tryz.prog 122 #[.slice a l.length c] x.w (iF w 63 9 (B4 Ev.cs (P9 l))):=by
 have H:=A3 h;have HP:=A3 (fun(a:Option Addr) (n c:Nat) (y:A7 w) (h:y.w.ownsRow w.heap.size 63 9 (.slice a n c) n (B4 Ev.cs (P9 l)))=>show iF w 63 9 (B4 Ev.cs (P9 l)) (.returned (.slice a n c)) y.w from⟨a,n,c,y,rfl,rfl,h⟩);have HN:=A3 (vN l);have HK:=A3 (show(P8 (eE l) l.length).length≤l.length from qJ _ _);generalize iF w 63 9 (B4 Ev.cs (P9 l))=PO at *;clear h;go_enter Tryz.func122,Tryz.ntmps122;go_wp2_with fail;have h1:=Ba2 w x a l c H.out hl;refine h1.mono ?_;clear h1;rintro _ _ ⟨a1,c1,y1,rfl,rfl,hown⟩;have h2:=Ba1 y1.w w.heap.size _ _ l hown (by omega);have Hb:=A3 (aZ hown);clear hown;go_wp2_with fail;refine h2.mono ?_;clear h2;rintro _ w2 ⟨rfl,hg,hown⟩;obtain⟨y2,rfl⟩:=y1.grown hg Hb.out;clear hg Hb;have h3:=AZ4 w y2 _ _ (eE l) hown (by rw[HN.out];exact hl);rw[HN.out]at h3;clear hown;go_wp2_with fail;refine h3.mono ?_;clear h3;rintro _ _ ⟨a3,n3,c3,y3,rfl,rfl,hown⟩;obtain⟨hn3,_⟩:=O9 b9 (by decide) hown;have h4:=Ba0 y3.w w.heap.size _ _ _ hown (by have:=HK.out;omega);have Hb:=A3 (aZ hown);have Hn:=A3 hn3;clear hown hn3;go_wp2_with fail;refine h4.mono ?_;clear h4;rintro _ w4 ⟨rfl,hg,hown⟩;obtain⟨y4,rfl⟩:=y3.grown hg Hb.out;have HR:=A3 (HP.out a3 n3 c3 y4 (by rw[Hn.out];rw[Hn.out]at hown;exact hown));clear hown hg Hb;go_wp2_with fail;exact HR.out
end
end Go.Proofs.YtmmlmhnjjfnpnaaGreat
