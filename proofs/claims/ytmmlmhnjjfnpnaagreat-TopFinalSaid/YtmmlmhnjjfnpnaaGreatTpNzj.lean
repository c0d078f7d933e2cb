/- Texts that belong together. -/
import Derived.Test.YtmmlmhnjjfnpnaaGreatTpNzd
import Derived.Test.YtmmlmhnjjfnpnaaGreatTpNzi
import Derived.IntWalk
set_option linter.all false
namespace Go.Proofs.YtmmlmhnjjfnpnaaGreat
set_option maxRecDepth 200000
set_option maxHeartbeats 64000000
section
open Go.RowKit Go.ChangeMaps Go.Sort Go.Shelf Go.Lib
def Bm6 (w:World) (base:Nat) (v:Value) (l:List Ev) (e:Ending) (w':World):Prop:=
 e= .returned (.tuple #[])∧w.grownBy w' v.ownBlock∧∃a cap,v= .slice a l.length cap∧l.length≤cap∧Ah8 w' a (J3 l)∧(∀b,a=some b→base≤b.block)∧(∀b off,a=some ⟨b,off,none⟩→∀j,j<l.length*9→w'.frozen? ⟨b,off+j,none⟩=false)
theorem Bm7 (w:World) (base:Nat) (v:Value) (n:Nat) (l:List Ev) (hown:w.ownsRow base 63 9 v n (B6 Ev.cs l)) (hl:l.length<4611686018427387904):
 Calls Tryz.prog 91 #[v,.func (.func 92) #[] #[]] w (Bm6 w base v l):=by
 obtain⟨rfl,a,cap,rfl,hcap,hels,hbase,hblk⟩:=P2 U5 (by decide) hown;by_cases h0:l.length=0
 ·have hl0:l=[]:=List.eq_nil_of_length_eq_zero h0
  subst hl0;have hc:=AnyF.slices_SortFunc_none {Tryz.sortEv with} a cap (.func (.func 92) #[] #[]) w;change Calls Tryz.prog 91 _ _ _ at hc;refine hc.mono ?_;rintro _ _ ⟨rfl,rfl⟩;exact⟨rfl,World.grownBy.refl _ _,a,cap,rfl,hcap,by rw[show J3 []=[]from by simp[J3]];exact eB _ _,hbase,fun b off h j hj=>by simp at hj⟩
 ·obtain⟨x,hx⟩:∃x,l[0]? =some x:=⟨l[0]'(by omega),A3 (by omega)⟩
  obtain⟨g,off,ha,hg,_⟩:=hels 0 x hx;subst ha;obtain rfl:off=0:=by
   obtain⟨_,⟨hbad,_⟩|⟨g',cap',cur,he,_⟩⟩:=hown
   ·cases hbad
   ·simp at he;exact he.1.2
  have hH:=iN (l:=l) U5 (by decide) hown;have eg:∀args w,(callFunc 92 args).run Tryz.prog w= .ok (.enter 92 args) w:=enters_of Tryz.func92 (by kernel_rfl) rfl;have hcmp:CmpLays Tryz.prog 92 #[] Ev.cs 9 U6 g 0 l.toArray.size w:=fun m os dk _ u v=>by
   have:=AS4 u v (sortWorldK Ev.cs 9 w g 0 m dk os);exact this
  have hc:=AnyQ.slices_SortFunc_total Tryz.sortEv 9 Tryz.isAgg63 Tryz.sizeOf63 Ev.cs U5 jD U6 An4 92 #[] g 0 cap l.toArray w eg hcmp hH hg (by simpa using hl) (fun u v h1 h2=>by rw[nI]at h1 h2;exact qB h1 h2);change Calls Tryz.prog 91 _ _ _ at hc;refine hc.mono ?_;rintro _ _ ⟨rfl,n,os,rfl⟩;have hsort:(l.toArray.toList.mergeSort fun x y=>!ltOf U6 y x)=J3 l:=by rw[nI];rfl
  rw[hsort];have hh:=holdsK_sortWorldK_c Ev.cs 9 w g 0 l.toArray (J3 l).toArray n os hH hg (by simp[fI]);refine⟨rfl,fZ _ _ _ _ _ _ _,_,cap,rfl,hcap,?_,hbase,?_⟩
  ·have:=Ad5 U5 hh (Nat.lt_of_lt_of_le hg (fZ _ _ _ _ _ _ _).size)
   simpa using this
  ·intro b off hb j hj
   have hb':g=b∧0=off:=by simpa using hb
   obtain⟨rfl,rfl⟩:=hb';exact(hh j (by rw[size_flatK];simpa[fI]using hj)).2
end
section
open Go.RowKit Go.ChangeMaps Go.Sort
theorem evs:O7 Tryz.prog 25 63 (⟨0,0,0,0,0,0,0,0,0⟩:Ev).ag 9 72:=O7.mk' (by kernel_rfl) (by kernel_rfl) rfl (by decide)
def rZ (w0:World) (l:List Ev) (o:Ending) (w':World):Prop:=
 ∃(a:Option Addr) (cap:Nat) (y:A6 w0),o= .returned (.slice a l.length cap)∧w'=y.w∧l.length≤cap∧Ah8 y.w a l∧(∀b,a=some b→w0.heap.size≤b.block)∧(∀b off,a=some ⟨b,off,none⟩→∀j,j<l.length*9→y.w.frozen? ⟨b,off+j,none⟩=false)
theorem As3 {a:Option Addr} {n m c:Nat} (h:n=m):Ending.returned (.slice a n c)= .returned (.slice a m c):=by rw[h]
theorem Bm8 {seen:List Int} {d:Int} (h0:0≤d) (h:d<(seen.length:Int)):eH seen d=B2 seen d.toNat:=by unfold eH;rw[if_pos h]
theorem Bm9 {seen:List Int} {d:Int} (h:¬d<(seen.length:Int)):eH seen d=0:=by unfold eH;rw[if_neg h]
theorem Bn0 (w:World) (x:A6 w) (p bm:Nat) (n:Int) (l:List Ev) (sa:Option Addr) (seen:List Int) (sc:Nat) (hR:R8 w p bm n l) (hI:W9 n l) (hs:Q9 w sa seen) (hsl:seen.length≤9223372036854775807):
 Calls Tryz.prog 44 #[.pointer (some ⟨p,0,none⟩),.slice sa seen.length sc] x.w (rZ w (mY l seen)):=by
 have hc1:∀y:A6 w,y.w.cell? ⟨p,1,none⟩=some (.map (some bm)):=fun y=>(hR.since y).c1;have HI:=A2 hI;have hlen:=hI.len;clear hI;go_enter Tryz.func44,Tryz.ntmps44;go_wp2_with(at_range;refine Aa3 (w0:=w) ⟨_,rfl⟩ rfl _ _ rfl Tryz.underlying118 rfl (hR.since _).m ?_;intro q r hm hit hr0 hrs hgr);have hM:=hR.m;clear hm hrs hgr;go_frame
 go_loopw [5] (fun v wr=>∃(sn:Array Nat) (y:A6 w),wr=y.w∧L5 wr bm r (l.map U0).length sn∧o7 (l.map U0).length sn∧∃m:Nat,wr.ownsRow w.heap.size 63 9 v m (B6 Ev.cs ((f9 l sn).filter (t6 seen)))) (fun _ wr=>dK wr r)
 case atStart=>exact⟨#[],q,rfl,hit,tR _,0,rfl,.inl ⟨rfl,rfl⟩⟩
 case round=>
  clear hit;obtain⟨sn,y,rfl,hit,hso,m,hown⟩:=hrel;have F5:=A2 hown;clear hown;have Hit:=A2 hit;have Hso:=A2 hso;go_wp2_with(at_next;refine Aa4 (w0:=w) ⟨_,rfl⟩ rfl _ rfl hr0 rfl (hM.since _) hit hso ?_ ?_)
  ·intro hdone
   have hperm:=A2 (AH6 (by have:=Hso.out;rwa[List.length_map]at this) hdone);clear hdone hs;have hfl:((f9 l sn).filter (t6 seen)).length≤512:=by
    have h2:=List.length_filter_le (t6 seen) (f9 l sn);have h3:=Aa2 l sn;have h4:=Hso.out.size;rw[List.length_map]at h4;omega
   have hsc:=Bm7 y.w w.heap.size u5 m ((f9 l sn).filter (t6 seen)) F5.out (by omega);have hob:=A2 (dI F5.out);have hsort:J3 ((f9 l sn).filter (t6 seen))=mY l seen:=AP5 (hperm.out.filter _);have hll:((f9 l sn).filter (t6 seen)).length=(mY l seen).length:=by rw[←hsort,fI]
   have tA:=A2 hsort;have Hll:=A2 hll;have Hsc:=A2 hsc;clear hsc hsort hll hit hso;generalize(f9 l sn).filter (t6 seen)=fl at *;go_wp2_with fail;refine Hsc.out.mono ?_;rintro _ w2 ⟨rfl,hg,a,cap,rfl,hcap,hels,hbase,hfz⟩;obtain⟨z,rfl⟩:=y.grown hg hob.out;have yL:=A2 hels;have Hfz:=A2 hfz;have yK:=A2 hbase;clear hels hfz hbase hg;go_wp2_with fail;go_ret;exact⟨a,cap,z,As3 Hll.out,rfl,by rw[←Hll.out];exact hcap,by rw[←tA.out];exact yL.out,yK.out,by rw[←Hll.out];exact Hfz.out⟩
  ·intro i a b vv q x hi hev hn hm hit2 iI hgr hen
   simp only[U0,Prod.mk.injEq]at hev;obtain⟨⟨rfl,rfl⟩,rfl⟩:=hev;simp only[gP,Ev.ag]at hen⊢;have hown2:=A2 (kC F5.out hgr (fun b hb e=>iK F5.out hit (by simp) b hb (by simpa using e)));clear hm hgr;have lN:=A2 hit2;have eU:=A2 iI;clear hit2 iI;have Hi:=A2 hi;clear hi;go_upto_region 7 with fail;obtain⟨y2,e2,C5,hsz0,hlt0,HX0,HX1⟩:=Ac3 q [.int .i64 x.d,.int .i64 x.q] 122 [.int .i64 x.d,.int .i64 x.q,.int .i64 x.a,.int .i64 x.t,.int .i64 x.k,.int .i64 x.b,.int .i64 x.p,.int .i64 x.r,.int .i64 x.i] 63;rw[e2];obtain⟨BJ6,BJ7,BJ8⟩:=cQ HX0;obtain⟨BJ9,BK0,BK1,BK2,BK3,BK4,BK5,BK6,BK7,BK8⟩:=fY HX1;(have hown3:=A2 (I6 hown2.out C5));(have hit3:=A2 (lN.out.to C5))
   clear e2 C5;generalize q.w.heap.size=g at *;obtain⟨BF4,BF5,BF6⟩:=o8 HX0;obtain⟨BF7,BF8,BF9,BG0,BG1,BG2,BG3,BG4,BG5,BG6⟩:=j2 HX1;have I5:=A2 (And.intro hsz0 hlt0);clear hlt0 hsz0 HX0 HX1;have hxr:=HI.out.rng x (A0 Hi.out);have AC0:=A2 (AH5 (seen:=sn) Hi.out);have hcl:m≤512:=by
    have h1:=(P2 U5 (by decide) F5.out).1;have h2:=List.length_filter_le (t6 seen) (f9 l sn);have h3:=Aa2 l sn;have h4:=Hso.out.size;rw[List.length_map]at h4;omega
   have AD0:dK y2.w r<dK y.w r:=pD Hit.out (by rw[List.length_map];exact hit3.out) (by rw[List.length_map];exact eU.out);have AA2:=A2 AD0;clear AD0;have hz:(x.d:Int)=((x.d.toNat:Nat):Int):=by omega
   have hcase:(x.d<(seen.length:Int)∧∀y:A6 w,∃b2 off2,sa=some ⟨b2,off2,none⟩∧y.w.cell? ⟨b2,off2+x.d.toNat,none⟩=some (.int .i64 (eH seen x.d)))∨(¬x.d<(seen.length:Int)∧eH seen x.d=0):=by
    by_cases hd:x.d<(seen.length:Int)
    ·refine .inl ⟨hd,fun y=>?_⟩
     obtain⟨b2,off2,rfl,_,_⟩:=hs x.d.toNat (by omega);exact⟨b2,off2,rfl,by rw[Bm8 hxr.1 hd];exact A6.at hs x.d.toNat (by omega) y⟩
    ·exact .inr ⟨hd,Bm9 hd⟩
   have AD4:t6 seen x=decide (eH seen x.d<x.q):=rfl;have h0:=hxr.1;generalize eH seen x.d=last at *;have AA3:=A2 AD4;clear AD4 hz;have AC1:¬last<x.q→∃(sn':Array Nat) (y':A6 w),y2.w=y'.w∧L5 y2.w bm r (l.map U0).length sn'∧o7 (l.map U0).length sn'∧∃m:Nat,y2.w.ownsRow w.heap.size 63 9 u5 m (B6 Ev.cs ((f9 l sn').filter (t6 seen))):=fun hlt=>
    ⟨sn.push i,y2,rfl,by rw[List.length_map];exact hit3.out,by rw[List.length_map];exact eU.out,m,by
     rw[AC0.out,List.filter_append,List.filter_cons,AA3.out,decide_eq_false hlt];simpa using hown3.out⟩
   have AC2:last<x.q→∀(v2:Value) (q2:A6 w),q2.w.ownsRow w.heap.size 63 9 v2 (m+1) (B6 Ev.cs ((f9 l sn).filter (t6 seen)) ++ x.cs)→L5 q2.w bm r l.length (sn.push i)→(∃(sn':Array Nat) (y':A6 w),q2.w=y'.w∧L5 q2.w bm r (l.map U0).length sn'∧o7 (l.map U0).length sn'∧∃m:Nat,q2.w.ownsRow w.heap.size 63 9 v2 m (B6 Ev.cs ((f9 l sn').filter (t6 seen))))∧dK q2.w r<dK y.w r:=fun hlt v2 q2 h1 h2=>
    ⟨⟨sn.push i,q2,rfl,by rw[List.length_map];exact h2,by rw[List.length_map];exact eU.out,m+1,by
     rw[AC0.out,List.filter_append,List.filter_cons,AA3.out,decide_eq_true hlt,if_pos rfl,List.filter_nil,X7,X8];exact h1⟩,pD Hit.out (by rw[List.length_map];exact h2) (by rw[List.length_map];exact eU.out)⟩
   have Az7:=A2 AC1;have Az8:=A2 AC2;clear AC1 AC2 hxr;rcases hcase with⟨hd,hcs⟩|⟨hd,rfl⟩
   ·obtain⟨b2,off2,rfl,_⟩:=hcs (A6.self w)
    have hcs2:∀y:A6 w,y.w.cell? ⟨b2,off2+x.d.toNat,none⟩=some (.int .i64 last):=fun y=>by
     obtain⟨b3,off3,e,h⟩:=hcs y;simp at e;obtain⟨rfl,rfl⟩:=e;exact h
    clear hcs hs;by_cases hlt:last<x.q
    ·go_wp2_with(at_builtin;(refine cP (w0:=w) ?hw rfl _ _ 25 rfl w.heap.size (Nat.le_refl _) ?hb 63 (⟨0,0,0,0,0,0,0,0,0⟩:Ev).ag 72 evs u5 m (B6 Ev.cs ((f9 l sn).filter (t6 seen))) rfl ?hown ⟨y2.w.heap.size,0,none⟩ 1 1 x.cs rfl rfl ?hc (jD x) ?h63 ?hbytes ?_;rotate_right 1;intro v2 q2 hown4 _ hg4))
     case hw=>exact y2.alloc _
     case hb=>have:=y2.b.size;simp;omega
     case hown=>exact I6 hown3.out (A7.alloc (A7.self _) _)
     case hc=>exact fun _ _ h=>h
     case h63=>unfold maxLen;omega
     case hbytes=>omega
     have zG:=A2 (L5.keep (L5.to hit3.out (A7.alloc (A7.self _) _)) hg4 (fun e=>iK hown3.out hit3.out (by simp) _ e.symm rfl));have Q7:=A2 hown4;clear hown4 hg4;go_wp2_with fail;exact Az8.out hlt _ _ Q7.out zG.out
    ·go_wp2_with fail
     exact⟨Az7.out hlt,AA2.out⟩
   ·by_cases hlt:(0:Int)<x.q
    ·go_wp2_with(at_builtin;(refine cP (w0:=w) ?hw rfl _ _ 25 rfl w.heap.size (Nat.le_refl _) ?hb 63 (⟨0,0,0,0,0,0,0,0,0⟩:Ev).ag 72 evs u5 m (B6 Ev.cs ((f9 l sn).filter (t6 seen))) rfl ?hown ⟨y2.w.heap.size,0,none⟩ 1 1 x.cs rfl rfl ?hc (jD x) ?h63 ?hbytes ?_;rotate_right 1;intro v2 q2 hown4 _ hg4))
     case hw=>exact y2.alloc _
     case hb=>have:=y2.b.size;simp;omega
     case hown=>exact I6 hown3.out (A7.alloc (A7.self _) _)
     case hc=>exact fun _ _ h=>h
     case h63=>unfold maxLen;omega
     case hbytes=>omega
     have zG:=A2 (L5.keep (L5.to hit3.out (A7.alloc (A7.self _) _)) hg4 (fun e=>iK hown3.out hit3.out (by simp) _ e.symm rfl));have Q7:=A2 hown4;clear hown4 hg4;go_wp2_with fail;exact Az8.out hlt _ _ Q7.out zG.out
    ·go_wp2_with fail
     exact⟨Az7.out hlt,AA2.out⟩
theorem As4 (w:World) (x:A6 w) (p bm:Nat) (n:Int) (l:List Ev) (hR:R8 w p bm n l) (hI:W9 n l):
 Calls Tryz.prog 16 #[.pointer (some ⟨p,0,none⟩)] x.w (rZ w (J3 l)):=by
 have hc:=Bn0 w x p bm n l none [] 0 hR hI (fun i hi=>by simp at hi) (by simp);rw[AQ8 hI]at hc;have Hc:=A2 hc;clear hc hR hI;go_enter Tryz.func16,Tryz.ntmps16;go_wp2_with fail;refine Hc.out.mono ?_;rintro _ w2 ⟨a,cap,z,rfl,rfl,hcap,hels,hbase,hfz⟩;have yL:=A2 hels;have Hfz:=A2 hfz;have yK:=A2 hbase;clear hels hfz hbase;go_wp2_with fail;go_ret;exact⟨a,cap,z,rfl,rfl,hcap,yL.out,yK.out,Hfz.out⟩
end
section
open Go.RowKit Go.ChangeMaps Go.Sort
def nT:Ev:=⟨0,0,0,0,0,0,0,0,0⟩
theorem As5 (l:List Ev) (d s:Int):∃z:Ev,N7 (d,s) (l.map U0) nT.ag=z.ag∧z.a=cC l d s∧eE (d,s) (l.map U0)=bJ l d s:=by
 have h1:=Ai0 (⟨d,s,0,0,0,0,0,0,0⟩:Ev) l nT.ag;have h2:=Ah9 (⟨d,s,0,0,0,0,0,0,0⟩:Ev) l;have e:i3 l (⟨d,s,0,0,0,0,0,0,0⟩:Ev)=l.find? (fun x=>decide (x.d=d) && decide (x.q=s)):=rfl;rw[e]at h1 h2;have h3:bJ l d s=(l.find? (fun x=>decide (x.d=d) && decide (x.q=s))).isSome:=by
  unfold bJ;rw[Bool.eq_iff_iff,List.any_eq_true,List.find?_isSome]
 rw[h1,h2,h3];unfold cC
 cases l.find? (fun x=>decide (x.d=d) && decide (x.q=s))with
 |none=>exact⟨nT,rfl,rfl,rfl⟩
 |some x=>exact⟨x,rfl,rfl,rfl⟩
structure fP (w:World) (g N:Nat) (f:Nat→Int):Prop where
 lt:g<w.heap.size
 c:∀j,j<N→w.cell? ⟨g,j,none⟩=some (.int .i64 (f j))
 f:∀j,j<N→w.frozen? ⟨g,j,none⟩=false
theorem fP.to {w W:World} {g N:Nat} {f:Nat→Int} (h:fP w g N f) (hW:∃z:A6 w,W=z.w):fP W g N f:=by
 obtain⟨z,rfl⟩:=hW;exact⟨Nat.lt_of_lt_of_le h.lt z.b.size,fun j hj=>A6.cell (h.c j hj) h.lt z,fun j hj=>A6.free (h.f j hj) h.lt z⟩
theorem fP.set {w:World} {g N k:Nat} {f f':Nat→Int} (h:fP w g N f) (hk:k<N) (v:Int) (hv:f' k=v) (ho:∀j,j<N→j≠k→f' j=f j):fP (w.setCell ⟨g,k,none⟩ (.int .i64 v)) g N f':=by
 refine⟨by simpa[World.setCell]using h.lt,fun j hj=>?_,fun j hj=>?_⟩
 ·by_cases hjk:j=k
  ·subst hjk
   rw[World.cell?_setCell_same _ _ _ (h.c j hj),hv]
  ·show((w.setCells g k [.int .i64 v]).cell? _)= _
   rw[World.cell?_setCells_out g [.int .i64 v] k w ⟨g,j,none⟩ (fun _ _ =>by simp;omega),h.c j hj,ho j hj hjk]
 ·rw[World.frozen?_setCell];exact h.f j hj
def Bn1 (w0:World) (l:List Int) (o:Ending) (w':World):Prop:=
 ∃(a:Option Addr) (cap:Nat) (y:A6 w0),o= .returned (.slice a l.length cap)∧w'=y.w∧l.length≤cap∧Q9 y.w a l∧(∀b,a=some b→w0.heap.size≤b.block)∧(∀b off,a=some ⟨b,off,none⟩→∀j,j<l.length→y.w.frozen? ⟨b,off+j,none⟩=false)
theorem Bn2 {w:World} {base:Nat} {e:TypeId} {g n N:Nat} {xs:List Value} (h:w.ownsRow base e 1 (.slice (some ⟨g,0,none⟩) N n) N xs) (hx:∀j,j<N→xs.getD j undef= .int .i64 0):fP w g N fun _ =>0:=by
 obtain⟨hl,⟨hbad,_⟩|⟨g',cap,cur,he,hg,hh,h1,h2,h3,h4⟩⟩:=h
 ·cases hbad
 ·obtain⟨rfl,rfl⟩:g=g'∧n=cap:=by simpa using he
  refine⟨(Array.getElem?_eq_some_iff.1 hh).1,fun j hj=>?_,fun j hj=>by simp[World.frozen?,hh]⟩;have:=hx j hj;rw[←h4]at this;simp only[Nat.mul_one]at *;have hjc:j<cur.size:=by omega
  simp[World.cell?,hh,A5,List.getElem?_take,hj,hjc]at this⊢;exact this
def bP (l:List Ev) (k c:Nat) (j:Nat):Int:=if j<k then(J9 l (j:Int):Int)else if j=k then c else 0
theorem Bn3 (l:List Ev):bP l 0 0=fun _ =>0:=by funext j;unfold bP;simp
theorem xM (l:List Ev) (k c:Nat):bP l k c k=c:=by unfold bP;simp
theorem Bn4 (l:List Ev) (k:Nat):bP l k (J9 l (k:Int))=bP l (k+1) 0:=by
 funext j;unfold bP;by_cases h1:j<k
 ·rw[if_pos h1,if_pos (by omega)]
 ·by_cases h2:j=k
  ·subst h2;rw[if_neg h1,if_pos rfl,if_pos (by omega)]
  ·rw[if_neg h1,if_neg h2,if_neg (by omega)]
   by_cases h3:j=k+1<;>simp[h3]
theorem Bn5 (l:List Ev) (k c c' j:Nat) (h:j≠k):bP l k c j=bP l k c' j:=by unfold bP;simp[h]
def sA (w:World) (a:Addr):Nat:=match w.cell? a with|some (.int _ z)=>z.toNat| _ =>0
theorem As6 {w:World} {a:Addr} {k:IntKind} {c:Nat} (h:w.cell? a=some (.int k c)):sA w a=c:=by unfold sA;rw[h];simp
theorem Bn6 (w:World) (x:A6 w) (p bm N:Nat) (l:List Ev) (hR:R8 w p bm N l) (hI:W9 N l) (hN:N≤256):
 Calls Tryz.prog 46 #[.pointer (some ⟨p,0,none⟩)] x.w (Bn1 w (gN N l)):=by
 have hc0:∀y:A6 w,y.w.cell? ⟨p,0,none⟩=some (.int .i64 N):=fun y=>(hR.since y).c0;have hlen:=hI.len;clear hI;go_enter Tryz.func46,Tryz.ntmps46;obtain⟨i0,hi0,hz0,hsz0,fT⟩:=info_parts (P:=Tryz.prog) (e:=3) (z:=.int .i64 0) (size:=1) (bytes:=8) (by kernel_rfl);go_wp2_with(at_make;refine wpList_make_full _ rfl _ _ 22 rfl w.heap.size 3 i0 (.int .i64 0) 1 Tryz.underlying22 hi0 hz0 hsz0 .i64 .i64 (N:Int) (N:Int) N rfl rfl rfl rfl (by rw[fT];omega) (by unfold maxLen;omega) x.b.size ?_;intro w1 hown hg1);have hrow:=Bn2 hown (fun j hj=>by simp[madeCells,A5,hj];show(#[Value.int .i64 0]:Array Value)[j % 1]! = _;rw[Nat.mod_one];rfl);obtain⟨y1,hy1⟩:=x.grown hg1 (fun k hk=>by cases hk);have hgb:w.heap.size≤x.w.heap.size:=x.b.size;subst hy1;clear hown hg1 hi0 hz0 hsz0 fT;generalize x.w.heap.size=g at *;go_loopw [16] (fun i wr=>∃(k:Nat) (y:A6 w),k≤N∧i= .int .i64 k∧wr=y.w∧fP wr g N (bP l k 0)) (fun i _ =>N-(intOf i).toNat)
 case atStart=>exact⟨0,y1,by omega,rfl,rfl,by rw[Bn3];exact hrow⟩
 case round=>
  clear hrow;obtain⟨k,y,hk,rfl,rfl,hrow⟩:=hrel;by_cases hlt:k<N
  ·have Y9:=A2 hrow
   clear hrow;go_wp2_with fail;go_loopw [6] (fun _ wr=>∃(c:Nat) (y:A6 w),c≤J9 l (k:Int)∧wr=y.w∧fP wr g N (bP l k c)) (fun _ wr=>J9 l (k:Int)-sA wr ⟨g,k,none⟩)
   case atStart=>exact⟨0,y,by omega,rfl,Y9.out⟩
   case round=>
    obtain⟨c,y,hc,rfl,hrow⟩:=hrel;obtain⟨z,hz1,-,hz3⟩:=As5 l (k:Int) ((c:Int)+1);have hcg:y.w.cell? ⟨g,k,none⟩=some (.int .i64 (c:Int)):=by have:=hrow.c k hlt;rwa[xM]at this
    have hN1:=A2 (As6 hcg);have hIy:∀w',A7 y.w w'→A7 w w':=fun _ h=>by obtain⟨u,rfl⟩:=h;obtain⟨v,e⟩:=y.trans u;exact⟨v,e⟩
    have cg:∀w',A7 y.w w'→w'.cell? ⟨g,k,none⟩=some (.int .i64 (c:Int)):=fun _ h=>by obtain⟨u,rfl⟩:=h;exact A6.cell hcg hrow.lt u
    have cp:∀w',A7 y.w w'→w'.cell? ⟨p,1,none⟩=some (.map (some bm)):=fun _ h=>by obtain⟨u,rfl⟩:=hIy _ h;exact(hR.since u).c1
    have cl:∀w',A7 y.w w'→(Instr.lookup 118 (.map (some bm)) (.agg #[.int .i64 (k:Int),.int .i64 ((c:Int)+1)]) true).run Tryz.prog w'= .ok (.tuple #[.agg #[.int .i64 z.d,.int .i64 z.q,.int .i64 z.a,.int .i64 z.t,.int .i64 z.k,.int .i64 z.b,.int .i64 z.p,.int .i64 z.r,.int .i64 z.i],.bool (bJ l (k:Int) ((c:Int)+1))]) w':=fun _ h=>by
     obtain⟨u,rfl⟩:=hIy _ h;have:=bD qG (hR.since u).m Tryz.underlying118 (vL _) ((k:Int),(c:Int)+1) true;rw[if_pos rfl]at this;rw[show(⟨0,0,0,0,0,0,0,0,0⟩:Ev)=nT from rfl,hz1,hz3]at this;exact this
    clear hIy;have hsl:=Ah3 l (k:Int);have k0:(0:Int)≤(k:Int):=by omega
    have k1:(k:Int)<(N:Int):=by omega
    have AB2:=A2 hrow;clear hrow hcg hz1 hz3;by_cases hcs:c<J9 l (k:Int)
    ·rw[qD l (k:Int) c hcs]at cl
     have hsum:IntKind.i64.wrap ((c:Int)+1)=(c:Int)+1:=IntWalk.i64_in _ (by omega);go_wp2_with fail;go_region_held3 (fun w'=>A7 y.w w') (first|assumption|exact A7.drew' (A7.self _)|exact A7.drew' (A7.alloc (A7.self _) _)) (fail);all_goals
      go_upto_region 8 with fail;obtain⟨y3,e2,C5,hsz0,hlt0,HX0⟩:=iL y [.int .i64 z.d,.int .i64 z.q,.int .i64 z.a,.int .i64 z.t,.int .i64 z.k,.int .i64 z.b,.int .i64 z.p,.int .i64 z.r,.int .i64 z.i] 63;rw[e2];obtain⟨hx0,hx1,hx2,hx3,hx4,hx5,hx6,hx7,hx8,hxf⟩:=fY HX0;(have hrow3:=AB2.out.to C5)
      clear e2 C5;generalize y.w.heap.size=gx at *;obtain⟨E9,G1,J4,I9,M8,O9,S2,S9,T0,G8⟩:=j2 HX0;have I5:=A2 (And.intro hsz0 hlt0);clear hlt0 hsz0 HX0;clear hsum cg cp cl;have BC6:y3.w.cell? ⟨g,k,none⟩=some (.int .i64 (c:Int)):=by have:=hrow3.c k hlt;rwa[xM]at this
      have BJ1:=hrow3.f k hlt;have BB5:=A2 hrow3;clear hrow3;go_wp2_with fail;obtain⟨y4,h4⟩:=y3.set ⟨g,k,none⟩ hgb (.int .i64 ((c:Int)+1));have hset:=BB5.out.set (f':=bP l (k:Int).toNat (c+1)) hlt ((c:Int)+1) (by rw[Int.toNat_natCast,xM];rfl) (fun j _ hj=>by rw[Int.toNat_natCast];exact Bn5 l k _ _ j hj);rw[Int.toNat_natCast]at hset;refine⟨⟨c+1,y4,by omega,h4,hset⟩,?_⟩;have hcn:sA (y3.w.setCell ⟨g,k,none⟩ (.int .i64 ((c:Int)+1))) ⟨g,k,none⟩=c+1:=As6 (k:=.i64) (by rw[World.cell?_setCell_same _ _ _ BC6];rfl);rw[hcn,hN1.out];omega
    ·have hce:c=J9 l (k:Int):=by omega
     subst hce;rw[Ah2 l (k:Int)]at cl;have hsum:IntKind.i64.wrap ((J9 l (k:Int):Int)+1)=(J9 l (k:Int):Int)+1:=IntWalk.i64_in _ (by omega);go_wp2_with fail;go_region_held3 (fun w'=>A7 y.w w') (first|assumption|exact A7.drew' (A7.self _)|exact A7.drew' (A7.alloc (A7.self _) _)) (fail);all_goals
      go_upto_region 8 with fail;obtain⟨y3,e2,C5,hsz0,hlt0,HX0⟩:=iL y [.int .i64 z.d,.int .i64 z.q,.int .i64 z.a,.int .i64 z.t,.int .i64 z.k,.int .i64 z.b,.int .i64 z.p,.int .i64 z.r,.int .i64 z.i] 63;rw[e2];obtain⟨hx0,hx1,hx2,hx3,hx4,hx5,hx6,hx7,hx8,hxf⟩:=fY HX0;(have hrow3:=A2 (AB2.out.to C5))
      clear e2 C5;generalize y.w.heap.size=gx at *;obtain⟨E9,G1,J4,I9,M8,O9,S2,S9,T0,G8⟩:=j2 HX0;have I5:=A2 (And.intro hsz0 hlt0);clear hlt0 hsz0 HX0;clear hsum cg cp cl;go_wp2_with fail;go_roundw
      case rel=>exact⟨k+1,y3,by omega,by go_num,rfl,by rw[←Bn4];exact hrow3.out⟩
      case measure=>simp[intOf];omega
  ·obtain rfl:k=N:=by omega
   have Y9:=A2 hrow;clear hrow;go_wp2_with fail;go_ret;have hl:=Ah4 k l;refine⟨some ⟨g,0,none⟩,k,y,As3 hl.symm,rfl,by omega,fun i hi=>?_,fun b hb=>?_,fun b off hb j hj=>?_⟩
   ·rw[hl]at hi
    refine⟨g,0,rfl,Y9.out.lt,?_⟩;rw[Nat.zero_add,Y9.out.c i hi];show some (Value.int .i64 _)=some (.int .i64 (B2 (gN k l) i));rw[Ah5 l hi];unfold bP;rw[if_pos hi]
   ·cases hb;exact hgb
   ·have hb':g=b∧0=off:=by simpa using hb
    obtain⟨rfl,rfl⟩:=hb';rw[Nat.zero_add];exact Y9.out.f j (by omega)
end
section
open Go.RowKit Go.ChangeMaps Go.Sort
theorem Bn7 (w:World) (e:Ev):(Instr.field 63 e.ag 2).run Tryz.prog w= .ok (.int .i64 e.a) w:=by
 have u3:=Tryz.underlying3;have a3:=Tryz.isAgg3;have z3:=Tryz.sizeOf3;unfold Ev.ag;simp only[Instr.field,Sem.run_bind,run_underlying Tryz.underlying63];go_simp;simp[asAgg,Result.andThen]
theorem As7 (w:World) (x:A6 w) (p bm N:Nat) (l:List Ev) (hR:R8 w p bm N l) (hI:W9 N l) (hN:N≤256):
 Calls Tryz.prog 18 #[.pointer (some ⟨p,0,none⟩)] x.w fun o w'=>o= .returned (.int .i64 (hor N l))∧∃y:A6 w,w'=y.w:=by
 have HI:=A2 hI;have hsc:=A2 (Bn6 w x p bm N l hR hI hN);have hlen:=hI.len;clear hI;go_enter Tryz.func18,Tryz.ntmps18;go_wp2_with fail;refine hsc.out.mono ?_;rintro _ w2 ⟨a,cap,y1,rfl,rfl,hcap,hrow,_,_⟩;have hl:=Ah4 N l;replace hR:=hR.to ⟨y1,rfl⟩;have hat:∀i,i<N→B2 (gN N l) i=J9 l (i:Int):=fun i hi=>Ah5 l hi;generalize gN N l=sl at *;have Hat:=A2 hat;have hbound:∀d s:Int,0≤cC l d s∧cC l d s≤4294943999:=fun d s=>by
  unfold cC
  cases h:l.find? (fun x=>decide (x.d=d) && decide (x.q=s))with
  |none=>simp
  |some z=>
   have:=(iX z).1 (HI.out.rng z (List.mem_of_find?_eq_some h)).2.2
   show 0≤z.a∧z.a≤4294943999
   omega
 have Bx7:=A2 hbound;have Hl:=A2 hl;clear hat hbound hl hcap;obtain⟨q0,hq0⟩:=A6.refl y1.w;rw[hq0];clear hq0;go_wp2_with fail;go_loopw [3,11] (fun v i wr=>∃(k:Nat) (y:A6 y1.w),k≤N∧i= .int .i64 k∧v= .int .i64 (j8 l k)∧wr=y.w∧(∀d:Nat,d<k→0<J9 l (d:Int))∧0≤j8 l k∧j8 l k≤4294943999) (fun _ i _ =>N-(intOf i).toNat)
 case atStart=>exact⟨0,q0,by omega,rfl,rfl,rfl,fun d hd=>by omega,by simp[j8],by simp[j8]⟩
 case round=>
  obtain⟨k,y,hk,rfl,rfl,rfl,hpos,hf0,hf1⟩:=hrel;have AA7:=A2 hpos;clear hpos;by_cases hlt:k<N
  ·have hkl:k<sl.length:=by rw[Hl.out];exact hlt
   obtain⟨b,off,rfl,_,_⟩:=hrow k hkl;have hcell:∀y:A6 y1.w,y.w.cell? ⟨b,off+k,none⟩=some (.int .i64 (J9 l (k:Int))):=fun y=>by rw[←Hat.out k hlt];exact A6.at hrow k hkl y
   have hk0:(0:Int)≤(k:Int):=by omega
   have hkl2:(k:Int)<(sl.length:Int):=by omega
   have hsl:=Ah3 l (k:Int);have hc1:∀y:A6 y1.w,y.w.cell? ⟨p,1,none⟩=some (.map (some bm)):=fun y=>(hR.since y).c1;obtain⟨z,hz1,hz2,-⟩:=As5 l (k:Int) (J9 l (k:Int));have hlk:∀y:A6 y1.w,(Instr.lookup 118 (.map (some bm)) (.agg #[.int .i64 (k:Int),.int .i64 (J9 l (k:Int))]) false).run Tryz.prog y.w= .ok (.agg #[.int .i64 z.d,.int .i64 z.q,.int .i64 (cC l (k:Int) (J9 l (k:Int))),.int .i64 z.t,.int .i64 z.k,.int .i64 z.b,.int .i64 z.p,.int .i64 z.r,.int .i64 z.i]) y.w:=fun y=>by
    have:=bD qG (hR.since y).m Tryz.underlying118 (vL _) ((k:Int),(J9 l (k:Int):Int)) false;rw[if_neg (by simp),show(⟨0,0,0,0,0,0,0,0,0⟩:Ev)=nT from rfl,hz1]at this;rw[←hz2];exact this
   have hab:=Bx7.out (k:Int) (J9 l (k:Int));have hF:=A2 (show j8 l (k+1)=min (j8 l k) (cC l (k:Int) (J9 l (k:Int)))from rfl);have hfd:=fun w=>Bn7 w z;rw[hz2]at hfd;simp only[Ev.ag]at hfd;rw[hz2]at hfd;clear hz1 hz2 hrow;by_cases h0:J9 l (k:Int)=0
   ·have hres:hor N l=0:=by unfold hor;rw[(vJ N l).2 ⟨k,hlt,h0⟩,if_pos rfl]
    have kA:=A2 hres;rw[h0]at hcell hlk;clear hres;have H0:=A2 h0;clear h0;go_wp2_with fail;go_ret;exact⟨D1 kA.out.symm,by obtain⟨u,e⟩:=y1.trans y;exact⟨u,e⟩⟩
   ·have hne:((J9 l (k:Int):Int) == 0)=false:=by simp;omega
    have AD5:∀d:Nat,d<k+1→0<J9 l (d:Int):=fun d hd=>by
     by_cases hdk:d<k
     ·exact AA7.out d hdk
     ·obtain rfl:d=k:=by omega
      omega
    have BB1:=A2 AD5;clear AD5;generalize j8 l k=hv at *;generalize cC l (k:Int) (J9 l (k:Int))=av at *;go_wp2_with fail;go_roundw
    case rel=>exact⟨k+1,y,by omega,by go_num,by rw[hF.out],rfl,BB1.out,by rw[hF.out];omega,by rw[hF.out];omega⟩
    case measure=>simp[intOf];omega
  ·obtain rfl:k=N:=by omega
   have hres:hor k l=j8 l k:=by unfold hor;rw[mX.2 AA7.out,if_neg (by simp)]
   have kA:=A2 hres;have hkn:¬((k:Int)<(sl.length:Int)):=by rw[Hl.out];omega
   clear hres hrow;generalize j8 l k=hv at *;go_wp2_with fail;go_ret;exact⟨D1 kA.out.symm,by obtain⟨u,e⟩:=y1.trans y;exact⟨u,e⟩⟩
end
section
open Go.RowKit
structure Rw where
 T:TypeId
 k:Nat
 v:Value
 n:Nat
 xs:List Value
structure J5 where
 g:Nat
 v:Value
 id:Int
 rd:Int
 b:K0
def J5.blk (x:J5):List Nat:=x.g :: ob x.v
instance:Inhabited J5:=⟨⟨0,.slice none 0 0,0,0,⟨[],0⟩⟩⟩
structure S7 (w:World) (B:Nat) (R:List Rw) (L:List J5):Prop where
 r:∀x∈R,w.ownsRow B x.T x.k x.v x.n x.xs
 nd:∀(i j:Nat) (x y:Rw),R[i]? =some x→R[j]? =some y→i≠j→∀b∈ob x.v,b∉ob y.v
 bl:∀x∈L,o4 w B x.g x.id x.rd x.v x.b
 bb:∀(i j:Nat) (x y:J5),L[i]? =some x→L[j]? =some y→i≠j→∀b∈x.blk,b∉y.blk
 rb:∀x∈R,∀y∈L,∀b∈ob x.v,b∉y.blk
section
variable {w w1 w2 w':World} {B:Nat} {R:List Rw} {L:List J5}
theorem S7.lt (h:S7 w B R L) {b:Nat} (hb:(∃x∈R,b∈ob x.v)∨(∃y∈L,b∈y.blk)):B≤b∧b<w.heap.size:=by
 rcases hb with⟨x,hx,hb⟩|⟨y,hy,hb⟩
 ·exact aV (h.r x hx) b hb
 ·exact(h.bl y hy).lt b (by unfold J5.blk at hb;simpa using hb)
theorem S7.keep {S:Nat→Prop} (h:S7 w B R L) (hk:B7 S w w') (hn:∀b,((∃x∈R,b∈ob x.v)∨(∃y∈L,b∈y.blk))→¬S b):S7 w' B R L:=
 ⟨fun x hx=>V9 (h.r x hx) hk (fun b hb=>hn b (.inl ⟨x,hx,hb⟩)),h.nd,fun x hx=>(h.bl x hx).keepS hk (fun b hb=>hn b (.inr ⟨x,hx,by unfold J5.blk;simpa using hb⟩)),h.bb,h.rb⟩
theorem S7.to (h:S7 w B R L) (hW:∃z:A6 w,w'=z.w):S7 w' B R L:=by
 obtain⟨z,rfl⟩:=hW;exact h.keep (B7.of (S:=fun _ =>False) z) fun _ _ h=>h
theorem S7.push (h:S7 w B R L) {i:Nat} {x:Rw} (hi:R[i]? =some x) (h1:A7 w w1) {v':Value} {n':Nat} {xs':List Value} (hown:w2.ownsRow B x.T x.k v' n' xs') (hg:w1.grownBy w2 x.v.ownBlock) (hl:∀b,v'.ownBlock=some b→x.v.ownBlock=some b∨b=w1.heap.size):S7 w2 B (R.set i ⟨x.T,x.k,v',n',xs'⟩) L∧B7 (fun b=>b∈ob x.v) w w2:=by
 have hk:B7 (fun b=>b∈ob x.v) w w2:=((B7.refl _ w).to h1).step ⟨hg.os,hg.tape,hg.output,hg.size,fun j hj hn=>hg.block j hj (fun e=>hn (N3.2 e.symm))⟩;have hil:i<R.length:=(A4 hi).1;have hxR:x∈R:=A0 hi;have hsz:=A7.size h1;have hnew:∀b∈ob v',b∈ob x.v∨w.heap.size≤b:=fun b hb=>by
  rcases hl b (N3.1 hb)with h'|h'
  ·exact .inl (N3.2 h')
  ·exact .inr (by omega)
 have hget:∀(j:Nat) (y:Rw),(R.set i ⟨x.T,x.k,v',n',xs'⟩)[j]? =some y→(j=i∧y=⟨x.T,x.k,v',n',xs'⟩)∨(j≠i∧R[j]? =some y):=fun j y hy=>by
  rw[List.getElem?_set]at hy;by_cases e:i=j
  ·subst e;rw[if_pos rfl,if_pos hil]at hy;exact .inl ⟨rfl,(Option.some.inj hy).symm⟩
  ·rw[if_neg e]at hy;exact .inr ⟨fun e'=>e e'.symm,hy⟩
 have hlt:∀y∈R,∀b∈ob y.v,b<w.heap.size:=fun y hy b hb=>(aV (h.r y hy) b hb).2;refine⟨⟨fun y hy=>?_,fun j k y z hy hz hjk=>?_,fun y hy=>?_,h.bb,fun y hy z hz=>?_⟩,hk⟩
 ·obtain⟨j,hj⟩:=List.getElem?_of_mem hy
  rcases hget j y hj with⟨rfl,rfl⟩|⟨hne,hj⟩
  ·exact hown
  ·exact V9 (h.r y (A0 hj)) hk (fun b hb hb2=>h.nd j i y x hj hi hne b hb hb2)
 ·rcases hget j y hy with⟨rfl,rfl⟩|⟨hne,hj⟩
  ·rcases hget k z hz with⟨e,_⟩|⟨hne',hk'⟩
   ·exact absurd e.symm hjk
   ·intro b hb hb2
    rcases hnew b hb with h'|h'
    ·exact h.nd j k x z hi hk' hjk b h' hb2
    ·have:=hlt z (A0 hk') b hb2;omega
  ·rcases hget k z hz with⟨rfl,rfl⟩|⟨hne',hk'⟩
   ·intro b hb hb2
    rcases hnew b hb2 with h'|h'
    ·exact h.nd j k y x hj hi hjk b hb h'
    ·have:=hlt y (A0 hj) b hb;omega
   ·exact h.nd j k y z hj hk' hjk
 ·exact(h.bl y hy).keepS hk (fun b hb hb2=>h.rb x hxR y hy b hb2 (by unfold J5.blk;simpa using hb))
 ·obtain⟨j,hj⟩:=List.getElem?_of_mem hy
  rcases hget j y hj with⟨rfl,rfl⟩|⟨hne,hj⟩
  ·intro b hb hb2
   rcases hnew b hb with h'|h'
   ·exact h.rb x hxR z hz b h' hb2
   ·have:=((h.bl z hz).lt b (by unfold J5.blk at hb2;simpa using hb2)).2;omega
  ·exact h.rb y (A0 hj) z hz
theorem S7.row (h:S7 w B R L) (h1:A7 w w') {x:Rw} (hown:w'.ownsRow w.heap.size x.T x.k x.v x.n x.xs) (hB:B≤w.heap.size):S7 w' B (R ++ [x]) L:=by
 have h':=h.to h1;have hx:∀b∈ob x.v,w.heap.size≤b:=fun b hb=>(aV hown b hb).1;have hlt:∀y∈R,∀b∈ob y.v,b<w.heap.size:=fun y hy b hb=>(aV (h.r y hy) b hb).2;have hget:∀(j:Nat) (y:Rw),(R ++ [x])[j]? =some y→(j=R.length∧y=x)∨R[j]? =some y:=fun j y hy=>by
  by_cases hi:j<R.length
  ·rw[List.getElem?_append_left hi]at hy;exact .inr hy
  ·have hi2:j<(R ++ [x]).length:=(A4 hy).1
   rw[List.length_append,List.length_singleton]at hi2;obtain rfl:j=R.length:=by omega
   rw[List.getElem?_append_right (Nat.le_refl _),Nat.sub_self]at hy;exact .inl ⟨rfl,(Option.some.inj hy).symm⟩
 refine⟨fun y hy=>?_,fun j k y z hy hz hjk=>?_,h'.bl,h.bb,fun y hy z hz=>?_⟩
 ·rcases List.mem_append.1 hy with hy|hy
  ·exact h'.r y hy
  ·rw[List.mem_singleton]at hy;subst hy;exact jG hown hB
 ·rcases hget j y hy with⟨rfl,rfl⟩|hj
  ·rcases hget k z hz with⟨e,_⟩|hk
   ·exact absurd e.symm hjk
   ·intro b hb hb2;have:=hx b hb;have:=hlt z (A0 hk) b hb2;omega
  ·rcases hget k z hz with⟨rfl,rfl⟩|hk
   ·intro b hb hb2;have:=hx b hb2;have:=hlt y (A0 hj) b hb;omega
   ·exact h.nd j k y z hj hk hjk
 ·rcases List.mem_append.1 hy with hy|hy
  ·exact h.rb y hy z hz
  ·rw[List.mem_singleton]at hy;subst hy
   intro b hb hb2;have:=hx b hb;have:=((h.bl z hz).lt b (by unfold J5.blk at hb2;simpa using hb2)).2;omega
theorem S7.bill (h:S7 w B R L) (h1:A7 w w') {x:J5} (hb:o4 w' w.heap.size x.g x.id x.rd x.v x.b) (hB:B≤w.heap.size):S7 w' B R (L ++ [x]):=by
 have h':=h.to h1;have hx:∀b∈x.blk,w.heap.size≤b:=fun b hh=>(hb.lt b (by unfold J5.blk at hh;simpa using hh)).1;have hlt:∀y∈L,∀b∈y.blk,b<w.heap.size:=fun y hy b hh=>((h.bl y hy).lt b (by unfold J5.blk at hh;simpa using hh)).2;have hget:∀(j:Nat) (y:J5),(L ++ [x])[j]? =some y→(j=L.length∧y=x)∨L[j]? =some y:=fun j y hy=>by
  by_cases hi:j<L.length
  ·rw[List.getElem?_append_left hi]at hy;exact .inr hy
  ·have hi2:j<(L ++ [x]).length:=(A4 hy).1
   rw[List.length_append,List.length_singleton]at hi2;obtain rfl:j=L.length:=by omega
   rw[List.getElem?_append_right (Nat.le_refl _),Nat.sub_self]at hy;exact .inl ⟨rfl,(Option.some.inj hy).symm⟩
 refine⟨h'.r,h.nd,fun y hy=>?_,fun j k y z hy hz hjk=>?_,fun y hy z hz=>?_⟩
 ·rcases List.mem_append.1 hy with hy|hy
  ·exact h'.bl y hy
  ·rw[List.mem_singleton]at hy;subst hy
   exact⟨hb.bx,jG hb.it hB,Nat.le_trans hB hb.ge,hb.ne⟩
 ·rcases hget j y hy with⟨rfl,rfl⟩|hj
  ·rcases hget k z hz with⟨e,_⟩|hk
   ·exact absurd e.symm hjk
   ·intro b hb hb2;have:=hx b hb;have:=hlt z (A0 hk) b hb2;omega
  ·rcases hget k z hz with⟨rfl,rfl⟩|hk
   ·intro b hb hb2;have:=hx b hb2;have:=hlt y (A0 hj) b hb;omega
   ·exact h.bb j k y z hj hk hjk
 ·rcases List.mem_append.1 hz with hz|hz
  ·exact h.rb y hy z hz
  ·rw[List.mem_singleton]at hz;subst hz
   intro b hb hb2;have:=hx b hb2;have:=(aV (h.r y hy) b hb).2;omega
theorem S7.add (h:S7 w B R L) {i:Nat} {x:J5} (hi:L[i]? =some x) {v':Value} {b':K0} (hb:o4 w' B x.g x.id x.rd v' b') (hk:B7 (fun b=>b=x.g∨b∈ob x.v) w w') (hl:∀b∈ob v',b∈ob x.v∨w.heap.size≤b):S7 w' B R (L.set i {x with v:=v',b:=b'}):=by
 have hil:i<L.length:=(A4 hi).1;have hxL:x∈L:=A0 hi;have hmb:∀{b:Nat},(b=x.g∨b∈ob x.v)↔b∈x.blk:=by unfold J5.blk;simp
 have hnew:∀b∈({x with v:=v',b:=b'}:J5).blk,b∈x.blk∨w.heap.size≤b:=fun b hb=>by
  unfold J5.blk at hb;rcases List.mem_cons.1 hb with rfl|hb
  ·exact .inl (hmb.1 (.inl rfl))
  ·rcases hl b hb with h'|h'
   ·exact .inl (hmb.1 (.inr h'))
   ·exact .inr h'
 have hget:∀(j:Nat) (y:J5),(L.set i {x with v:=v',b:=b'})[j]? =some y→(j=i∧y={x with v:=v',b:=b'})∨(j≠i∧L[j]? =some y):=fun j y hy=>by
  rw[List.getElem?_set]at hy;by_cases e:i=j
  ·subst e;rw[if_pos rfl,if_pos hil]at hy;exact .inl ⟨rfl,(Option.some.inj hy).symm⟩
  ·rw[if_neg e]at hy;exact .inr ⟨fun e'=>e e'.symm,hy⟩
 have hlt:∀y∈L,∀b∈y.blk,b<w.heap.size:=fun y hy b hh=>((h.bl y hy).lt b (by unfold J5.blk at hh;simpa using hh)).2;refine⟨fun y hy=>V9 (h.r y hy) hk (fun b hb hb2=>h.rb y hy x hxL b hb (hmb.1 hb2)),h.nd,fun y hy=>?_,fun j k y z hy hz hjk=>?_,fun y hy z hz=>?_⟩
 ·obtain⟨j,hj⟩:=List.getElem?_of_mem hy
  rcases hget j y hj with⟨rfl,rfl⟩|⟨hne,hj⟩
  ·exact hb
  ·exact(h.bl y (A0 hj)).keepS hk (fun b hb hb2=>h.bb j i y x hj hi hne b (by unfold J5.blk;simpa using hb) (hmb.1 hb2))
 ·rcases hget j y hy with⟨rfl,rfl⟩|⟨hne,hj⟩
  ·rcases hget k z hz with⟨e,_⟩|⟨hne',hk'⟩
   ·exact absurd e.symm hjk
   ·intro b hb hb2
    rcases hnew b hb with h'|h'
    ·exact h.bb j k x z hi hk' hjk b h' hb2
    ·have:=hlt z (A0 hk') b hb2;omega
  ·rcases hget k z hz with⟨rfl,rfl⟩|⟨hne',hk'⟩
   ·intro b hb hb2
    rcases hnew b hb2 with h'|h'
    ·exact h.bb j k y x hj hi hjk b hb h'
    ·have:=hlt y (A0 hj) b hb;omega
   ·exact h.bb j k y z hj hk' hjk
 ·obtain⟨j,hj⟩:=List.getElem?_of_mem hz
  rcases hget j z hj with⟨rfl,rfl⟩|⟨hne,hj⟩
  ·intro b hb hb2
   rcases hnew b hb2 with h'|h'
   ·exact h.rb y hy x hxL b hb h'
   ·have:=(aV (h.r y hy) b hb).2;omega
  ·exact h.rb y hy z (A0 hj)
theorem S7.since {wB:World} (h:S7 w wB.heap.size R L) (hX:A7 wB w) {S:Nat→Prop} (hk:B7 S w w') (hS:∀b,S b→(∃x∈R,b∈ob x.v)∨(∃y∈L,b∈y.blk)):A7 wB w':=by
 obtain⟨y,rfl⟩:=hX;exact B7.since y hk (fun b hb=>(h.lt (hS b hb)).1)
end
structure St (S0:Nat→Prop) (w6 w:World) (B:Nat) (R:List Rw) (L:List J5):Prop where
 f:S7 w B R L
 k:B7 S0 w6 w
section
variable {S0:Nat→Prop} {w6 w w2:World} {B:Nat} {R:List Rw} {L:List J5}
theorem St.al (h:St S0 w6 w B R L) (o:Obj):St S0 w6 (w.alloc o) B R L:=⟨h.f.to (A7.alloc (A7.self _) o),h.k.to (A7.alloc (A7.self _) o)⟩
theorem St.bx (h:St S0 w6 w B R L) (vs:List Value) (T:TypeId):C3 (w.alloc (.cells vs.toArray T)) w.heap.size vs∧w6.heap.size≤w.heap.size:=⟨C3.new w vs T,h.k.size⟩
theorem St.push (h:St S0 w6 w B R L) {i:Nat} {x:Rw} (hi:R[i]? =some x) {v':Value} {n':Nat} {xs':List Value} (hown:w2.ownsRow B x.T x.k v' n' xs') (hg:w.grownBy w2 x.v.ownBlock) (hl:∀b,v'.ownBlock=some b→x.v.ownBlock=some b∨b=w.heap.size) (hS:∀b∈ob x.v,S0 b):St S0 w6 w2 B (R.set i ⟨x.T,x.k,v',n',xs'⟩) L:=by
 obtain⟨h1,h2⟩:=h.f.push hi (A7.self _) hown hg hl;exact⟨h1,h.k.trans h2 fun b hb=>.inl (hS b hb)⟩
theorem V4 {g:Nat} {vs:List Value} (h:C3 w g vs∧w6.heap.size≤g) (o:Obj):C3 (w.alloc o) g vs∧w6.heap.size≤g:=⟨h.1.up o,h.2⟩
theorem S8 {g:Nat} {vs:List Value} (h:C3 w g vs∧w6.heap.size≤g) {v:Value} (hg:w.grownBy w2 v.ownBlock) (hv:∀b∈ob v,b<w6.heap.size):C3 w2 g vs∧w6.heap.size≤g:=
 ⟨h.1.grown hg (fun e=>by have:=hv g (N3.2 e.symm);have:=h.2;omega),h.2⟩
theorem M7 {g:Nat} {vs:List Value} (h:C3 w g vs∧w6.heap.size≤g):∀j u,vs[j]? =some u→w.cell? ((⟨g,0,none⟩:Addr).add j)=some u:=fun j u hu=>by
 rw[Addr.add_lit,Nat.zero_add];exact h.1.c j u hu
end
section
variable {P:Program} {ops:Array Oper} {Q:Exit→Act→World→Prop} {md:Region.Mode} {S:World→Prop} {m:Nat}
theorem eO {i j:Nat} {oi oj:Oper} {fuel:Nat} {listed:Array Bool} {a:Act} {w:World} (hr:Region.ready md ops listed=[i,j]) (hi:ops[i]? =some oi) (hj:ops[j]? =some oj)
 (h1:∀K':Act→World→Prop,Shut (∀a w,(m≤i∨S w)→((m≤i∨S w)→S3 P md ops Q S m fuel (listed.setIfInBounds i true) a w)→K' a w)→if Region.wanted oi (yielded ops a.tmps)=true then Oper.wp P oi a w K' Q else K' (a.put oi.dst undef) w)
 (h2:∀K':Act→World→Prop,Shut (∀a w,(m≤j∨S w)→((m≤j∨S w)→S3 P md ops Q S m fuel (listed.setIfInBounds j true) a w)→K' a w)→if Region.wanted oj (yielded ops a.tmps)=true then Oper.wp P oj a w K' Q else K' (a.put oj.dst undef) w):S3 P md ops Q S m (fuel+1) listed a w:=by
 refine⟨fun h1=>(by rw[h1]at hr;cases hr),fun k hk=>?_⟩;rw[hr]at hk;simp only[List.mem_cons,List.not_mem_nil,or_false]at hk;rcases hk with rfl|rfl
 ·exact wpOp_step hi (fun K' hK=>h1 K' (fun a w hS hW=>hK a w ⟨hS,hW hS⟩))
 ·exact wpOp_step hj (fun K' hK=>h2 K' (fun a w hS hW=>hK a w ⟨hS,hW hS⟩))
theorem As8 {i j k:Nat} {oi oj ok:Oper} {fuel:Nat} {listed:Array Bool} {a:Act} {w:World} (hr:Region.ready md ops listed=[i,j,k]) (hi:ops[i]? =some oi) (hj:ops[j]? =some oj) (hk:ops[k]? =some ok)
 (h1:∀K':Act→World→Prop,Shut (∀a w,(m≤i∨S w)→((m≤i∨S w)→S3 P md ops Q S m fuel (listed.setIfInBounds i true) a w)→K' a w)→if Region.wanted oi (yielded ops a.tmps)=true then Oper.wp P oi a w K' Q else K' (a.put oi.dst undef) w)
 (h2:∀K':Act→World→Prop,Shut (∀a w,(m≤j∨S w)→((m≤j∨S w)→S3 P md ops Q S m fuel (listed.setIfInBounds j true) a w)→K' a w)→if Region.wanted oj (yielded ops a.tmps)=true then Oper.wp P oj a w K' Q else K' (a.put oj.dst undef) w)
 (h3:∀K':Act→World→Prop,Shut (∀a w,(m≤k∨S w)→((m≤k∨S w)→S3 P md ops Q S m fuel (listed.setIfInBounds k true) a w)→K' a w)→if Region.wanted ok (yielded ops a.tmps)=true then Oper.wp P ok a w K' Q else K' (a.put ok.dst undef) w):S3 P md ops Q S m (fuel+1) listed a w:=by
 refine⟨fun h1=>(by rw[h1]at hr;cases hr),fun n hn=>?_⟩;rw[hr]at hn;simp only[List.mem_cons,List.not_mem_nil,or_false]at hn;rcases hn with rfl|rfl|rfl
 ·exact wpOp_step hi (fun K' hK=>h1 K' (fun a w hS hW=>hK a w ⟨hS,hW hS⟩))
 ·exact wpOp_step hj (fun K' hK=>h2 K' (fun a w hS hW=>hK a w ⟨hS,hW hS⟩))
 ·exact wpOp_step hk (fun K' hK=>h3 K' (fun a w hS hW=>hK a w ⟨hS,hW hS⟩))
end
end
section
open Go.RowKit Go.ChangeMaps
theorem Bn8 (w:World) (x:A6 w):Calls Tryz.prog 49 #[.slice none 0 0] x.w fun o w'=>o= .returned (.int .i64 0)∧∃y:A6 w,w'=y.w:=by
 have hmm:=@run_makeMap Tryz.prog;go_enter Tryz.func49,Tryz.ntmps49;go_wp2_with fail;refine wp_loop_rounds 1 ?_;rw[rounds_succ];go_wp2_with fail;first
  |exact⟨rfl,x.alloc _⟩
  |(go_ret;exact⟨rfl,x.alloc _⟩)
theorem Bn9 (w:World) (x:A6 w) (fv:Value):Calls Tryz.prog 57 #[.slice none 0 0,fv] x.w fun o w'=>o= .returned (.int .i64 (-1))∧∃y:A6 w,w'=y.w:=by
 go_enter Tryz.func57,Tryz.ntmps57;go_wp2_with fail;refine wp_loop_rounds 1 ?_;rw[rounds_succ];go_wp2_with fail;first
  |exact⟨rfl,x,rfl⟩
  |(go_ret;exact⟨rfl,x,rfl⟩)
theorem Bo0 (w:World) (x:A6 w) (g5 g7 gb:Nat) (h7:∀y:A6 w,y.w.cell? ⟨g7,0,none⟩=some (.slice none 0 0)):Calls Tryz.prog 56 #[.pointer (some ⟨gb,0,none⟩),.pointer (some ⟨g7,0,none⟩),.pointer (some ⟨g5,0,none⟩)] x.w fun o w'=>o= .returned (.tuple #[])∧∃y:A6 w,w'=y.w:=by
 go_enter Tryz.func56,Tryz.ntmps56;go_upto_region 1 with fail;obtain⟨y1,e2,C5,hsz0,hlt0,HX0⟩:=L9 x [.pointer (some ⟨gb,0,none⟩)] 136;rw[e2];obtain⟨hx0,hxf⟩:=cx1 HX0;skip;clear e2 C5;generalize x.w.heap.size=g at *;obtain⟨E9,G8⟩:=bx1 HX0;have I5:=A2 (And.intro hsz0 hlt0);clear hlt0 hsz0 HX0;have HC:=fun fv=>Bn9 w y1 fv;go_wp2_with(go_at_call 57;(with_reducible refine(HC _).mono ?_);rintro _ _ ⟨rfl,y2,rfl⟩);first
  |exact⟨rfl,y2,rfl⟩
  |exact bodyPost_ret (v:=.tuple #[]) (by simp[results,Tryz.results56,go_sem]) rfl ⟨rfl,y2,rfl⟩
end
section
open Go.RowKit
def bQ (L:List J5):List Value:=L.map fun x=>.pointer (some ⟨x.g,0,none⟩)
def K5 (C:List A8) (k:Nat):List Int:=(List.range k).map fun i=>(C1 C i).rd
def I2 (C:List A8) (k:Nat):List Int:=(List.range k).map fun i=>F8 (C1 C i)
noncomputable def H7 (p:E4) (C:List A8) (u:Nat→Int) (k:Nat):List Int:=(List.range k).map fun i=>(L8 p (C1 C i) (u i)).tt
theorem Bo1 (C:List A8) (k:Nat):(K5 C k).length=k:=by simp[K5]
theorem Bo2 (C:List A8) (k:Nat):(I2 C k).length=k:=by simp[I2]
theorem As9 (p:E4) (C:List A8) (u:Nat→Int) (k:Nat):(H7 p C u k).length=k:=by simp[H7]
theorem Bo3 (C:List A8) (k:Nat):K5 C (k+1)=K5 C k ++ [(C1 C k).rd]:=by simp[K5,List.range_succ]
theorem Bo4 (C:List A8) (k:Nat):I2 C (k+1)=I2 C k ++ [F8 (C1 C k)]:=by simp[I2,List.range_succ]
theorem Bo5 (p:E4) (C:List A8) (u:Nat→Int) (k:Nat):H7 p C u (k+1)=H7 p C u k ++ [(L8 p (C1 C k) (u k)).tt]:=by simp[H7,List.range_succ]
structure jL (p:E4) (C:List A8) (u:Nat→Int) (k:Nat) (L:List J5):Prop where
 len:L.length=k
 a:∀(i:Nat) (x:J5),L[i]? =some x→x.id=(C1 C i).id∧x.rd=(C1 C i).rd∧x.b=L8 p (C1 C i) (u i)
theorem Bo6 (p:E4) (C:List A8) (u:Nat→Int):jL p C u 0 []:=⟨rfl,fun i x h=>by simp at h⟩
theorem jL.next {p:E4} {C:List A8} {u:Nat→Int} {k:Nat} {L:List J5} (h:jL p C u k L) (g:Nat) (v:Value):jL p C u (k+1) (L ++ [⟨g,v,(C1 C k).id,(C1 C k).rd,L8 p (C1 C k) (u k)⟩]):=by
 refine⟨by simp[h.len],fun i x hx=>?_⟩;by_cases hi:i<L.length
 ·rw[List.getElem?_append_left hi]at hx;exact h.a i x hx
 ·have hi2:i<(L ++ [(⟨g,v,(C1 C k).id,(C1 C k).rd,L8 p (C1 C k) (u k)⟩:J5)]).length:=(A4 hx).1
  rw[List.length_append,List.length_singleton]at hi2;obtain rfl:i=L.length:=by omega
  rw[List.getElem?_append_right (Nat.le_refl _),Nat.sub_self]at hx;have e:_ =x:=Option.some.inj hx;subst e;rw[h.len];exact⟨rfl,rfl,rfl⟩
noncomputable def R4 (p:E4) (C:List A8) (u:Nat→Int) (k:Nat) (L:List J5) (bv rv dv sv:Value):List Rw:=
 [⟨136,1,bv,k,bQ L⟩,⟨3,1,rv,k,(K5 C k).map (Value.int .i64)⟩,⟨3,1,dv,k,(I2 C k).map (Value.int .i64)⟩,⟨3,1,sv,k,(H7 p C u k).map (Value.int .i64)⟩]
theorem Bo7:O7 Tryz.prog 135 136 (.pointer none) 1 8:=O7.mk' Tryz.underlying135 (by kernel_rfl) rfl (by decide)
theorem At0:O7 Tryz.prog 67 76 (.agg #[.int .i64 0,.int .i64 0,.slice none 0 0,.int .i64 0]) 4 48:=O7.mk' Tryz.underlying67 (by kernel_rfl) rfl (by decide)
theorem At1 {r:A8} (h:I7 r=0):0≤F8 r∧F8 r≤49709:=by
 have:=pW (pV h);unfold F8;omega
theorem Bo8 (p:E4) (C:List A8) (u:Nat→Int):o5 C.length (K5 C C.length) (I2 C C.length) (H7 p C u C.length)=U2 p C u:=by
 unfold o5 U2;refine List.map_congr_left fun i hi=>?_;have hi':=List.mem_range.1 hi;unfold K5 I2 H7;rw[fH _ _ _ hi',fH _ _ _ hi',fH _ _ _ hi']
theorem Bo9 {p:E4} (hk:cY p) {C:List A8} {u:Nat→Int} (hn:C.length≤256) (hC:∀r∈C,I7 r=0) (hb:Z6 p C u C.length=0):rU p.cap (K5 C C.length) (I2 C C.length) (H7 p C u C.length) C.length:=by
 have hr:∀i,i<C.length→I7 (C1 C i)=0:=fun i hi=>hC _ (by
  unfold C1;rw[A5,A3 hi];exact List.getElem_mem hi)
 refine⟨hk.c,Bo1 _ _,Bo2 _ _,As9 _ _ _ _,hn,fun i hi=>?_,fun i hi=>?_,fun i hi=>?_⟩
 ·unfold K5
  rw[fH _ _ _ hi];have:=pW (pV (hr i hi));omega
 ·unfold I2
  rw[fH _ _ _ hi];exact At1 (hr i hi)
 ·unfold H7
  rw[fH _ _ _ hi];have h1:=Ap8 (Ao7 hb i hi);have h2:=xD hk (C1 C i) (u i) h1.1 h1.2.1;omega
structure gZ (p:E4) (C:List A8) (u:Nat→Int) (k:Nat) (L:List J5):Prop where
 len:L.length=C.length
 a:∀(i:Nat) (x:J5),L[i]? =some x→x.id=(C1 C i).id∧x.rd=(C1 C i).rd∧x.b=if i<k then(l8 p C u i).b else L8 p (C1 C i) (u i)
theorem jL.three {p:E4} {C:List A8} {u:Nat→Int} {L:List J5} (h:jL p C u C.length L):gZ p C u 0 L:=
 ⟨h.len,fun i x hx=>by obtain⟨h1,h2,h3⟩:=h.a i x hx;exact⟨h1,h2,by rw[if_neg (by omega)];exact h3⟩⟩
theorem gZ.next {p:E4} {C:List A8} {u:Nat→Int} {k:Nat} {L:List J5} (h:gZ p C u k L) {x:J5} (hx:L[k]? =some x) (v:Value):gZ p C u (k+1) (L.set k {x with v:=v,b:=(l8 p C u k).b}):=by
 refine⟨by rw[List.length_set];exact h.len,fun i y hy=>?_⟩;rw[List.getElem?_set]at hy;by_cases e:k=i
 ·subst e
  rw[if_pos rfl,if_pos (A4 hx).1]at hy;have e2:_ =y:=Option.some.inj hy;subst e2;obtain⟨h1,h2,_⟩:=h.a k x hx;exact⟨h1,h2,by rw[if_pos (by omega)]⟩
 ·rw[if_neg e]at hy
  obtain⟨h1,h2,h3⟩:=h.a i y hy;refine⟨h1,h2,h3.trans ?_⟩;by_cases h4:i<k
  ·rw[if_pos h4,if_pos (by omega)]
  ·rw[if_neg h4,if_neg (by omega)]
structure hJ (p:E4) (C:List A8) (u:Nat→Int) (k:Nat) (L:List J5) (F:List I1):Prop where
 len:F.length=k
 a:∀(i:Nat) (x:I1),F[i]? =some x→x.far=l8 p C u i∧∃y,L[i]? =some y∧x.iv=y.v
theorem Bp0 (p:E4) (C:List A8) (u:Nat→Int) (L:List J5):hJ p C u 0 L []:=⟨rfl,fun i x h=>by simp at h⟩
theorem hJ.next {p:E4} {C:List A8} {u:Nat→Int} {k:Nat} {L:List J5} {F:List I1} (h:hJ p C u k L F) {y y':J5} (hy:L[k]? =some y) {x:I1} (hx:x.far=l8 p C u k) (hv:x.iv=y'.v):hJ p C u (k+1) (L.set k y') (F ++ [x]):=by
 have hkl:k<L.length:=(A4 hy).1;refine⟨by simp[h.len],fun i z hz=>?_⟩;by_cases hi:i<F.length
 ·rw[List.getElem?_append_left hi]at hz
  obtain⟨h1,y2,h2,h3⟩:=h.a i z hz;refine⟨h1,y2,?_,h3⟩;rw[List.getElem?_set,if_neg (by have:=h.len;omega)];exact h2
 ·have hi2:i<(F ++ [x]).length:=(A4 hz).1
  rw[List.length_append,List.length_singleton]at hi2;obtain rfl:i=F.length:=by omega
  rw[List.getElem?_append_right (Nat.le_refl _),Nat.sub_self]at hz;have e:x=z:=Option.some.inj hz;subst e;refine⟨by rw[h.len];exact hx,y',?_,hv⟩;rw[h.len,List.getElem?_set,if_pos rfl,if_pos hkl]
theorem hJ.all {p:E4} {C:List A8} {u:Nat→Int} {L:List J5} {F:List I1} (h:hJ p C u C.length L F):F.map I1.far=cI p C u:=by
 refine List.ext_getElem? fun i=>?_;unfold cI;rw[List.getElem?_map,List.getElem?_map];by_cases hi:i<C.length
 ·have hf:i<F.length:=by rw[h.len];exact hi
  rw[List.getElem?_range hi,A3 hf];show some (F[i].far)=some (l8 p C u i);rw[(h.a i _ (A3 hf)).1]
 ·rw[List.getElem?_eq_none (by rw[h.len];omega),List.getElem?_eq_none (by simp;omega)]
  rfl
structure xN (w:World) (B:Nat) (p:E4) (l:List A8) (u:Nat→Int) (v:Value) (F:List I1):Prop where
 r:w.ownsRow B 76 4 v F.length (B6 I1.cs F)
 i:∀x∈F,w.ownsRow B 217 3 x.iv x.it.length (B6 P7.cs x.it)
 f:(F.map I1.far).Perm (cI p (M5 l) u)
 s:F.Pairwise fun x y=>x.id≤y.id
def jM (w:World) (f:D5) (p:E4) (l:List A8) (o:Ending) (w':World):Prop:=
 ∃(v:Value) (e:Int) (y:A6 w) (u:Nat→Int),o= .returned (.tuple #[v,.int .i64 e])∧w'=y.w∧e=jI f p l u∧(i6 f p=0→S4 l=0→S5 p.ps (M5 l) u)∧((e≠0∧v= .slice none 0 0)∨(e=0∧∃F,xN y.w w.heap.size p l u v F))
theorem Bp1 {l:List A8} (h:S4 l=0):(M5 l).length≤256∧(∀r∈M5 l,I7 r=0∧r.op=false∧r∈l)∧S4 (M5 l)=0∧(l.filter fun r=>!r.op).Pairwise (fun x y=>x.id≠y.id):=by
 obtain⟨h1,h2,h3⟩:=pX h;have hp:(M5 l).Perm (l.filter fun r=>!r.op):=jH _;have hlen:(M5 l).length≤256:=by
  rw[hp.length_eq];have:=List.length_filter_le (fun r:A8=>!r.op) l;omega
 have hm:∀r∈M5 l,I7 r=0∧r.op=false∧r∈l:=fun r hr=>by
  obtain⟨q1,q2⟩:=Be5.1 hr;exact⟨h3 r q1,q2,q1⟩
 have hn:((l.filter fun r=>!r.op).map fun r:A8=>r.id).Nodup:=h2.sublist (List.filter_sublist.map _);refine⟨hlen,hm,?_,?_⟩
 ·rw[pS hlen (fun j hj x hx=>(hm x (A0 hx)).1),mP ((hp.map _).nodup_iff.2 hn)]
  rfl
 ·unfold List.Nodup at hn
  rwa[List.pairwise_map]at hn
theorem Bp2 (w:World) (B:Nat) (e:TypeId) (k:Nat):w.ownsRow B e k (.slice none 0 0) 0 []:=⟨by simp,.inl ⟨rfl,rfl⟩⟩
theorem Bp3 (w:World) (B:Nat) (p:E4) (C:List A8) (u:Nat→Int):S7 w B (R4 p C u 0 [] (.slice none 0 0) (.slice none 0 0) (.slice none 0 0) (.slice none 0 0)) []:=by
 have hm:∀x∈R4 p C u 0 [] (.slice none 0 0) (.slice none 0 0) (.slice none 0 0) (.slice none 0 0),x.v= .slice none 0 0∧x.n=0∧x.xs=[]:=fun x hx=>by
  simp only[R4,List.mem_cons,List.not_mem_nil,or_false]at hx;rcases hx with rfl|rfl|rfl|rfl<;>exact⟨rfl,rfl,rfl⟩
 refine⟨fun x hx=>?_,fun i j x y hx hy hij b hb=>?_,fun x hx=>(by cases hx),fun i j x y hx=>(by simp at hx),fun x hx y hy=>(by cases hy)⟩
 ·obtain⟨h1,h2,h3⟩:=hm x hx
  rw[h1,h2,h3];exact Bp2 _ _ _ _
 ·rw[(hm x (A0 hx)).1]at hb
  simp[T7]at hb
section
variable (p:E4) (C:List A8) (u:Nat→Int) (k:Nat) (L:List J5) (bv rv dv sv:Value)
theorem nU:(R4 p C u k L bv rv dv sv)[0]? =some ⟨136,1,bv,k,bQ L⟩:=rfl
theorem sB:(R4 p C u k L bv rv dv sv)[1]? =some ⟨3,1,rv,k,(K5 C k).map (Value.int .i64)⟩:=rfl
theorem sE:(R4 p C u k L bv rv dv sv)[2]? =some ⟨3,1,dv,k,(I2 C k).map (Value.int .i64)⟩:=rfl
theorem sF:(R4 p C u k L bv rv dv sv)[3]? =some ⟨3,1,sv,k,(H7 p C u k).map (Value.int .i64)⟩:=rfl
theorem aX (g:Nat) (v:Value) {r:A8} (hr:C1 C k=r):[(⟨136,1,bv,k+1,bQ L ++ [.pointer (some ⟨g,0,none⟩)]⟩:Rw),⟨3,1,rv,k+1,(K5 C k).map (Value.int .i64) ++ [.int .i64 r.rd]⟩,⟨3,1,dv,k+1,(I2 C k).map (Value.int .i64) ++ [.int .i64 (F8 r)]⟩,⟨3,1,sv,k+1,(H7 p C u k).map (Value.int .i64) ++ [.int .i64 (L8 p r (u k)).tt]⟩]=R4 p C u (k+1) (L ++ [⟨g,v,r.id,r.rd,L8 p r (u k)⟩]) bv rv dv sv:=by
 subst hr;unfold R4;rw[Bo3,Bo4,Bo5];simp[bQ]
end
theorem Bp4 {lp:List G3} {R:List A8} {u:Nat→Int} (hU:S5 lp R u) {i:Nat} (hi:i<R.length):-1≤u i∧u i<lp.length:=by
 rcases uN lp (C1 R i) (Z3 R u (C1 R i))with⟨k,hk,he,_⟩|⟨he,_⟩
 ·rw[hU i hi,he];omega
 ·rw[hU i hi,he];omega
theorem jN {w:World} {B:Nat} {e:TypeId} {k:Nat} {a:Option Addr} {n c m:Nat} {xs:List Value} (h:w.ownsRow B e k (.slice a n c) m xs):n=m:=by
 obtain⟨_,⟨e2,e3⟩|⟨_,_,_,e2,_⟩⟩:=h
 ·simp only[Value.slice.injEq]at e2;omega
 ·simp only[Value.slice.injEq]at e2;exact e2.2.1
theorem Bp5 (p:E4) (C:List A8) (u:Nat→Int):(U2 p C u).length=C.length:=by simp[U2]
theorem xO (p:E4) (C:List A8) (u:Nat→Int):(R9 p.cap (U2 p C u)).length=C.length:=by rw[Be6,Bp5]
noncomputable def R6 (p:E4) (C:List A8) (u:Nat→Int) (L:List J5) (bv rv dv sv pv ov:Value) (F:List I1):List Rw:=
 R4 p C u C.length L bv rv dv sv ++ [⟨3,1,pv,C.length,(R9 p.cap (U2 p C u)).map (Value.int .i64)⟩,⟨76,4,ov,F.length,B6 I1.cs F⟩]
section
variable (p:E4) (C:List A8) (u:Nat→Int) (L:List J5) (bv rv dv sv pv ov:Value) (F:List I1)
theorem Bp6:(R6 p C u L bv rv dv sv pv ov F)[0]? =some ⟨136,1,bv,C.length,bQ L⟩:=rfl
theorem Bp7:(R6 p C u L bv rv dv sv pv ov F)[3]? =some ⟨3,1,sv,C.length,(H7 p C u C.length).map (Value.int .i64)⟩:=rfl
theorem Bp8:(R6 p C u L bv rv dv sv pv ov F)[4]? =some ⟨3,1,pv,C.length,(R9 p.cap (U2 p C u)).map (Value.int .i64)⟩:=rfl
theorem jO:(R6 p C u L bv rv dv sv pv ov F)[5]? =some ⟨76,4,ov,F.length,B6 I1.cs F⟩:=rfl
theorem Bp9 (ov':Value) (x:I1):(R6 p C u L bv rv dv sv pv ov F).set 5 ⟨76,4,ov',F.length+1,B6 I1.cs F ++ x.cs⟩=R6 p C u L bv rv dv sv pv ov' (F ++ [x]):=by
 unfold R6 R4;rw[X7,X8,List.length_append];rfl
end
theorem Bq0 {p:E4} (hk:cY p) {C:List A8} {u:Nat→Int} (hb:Z6 p C u C.length=0) {k:Nat} (h:k<C.length):
 (0≤B2 (R9 p.cap (U2 p C u)) k∧B2 (R9 p.cap (U2 p C u)) k≤(L8 p (C1 C k) (u k)).tt∧(L8 p (C1 C k) (u k)).tt≤1000000000000)∧(l8 p C u k).b.tt=B2 (R9 p.cap (U2 p C u)) k:=by
 have hg:(U2 p C u)[k]? =some ((C1 C k).rd,F8 (C1 C k),(L8 p (C1 C k) (u k)).tt):=by
  unfold U2;rw[List.getElem?_map,List.getElem?_range h];rfl
 have hG:∀x∈U2 p C u,0≤x.2.2∧x.2.2≤1000000000000:=fun x hx=>by
  unfold U2 at hx;obtain⟨i,hi,rfl⟩:=List.mem_map.1 hx;have h1:=Ap8 (Ao7 hb i (List.mem_range.1 hi));exact⟨(xD hk _ _ h1.1 h1.2.1).1,h1.2.2⟩
 have h2:=Be7 hk.c.1 hG hg;have h3:=hG _ (A0 hg);refine⟨⟨h2.1,h2.2,h3.2⟩,?_⟩;unfold l8;rw[K0.add_tt];omega
end
section
open Go.RowKit
theorem xP {w:World} {B:Nat} {e:TypeId} {a:Option Addr} {m c n:Nat} {xs:List Value} (h:w.ownsRow B e 1 (.slice a m c) n xs) {i:Nat} {u:Value} (hx:xs[i]? =some u):∃b off,a=some ⟨b,off,none⟩∧b<w.heap.size∧w.cell? ⟨b,off+i,none⟩=some u:=by
 have hl:=h.1;obtain⟨a',c',e1,_,hr,_⟩:=zO h;have e2:a=a':=by simp only[Value.slice.injEq]at e1;exact e1.1
 subst e2;have hi:i<xs.length:=(A4 hx).1;obtain⟨b,off,h1,h2,h3⟩:=hr i (by omega);refine⟨b,off,h1,h2,?_⟩;rw[h3];show some (xs.getD i undef)=some u;rw[A5,hx];rfl
theorem At2 {l:List Int} {i:Nat} (h:i<l.length):(l.map (Value.int .i64))[i]? =some (.int .i64 (B2 l i)):=by
 unfold B2;rw[List.getElem?_map,A5,A3 h];rfl
theorem Bq1 {L:List J5} {i:Nat} {x:J5} (h:L[i]? =some x):(bQ L)[i]? =some (.pointer (some ⟨x.g,0,none⟩)):=by
 unfold bQ;rw[List.getElem?_map,h];rfl
theorem Bq2 {L:List J5} {i:Nat} {x:J5} (h:L[i]? =some x) (v:Value) (b:K0):bQ (L.set i {x with v:=v,b:=b})=bQ L:=by
 have hil:i<L.length:=(A4 h).1;unfold bQ;refine List.ext_getElem? fun j=>?_;rw[List.getElem?_map,List.getElem?_map,List.getElem?_set];by_cases e:i=j
 ·subst e;rw[if_pos rfl,if_pos hil,h];rfl
 ·rw[if_neg e]
theorem At3 {w w':World} {v:Value} (hg:w.grownBy w' v.ownBlock):B7 (fun b=>b∈ob v) w w':=
 (B7.refl _ w).step ⟨hg.os,hg.tape,hg.output,hg.size,fun j hj hn=>hg.block j hj (fun e=>hn (N3.2 e.symm))⟩
theorem gZ.at {p:E4} {C:List A8} {u:Nat→Int} {k:Nat} {L:List J5} (h:gZ p C u k L) (hk:k<C.length):∃x,L[k]? =some x∧x.id=(C1 C k).id∧x.rd=(C1 C k).rd∧x.b=L8 p (C1 C k) (u k):=by
 have hl:k<L.length:=by rw[h.len];exact hk
 obtain⟨h1,h2,h3⟩:=h.a k _ (A3 hl);exact⟨_,A3 hl,h1,h2,by rw[h3,if_neg (by omega)]⟩
theorem Bq3 {w:World} {B g:Nat} {id rd:Int} {v:Value} {b:K0} (h:o4 w B g id rd v b):∃x:I1,x.cs=[.int .i64 id,.int .i64 rd,v,.int .i64 b.tt]∧x.far=⟨id,rd,b⟩∧x.iv=v:=by
 obtain⟨a,n,c,rfl⟩:=G5 h.it;obtain rfl:n=b.it.length:=jN h.it;exact⟨⟨id,rd,a,b.it,c,b.tt⟩,rfl,rfl,rfl⟩
theorem Bq4 {w w':World} {B B':Nat} {p:E4} {l C:List A8} (hC:M5 l=C) {u:Nat→Int} {L0 L:List J5} {bv rv dv sv pv ov:Value} {F F':List I1} (hF:S7 w B (R6 p C u L0 bv rv dv sv pv ov F) L) (h3:gZ p C u C.length L) (h4:hJ p C u C.length L F) (hg:w.grownBy w' ov.ownBlock) (hp:F'.Perm F) (hs:F'.Pairwise fun x y=>x.id≤y.id) (ho:w'.ownsRow B 76 4 ov F.length (B6 I1.cs F')) (hB:B'≤B):xN w' B' p l u ov F':=by
 subst hC;refine⟨?_,fun x hx=>?_,?_,hs⟩
 ·rw[hp.length_eq];exact jG ho hB
 ·obtain⟨i,hi⟩:=List.getElem?_of_mem (hp.mem_iff.1 hx)
  obtain⟨h5,y,h6,h7⟩:=h4.a i x hi;have hil:i<(M5 l).length:=by have:=(A4 h6).1;rw[h3.len]at this;exact this
  obtain⟨_,_,h8⟩:=h3.a i y h6;rw[if_pos hil]at h8;have h9:x.it=y.b.it:=by rw[h8,←h5];rfl
  have h10:=hF.bl y (A0 h6);rw[h7,h9];exact jG (V9 h10.it (At3 hg) fun b hb hb2=>hF.rb _ (A0 (jO p (M5 l) u L0 bv rv dv sv pv ov F)) y (A0 h6) b hb2 (List.mem_cons_of_mem _ hb)) hB
 ·rw[←h4.all];exact hp.map _
end
end Go.Proofs.YtmmlmhnjjfnpnaaGreat
