/- Texts that belong together. -/
import Derived.Test.YtmmlmhnjjfnpnaaGreatTpQs
import Derived.Test.YtmmlmhnjjfnpnaaGreatTpQzl
import Derived.Test.YtmmlmhnjjfnpnaaGreatTpQzo
import Derived.Test.YtmmlmhnjjfnpnaaGreatTpQzq
import Derived.Test.YtmmlmhnjjfnpnaaGreatTpQzs
import Derived.Lib.SliceRun
import Derived.Laws.IdiomArrays
set_option linter.all false
namespace Go.Proofs.YtmmlmhnjjfnpnaaGreat
set_option maxRecDepth 200000
set_option maxHeartbeats 64000000
section
open Go.RowKit
structure wS (es:List J6):Prop where
 n:es.length≤512
 m:∀e∈es,e.ls.length≤16
 b:∀e∈es,∀x∈e.ls,-1000000000000≤x.n∧x.n≤1000000000000
theorem wT (a:Int):∀l:List E9,(∀x∈l,-1000000000000≤x.n∧x.n≤1000000000000)→-(l.length*1000000000000:Int)≤V0 a l∧V0 a l≤l.length*1000000000000
 |[],_ =>by simp[V0]
 |x :: l,h=>by
  have h1:=wT a l fun y hy=>h y (List.mem_cons_of_mem _ hy);have h2:=h x List.mem_cons_self;rw[V0,List.length_cons];split<;>omega
theorem wU (a:Int):∀es:List (List E9),(∀e∈es,e.length≤16∧∀x∈e,-1000000000000≤x.n∧x.n≤1000000000000)→-(es.length*16000000000000:Int)≤S1 a es∧S1 a es≤es.length*16000000000000
 |[],_ =>by simp[S1]
 |e :: es,h=>by
  have h1:=wU a es fun y hy=>h y (List.mem_cons_of_mem _ hy);have h2:=h e List.mem_cons_self;have h3:=wT a e h2.2;rw[S1,List.length_cons];omega
theorem wV (B w:World) (x:A7 w) (g:Nat) (n:Int) (v:Value) (es:List J6) (h:aH B w g n v es) (hk:wS es) (a t:Int) (htm:∀e∈es,e.tm≤t) (ha:0≤a∧a<n) (ht:0≤t∧t≤4294943999):
 Calls Tryz.prog 29 #[.pointer (some ⟨g,0,none⟩),.int .i64 a,.int .i64 t] x.w fun o w'=>o= .returned (.tuple #[.int .i64 (S1 a (es.map J6.ls)),.int .i64 0])∧∃y:A7 w,w'=y.w:=by
 obtain⟨ea,ec,rfl,he⟩:=uV h.r;have HE:=A3 he;have HM:=A3 h;have HK:=A3 hk;have Htm:=A3 htm;have hn:=hk.n;obtain⟨bv,hbv⟩:∃bv,S1 a (es.map J6.ls)=bv:=⟨_,rfl⟩
 rw[hbv];have Hbv:=A3 hbv;have HH:=A3 (Ah6 x.w g n _ (h.b.since x) a ha.1 ha.2);clear he h hk hbv htm;obtain⟨c0,c1,-⟩:=aC (HM.out.b.since x);have ht1:¬t<0:=by omega
 have ht2:¬(4294943999:Int)<t:=by omega
 go_enter Tryz.func29,Tryz.ntmps29;go_upto_region 9 with(go_at_call 73;(with_reducible refine HH.out.mono ?_);rintro _ _ ⟨rfl,rfl⟩)
 clear HH c0 c1;go_loopw [8,33] (fun s u wr=>∃(k:Nat) (y:A7 w),k≤es.length∧s= .int .i64 (S1 a ((es.take k).map J6.ls))∧u= .int .i64 (k:Int)∧wr=y.w) (fun _ u _ =>es.length-(RowKit.intOf u).toNat)
 case atStart=>exact⟨0,x,by omega,rfl,rfl,rfl⟩
 case round=>
  clear x;obtain⟨k,y,hk,rfl,rfl,rfl⟩:=hrel;have hbk:-(512*16000000000000:Int)≤S1 a ((es.take k).map J6.ls)∧S1 a ((es.take k).map J6.ls)≤512*16000000000000:=by
   have h1:=wU a ((es.take k).map J6.ls) (fun e he=>by
    obtain⟨e',he',rfl⟩:=List.mem_map.1 he;have h2:=List.mem_of_mem_take he';exact⟨HK.out.m e' h2,HK.out.b e' h2⟩)
   rw[List.length_map,List.length_take]at h1;have h2:min k es.length≤512:=by omega
   omega
  by_cases hlt:k<es.length
  ·obtain⟨e,he⟩:∃e,es[k]? =some e:=⟨_,A4 hlt⟩
   have hmem:=A0 he;obtain⟨b1,off1,rfl,hb1,hc1⟩:=HE.out k e he;have ra0:∀y:A7 w,y.w.cell? ⟨b1,off1+k*4,none⟩=some (.int .i64 e.id):=A7.cell (hc1 0 _ rfl) hb1;have ra1:∀y:A7 w,y.w.cell? ⟨b1,off1+k*4+1,none⟩=some (.int .i64 e.tm):=A7.cell (hc1 1 _ rfl) hb1;have ra2:∀y:A7 w,y.w.cell? ⟨b1,off1+k*4+2,none⟩=some (.slice e.la e.ls.length e.lc):=A7.cell (hc1 2 _ rfl) hb1;have ra3:∀y:A7 w,y.w.cell? ⟨b1,off1+k*4+3,none⟩=some (.bool false):=A7.cell (hc1 3 _ rfl) hb1;have hk0:(0:Int)≤(k:Int):=by omega
   have hkl:(k:Int)<(es.length:Int):=by omega
   have htm:=Htm.out e hmem;have h0t:¬t<e.tm:=by omega
   have HLl:=A3 (HM.out.l e hmem);have HLb:=A3 (HK.out.b e hmem);have hml:=HK.out.m e hmem;have hsum:S1 a ((es.take (k+1)).map J6.ls)=S1 a ((es.take k).map J6.ls)+V0 a e.ls:=by
    rw[List.take_add_one,he,List.map_append,mN];show _+(V0 a e.ls+0)= _;omega
   have iP:=A3 hsum;clear hc1 hb1 he hmem hsum;generalize S1 a ((es.take k).map J6.ls)=z at *;go_upto_region 11 with fail;obtain⟨y2,e2,C9,hsz0,hlt0,HX0⟩:=L8 y [.int .i64 e.id,.int .i64 e.tm,.slice e.la e.ls.length e.lc,.bool false] 169;rw[e2];obtain⟨hx0,hx1,hx2,hx3,hxf⟩:=dU HX0;skip;clear e2 C9;generalize y.w.heap.size=gx at *;obtain⟨E6,G9,K1,J5,I3⟩:=bO HX0;have I9:=A3 (And.intro hsz0 hlt0);clear hlt0 hsz0 HX0;clear E6 G9 K1 J5 I3 ra0 ra1 ra2 ra3;go_upto_region 13 with fail;clear hx0 hx1 hx2 hx3 hxf;go_loopw [8,46] (fun s u wr=>∃(j:Nat) (q:A7 w),j≤e.ls.length∧s= .int .i64 (z+V0 a (e.ls.take j))∧u= .int .i64 (j:Int)∧wr=q.w) (fun _ u _ =>e.ls.length-(RowKit.intOf u).toNat)
   case atStart=>exact⟨0,y2,by omega,by rw[List.take_zero];show _ =Value.int .i64 (z+0);rw[Int.add_zero],rfl,rfl⟩
   case round=>
    clear I9 y2;obtain⟨j,q,hj,rfl,rfl,rfl⟩:=hrel;by_cases hjl:j<e.ls.length
    ·obtain⟨u,hu⟩:∃u,e.ls[j]? =some u:=⟨_,A4 hjl⟩
     obtain⟨b2,off2,ha2,hb2,hc2⟩:=HLl.out j u hu;have rb0:∀y:A7 w,y.w.cell? ⟨b2,off2+j*2,none⟩=some (.int .i64 u.a):=A7.cell (hc2 0 _ rfl) hb2;have rb1:∀y:A7 w,y.w.cell? ⟨b2,off2+j*2+1,none⟩=some (.int .i64 u.n):=A7.cell (hc2 1 _ rfl) hb2;rw[ha2];have hub:=HLb.out u (A0 hu);have hj0:(0:Int)≤(j:Int):=by omega
     have BC6:(j:Int)<(e.ls.length:Int):=by omega
     have hbj:-(16*1000000000000:Int)≤V0 a (e.ls.take j)∧V0 a (e.ls.take j)≤16*1000000000000:=by
      have h1:=wT a (e.ls.take j) (fun x hx=>HLb.out x (List.mem_of_mem_take hx));rw[List.length_take]at h1;have h2:min j e.ls.length≤16:=by omega
      omega
     have hnx:V0 a (e.ls.take (j+1))=V0 a (e.ls.take j)+if u.a=a then u.n else 0:=by
      rw[List.take_add_one,hu,uN];show _+((if u.a=a then u.n else 0)+0)= _;omega
     have Hnx:=A3 hnx;clear hc2 hb2 ha2 hu hnx;generalize V0 a (e.ls.take j)=p at *;go_upto_region 15 with fail;obtain⟨q2,e2,C9,hsz0,hlt0,HX0⟩:=L8 q [.int .i64 u.a,.int .i64 u.n] 91;rw[e2];obtain⟨hz0,hz1,hzf⟩:=aC HX0;skip;clear e2 C9;generalize q.w.heap.size=g2 at *;obtain⟨nW,nX,nY⟩:=p8 HX0;have rX:=A3 (And.intro hsz0 hlt0);clear hlt0 hsz0 HX0;clear nW nX nY rb0 rb1;by_cases hua:u.a=a
     ·rw[if_pos hua]at Hnx
      go_wp2_with fail;go_roundw
      case rel=>exact⟨j+1,q2,by omega,by rw[Hnx.out,←Int.add_assoc],by go_num,rfl⟩
      case measure=>simp[RowKit.intOf];omega
     ·rw[if_neg hua]at Hnx
      go_wp2_with fail;go_roundw
      case rel=>exact⟨j+1,q2,by omega,by rw[Hnx.out,Int.add_zero],by go_num,rfl⟩
      case measure=>simp[RowKit.intOf];omega
    ·obtain rfl:j=e.ls.length:=by omega
     have hjj:¬(e.ls.length:Int)<(e.ls.length:Int):=by omega
     rw[List.take_length]at *;rw[←iP.out];go_wp2_with fail;exact⟨⟨k+1,q,by omega,rfl,by go_num,rfl⟩,by simp[RowKit.intOf];omega⟩
  ·obtain rfl:k=es.length:=by omega
   have hkk:¬(es.length:Int)<(es.length:Int):=by omega
   rw[List.take_length,Hbv.out];go_wp2_with fail;go_ret2
   exact⟨rfl,y,rfl⟩
end
section
open Go.RowKit
structure fH (k:Nat) (es:List J6) (paid:Int):Prop where
 e:kN (es.map J6.ls) paid
 n:es.length≤k
 i:∀e∈es,e.id≤(k:Int)
 t:∀e∈es,e.tm=0
 p:0≤paid∧paid≤(k:Int)*1000000000000
 m:∀e∈es,e.ls.length≤16∧∀x∈e.ls,-1000000000000≤x.n∧x.n≤1000000000000
theorem Bo9:fH 0 [] 0:=⟨.nil,Nat.le_refl _,fun e h=>(by simp at h),fun e h=>(by simp at h),by omega,fun e h=>(by simp at h)⟩
theorem fH.skip {k:Nat} {es:List J6} {paid:Int} (h:fH k es paid):fH (k+1) es paid:=
 ⟨h.e,by have:=h.n;omega,fun e he=>by have:=h.i e he;omega,h.t,by have:=h.p;omega,h.m⟩
theorem Ar4 {S:List Nat} {T:Nat} (h9:S.length=9) (hs:S.sum=T) (h0:0<T) (hT:T≤1000000000000):uU 10 (L9 0 S ++ [⟨9,-(T:Int)⟩]):=by
 have h1:=pO S 0;have h2:=uO S 0;have h3:1≤(L9 0 S).length:=by
  cases h:L9 0 S with
  |nil=>rw[h]at h2;have h4:(0:Int)=(S.sum:Int):=h2;omega
  |cons x l=>simp
 refine⟨by rw[List.length_append,List.length_singleton];omega,fun x hx=>?_,?_⟩
 ·rw[List.mem_append,List.mem_singleton]at hx
  rcases hx with hx|rfl
  ·have h4:=pP S 0 x hx
   rw[h9,hs]at h4;omega
  ·show((0:Int)≤9∧(9:Int)<10)∧-(T:Int)≠0∧-1000000000000≤-(T:Int)∧-(T:Int)≤1000000000000
   omega
 ·rw[Ag2,h2,hs]
  show(T:Int)+(-(T:Int)+0)=0;omega
theorem fH.next {k:Nat} {es:List J6} {paid:Int} (h:fH k es paid) {S:List Nat} {T:Nat} (h9:S.length=9) (hs:S.sum=T) (h0:0<T) (hT:T≤1000000000000) {e:J6} (he1:e.id=(k:Int)+1) (he2:e.tm=0) (he3:e.ls=L9 0 S ++ [⟨9,-(T:Int)⟩]):fH (k+1) (es ++ [e]) (paid+T):=by
 have hk:=Ar4 h9 hs h0 hT;have hp:=h.p;refine⟨?_,by rw[List.length_append,List.length_singleton];have:=h.n;omega,fun x hx=>?_,fun x hx=>?_,by omega,fun x hx=>?_⟩
 ·rw[List.map_append,List.map_cons,List.map_nil,he3]
  exact .snoc _ _ S T h.e h9 hs h0
 ·rw[List.mem_append,List.mem_singleton]at hx
  rcases hx with hx|rfl
  ·have:=h.i x hx;omega
  ·omega
 ·rw[List.mem_append,List.mem_singleton]at hx
  rcases hx with hx|rfl
  ·exact h.t x hx
  ·exact he2
 ·rw[List.mem_append,List.mem_singleton]at hx
  rcases hx with hx|rfl
  ·exact h.m x hx
  ·rw[he3]
   exact⟨hk.len.2,fun y hy=>(hk.ln y hy).2.2⟩
theorem fH.ok {k:Nat} {es:List J6} {paid:Int} (h:fH k es paid) (hk:k≤512):wS es:=
 ⟨Nat.le_trans h.n hk,fun e he=>(h.m e he).1,fun e he=>(h.m e he).2⟩
theorem Bp0 {S:List Nat} (hs:S.sum=0):L9 0 S=[]:=by
 refine List.eq_nil_iff_forall_not_mem.2 fun x hx=>?_;have:=pP S 0 x hx;omega
def wW (w:World) (T:Nat) (o:Ending) (w':World):Prop:=
 ∃(a:Option Addr) (c:Nat) (S:List Nat) (y:A7 w),o= .returned (.tuple #[.slice a (L9 0 S).length c,.int .i64 0])∧w'=y.w∧D0 E9.cs 2 y.w a (L9 0 S)∧(a=none→c=0)∧S.length=9∧S.sum=T
theorem Bp1 {w:World} {l:List C7} {L:List E0} {T:Nat} {o:Ending} {w':World} (h:mS w l L T o w'):wW w T o w':=by
 obtain⟨a,c,P,S,y,rfl,rfl,h1,h2,h3,h4⟩:=h;obtain⟨h5,h6⟩:=h4.facts;refine⟨a,c,S,y,rfl,rfl,h1,h2,h5,?_⟩;rw[h6,List.take_of_length_le (by rw[h3.n,pW];exact Nat.le_refl _),h3.s]
def wX (w:World) (o:Ending) (w':World):Prop:=
 ∃(a:Option Addr) (l:List C7) (c:Nat) (v:Int) (y:A7 w),o= .returned (.tuple #[.slice a l.length c,.int .i64 v])∧w'=y.w∧(v=0→D0 C7.cs 5 y.w a l∧l.length≤c∧o4 l)
theorem Bp2 {w:World} {o:Ending} {w':World} (h:mO w o w'):wX w o w':=by
 obtain⟨v,y,h1,rfl,rfl⟩|⟨a,l,c,y,rfl,rfl,h1,h2,h3⟩:=h
 ·exact⟨none,[],0,v,y,rfl,rfl,fun h=>absurd h h1⟩
 ·exact⟨a,l,c,0,y,rfl,rfl,fun _ =>⟨h1,h2,h3⟩⟩
end
section
open Go.RowKit
def rN (w:World) (l:List E9) (o:Ending) (w':World):Prop:=∃(a:Option Addr) (c:Nat) (y:A7 w),o= .returned (.slice a l.length c)∧w'=y.w∧y.w.ownsRow w.heap.size 91 2 (.slice a l.length c) l.length (B4 E9.cs l)
theorem Bp3 (w:World) (x:A7 w) (ad:Addr) (l:List E9) (c:Nat) (h:D0 E9.cs 2 w (some ad) l) (hl:l.length≤100):
 Calls Tryz.prog 120 #[.slice (some ad) l.length c] x.w (rN w l):=by
 have HP:=A3 (fun(a:Option Addr) (c:Nat) (y:A7 w) (h:y.w.ownsRow w.heap.size 91 2 (.slice a l.length c) l.length (B4 E9.cs l))=>show rN w l (.returned (.slice a l.length c)) y.w from⟨a,c,y,rfl,rfl,h⟩);generalize rN w l=PO at *;have H:=A3 h;clear h;have qn:=fun(w:World) (a:Option Addr) (n c n' c':Nat)=>Lib.run_eql_slice_nil (P:=Tryz.prog) w _ _ a n c n' c' Tryz.underlying87;go_enter Tryz.func120,Tryz.ntmps120;go_wp2_with(at_builtin;(refine cY (w0:=w) (enc:=E9.cs) (k:=2) E9.len (by decide) kP ?hw rfl _ _ 87 rfl w.heap.size (Nat.le_refl _) ?hb 91 (.agg #[.int .i64 0,.int .i64 0]) 16 kO (.slice (some ⟨x.w.heap.size,0,none⟩) 0 0) 0 [] rfl ?hown (some ad) l c rfl ?hels (fun h=>by cases h) ?h63 ?hbytes ?_;rotate_right 1;intro v2 q2 hown2 _ hg2;refine Hid.out ?_))
 case hw=>exact A8.alloc (A8.of x) _
 case hb=>have:=x.b.size;simp;omega
 case hown=>exact jW (k:=2) (cZ.new x.w _) x.b.size
 case hels=>exact(A7.els H.out x).to (A8.alloc (A8.self _) _)
 case h63=>unfold maxLen;omega
 case hbytes=>omega
 rw[List.nil_append,Nat.zero_add]at hown2;obtain⟨_,a5,c5,rfl,_⟩:=O9 E9.len (by decide) hown2;have HB:=A3 (HP.out a5 c5 q2 hown2);clear hown2 hg2;refine A3 ?_;go_wp2_with fail;exact HB.out
def rO (w:World) (id tm:Int) (l:List E9) (o:Ending) (w':World):Prop:=∃(a:Option Addr) (c:Nat) (y:A7 w),o= .returned (.agg #[.int .i64 id,.int .i64 tm,.slice a l.length c])∧w'=y.w∧D0 E9.cs 2 y.w a l∧∀b off,a=some ⟨b,off,none⟩→w.heap.size≤b∧b<y.w.heap.size
theorem Bp4 (w:World) (x:A7 w) (id tm:Int) (ad:Addr) (l:List E9) (c:Nat) (h:D0 E9.cs 2 w (some ad) l) (hl:l.length≤100):
 Calls Tryz.prog 72 #[.agg #[.int .i64 id,.int .i64 tm,.slice (some ad) l.length c]] x.w (rO w id tm l):=by
 have HP:=A3 (fun(a:Option Addr) (c:Nat) (y:A7 w) (h1:D0 E9.cs 2 y.w a l) (h2:∀b off,a=some ⟨b,off,none⟩→w.heap.size≤b∧b<y.w.heap.size)=>show rO w id tm l (.returned (.agg #[.int .i64 id,.int .i64 tm,.slice a l.length c])) y.w from⟨a,c,y,rfl,rfl,h1,h2⟩);generalize rO w id tm l=PO at *;have H:=A3 h;clear h;go_enter Tryz.func72,Tryz.ntmps72;obtain⟨y2,e2,hst,hs1,hs2,B1,B2⟩:=zU x [.int .i64 id,.int .i64 tm,.slice (some ad) l.length c] 94 [.int .i64 0,.int .i64 0,.slice none 0 0] 94;obtain⟨bx,hbx⟩:∃bx,x.w.heap.size=bx:=⟨_,rfl⟩
 rw[hbx]at B1 B2 hs1;have HB1:=A3 B1;have HB2:=A3 B2;have Hs1:=A3 hs1;go_upto_region 1 with fail;have hc:=A3 (show Calls Tryz.prog 120 #[.slice (some ad) l.length c] y2.w (rN y2.w l)from Bp3 y2.w (A7.self _) ad l c (A7.els H.out y2) hl);obtain⟨b0,b1,b2,_⟩:=lW B1;clear e2 hbx hst hs2 B1 B2 hs1;go_upto_region 2 with(go_at_call 120;(with_reducible refine hc.out.mono ?_);rintro _ _ ⟨a5,c5,z,rfl,rfl,hown⟩;(have HO:=A3 hown);(have E1:=A3 (HB1.out.since z));(have E2:=A3 (HB2.out.since z));(have Hy2:=A3 y2.b.size);(have HB3:=A3 (show bx+1<y2.w.heap.size from HB2.out.lt));obtain⟨y3,e3⟩:=y2.trans z;rw[e3]at HO E1 E2⊢;obtain⟨d0,d1,d2,df⟩:=lW E1.out;(have df2:=df 2);clear df e3 hown hc b0 b1 b2 HB1 HB2)
 have e1:=E1.out.setj (j:=2) (by show 2<3;omega) (.slice a5 l.length c5);have e2:=E2.out.far ⟨bx,2,none⟩ (.slice a5 l.length c5) (by show bx+1≠bx;omega);have ho:=cO HO.out ⟨bx,2,none⟩ (.slice a5 l.length c5) (fun b hb=>by
  have h1:=aZ HO.out b hb;have h2:=E1.out.lt;intro h;have h3:b=bx:=h;have h4:=HB3.out;omega)
 obtain⟨y4,h4⟩:=y3.set ⟨bx,2,none⟩ Hs1.out (.slice a5 l.length c5);rw[h4]at e1 e2 ho⊢;have G1:=A3 e1;have G2:=A3 e2;have GO:=A3 ho;obtain⟨b0,b1,b2,_⟩:=lW e1;obtain⟨k0,k1,k2,kf⟩:=lW e2;have kf0:=kf 0;have kf1:=kf 1;have kf2:=kf 2;clear h4 e1 e2 ho E1 E2 HO d0 d1 d2 df2 kf;go_wp2_with fail;obtain⟨Z,hz,hc⟩:=tA y4 (g:=bx+1) [.int .i64 id,.int .i64 tm,.slice a5 l.length c5] (fun j (hj:j<3)=>by rw[G2.out.c j _ (A4 hj)];rfl) ⟨y4,rfl⟩ (by have:=Hs1.out;omega);have ho2:=kB (bx+1) [.int .i64 id,.int .i64 tm,.slice a5 l.length c5] 0 _ GO.out (fun b hb=>by
  have h1:=aZ GO.out b hb;have h4:=HB3.out;omega)
 rw[hz]at ho2;simp only[World.setCells,Nat.reduceAdd]at hz;rw[hz];have hc0:=hc 0 _ rfl;have hc1:=hc 1 _ rfl;have hc2:=hc 2 _ rfl;obtain⟨_,a6,c6,hv6,_,he6,hg6,_⟩:=O9 E9.len (by decide) ho2;obtain⟨rfl,rfl⟩:a5=a6∧c5=c6:=by simp only[Value.slice.injEq]at hv6;exact⟨hv6.1,hv6.2.2⟩
 exact bodyPost_ret (v:=.agg #[.int .i64 id,.int .i64 tm,.slice a5 l.length c5]) (by simp[results,Tryz.results72,go_sem,hc0,hc1,hc2]) rfl (HP.out a5 c5 Z he6 (fun b off h=>by
  have h1:=aZ ho2 b (by rw[h];rfl);have:=Hy2.out;exact⟨by omega,lV ho2 b (by rw[h];rfl)⟩))
end
section
open Go.RowKit
theorem Bp5:M6 Tryz.prog 161 169 (.agg #[.int .i64 0,.int .i64 0,.slice none 0 0,.bool false]) 4 48:=M6.mk' Tryz.underlying161 (by kernel_rfl) rfl (by decide)
theorem aH.post {B z:World} {g:Nat} {n:Int} {v:Value} {es:List J6} (h:aH B z g n v es) (T:TypeId) (e:J6) (hlin:D0 E9.cs 2 z e.la e.ls) (hfr:∀b off,e.la=some ⟨b,off,none⟩→b<z.heap.size∧b≠g∧v.ownBlock≠some b) {v2:Value} {w2:World} (hown2:w2.ownsRow B.heap.size 169 4 v2 (es.length+1) (B4 J6.cs es ++ e.cs)) (hg2:(z.alloc (.cells e.cs.toArray T)).grownBy w2 v.ownBlock) (hl2:∀b,v2.ownBlock=some b→v.ownBlock=some b∨b=(z.alloc (.cells e.cs.toArray T)).heap.size):aH B (w2.setCell ⟨g,1,none⟩ v2) g n v2 (es ++ [e]):=by
 have hsz:(z.alloc (.cells e.cs.toArray T)).heap.size=z.heap.size+1:=by simp
 have hgz:=h.b.lt;have hd2:∀b,v2.ownBlock=some b→b≠g:=fun b hb=>by
  rcases hl2 b hb with h1|h1
  ·exact h.d b h1
  ·omega
 have hb2:C4 w2 g [.int .i64 n,v]:=(h.b.up _).grown hg2 (fun hh=>h.d g hh.symm rfl);have hels:∀(a:Option Addr) (l:List E9),D0 E9.cs 2 z a l→(∀b off,a=some ⟨b,off,none⟩→b<z.heap.size∧b≠g∧v.ownBlock≠some b)→D0 E9.cs 2 (w2.setCell ⟨g,1,none⟩ v2) a l:=fun a l he hf=>by
  have h1:D0 E9.cs 2 (z.alloc (.cells e.cs.toArray T)) a l:=he.to (A8.alloc (A8.self _) _);have h2:D0 E9.cs 2 w2 a l:=h1.keep hg2.size (fun b off ha hlt=>hg2.block b hlt (fun hh=>(hf b off ha).2.2 hh.symm));exact h2.keep (by simp[World.setCell]) (fun b off ha _ =>Below.heap_setCell w2 ⟨g,1,none⟩ v2 b (hf b off ha).2.1)
 refine⟨h.gb,hb2.setj (j:=1) (by show 1<2;omega) v2,?_,hd2,fun x hx=>?_,fun x hx b off hb=>?_⟩
 ·rw[List.length_append,U6,Y1]
  exact cO hown2 ⟨g,1,none⟩ v2 hd2
 ·rcases List.mem_append.1 hx with hx|hx
  ·exact hels _ _ (h.l x hx) (h.f x hx)
  ·obtain rfl:=List.mem_singleton.1 hx
   exact hels _ _ hlin hfr
 ·have key:b<z.heap.size∧b≠g∧v.ownBlock≠some b:=by
   rcases List.mem_append.1 hx with hx|hx
   ·exact h.f x hx b off hb
   ·obtain rfl:=List.mem_singleton.1 hx
    exact hfr b off hb
  refine⟨?_,key.2.1,fun hv=>?_⟩
  ·have h1:=hg2.size
   simp only[World.setCell,Array.size_modify];omega
  ·rcases hl2 b hv with h1|h1
   ·exact key.2.2 h1
   ·omega
def nL (B w:World) (g:Nat) (n:Int) (es:List J6) (id tm:Int) (ls:List E9) (o:Ending) (w':World):Prop:=
 o= .returned (.int .i64 0)∧∃(y:A7 B) (v:Value) (e:J6),w'=y.w∧e.id=id∧e.tm=tm∧e.ls=ls∧aH B y.w g n v (es ++ [e])
theorem Ar5 (B w:World) (xb:A7 B) (hx:w=xb.w) (g:Nat) (n:Int) (v:Value) (es:List J6) (h:aH B w g n v es) (hl:es.length<512) (id tm:Int) (hid:1≤id∧id≤1000000) (htm:0≤tm∧tm≤4294943999) (hlast:∀e∈es,e.tm≤tm) (hn:∀e∈es,e.id≠id) (ad:Addr) (ls:List E9) (c:Nat) (hls:D0 E9.cs 2 w (some ad) ls) (hk:uU n ls):
 Calls Tryz.prog 28 #[.pointer (some ⟨g,0,none⟩),.agg #[.int .i64 id,.int .i64 tm,.slice (some ad) ls.length c]] w (nL B w g n es id tm ls):=by
 have HP:=A3 (fun(y:A7 B) (v:Value) (e:J6) (h1:e.id=id) (ht:e.tm=tm) (h2:e.ls=ls) (h3:aH B y.w g n v (es ++ [e]))=>show nL B w g n es id tm ls (.returned (.int .i64 0)) y.w from⟨rfl,y,v,e,rfl,h1,ht,h2,h3⟩);generalize nL B w g n es id tm ls=PO at *;have HM:=A3 h;have HL:=A3 hls;have HK:=A3 hk;have Hn:=A3 hn;have Bv5:=A3 hlast;have hll:=hk.len;obtain⟨x,hx0⟩:=A7.refl w;have Hx:=A3 hx;rw[hx0];clear h hls hk hn hx0 hx hlast;go_enter Tryz.func28,Tryz.ntmps28;go_upto_region 1 with fail;obtain⟨W,bx,y0,hW,hbx,-,B8,Hup,Hbx,HB0⟩:=K7 x (([.int .i64 id,.int .i64 tm,.slice (some ad) ls.length c]:List Value)) 94;rw[hW,hbx];clear hW hbx;have hB0:=fun y:A7 W=>HB0.since y;clear HB0;have HB:=A3 (hB0 y0);have hWa:A8 w y0.w:=A8.trans B8 (A8.of y0);have HMa:=A3 (HM.out.to hWa);have HLa:=A3 (HL.out.to hWa);have HWa:=A3 hWa;have At8:=A3 (show w.heap.size≤bx∧bx<y0.w.heap.size from⟨by have:=Hbx.out;omega,HB.out.lt⟩);clear hB0 B8 hWa Hup Hbx HL;generalize y0.w=wa at *;clear y0 x;obtain⟨ea,ec,rfl,hels⟩:=uV HMa.out.r;have Au2:=A3 hels;clear hels;obtain⟨c0,c1,-⟩:=aC HMa.out.b;obtain⟨p0,p1,p2,-⟩:=lW HB.out;have hl5:¬(512:Int)≤(es.length:Int):=by omega
 have BD5:¬tm<0:=by omega
 have BD6:¬(4294943999:Int)<tm:=by omega
 have BC5:¬id<1:=by omega
 have Ax9:¬(1000000:Int)<id:=by omega
 have HC:=A3 (show Calls Tryz.prog 70 #[.pointer (some ⟨g,0,none⟩),.slice (some ad) ls.length c] wa (fun o w'=>o= .returned (.int .i64 0)∧∃y:A7 wa,w'=y.w)from AS6 wa (A7.self wa) g n _ HMa.out.b (some ad) ls c HLa.out HK.out);have HF:=A3 (fun y:A7 wa=>show Calls Tryz.prog 71 #[.pointer (some ⟨g,0,none⟩),.int .i64 id] y.w (fun o w'=>o= .returned (.int .i64 (-1))∧∃y:A7 wa,w'=y.w)from AS9 B wa y g n _ es HMa.out (by omega) id Hn.out);have hp0:∀y:A7 wa,y.w.cell? ⟨bx,0,none⟩=some (.int .i64 id):=fun y=>(HB.out.since y).c 0 _ rfl;go_upto_region 8 with(go_at_call 70;(with_reducible refine HC.out.mono ?_);rintro _ _ ⟨rfl,y1,rfl⟩)
 clear HC c0 c1 p0 p1 p2;have k0:=hp0 y1;go_upto_region 12 with(go_at_call 71;(with_reducible refine(HF.out y1).mono ?_);rintro _ _ ⟨rfl,y2,rfl⟩)
 clear k0 HF hp0;have HM2:=A3 (HMa.out.to (A8.of y2));have HB2:=A3 (HB.out.since y2);have HL2:=A3 (HLa.out.to (A8.of y2));have He2:=A3 (Au2.out.to (A8.of y2));have HW2:=A3 (A8.trans HWa.out (A8.of y2));have Hb2:=A3 (show w.heap.size≤bx∧bx<y2.w.heap.size from⟨At8.out.1,HB2.out.lt⟩);clear HMa HB HLa Au2 HWa At8 y1;generalize y2.w=wc at *;clear y2;have q0:=fun y:A7 wc=>(HM2.out.b.since y).c 0 _ rfl;have q1:∀y:A7 wc,y.w.cell? ⟨g,1,none⟩=some (.slice ea es.length ec):=fun y=>(HM2.out.b.since y).c 1 _ rfl;have p1:∀y:A7 wc,y.w.cell? ⟨bx,1,none⟩=some (.int .i64 tm):=fun y=>(HB2.out.since y).c 1 _ rfl;obtain⟨y0,hy0⟩:=A7.refl wc;rw[hy0];clear hy0;have q1y:=q1 y0;go_upto_region 13 with fail;obtain⟨m,hm⟩:∃m:Int,(es.length:Int)-1=m:=⟨_,rfl⟩
 rw[hm];have Hm:=A3 hm;clear hm;go_cut [69] (fun s69 wr=>s69= .bool false∧∃y:A7 wc,wr=y.w)
 case first=>
  by_cases hm0:0≤m;rotate_left
  ·have hm2:decide (0≤m)=false:=decide_eq_false hm0
   clear q1y;refine L5 (by kernel_rfl) (by kernel_rfl) ?_;repeat(go_big_quiet_step(fail))
   refine wpQuiet_nil ?_;rintro _ ⟨y3,rfl⟩;go_wp2_with fail;go_meet;exact⟨rfl,y3,rfl⟩
  ·obtain⟨m,rfl⟩:=Int.eq_ofNat_of_zero_le hm0
   have hml:(m:Int)<(es.length:Int):=by have:=Hm.out;omega
   obtain⟨e,he⟩:∃e,es[m]? =some e:=⟨_,A4 (by omega)⟩
   obtain⟨b1,off1,ha,hb1,hc1⟩:=He2.out m e he;have ra1:∀y:A7 wc,y.w.cell? ⟨b1,off1+m*4+1,none⟩=some (.int .i64 e.tm):=A7.cell (hc1 1 _ rfl) hb1;rw[ha]at q1;have hm2:decide ((0:Int)≤(m:Int))=true:=decide_eq_true hm0;have hlt:=Bv5.out e (A0 he);have hlt2:¬tm<e.tm:=by omega
   have hlt3:decide (tm<e.tm)=false:=decide_eq_false hlt2;clear hc1 hb1 he q1y;refine L5 (by kernel_rfl) (by kernel_rfl) ?_;repeat(go_big_quiet_step(fail))
   refine wpQuiet_nil ?_;rintro _ ⟨y3,rfl⟩;go_wp2_with fail;go_meet;exact⟨rfl,y3,rfl⟩
 case rest=>
  obtain⟨rfl,y3,rfl⟩:=hcut;clear q1y;have HM3:=A3 (HM2.out.to (A8.of y3));have HB3:=A3 (HB2.out.since y3);have HL3:=A3 (HL2.out.to (A8.of y3));have HW3:=A3 (A8.trans HW2.out (A8.of y3));have Hb3:=A3 (show w.heap.size≤bx∧bx<y3.w.heap.size from⟨Hb2.out.1,HB3.out.lt⟩);clear q0 q1 p1 HM2 HB2 HL2 He2 HW2 Hb2 Hm y0;generalize y3.w=wd at *;clear y3;have hSB:A8 B wd:=A8.trans (by rw[Hx.out];exact A8.of xb) HW3.out;have HSB:=A3 hSB;clear hSB;have hold:=fun b (hb:(Value.slice ea es.length ec).ownBlock=some b)=>lV HM.out.r b hb;have Bv9:=A3 hold;clear hold;go_upto_region 15 with fail;refine R7 (fun w'=>A8 B w'∧w'.cell? ⟨g,1,none⟩=some (.slice ea es.length ec)∧w'.cell? ⟨bx,0,none⟩=some (.int .i64 id)∧w'.cell? ⟨bx,1,none⟩=some (.int .i64 tm)∧w'.cell? ⟨bx,2,none⟩=some (.slice (some ad) ls.length c)) 12 (by kernel_rfl) ⟨A8.drew' HSB.out,HM3.out.b.c 1 _ rfl,HB3.out.c 0 _ rfl,HB3.out.c 1 _ rfl,HB3.out.c 2 _ rfl⟩ (fun hS=>?_);iterate 6
   refine J4 0 ?_ rfl rfl (by kernel_rfl) hS (fun _ _ _ h=>h) ?_ ?_
   rotate_left
   ·(intro w h;(try dsimp only at h);go_split_ands;go_simp;try with_reducible rfl)
   (try simp only[Act.put,B9])
  have hc:=A3 (show Calls Tryz.prog 72 #[.agg #[.int .i64 id,.int .i64 tm,.slice (some ad) ls.length c]] wd.drew (rO wd.drew id tm ls)from Bp4 wd.drew (A7.self _) id tm ad ls c (HL3.out.to (A8.drew' (A8.self _))) (by omega));refine I0 6 (by kernel_rfl) rfl fun K hK=>?_;(go_simp;(with_reducible refine hc.out.mono ?_);rintro _ _ ⟨a6,c6,z,rfl,rfl,h6,hf6⟩;have hz:=A8.trans (A8.drew' (A8.self wd)) (A8.of z);have HMz:=A3 (HM3.out.to hz);have HBz:=A3 (HB3.out.to hz);have Hz:=A3 hz)
  refine E5 hK (⟨A8.trans HSB.out Hz.out,HMz.out.b.c 1 _ rfl,HBz.out.c 0 _ rfl,HBz.out.c 1 _ rfl,HBz.out.c 2 _ rfl⟩) ?_;clear hK K hS;intro hS;(try simp only[Act.put,B9])
  refine tk 7 ?_ rfl (by kernel_rfl) hS (fun _ _ _ h=>h) ?_ ?_;rotate_left
  ·(intro w h;(try dsimp only at h);go_split_ands;go_simp;try with_reducible rfl)
  (try simp only[Act.put,B9])
  refine I0 8 (by kernel_rfl) rfl fun K hK=>?_;go_simp;refine E5 hK (⟨A8.alloc hS.1 _,(HMz.out.b.up _).c 1 _ rfl,(HBz.out.up _).c 0 _ rfl,(HBz.out.up _).c 1 _ rfl,(HBz.out.up _).c 2 _ rfl⟩) ?_;clear hK K hS;intro hS;(try simp only[Act.put,B9])
  obtain⟨ne,hne⟩:∃ne:J6,ne=⟨id,tm,a6,c6,ls⟩:=⟨_,rfl⟩
  refine I0 9 (by kernel_rfl) rfl fun K hK=>?_;(refine M8 (k:=4) (w0:=B) hS.1 rfl _ _ 161 rfl B.heap.size (Nat.le_refl _) (A8.size hS.1) 169 (.agg #[.int .i64 0,.int .i64 0,.slice none 0 0,.bool false]) 48 Bp5 (.slice ea es.length ec) es.length (B4 J6.cs es) rfl (fN HMz.out.r) ⟨z.w.heap.size,0,none⟩ 1 1 (J6.cs ⟨id,tm,a6,c6,ls⟩) rfl rfl (sZ _ _ rfl) (AS3 _) Nat.one_pos (by unfold maxLen;omega) (by omega) ?_;intro v2 q2 hown2 hg2 hl2;obtain⟨a7,n7,c7,rfl⟩:=I4 hown2;have hbg:=(HMz.out.b.up (.cells (J6.cs ⟨id,tm,a6,c6,ls⟩).toArray 169)).grown hg2 (fun hh=>HMz.out.d g hh.symm rfl);have hbb:=(HBz.out.up (.cells (J6.cs ⟨id,tm,a6,c6,ls⟩).toArray 169)).grown hg2 (fun hh=>by have h1:=Bv9.out bx hh.symm;have h2:=Hb3.out;omega))
  refine E5 hK (⟨A8.of q2,hbg.c 1 _ rfl,hbb.c 0 _ rfl,hbb.c 1 _ rfl,hbb.c 2 _ rfl⟩) ?_;clear hK K hS;intro hS;(try simp only[Act.put,B9])
  iterate 2
   refine J4 10 ?_ rfl rfl (by kernel_rfl) hS (fun _ _ _ h=>h) ?_ ?_
   rotate_left
   ·(intro w h;(try dsimp only at h);go_split_ands;go_simp;try with_reducible rfl)
   (try simp only[Act.put,B9])
  have fz:=hbg.f 1;have HbG:=A3 hbg;refine I0 12 (by kernel_rfl) rfl fun K hK=>?_;go_simp;refine M9 hK (by kernel_rfl) ?_;clear hK K;(try clear hS)
  (try simp only[Act.put,B9])
  have hfr:∀b off,(⟨id,tm,a6,c6,ls⟩:J6).la=some ⟨b,off,none⟩→b<z.w.heap.size∧b≠g∧(Value.slice ea es.length ec).ownBlock≠some b:=fun b off hb=>by
   have h1:=hf6 b off hb;have h2:wd.heap.size≤b:=h1.1;refine⟨h1.2,?_,fun hh=>?_⟩
   ·have:=HM3.out.b.lt;omega
   ·have h3:=lV HM3.out.r b hh;omega
  have hfin:=HMz.out.post 169 ⟨id,tm,a6,c6,ls⟩ h6 hfr hown2 hg2 hl2;obtain⟨y5,h5⟩:=q2.set ⟨g,1,none⟩ HM.out.gb (.slice a7 n7 c7);rw[h5]at hfin;have HR:=A3 (HP.out y5 (.slice a7 n7 c7) ⟨id,tm,a6,c6,ls⟩ rfl rfl rfl hfin);have H5:=A3 h5;clear hfin hown2 hg2 hl2 h6 hf6 hfr h5;go_wp2_with fail;rw[H5.out];exact HR.out
end
section
open Go.RowKit
theorem wY {α:Type} {enc:α→List Value} {k:Nat} (hk:∀x,(enc x).length=k) (w:World) (l:List α) (T:TypeId):D0 enc k (w.alloc (.cells (B4 enc l).toArray T)) (some ⟨w.heap.size,0,none⟩) l:=by
 intro i x hx;refine⟨w.heap.size,0,rfl,by simp,fun j v hv=>?_⟩;have:=Z6 w (B4 enc l) T (i*k+j) v (H7 hk l i x j v hx hv);rw[Addr.add_lit]at this;rw[show 0+i*k+j=0+(i*k+j) by omega];exact this
theorem Bp6 {α:Type} {enc:α→List Value} {k:Nat} {w:World} {g:Nat} {x:α} (hg:g<w.heap.size) (h:∀j v,(enc x)[j]? =some v→w.cell? ⟨g,j,none⟩=some v):D0 enc k w (some ⟨g,0,none⟩) [x]:=by
 intro i y hy;match i,hy with
 |0,hy=>
  obtain rfl:x=y:=Option.some.inj hy
  exact⟨g,0,rfl,hg,fun j v hv=>by rw[show 0+0*k+j=j by omega];exact h j v hv⟩
 |i+1,hy=>simp at hy
theorem Bp7 {α:Type} {enc:α→List Value} {k:Nat} {w:World} {a:Option Addr}:D0 enc k w a ([]:List α):=fun i x h=>by simp at h
def cA:C7:=⟨2,0,0,1000,700⟩
def gA:E0:=⟨0,100,100,200,200⟩
def rA (g:Nat):A9:=⟨1,0,100,100,200,200,false,some ⟨g,0,none⟩,[gA],1,none,[],0,2,0,2,0⟩
theorem Bp8 (g:Nat):J9 (rA g)=0:=rfl
theorem Bp9:o4 [cA]:=Ag1 (by decide) (by intro c hc;rw[List.mem_singleton]at hc;subst hc;rfl) (List.pairwise_singleton _ _)
theorem Bq0 {P S:List Nat} (hP:gZ 100 (aG [gA]) P) (hA:eB [cA] [gA] P 1 S):L9 0 S=[⟨0,30⟩,⟨3,70⟩]:=by
 have hP1:P=[100]:=AP4 hP;subst hP1;generalize hk:1=k at hA
 cases hA with
 |zero=>omega
 |city k S g p s h0 hg hp hc hs=>
  obtain rfl:k=0:=by omega
  obtain rfl:gA=g:=Option.some.inj hg
  exact absurd (hc cA List.mem_cons_self) (by decide)
 |both k S g p s r i c x y j h0 hg hp hj hc ho hxy hx hy hr hs=>
  obtain rfl:k=0:=by omega
  obtain rfl:gA=g:=Option.some.inj hg
  obtain rfl:100=p:=Option.some.inj hp
  have hj0:=(A5 hj).1
  obtain rfl:j=0:=by simpa using hj0
  obtain rfl:cA=c:=Option.some.inj hj
  have hi:i=2:=by have:(2:Int)=i:=ho;omega
  subst hi
  have hx1:70≤x:=hx
  have hy1:30≤y:=hy
  obtain rfl:x=70:=by omega
  obtain rfl:y=30:=by omega
  generalize hz:0=z at h0
  cases h0 with
  |zero=>
   obtain rfl:0=r:=Option.some.inj hr
   obtain rfl:0=s:=Option.some.inj hs
   rfl
  |city=>omega
  |both=>omega
theorem Bq1 (w:World) (x:A7 w) (t:Int):Calls Tryz.prog 65 #[.int .i64 t] x.w fun o w'=>o= .returned (.agg #[.int .i64 t,.int .i64 t])∧∃y:A7 w,w'=y.w:=by
 go_enter Tryz.func65,Tryz.ntmps65;go_upto_region 1 with fail;obtain⟨y0,e2,C9,hsz0,hlt0,HX0⟩:=L8 x [.int .i64 0,.int .i64 0] 36;rw[e2];obtain⟨hx0,hx1,hxf⟩:=aC HX0;skip;clear e2 C9;generalize x.w.heap.size=g at *;obtain⟨E6,G9,I3⟩:=p8 HX0;have I9:=A3 (And.intro hsz0 hlt0);clear hlt0 hsz0 HX0;go_wp2_with fail;obtain⟨z,hz,c0,c1⟩:=oS y0 hx0 hx1 ⟨y0,rfl⟩ I9.out.1 (.int .i64 t) (.int .i64 t);clear hx0 hx1 hxf E6 G9 I3;rw[hz];exact bodyPost_ret (v:=.agg #[.int .i64 t,.int .i64 t]) (by simp[results,Tryz.results65,go_sem,c0,c1]) rfl ⟨rfl,z,rfl⟩
def Ar6 (w:World) (o:Ending) (w':World):Prop:=
 ∃(a:Option Addr) (c:Nat) (y:A7 w),o= .returned (.tuple #[.slice a 2 c,.int .i64 0])∧w'=y.w∧D0 E9.cs 2 y.w a [⟨0,30⟩,⟨3,70⟩]
theorem Bq2 {w:World} {g:Nat} {o:Ending} {w':World} (h:mS w [cA] (rA g).legs 100 o w'):Ar6 w o w':=by
 obtain⟨a,c,P,S,y,rfl,rfl,h1,_,h3,h4⟩:=h;have h5:=Bq0 h3 h4;rw[h5]at h1⊢;exact⟨a,c,y,rfl,rfl,h1⟩
theorem Bq3 (w:World) (x:A7 w):Calls Tryz.prog 23 #[] x.w fun o w'=>o= .returned (.bool true)∧∃y:A7 w,w'=y.w:=by
 have HI:=A3 (fun(u:World) (t:Int) (hu:A8 w u)=>show Calls Tryz.prog 65 #[.int .i64 t] u (fun o w'=>o= .returned (.agg #[.int .i64 t,.int .i64 t])∧∃y:A7 w,w'=y.w)from by obtain⟨y,rfl⟩:=hu;exact Bq1 w y t);go_enter Tryz.func23,Tryz.ntmps23;go_upto_region 2 with(go_at_call 65;(with_reducible refine(HI.out _ _ (A8.of _)).mono ?_);rintro _ _ ⟨rfl,y1,rfl⟩)
 clear HI;obtain⟨y2,e2,C9,hsz0,hlt0,HX0,HX1⟩:=zU y1 [.int .i64 0,.int .i64 100,.int .i64 100,.int .i64 200,.int .i64 200] 152 [.int .i64 1,.int .i64 0,.int .i64 100,.int .i64 100,.int .i64 200,.int .i64 200,.bool false,.slice (some ⟨y1.w.heap.size,0,none⟩) 1 1,.slice none 0 0,.int .i64 2,.int .i64 0,.int .i64 2,.int .i64 0] 40;rw[e2];obtain⟨AA0,AA1,AA2,AA3,AA4,By9⟩:=fO HX0;obtain⟨Bz2,Bz3,Bz7,Bz8,Bz9,BA0,BA1,BA2,BA3,BA4,Bz4,Bz5,Bz6,BA5⟩:=bP HX1;skip;clear e2 C9;generalize y1.w.heap.size=g1 at *;obtain⟨Bu0,Bu1,Bu2,Bu3,Bu4,Bu5⟩:=V5 HX0;obtain⟨Au4,Au5,Au9,Av0,Av1,Av2,Av3,Av4,Av5,Av6,Au6,Au7,Au8,Bu6⟩:=R5 HX1;have I9:=A3 (And.intro hsz0 hlt0);clear hlt0 hsz0 HX0 HX1;have HR:=A3 (show(rA g1).At y2.w from⟨Bp6 (by have:=I9.out;omega) (fun j v hv=>by
  match j,hv with
  |0,hv=>rw[←Option.some.inj hv];exact AA0
  |1,hv=>rw[←Option.some.inj hv];exact AA1
  |2,hv=>rw[←Option.some.inj hv];exact AA2
  |3,hv=>rw[←Option.some.inj hv];exact AA3
  |4,hv=>rw[←Option.some.inj hv];exact AA4
  |j+5,hv=>simp[gA,E0.cs]at hv),Bp7,(by decide:(1:Nat)≤9223372036854775807),(by decide:(0:Nat)≤9223372036854775807)⟩)
 clear AA0 AA1 AA2 AA3 AA4 By9 Bu0 Bu1 Bu2 Bu3 Bu4 Bu5;have hcall:=Ah1 (y2.w.alloc (.cells (B4 C7.cs [cA]).toArray 158)) (A7.self _) (some ⟨y2.w.heap.size,0,none⟩) [cA] 1 (wY (enc:=C7.cs) (k:=5) (fun _ =>rfl) y2.w [cA] 158) (by decide) (by decide) Bp9 (rA g1) (HR.out.to (A8.alloc (A8.self _) _)) (Bp8 g1) rfl 100 (by decide);replace hcall:=hcall.mono (fun o w' h=>Bq2 h);change Calls _ _ #[.slice (some ⟨y2.w.heap.size,0,none⟩) 1 1,.agg #[.int .i64 1,.int .i64 0,.int .i64 100,.int .i64 100,.int .i64 200,.int .i64 200,.bool false,.slice (some ⟨g1,0,none⟩) 1 1,.slice none 0 0,.int .i64 2,.int .i64 0,.int .i64 2,.int .i64 0],.int .i64 100] (y2.w.alloc (.cells #[.int .i64 2,.int .i64 0,.int .i64 0,.int .i64 1000,.int .i64 700] 158)) _ at hcall;unfold Ar6 at hcall;have d0:(y2.w.alloc (.cells #[.int .i64 2,.int .i64 0,.int .i64 0,.int .i64 1000,.int .i64 700] 158)).cell? ⟨g1+1,0,none⟩=some (.int .i64 1):=by obtain⟨z,hz⟩:=A8.alloc (A8.self y2.w) (.cells #[.int .i64 2,.int .i64 0,.int .i64 0,.int .i64 1000,.int .i64 700] 158);rw[hz];exact Au4 z
 have d1:(y2.w.alloc (.cells #[.int .i64 2,.int .i64 0,.int .i64 0,.int .i64 1000,.int .i64 700] 158)).cell? ⟨g1+1,1,none⟩=some (.int .i64 0):=by obtain⟨z,hz⟩:=A8.alloc (A8.self y2.w) (.cells #[.int .i64 2,.int .i64 0,.int .i64 0,.int .i64 1000,.int .i64 700] 158);rw[hz];exact Au5 z
 have d2:(y2.w.alloc (.cells #[.int .i64 2,.int .i64 0,.int .i64 0,.int .i64 1000,.int .i64 700] 158)).cell? ⟨g1+1,2,none⟩=some (.int .i64 100):=by obtain⟨z,hz⟩:=A8.alloc (A8.self y2.w) (.cells #[.int .i64 2,.int .i64 0,.int .i64 0,.int .i64 1000,.int .i64 700] 158);rw[hz];exact Au9 z
 have d3:(y2.w.alloc (.cells #[.int .i64 2,.int .i64 0,.int .i64 0,.int .i64 1000,.int .i64 700] 158)).cell? ⟨g1+1,3,none⟩=some (.int .i64 100):=by obtain⟨z,hz⟩:=A8.alloc (A8.self y2.w) (.cells #[.int .i64 2,.int .i64 0,.int .i64 0,.int .i64 1000,.int .i64 700] 158);rw[hz];exact Av0 z
 have d4:(y2.w.alloc (.cells #[.int .i64 2,.int .i64 0,.int .i64 0,.int .i64 1000,.int .i64 700] 158)).cell? ⟨g1+1,4,none⟩=some (.int .i64 200):=by obtain⟨z,hz⟩:=A8.alloc (A8.self y2.w) (.cells #[.int .i64 2,.int .i64 0,.int .i64 0,.int .i64 1000,.int .i64 700] 158);rw[hz];exact Av1 z
 have d5:(y2.w.alloc (.cells #[.int .i64 2,.int .i64 0,.int .i64 0,.int .i64 1000,.int .i64 700] 158)).cell? ⟨g1+1,5,none⟩=some (.int .i64 200):=by obtain⟨z,hz⟩:=A8.alloc (A8.self y2.w) (.cells #[.int .i64 2,.int .i64 0,.int .i64 0,.int .i64 1000,.int .i64 700] 158);rw[hz];exact Av2 z
 have d6:(y2.w.alloc (.cells #[.int .i64 2,.int .i64 0,.int .i64 0,.int .i64 1000,.int .i64 700] 158)).cell? ⟨g1+1,6,none⟩=some (.bool false):=by obtain⟨z,hz⟩:=A8.alloc (A8.self y2.w) (.cells #[.int .i64 2,.int .i64 0,.int .i64 0,.int .i64 1000,.int .i64 700] 158);rw[hz];exact Av3 z
 have d7:(y2.w.alloc (.cells #[.int .i64 2,.int .i64 0,.int .i64 0,.int .i64 1000,.int .i64 700] 158)).cell? ⟨g1+1,7,none⟩=some (.slice (some ⟨g1,0,none⟩) 1 1):=by obtain⟨z,hz⟩:=A8.alloc (A8.self y2.w) (.cells #[.int .i64 2,.int .i64 0,.int .i64 0,.int .i64 1000,.int .i64 700] 158);rw[hz];exact Av4 z
 have d8:(y2.w.alloc (.cells #[.int .i64 2,.int .i64 0,.int .i64 0,.int .i64 1000,.int .i64 700] 158)).cell? ⟨g1+1,8,none⟩=some (.slice none 0 0):=by obtain⟨z,hz⟩:=A8.alloc (A8.self y2.w) (.cells #[.int .i64 2,.int .i64 0,.int .i64 0,.int .i64 1000,.int .i64 700] 158);rw[hz];exact Av5 z
 have d9:(y2.w.alloc (.cells #[.int .i64 2,.int .i64 0,.int .i64 0,.int .i64 1000,.int .i64 700] 158)).cell? ⟨g1+1,9,none⟩=some (.int .i64 2):=by obtain⟨z,hz⟩:=A8.alloc (A8.self y2.w) (.cells #[.int .i64 2,.int .i64 0,.int .i64 0,.int .i64 1000,.int .i64 700] 158);rw[hz];exact Av6 z
 have d10:(y2.w.alloc (.cells #[.int .i64 2,.int .i64 0,.int .i64 0,.int .i64 1000,.int .i64 700] 158)).cell? ⟨g1+1,10,none⟩=some (.int .i64 0):=by obtain⟨z,hz⟩:=A8.alloc (A8.self y2.w) (.cells #[.int .i64 2,.int .i64 0,.int .i64 0,.int .i64 1000,.int .i64 700] 158);rw[hz];exact Au6 z
 have d11:(y2.w.alloc (.cells #[.int .i64 2,.int .i64 0,.int .i64 0,.int .i64 1000,.int .i64 700] 158)).cell? ⟨g1+1,11,none⟩=some (.int .i64 2):=by obtain⟨z,hz⟩:=A8.alloc (A8.self y2.w) (.cells #[.int .i64 2,.int .i64 0,.int .i64 0,.int .i64 1000,.int .i64 700] 158);rw[hz];exact Au7 z
 have d12:(y2.w.alloc (.cells #[.int .i64 2,.int .i64 0,.int .i64 0,.int .i64 1000,.int .i64 700] 158)).cell? ⟨g1+1,12,none⟩=some (.int .i64 0):=by obtain⟨z,hz⟩:=A8.alloc (A8.self y2.w) (.cells #[.int .i64 2,.int .i64 0,.int .i64 0,.int .i64 1000,.int .i64 700] 158);rw[hz];exact Au8 z
 clear HR Au4 Au5 Au9 Av0 Av1 Av2 Av3 Av4 Av5 Av6 Au6 Au7 Au8 Bu6;go_upto_region 3 with(go_at_call 27;(with_reducible refine hcall.mono ?_);clear hcall;rintro _ _ ⟨a,c,y3,rfl,rfl,hl⟩)
 clear d0 d1 d2 d3 d4 d5 d6 d7 d8 d9 d10 d11 d12 Bz2 Bz3 Bz7 Bz8 Bz9 BA0 BA1 BA2 BA3 BA4 Bz4 Bz5 Bz6 BA5 I9;have HW:=A3 (show A8 w y3.w from A8.trans (A8.alloc (A8.of y2) _) (A8.of y3));have hcall:=Ah5 y3.w 5 (by decide) (by decide);have HL:=A3 hl;clear hl;go_upto_region 4 with(go_at_call 26;(with_reducible refine hcall.mono ?_);clear hcall;rintro _ _ ⟨g,y4,rfl,rfl,hm⟩;(have HM:=A3 hm);clear hm)
 obtain⟨b,off,rfl,hb,hc0⟩:=HL.out 0 _ rfl;have hc1:=(show∀(j:Nat) (v:Value),(⟨3,70⟩:E9).cs[j]? =some v→y3.w.cell? ⟨b,off+1*2+j,none⟩=some v from by
  obtain⟨b2,off2,e,_,h⟩:=HL.out 1 _ rfl;simp only[Option.some.injEq,Addr.mk.injEq,and_true]at e;obtain⟨rfl,rfl⟩:=e;exact h)
 have q0:y4.w.cell? ⟨b,off,none⟩=some (.int .i64 0):=A7.cell (hc0 0 _ rfl) hb y4;have q1:y4.w.cell? ⟨b,off+1,none⟩=some (.int .i64 30):=A7.cell (hc0 1 _ rfl) hb y4;have q2:y4.w.cell? ⟨b,off+2,none⟩=some (.int .i64 3):=A7.cell (hc1 0 _ rfl) hb y4;have q3:y4.w.cell? ⟨b,off+3,none⟩=some (.int .i64 70):=A7.cell (hc1 1 _ rfl) hb y4;clear hc0 hc1;go_upto_region 6 with fail;clear q0 q1 q2 q3 hb;go_upto_region 7 with(at_builtin;(refine cY (w0:=y4.w) (enc:=E9.cs) (k:=2) E9.len (by decide) kP ?hw rfl _ _ 87 rfl y4.w.heap.size (Nat.le_refl _) ?hb 91 (.agg #[.int .i64 0,.int .i64 0]) 16 kO (.slice (some ⟨y4.w.heap.size,0,none⟩) 0 0) 0 [] rfl ?hown (some ⟨b,off,none⟩) [⟨0,30⟩,⟨3,70⟩] c rfl ?hels (fun h=>by cases h) ?h63 ?hbytes ?_;rotate_right 1;intro v2 p2 hown2 _ hg2;refine Hid.out ?_))
 case hw=>exact A8.alloc (A8.self _) _
 case hb=>simp
 case hown=>exact jW (k:=2) (cZ.new y4.w _) (Nat.le_refl _)
 case hels=>exact((A7.els HL.out y4)).to (A8.alloc (A8.self _) _)
 case h63=>unfold maxLen;decide
 case hbytes=>decide
 rw[List.nil_append,Nat.zero_add]at hown2;obtain⟨-,a5,c5,rfl,-⟩:=O9 E9.len (by decide) hown2;have HO:=A3 (show p2.w.ownsRow y4.w.heap.size 91 2 (.slice a5 2 c5) 2 (B4 E9.cs [⟨0,30⟩,⟨3,70⟩])from hown2);clear hown2 hg2;refine A3 ?_;go_upto_region 8 with(at_builtin;(refine cY (w0:=y4.w) (enc:=E9.cs) (k:=2) E9.len (by decide) kP ?hw rfl _ _ 87 rfl y4.w.heap.size (Nat.le_refl _) ?hb 91 (.agg #[.int .i64 0,.int .i64 0]) 16 kO (.slice a5 2 c5) 2 (B4 E9.cs [⟨0,30⟩,⟨3,70⟩]) rfl ?hown (some ⟨p2.w.heap.size,0,none⟩) ([⟨4,-100⟩]:List E9) 1 rfl ?hels (fun h=>by cases h) ?h63 ?hbytes ?_;rotate_right 1;intro v3 p3 hown3 _ hg3;refine Hid.out ?_))
 case hw=>exact A8.alloc (A8.of p2) _
 case hb=>have:=p2.b.size;simp;omega
 case hown=>exact J8 HO.out (A8.alloc (A8.self _) _)
 case hels=>exact wY (enc:=E9.cs) (k:=2) (fun _ =>rfl) p2.w [⟨4,-100⟩] _
 case h63=>unfold maxLen;decide
 case hbytes=>decide
 obtain⟨-,a6,c6,rfl,-,hl6,-⟩:=O9 (l:=[⟨0,30⟩,⟨3,70⟩,⟨4,-100⟩]) E9.len (by decide) (show p3.w.ownsRow y4.w.heap.size 91 2 _ 3 (B4 E9.cs [⟨0,30⟩,⟨3,70⟩,⟨4,-100⟩])from hown3);obtain⟨ad,rfl⟩:∃ad,a6=some ad:=by obtain⟨b,o,h,_⟩:=hl6 0 _ rfl;exact⟨_,h⟩
 obtain⟨q,hq⟩:=y4.trans p3;have hcall:=Ar5 y3.w p3.w q hq g 5 _ [] (HM.out.to ⟨p3,rfl⟩) (by decide) 1 5 (by decide) (by decide) (fun e he=>by simp at he) (fun e he=>by simp at he) ad [⟨0,30⟩,⟨3,70⟩,⟨4,-100⟩] c6 hl6 ⟨by decide,by decide,by decide⟩;clear hown3 hg3 hl6 hq;unfold nL at hcall;change Calls _ _ #[.pointer (some ⟨g,0,none⟩),.agg #[.int .i64 1,.int .i64 5,.slice (some ad) 3 c6]] _ _ at hcall;refine A3 ?_;go_upto_region 9 with(go_at_call 28;(with_reducible refine hcall.mono ?_);clear hcall;rintro _ _ ⟨rfl,y5,v5,e5,rfl,h51,h52,h53,hm5⟩)
 rw[List.nil_append]at hm5;have hko:wS [e5]:=⟨by simp,fun e he=>by rw[List.mem_singleton.1 he,h53];decide,fun e he=>by rw[List.mem_singleton.1 he,h53];decide⟩
 have hcall:=wV y3.w y5.w (A7.self y5.w) g 5 v5 [e5] hm5 hko 4 5 (fun e he=>by rw[List.mem_singleton.1 he,h52];decide) (by decide) (by decide);rw[show S1 4 ([e5].map J6.ls)= -100 from by
  show V0 4 e5.ls+0= -100;rw[h53];rfl]at hcall
 rw[show(A7.self y5.w).w=y5.w from rfl]at hcall;have H5:=A3 (A8.trans HW.out (A8.of y5));clear h51 h52 h53 hm5 hko;go_wp2_with(go_at_call 29;(with_reducible refine hcall.mono ?_);clear hcall;rintro _ _ ⟨rfl,y6,rfl⟩);go_ret;exact⟨rfl,A8.trans H5.out ⟨y6,rfl⟩⟩
end
section
open Go.ChangeShapes Go.WideShapes Go.ChangeAt Go.RowKit
theorem Ar7:Tryz.prog.cellsOf 158=5:=by kernel_rfl
theorem Ar8:Tryz.prog.cellsOf 81=4:=by kernel_rfl
noncomputable def Ar9:Array Field:=Tryz.prog.fieldsOf 158
theorem Bq4:Tryz.prog.underlying 158=some (.struct Ar9):=by kernel_rfl
theorem Bq5:(Ar9.toList.map fun f=>(f.offset,f.type))=[(0,3),(1,3),(2,156),(4,3)]:=by kernel_rfl
section
variable {H:Type} {enc:TypeId×Value→H} {w:World} {base fuel:Nat} {spare:Nat→Bool} {held:Bool} {cs:List Value} {y:DataW H×List MemPlace}
theorem Bq6 (h:DataW.trod enc Tryz.prog w base spare held fuel 158 cs=some y):∃x:C7,cs=x.cs∧True:=by
 obtain⟨hl,hf⟩:=jV Bq4 Bq5 h;rw[Ar7]at hl;match cs,hl with
 |[c0,c1,c2,c3,c4],_ =>
  obtain⟨_,_,h0⟩:=hf 0 _ rfl
  obtain⟨_,_,h1⟩:=hf 1 _ rfl
  obtain⟨_,_,h2⟩:=hf 2 _ rfl
  obtain⟨_,_,h3⟩:=hf 3 _ rfl
  simp only[fE,Ap1]at h0 h1 h2 h3
  obtain⟨o,rfl,_⟩:=o9 h0
  obtain⟨b,rfl,_⟩:=o9 h1
  obtain⟨f,t,rfl,rfl⟩:=Ap9 h2
  obtain⟨s,rfl,_⟩:=o9 h3
  exact⟨⟨o,b,f,t,s⟩,rfl,trivial⟩
theorem Bq7 (h:DataW.trod enc Tryz.prog w base spare held fuel 81 cs=some y):∃x:bX,cs=x.cs∧x.In:=by
 have hl:cs.length=4:=by
  obtain⟨_,_,_,_,h1,_⟩:=DataW.trod_array Tryz.underlying81 h;rw[h1];exact Ar8
 match cs,hl with
 |[c0,c1,c2,c3],_ =>
  obtain⟨_,_,_,_,_,_,h0,h1,h2,h3⟩:=trod_array4 Tryz.underlying81 fE h
  obtain⟨b,rfl,i0⟩:=o9 h0
  obtain⟨t,rfl,i1⟩:=o9 h1
  obtain⟨o,rfl,i2⟩:=o9 h2
  obtain⟨s,rfl,i3⟩:=o9 h3
  exact⟨⟨b,t,o,s⟩,rfl,i0,i1,i2,i3⟩
end
section
variable {H:Type} {enc:TypeId×Value→H} {w:World} {b0:Nat} {r:Reach} {held:Bool} {v:Value} {d:DataW H} {p:List MemPlace}
theorem Bq8 (hv:Value.okWide Tryz.prog w r b0 78 v) (h:DataW.Trod enc Tryz.prog w 0 (fun _ =>true) held 78 v d p):
 ∃(a:Option Addr) (l:List C7) (cap:Nat),v= .slice a l.length cap∧l.length≤9223372036854775807∧l.length≤cap∧D0 C7.cs 5 w a l:=by
 obtain⟨a0,n0,c0,rfl⟩:=okWide_slice Tryz.underlying78 hv;obtain⟨fuel,hf⟩:=h;obtain⟨a,l,cap,hs,h1,h2,_,h4,_⟩:=lN (encA:=C7.cs) (Q:=fun _ =>True) Tryz.underlying78 Ar7 (by decide) C7.len (fun _ _ _ h=>Bq6 h) (c:=.slice a0 n0 c0) hf;exact⟨a,l,cap,hs,Nat.le_trans h1 h2,h1,h4⟩
theorem Bq9 (hv:Value.okWide Tryz.prog w r b0 79 v) (h:DataW.Trod enc Tryz.prog w 0 (fun _ =>true) held 79 v d p):
 ∃(a:Option Addr) (l:List bX) (cap:Nat),v= .slice a l.length cap∧l.length≤9223372036854775807∧D0 bX.cs 4 w a l∧∀x∈l,x.In:=by
 obtain⟨a0,n0,c0,rfl⟩:=okWide_slice Tryz.underlying79 hv;obtain⟨fuel,hf⟩:=h;obtain⟨a,l,cap,hs,h1,h2,_,h4,h5⟩:=lN (encA:=bX.cs) (Q:=bX.In) Tryz.underlying79 Ar8 (by decide) bX.len (fun _ _ _ h=>Bq7 h) (c:=.slice a0 n0 c0) hf;exact⟨a,l,cap,hs,Nat.le_trans h1 h2,h4,h5⟩
end
end
section
open Go.RowKit
theorem As0 {w:World} {B n:Nat} {e:TypeId} {k:Nat} {v:Value} {xs:List Value} (h:w.ownsRow B e k v n xs):n≤9223372036854775807:=by
 obtain⟨_,⟨_,h2⟩|⟨g,cap,cur,rfl,hg,hh,h1,h2,_⟩⟩:=h
 ·omega
 ·unfold maxLen at h2;omega
theorem P5.atO {w:World} {B:Nat} {r:A9} (h:P5 w B r):r.At w:=by
 obtain⟨_,a,c,e1,_,h3,_,_⟩:=O9 E0.len (by decide) h.l;obtain⟨_,a',c',e2,_,h4,_,_⟩:=O9 I2.len (by decide) h.p;have h1:=As0 h.l;have h2:=As0 h.p;unfold A9.lv at e1;unfold A9.pv at e2;simp only[Value.slice.injEq]at e1 e2;exact⟨by rw[e1.1];exact h3,by rw[e2.1];exact h4,h1,h2⟩
theorem P5.toO {w W:World} {B:Nat} {r:A9} (h:P5 w B r) (hW:∃z:A7 w,W=z.w):P5 W B r:=⟨J8 h.l hW,J8 h.p hW⟩
def wZ (w:World) (o:Ending) (w':World):Prop:=
 ∃(a:Option Addr) (c:Nat) (R:List A9) (e:Int) (y:A7 w),o= .returned (.tuple #[.slice a R.length c,.int .i64 e])∧w'=y.w∧bQ y.w a R∧R.length≤40∧∀r∈R,U0 r.pl
theorem Br0 {w:World} {f:G4} {l:List Ev} (hl:l.length≤40) {o:Ending} {w':World} (h:qQ w f (P9 l) o w'):wZ w o w':=by
 obtain⟨v,y,rfl,rfl,⟨h1,rfl⟩|⟨h1,R,h2,h3,h4⟩⟩:=h
 ·exact⟨none,0,[],_,y,rfl,rfl,⟨fun i x h=>by simp at h,fun r hr=>by cases hr⟩,by simp,fun r hr=>by cases hr⟩
 ·obtain⟨_,a,c,e,_,h5,_,_⟩:=O9 A9.len (by decide) h2
  refine⟨a,c,R,_,y,by rw[e],rfl,⟨h5,fun r hr=>(h3 r hr).atO⟩,?_,fun r hr=>?_⟩
  ·have h1:=congrArg List.length h4
   rw[List.length_map,(jE _).length_eq]at h1;have h2:=Ai8 f (P9 l);have h3:=vR l;omega
  ·have h5:r.br∈dL f (P9 l):=by
    rw[←(jE _).mem_iff,←h4];exact List.mem_map_of_mem hr
   have h6:=Bo8 r.br h5;have h7:r.br.pl=r.pl:=rfl;unfold U0;omega
structure Br1 (M:List A9) (x:M2):Prop where
 t:0≤x.tt∧x.tt≤1000000000000
 r:∃(j:Nat) (r:A9),M[j]? =some r∧r.id=x.id∧r.op=false∧J9 r=0∧∀i e,i<j→M[i]? =some e→e.id≠x.id
def xA (w:World) (M:List A9) (o:Ending) (w':World):Prop:=
 ∃(a:Option Addr) (c:Nat) (F:List M2) (e:Int) (y:A7 w),o= .returned (.tuple #[.slice a F.length c,.int .i64 e])∧w'=y.w∧D0 M2.cs 4 y.w a F∧F.length≤256∧(e=0→∀x∈F,Br1 M x)
theorem Br2 {w:World} {f:G4} {p:G5} {M:List A9} {o:Ending} {w':World} (h:nI w f p M o w'):xA w M o w':=by
 obtain⟨v,e,y,u,rfl,rfl,he,hu,⟨h1,rfl⟩|⟨h1,F,hF⟩⟩:=h
 ·exact⟨none,0,[],e,y,rfl,rfl,fun i x h=>by simp at h,by simp,fun h=>absurd h h1⟩
 ·obtain⟨_,a,c,rfl,_,h5,_,_⟩:=O9 M2.len (by decide) hF.r
  rw[h1]at he;unfold nD at he;have hp0:o7 f p=0:=by
   by_cases h:o7 f p=0
   ·exact h
   ·rw[if_pos h]at he;exact absurd he.symm h
  rw[if_neg (by simp[hp0])]at he;have hr0:U9 M=0:=by
   by_cases h:U9 M=0
   ·exact h
   ·rw[if_pos h]at he;exact absurd he.symm h
  rw[if_neg (by simp[hr0])]at he;obtain⟨_,hk⟩:=An3 hp0;obtain⟨k1,k2,_,_⟩:=Aq7 hr0;obtain⟨_,m2,_⟩:=mI hr0;have hlen:F.length=(Q5 M).length:=by
   have:=hF.f.length_eq;rw[List.length_map]at this;rw[this];simp[qR]
  refine⟨a,c,F,e,y,rfl,rfl,h5,by omega,fun _ x hx=>?_⟩;have h2:=hF.f.mem_iff.1 (List.mem_map_of_mem hx);obtain⟨i,hi,hx2⟩:=List.mem_map.1 h2;have hi':=List.mem_range.1 hi;have hg:∀j,j<(Q5 M).length→(O7 p (D3 (Q5 M) j) (u j)).tt≤1000000000000∧0≤(O7 p (D3 (Q5 M) j) (u j)).tt:=fun j hj=>by
   have h1:=wF (wC he.symm j hj);have h2:=qT hk (D3 (Q5 M) j) (u j) h1.1 h1.2.1;omega
  have hG:∀z∈Z2 p (Q5 M) u,0≤z.2.2∧z.2.2≤1000000000000:=fun z hz=>by
   obtain⟨j,hj,rfl⟩:=List.mem_map.1 hz;have:=hg j (List.mem_range.1 hj);exact⟨this.2,this.1⟩
  have hpd:=Am9 hk.c.1 hG (k:=i) (by unfold Z2;rw[List.getElem?_map,List.getElem?_range hi'];rfl);have h3:x.id=(D3 (Q5 M) i).id:=(congrArg lA.id hx2).symm;have h4:x.tt=B0 (U2 p.cap (Z2 p (Q5 M) u)) i:=by
   have h:=(congrArg (fun z:lA=>z.b.tt) hx2).symm;have e1:x.tt=((O7 p (D3 (Q5 M) i) (u i)).add 6 0 (B0 (U2 p.cap (Z2 p (Q5 M) u)) i-(O7 p (D3 (Q5 M) i) (u i)).tt)).tt:=h;rw[L7.add_tt]at e1;omega
  have h6:=(hg i hi').1;obtain⟨r1,r2,r3⟩:=k2 (D3 (Q5 M) i) (by
   unfold D3;rw[A6,A4 hi'];exact List.getElem_mem hi')
  generalize D3 (Q5 M) i=r at *;obtain⟨j,hj,rfl⟩:=List.mem_iff_getElem.1 r3;refine⟨by omega,j,_,A4 hj,h3.symm,r2,r1,fun k e hk hke hid=>?_⟩;rw[List.nodup_iff_pairwise_ne,List.pairwise_map,List.pairwise_iff_getElem]at m2;obtain⟨hkl,rfl⟩:=A5 hke;exact m2 k j hkl hj hk (hid.trans h3)
end
end Go.Proofs.YtmmlmhnjjfnpnaaGreat
