/- Texts that belong together. -/
import Derived.Test.YtmmlmhnjjfnpnaaGreatTpNzk
set_option linter.all false
namespace Go.Proofs.YtmmlmhnjjfnpnaaGreat
section
def f1:D5:=⟨1,1,1,[],[]⟩
def e1:Ev:=⟨0,1,10,10,2,0,0,0,0⟩
def e2:Ev:=⟨0,2,1000,1010,3,0,0,0,7⟩
def e3:Ev:=⟨0,3,1600,1605,2,0,0,0,0⟩
def dB:List Ev:=[e1,e2,e3]
def t1:I4:=⟨0,100,60,0,20,0⟩
def p1:E4:=⟨[t1],[],[],[],0,[],0⟩
def r1 (la:Option Addr) (lc:Nat) (pa:Option Addr) (pc:Nat):A8:=⟨7,0,1000,1010,1600,1605,false,la,[⟨0,1000,1010,1600,1605⟩],lc,pa,[],pc,2,0,2,0⟩
theorem Bq5:H9 f1=0:=by decide +kernel
theorem Bq6:G9 dB=dB:=Am8 (by simp only[dB,List.pairwise_cons];decide +kernel) (by simp only[dB,List.pairwise_cons];decide +kernel)
theorem Bq7:P1 f1 dB=[r1 none 0 none 0]:=by kernel_rfl
theorem Bq8:V3 (P1 f1 (G9 dB))=[r1 none 0 none 0]:=by
 rw[Bq6,Bq7];exact List.perm_singleton.1 (eI _)
theorem Bq9 {R:List A8} (h:R.map A8.br=V3 (P1 f1 (G9 dB))):∃la lc pa pc,R=[r1 la lc pa pc]:=by
 rw[Bq8]at h;obtain⟨r,rfl,h2⟩:=List.map_eq_singleton_iff.1 h;obtain⟨id,rd,s0,s1,e0,e1,op,la,legs,lc,pa,ps,pc,fw,fp,wh,pl⟩:=r;simp only[A8.br,r1,A8.mk.injEq]at h2;obtain⟨rfl,rfl,rfl,rfl,rfl,rfl,rfl,_,rfl,_,_,rfl,_,rfl,rfl,rfl,rfl⟩:=h2;exact⟨la,lc,pa,pc,rfl⟩
section
variable (la:Option Addr) (lc:Nat) (pa:Option Addr) (pc:Nat)
theorem sG:G4 (r1 la lc pa pc)=0:=by kernel_rfl
theorem At4:Q0 (r1 la lc pa pc)=590:=by
 unfold Q0;rw[if_pos (sG la lc pa pc),qM];have h:cnt (t7 (r1 la lc pa pc)) 4294944000=cnt (fun t=>O0 t ⟨1010,1600⟩) 4294944000:=vR _ fun t _ _ =>by
  unfold t7 X0;rw[if_pos (sG la lc pa pc)];simp[r1,C9];rfl
 rw[h,qL ⟨1010,1600⟩ (by decide) (by decide)];decide +kernel
theorem At5:X1 (r1 la lc pa pc)=0:=by
 unfold X1;rw[if_pos (sG la lc pa pc),qM];exact vT _ fun t _ _ =>by simp[aU,r1,C9]
theorem xR:M5 [r1 la lc pa pc]=[r1 la lc pa pc]:=by
 have h:([r1 la lc pa pc].filter fun r=>!r.op)=[r1 la lc pa pc]:=rfl;unfold M5;rw[h];exact List.perm_singleton.1 (jH _)
theorem At6 {u:Nat→Int} (h:S5 p1.ps [r1 la lc pa pc] u):u 0= -1:=by
 rw[h 0 Nat.one_pos];rfl
theorem At7:L8 p1 (r1 la lc pa pc) (-1)=⟨[⟨1,0,100⟩,⟨2,0,200⟩],300⟩:=by
 have h:l6 p1 (r1 la lc pa pc)=⟨[⟨1,0,100⟩,⟨2,0,200⟩],300⟩:=by
  unfold l6;rw[At4,At5];rfl
 unfold L8;rw[if_neg (by decide)];unfold r9;rw[h];rfl
theorem Br0 {u:Nat→Int} (h:u 0= -1):Z6 p1 [r1 la lc pa pc] u 1=0:=by
 show(if(0:Int)≠0 then(0:Int)else Z5 p1 (r1 la lc pa pc) (u 0))=0;rw[if_neg (by decide),h];unfold Z5;rw[At7,At4,At5];rfl
theorem xS:i6 f1 p1=0:=by decide +kernel
theorem xT:S4 [r1 la lc pa pc]=0:=by
 refine(pS (l:=[r1 la lc pa pc]) (by simp) (fun j hj x hx=>?_)).trans ?_
 ·simp at hj
  subst hj;obtain rfl:r1 la lc pa pc=x:=Option.some.inj hx;exact((vQ _).1 (sG la lc pa pc)).1
 ·rfl
theorem Br1 {u:Nat→Int} (h:i6 f1 p1=0→S4 [r1 la lc pa pc]=0→S5 p1.ps (M5 [r1 la lc pa pc]) u):jI f1 p1 [r1 la lc pa pc] u=0:=by
 have hu:=h xS (xT la lc pa pc);rw[xR]at hu;unfold jI;rw[if_neg (by rw[xS];decide),if_neg (by rw[xT];decide),xR];exact Br0 la lc pa pc (At6 la lc pa pc hu)
theorem Br2 {u:Nat→Int} (h:i6 f1 p1=0→S4 [r1 la lc pa pc]=0→S5 p1.ps (M5 [r1 la lc pa pc]) u):cI p1 (M5 [r1 la lc pa pc]) u=[⟨7,0,⟨[⟨1,0,100⟩,⟨2,0,200⟩],300⟩⟩]:=by
 have hu:=h xS (xT la lc pa pc);rw[xR]at hu⊢;have hu0:=At6 la lc pa pc hu;have hb:L8 p1 (C1 [r1 la lc pa pc] 0) (u 0)=⟨[⟨1,0,100⟩,⟨2,0,200⟩],300⟩:=by rw[hu0];exact At7 la lc pa pc
 have hg:U2 p1 [r1 la lc pa pc] u=[(0,0,300)]:=by
  show[((C1 [r1 la lc pa pc] 0).rd,F8 (C1 [r1 la lc pa pc] 0),(L8 p1 (C1 [r1 la lc pa pc] 0) (u 0)).tt)]= _;rw[hb];rfl
 show[l8 p1 [r1 la lc pa pc] u 0]= _;unfold l8;rw[hb,hg];rfl
end
end
section
open Go.RowKit
theorem Br3 {α:Type} {enc:α→List Value} {k:Nat} (hk:∀x,(enc x).length=k) (w:World) (l:List α) (T:TypeId):D0 enc k (w.alloc (.cells (B6 enc l).toArray T)) (some ⟨w.heap.size,0,none⟩) l:=by
 intro i x hx;refine⟨w.heap.size,0,rfl,by simp,fun j v hv=>?_⟩;have:=Z1 w (B6 enc l) T (i*k+j) v (G0 hk l i x j v hx hv);rw[Addr.add_lit]at this;rw[show 0+i*k+j=0+(i*k+j) by omega];exact this
theorem Br4 {α:Type} {enc:α→List Value} {k:Nat} {w:World} {g:Nat} {x:α} (hg:g<w.heap.size) (h:∀j v,(enc x)[j]? =some v→w.cell? ⟨g,j,none⟩=some v):D0 enc k w (some ⟨g,0,none⟩) [x]:=by
 intro i y hy;match i,hy with
 |0,hy=>
  obtain rfl:x=y:=Option.some.inj hy
  exact⟨g,0,rfl,hg,fun j v hv=>by rw[show 0+0*k+j=j by omega];exact h j v hv⟩
 |i+1,hy=>simp at hy
theorem xU {α:Type} {enc:α→List Value} {k:Nat} {w:World} {a:Option Addr}:D0 enc k w a ([]:List α):=fun i x h=>by simp at h
theorem L4.at {w:World} {B:Nat} {r:A8} (h:L4 w B r) (h1:r.legs.length≤9223372036854775807) (h2:r.pauses.length≤9223372036854775807):r.At w:=by
 obtain⟨_,a,c,e1,_,h3,_,_⟩:=P2 F0.len (by decide) h.l;obtain⟨_,a',c',e2,_,h4,_,_⟩:=P2 F4.len (by decide) h.p;unfold A8.lv at e1;unfold A8.pv at e2;simp only[Value.slice.injEq]at e1 e2;exact⟨by rw[e1.1];exact h3,by rw[e2.1];exact h4,h1,h2⟩
def At8 (w:World) (o:Ending) (w':World):Prop:=
 ∃(la:Option Addr) (lc:Nat) (pa:Option Addr) (pc:Nat) (a:Option Addr) (c:Nat) (y:A6 w),o= .returned (.tuple #[.slice a 1 c,.int .i64 0])∧w'=y.w∧j3 y.w a [r1 la lc pa pc]
theorem Br5 {w:World} {o:Ending} {w':World} (h:jF w f1 (G9 dB) o w'):At8 w o w':=by
 unfold jF at h;rw[Bq5]at h;obtain⟨v,y,rfl,rfl,⟨h1,_⟩|⟨_,R,h2,h3,h4⟩⟩:=h
 ·exact absurd rfl h1
 ·obtain⟨la,lc,pa,pc,rfl⟩:=Bq9 h4
  obtain⟨_,a,c,e,_,h5,_,_⟩:=P2 A8.len (by decide) h2;refine⟨la,lc,pa,pc,a,c,y,by rw[e];rfl,rfl,h5,fun r hr=>?_⟩;have h6:=h3 r hr;rw[List.mem_singleton]at hr;subst hr;exact h6.at (by simp[r1]) (by simp[r1])
def At9 (w:World) (o:Ending) (w':World):Prop:=
 ∃(g c:Nat) (y:A6 w),o= .returned (.tuple #[.slice (some ⟨g,0,none⟩) 1 c,.int .i64 0])∧w'=y.w∧y.w.cell? ⟨g,0,none⟩=some (.int .i64 7)∧y.w.cell? ⟨g,3,none⟩=some (.int .i64 300)
theorem Br6 {w:World} {o:Ending} {w':World} {la:Option Addr} {lc:Nat} {pa:Option Addr} {pc:Nat} (h:jM w f1 p1 [r1 la lc pa pc] o w'):At9 w o w':=by
 unfold jM at h;obtain⟨v,e,y,u,rfl,rfl,he,hu,h⟩:=h;have he0:=he.trans (Br1 la lc pa pc hu);subst he0;rcases h with⟨h1,_⟩|⟨_,F,hF⟩
 ·exact absurd rfl h1
 ·have hp:=hF.f
  rw[Br2 la lc pa pc hu]at hp;obtain⟨x,rfl,hx⟩:=List.map_eq_singleton_iff.1 (List.perm_singleton.1 hp);obtain⟨id,rd,ia,it,ic,tt⟩:=x;simp only[I1.far,eM.mk.injEq,K0.mk.injEq]at hx;obtain⟨rfl,rfl,rfl,rfl⟩:=hx;obtain⟨g,c,rfl,_,_⟩:=dJ hF.r (by simp);exact⟨g,c,y,rfl,rfl,(O8 hF.r (j:=0) rfl).1 (A6.self _),(O8 hF.r (j:=3) rfl).1 (A6.self _)⟩
set_option maxRecDepth 100000 in
set_option maxHeartbeats 16000000 in
theorem Br7 (w:World) (x:A6 w):Calls Tryz.prog 7 #[] x.w fun o w'=>o= .returned (.bool true)∧∃y:A6 w,w'=y.w:=by
 go_enter Tryz.func7,Tryz.ntmps7;go_upto_region 2 with fail;obtain⟨y1,e2,C5,hsz0,hlt0,HX0⟩:=L9 x [.int .i64 1,.int .i64 1,.int .i64 1,.slice none 0 0,.slice none 0 0] 24;rw[e2];obtain⟨hx0,hx1,hx2,hx3,hx4,hxf⟩:=pG HX0;skip;clear e2 C5;generalize x.w.heap.size=g1 at *;obtain⟨E9,G1,J4,I9,M8,G8⟩:=Z2 HX0;have I5:=A2 (And.intro hsz0 hlt0);clear hlt0 hsz0 HX0;clear hx0 hx1 hx2 hx3 hx4 hxf G8;go_upto_region 3 with fail;obtain⟨y2,e2,C5,hsz0,hlt0,HX0,HX1⟩:=Ac3 y1 [.int .i64 0,.int .i64 100,.int .i64 60,.int .i64 0,.int .i64 20,.int .i64 0] 27 [.slice (some ⟨y1.w.heap.size,0,none⟩) 1 1,.slice none 0 0,.slice none 0 0,.slice none 0 0,.int .i64 0,.slice none 0 0,.int .i64 0] 53;rw[e2];obtain⟨AE8,AE9,AF0,AF1,AF2,AF3,BK9⟩:=iM HX0;obtain⟨BD9,BE0,BE1,BE2,BE3,BE4,BE5,BL0⟩:=cx7 HX1;(have Hst:=A2 C5)
 clear e2 C5;generalize y1.w.heap.size=g2 at *;obtain⟨BG7,BG8,BG9,BH0,BH1,BH2,BH3⟩:=X9 HX0;obtain⟨BH4,BH5,BH6,BH7,BH8,BH9,BI0,BI1⟩:=cR HX1;have Bz4:=A2 (And.intro hsz0 hlt0);clear hlt0 hsz0 HX0 HX1;have HA:=A2 (show dA y2.w p1 (some ⟨g2,0,none⟩) none none none none from⟨Br4 (by have:=Bz4.out;omega) (fun j v hv=>by
  match j,hv with
  |0,hv=>rw[←Option.some.inj hv];exact AE8
  |1,hv=>rw[←Option.some.inj hv];exact AE9
  |2,hv=>rw[←Option.some.inj hv];exact AF0
  |3,hv=>rw[←Option.some.inj hv];exact AF1
  |4,hv=>rw[←Option.some.inj hv];exact AF2
  |5,hv=>rw[←Option.some.inj hv];exact AF3
  |j+6,hv=>simp[t1,I4.cs]at hv),xU,fun i hi=>absurd hi (by simp[p1]),fun i hi=>absurd hi (by simp[p1]),fun i hi=>absurd hi (by simp[p1]),by simp[p1],by simp[p1],by simp[p1],by simp[p1],by simp[p1]⟩)
 have c0:∀y:A6 y2.w,y.w.cell? ⟨g1,0,none⟩=some (.int .i64 1):=fun y=>by obtain⟨z,hz⟩:=A7.trans Hst.out ⟨y,rfl⟩;rw[hz];exact E9 z
 have c1:∀y:A6 y2.w,y.w.cell? ⟨g1,1,none⟩=some (.int .i64 1):=fun y=>by obtain⟨z,hz⟩:=A7.trans Hst.out ⟨y,rfl⟩;rw[hz];exact G1 z
 have c2:∀y:A6 y2.w,y.w.cell? ⟨g1,2,none⟩=some (.int .i64 1):=fun y=>by obtain⟨z,hz⟩:=A7.trans Hst.out ⟨y,rfl⟩;rw[hz];exact J4 z
 have c3:∀y:A6 y2.w,y.w.cell? ⟨g1,3,none⟩=some (.slice none 0 0):=fun y=>by obtain⟨z,hz⟩:=A7.trans Hst.out ⟨y,rfl⟩;rw[hz];exact I9 z
 have c4:∀y:A6 y2.w,y.w.cell? ⟨g1,4,none⟩=some (.slice none 0 0):=fun y=>by obtain⟨z,hz⟩:=A7.trans Hst.out ⟨y,rfl⟩;rw[hz];exact M8 z
 have Hf1:=A2 (fun W:World=>show Y6 W f1 none none from⟨fun i hi=>absurd hi (by simp[f1]),fun i hi=>absurd hi (by simp[f1]),by simp[f1],by simp[f1]⟩);have hcall:=xB (y2.w.alloc (.cells (B6 Ev.cs dB).toArray 63)) (A6.self _) f1 none none 0 0 (Hf1.out _) (some ⟨y2.w.heap.size,0,none⟩) dB 3 (Br3 (enc:=Ev.cs) (k:=9) (fun _ =>rfl) y2.w dB 63) (by decide) (fun e he=>by simp only[dB,List.mem_cons,List.not_mem_nil,or_false]at he;rcases he with rfl|rfl|rfl<;>exact⟨by decide,by decide⟩);replace hcall:=hcall.mono (fun o w' h=>Br5 h);change Calls _ _ #[.agg #[.int .i64 1,.int .i64 1,.int .i64 1,.slice none 0 0,.slice none 0 0],.slice (some ⟨y2.w.heap.size,0,none⟩) 3 3] (y2.w.alloc (.cells #[.int .i64 0,.int .i64 1,.int .i64 10,.int .i64 10,.int .i64 2,.int .i64 0,.int .i64 0,.int .i64 0,.int .i64 0,.int .i64 0,.int .i64 2,.int .i64 1000,.int .i64 1010,.int .i64 3,.int .i64 0,.int .i64 0,.int .i64 0,.int .i64 7,.int .i64 0,.int .i64 3,.int .i64 1600,.int .i64 1605,.int .i64 2,.int .i64 0,.int .i64 0,.int .i64 0,.int .i64 0] 63)) _ at hcall;unfold At8 at hcall;clear AE8 AE9 AF0 AF1 AF2 AF3 BD9 BE0 BE1 BE2 BE3 BE4 BE5 E9 G1 J4 I9 M8 Hst;have d0:y2.w.cell? ⟨g1,0,none⟩=some (.int .i64 1):=c0 (A6.self y2.w);have d1:y2.w.cell? ⟨g1,1,none⟩=some (.int .i64 1):=c1 (A6.self y2.w);have d2:y2.w.cell? ⟨g1,2,none⟩=some (.int .i64 1):=c2 (A6.self y2.w);have d3:y2.w.cell? ⟨g1,3,none⟩=some (.slice none 0 0):=c3 (A6.self y2.w);have d4:y2.w.cell? ⟨g1,4,none⟩=some (.slice none 0 0):=c4 (A6.self y2.w);go_upto_region 4 with(go_at_call 8;(with_reducible refine hcall.mono ?_);clear hcall;rintro _ _ ⟨la,lc,pa,pc,a,c,y3,rfl,rfl,hr⟩;(have HRr:=A2 hr);clear hr)
 clear d0 d1 d2 d3 d4;obtain⟨y4,hy4⟩:=A7.trans (A7.alloc (A7.self y2.w) _) ⟨y3,rfl⟩;rw[hy4]at HRr⊢;clear hy4;have hcall:=xQ y4.w (A6.self _) f1 none none 0 0 (Hf1.out _) p1 (some ⟨g2,0,none⟩) none none none none 1 0 0 0 0 (HA.out.to ⟨y4,rfl⟩) (fun _ =>rfl) (fun _ =>rfl) [r1 la lc pa pc] a c HRr.out (by simp) (fun r hr=>by rw[List.mem_singleton]at hr;subst hr;exact(show T4 0 from⟨by decide,by decide⟩));replace hcall:=hcall.mono (fun o w' h=>Br6 h);change Calls _ _ #[.agg #[.int .i64 1,.int .i64 1,.int .i64 1,.slice none 0 0,.slice none 0 0],.agg #[.slice (some ⟨g2,0,none⟩) 1 1,.slice none 0 0,.slice none 0 0,.slice none 0 0,.int .i64 0,.slice none 0 0,.int .i64 0],.slice a 1 c,.slice none 0 0] y4.w _ at hcall;unfold At9 at hcall;go_upto_region 5 with(go_at_call 19;(with_reducible refine hcall.mono ?_);clear hcall;rintro _ _ ⟨g,cf,y5,rfl,rfl,c7,c8⟩)
 clear c0 c1 c2 c3 c4;have HR:=A2 (show∃y:A6 w,y5.w=y.w from A7.trans ⟨y2,rfl⟩ (A7.trans ⟨y4,rfl⟩ ⟨y5,rfl⟩));go_wp2_with fail;go_ret;exact⟨F9 (by first|rfl|(simp;done)|(simp;omega)),HR.out⟩
end
end Go.Proofs.YtmmlmhnjjfnpnaaGreat
