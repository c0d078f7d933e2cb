/- Texts that belong together. -/
import Derived.Test.YtmmlmhnjjfnpnaaGreatTpQze
import Derived.Test.YtmmlmhnjjfnpnaaGreatTpQzj
import Derived.BigQuiet
import Derived.Lib.AppendZerosOnto
import Derived.Laws.AppendOwn
import Derived.ChangeKeysEq
set_option linter.all false
namespace Go.Proofs.YtmmlmhnjjfnpnaaGreat
set_option maxRecDepth 200000
set_option maxHeartbeats 64000000
section
open Go.RowKit
structure p5 (w:World) (B g:Nat) (id rd:Int) (v:Value) (b:L7):Prop where
 bx:C4 w g [.int .i64 id,.int .i64 rd,v,.int .i64 b.tt]
 it:w.ownsRow B 217 3 v b.it.length (B4 aP.cs b.it)
 ge:B≤g
 ne:∀x∈ob v,x≠g
theorem p5.keepS {S:Nat→Prop} {w w':World} {B g:Nat} {id rd:Int} {v:Value} {b:L7} (h:p5 w B g id rd v b) (hk:B7 S w w') (hn:∀x,x=g∨x∈ob v→¬S x):p5 w' B g id rd v b:=
 ⟨h.bx.keepS hk (hn g (.inl rfl)),X4 h.it hk (fun x hx=>hn x (.inr hx)),h.ge,h.ne⟩
theorem p5.to {w w':World} {B g:Nat} {id rd:Int} {v:Value} {b:L7} (h:p5 w B g id rd v b) (hW:∃z:A7 w,w'=z.w):p5 w' B g id rd v b:=by
 obtain⟨z,rfl⟩:=hW;exact h.keepS (B7.of (S:=fun _ =>False) z) fun _ _ h=>h
theorem p5.lt {w:World} {B g:Nat} {id rd:Int} {v:Value} {b:L7} (h:p5 w B g id rd v b):∀x,x=g∨x∈ob v→B≤x∧x<w.heap.size:=fun x hx=>by
 rcases hx with rfl|hx
 ·exact⟨h.ge,h.bx.lt⟩
 ·exact bH h.it x hx
def qV (w:World) (B g:Nat) (id rd:Int) (v:Value) (b:L7) (o:Ending) (w':World):Prop:=
 o= .returned (.tuple #[])∧∃v',p5 w' B g id rd v' b∧B7 (fun x=>x=g∨x∈ob v) w w'∧∀x∈ob v',x∈ob v∨w.heap.size≤x
theorem Bg6:M6 Tryz.prog 74 217 (.agg #[.int .i64 0,.int .i64 0,.int .i64 0]) 3 24:=M6.mk' Tryz.underlying74 (by kernel_rfl) (by rfl) (by decide)
theorem Bg7 (r:aP):∀v∈r.cs,v.oneCell'=true:=by
 intro v hv;simp only[aP.cs,List.mem_cons,List.not_mem_nil,or_false]at hv;rcases hv with rfl|rfl|rfl<;>rfl
theorem Ao6 (wB w:World) (hX:∃y:A7 wB,w=y.w) (g:Nat) (id rd:Int) (v:Value) (b:L7) (h:p5 w wB.heap.size g id rd v b) (k r a:Int) (hn:b.it.length≤1000) (ha:U0 (b.tt+a)):
 Calls Tryz.prog 61 #[.pointer (some ⟨g,0,none⟩),.int .i64 k,.int .i64 r,.int .i64 a] w (qV w wB.heap.size g id rd v (b.add k r a)):=by
 obtain⟨a1,n1,c1,hv⟩:=I4 h.it;obtain rfl:n1=b.it.length:=by
  have h1:=h.it;rw[hv]at h1;obtain⟨_,⟨e2,e3⟩|⟨_,_,_,e2,_⟩⟩:=h1
  ·simp only[Value.slice.injEq]at e2;omega
  ·simp only[Value.slice.injEq]at e2;exact e2.2.1
 have HP:=A3 (fun(w':World) (v':Value) (h1:p5 w' wB.heap.size g id rd v' (b.add k r a)) (h2:B7 (fun x=>x=g∨x∈ob v) w w') (h3:∀x∈ob v',x∈ob v∨w.heap.size≤x)=>show qV w wB.heap.size g id rd v (b.add k r a) (.returned (.tuple #[])) w' from⟨rfl,v',h1,h2,h3⟩);generalize qV w wB.heap.size g id rd v (b.add k r a)=PO at *;by_cases h0:a=0
 ·subst h0
  have hb:b.add k r 0=b:=by unfold L7.add;rw[if_pos rfl]
  rw[hb]at HP;have HR:=A3 (HP.out w v h (B7.refl _ _) fun x hx=>.inl hx);clear h hX hb hv HP hn ha;go_enter Tryz.func61,Tryz.ntmps61;go_wp2_with fail;refine M7 (v:=.tuple #[]) (by simp[results,Tryz.results61,go_sem]) rfl ?_;exact HR.out
 ·have hb0:(a == 0)=false:=beq_eq_false_iff_ne.2 h0
  have Hb:=A3 (show b.add k r a=⟨b.it ++ [⟨k,r,a⟩],b.tt+a⟩ by unfold L7.add;rw[if_neg h0]);have Hv:=A3 hv;have Hh:=A3 h;have HX:=A3 hX;have HN:=A3 hn;have hw1:wrap64 (b.tt+a)=b.tt+a:=IntWalk.wrap64_in _ ⟨ha.1,by have:=ha.2;omega⟩;have c2:∀y:A7 w,y.w.cell? ⟨g,2,none⟩=some (.slice a1 b.it.length c1):=fun y=>by rw[←Hv.out];exact(Hh.out.bx.since y).c 2 _ rfl
  clear h hX hv h0 hn ha;have HBx:=A3 (Hh.out.bx.up (.cells (⟨k,r,a⟩:aP).cs.toArray 217));have Hne:=A3 (show some g≠v.ownBlock from fun e=>Hh.out.ne g (O2.2 e.symm) rfl);have hg1:∀w',(w.alloc (.cells (⟨k,r,a⟩:aP).cs.toArray 217)).grownBy w' v.ownBlock→w'.cell? ⟨g,2,none⟩=some v∧w'.frozen? ⟨g,2,none⟩=false:=fun w' h=>⟨(HBx.out.grown h Hne.out).c 2 _ rfl,(HBx.out.grown h Hne.out).f 2⟩
  have Hg1:=A3 hg1;have d2:=c2 (A7.self w);rw[show(A7.self w).w=w from rfl]at d2;clear hg1 c2;go_enter Tryz.func61,Tryz.ntmps61;go_upto_region 2 with(at_builtin;(refine gL (w0:=wB) ?hw rfl _ _ 74 rfl wB.heap.size (Nat.le_refl _) ?hb 217 (.agg #[.int .i64 0,.int .i64 0,.int .i64 0]) 24 Bg6 v b.it.length (B4 aP.cs b.it) ?hs ?hown ⟨w.heap.size,0,none⟩ 1 1 (⟨k,r,a⟩:aP).cs rfl rfl ?hc (Bg7 _) (by decide) ?h63 ?hbytes ?_;rotate_right 1;intro v2 q2 hown4 hg4 hl4;obtain⟨a2,n2,c3,rfl⟩:=I4 hown4;obtain⟨k2,kf⟩:=Hg1.out _ hg4;have Hg4:=A3 hg4;have Hl4:=A3 hl4;have Ho4:=A3 hown4;clear hg4 hl4 hown4))
  case hw=>obtain⟨y,e⟩:=HX.out;rw[e];exact y.alloc _
  case hb=>obtain⟨y,e⟩:=HX.out;have:=y.b.size;rw[e];simp;omega
  case hs=>exact Hv.out.symm
  case hown=>exact fN Hh.out.it
  case hc=>exact Z6 w _ _
  case h63=>have:=HN.out;unfold maxLen;omega
  case hbytes=>have:=HN.out;omega
  obtain rfl:n2=b.it.length+1:=by
   obtain⟨_,⟨e2,e3⟩|⟨_,_,_,e2,_⟩⟩:=Ho4.out
   ·omega
   ·simp only[Value.slice.injEq]at e2;exact e2.2.1
  have HB4:=A3 (HBx.out.grown Hg4.out Hne.out);have HB5:=A3 (HB4.out.setj (j:=2) (by simp) (.slice a2 (b.it.length+1) c3));have gF:=A3 (show∀x∈ob (Value.slice a2 (b.it.length+1) c3),x∈ob v∨w.heap.size≤x from fun x hx=>by
   rcases Hl4.out x (O2.1 hx)with h'|h'
   ·exact .inl (O2.2 h')
   ·right;rw[h'];simp)
  have Hng:=A3 (show∀x∈ob (Value.slice a2 (b.it.length+1) c3),x≠g from fun x hx e=>by
   rcases gF.out x hx with h'|h'
   ·exact Hh.out.ne x h' e
   ·have:=Hh.out.bx.lt;omega)
  have HK5:=A3 (show B7 (fun x=>x=g∨x∈ob v) w (q2.w.setCell ⟨g,2,none⟩ (.slice a2 (b.it.length+1) c3))from
   (((B7.refl _ w).to (A8.alloc (A8.self _) _)).step ⟨Hg4.out.os,Hg4.out.tape,Hg4.out.output,Hg4.out.size,fun j hj hn=>Hg4.out.block j hj (fun e=>hn (.inr (O2.2 e.symm)))⟩).step (B7.set _ _ _ (.inl rfl)))
  have HO5:=A3 (cO Ho4.out ⟨g,2,none⟩ (.slice a2 (b.it.length+1) c3) (fun x hx=>Hng.out x (O2.2 hx)));simp only[List.set_cons_zero,List.set_cons_succ]at HB5;clear k2 kf d2;generalize q2.w.setCell ⟨g,2,none⟩ (.slice a2 (b.it.length+1) c3)=w5 at *;have k3:=HB5.out.c 3 _ rfl;have kf3:=HB5.out.f 3;have HB6:=A3 (HB5.out.setj (j:=3) (by simp) (.int .i64 (b.tt+a)));simp only[List.set_cons_zero,List.set_cons_succ]at HB6;have HO6:=A3 (cO HO5.out ⟨g,3,none⟩ (.int .i64 (b.tt+a)) (fun x hx=>Hng.out x (O2.2 hx)));have HK6:=A3 (HK5.out.step (B7.set w5 ⟨g,3,none⟩ (.int .i64 (b.tt+a)) (.inl rfl)));rw[show B4 aP.cs b.it ++ (⟨k,r,a⟩:aP).cs=B4 aP.cs (b.it ++ [⟨k,r,a⟩])from by rw[U6,Y1]]at HO6;have HR:=A3 (HP.out _ _ (by rw[Hb.out];exact⟨HB6.out,by rw[List.length_append];exact HO6.out,Hh.out.ge,Hng.out⟩) HK6.out gF.out);go_wp2_with fail;refine M7 (v:=.tuple #[]) (by simp[results,Tryz.results61,go_sem]) rfl ?_;exact HR.out
end
section
open Go.RowKit
structure eI (w:World) (p:G5) (ga pa la ka fa:Option Addr):Prop where
 t:D0 K2.cs 6 w ga p.tr
 s:kG w pa p.ps
 l:S9 w la p.pl
 k:S9 w ka p.dk
 n:S9 w fa p.fn
 tl:p.tr.length≤9223372036854775807
 sl:p.ps.length≤9223372036854775807
 ll:p.pl.length≤4611686018427387904
 kl:p.dk.length≤4611686018427387904
 nl:p.fn.length≤9223372036854775807
theorem eI.to {w W:World} {p:G5} {ga pa la ka fa:Option Addr} (h:eI w p ga pa la ka fa) (hW:∃z:A7 w,W=z.w):eI W p ga pa la ka fa:=
 ⟨h.t.to hW,h.s.to hW,N0.to h.l hW,N0.to h.k hW,N0.to h.n hW,h.tl,h.sl,h.ll,h.kl,h.nl⟩
def qW (w:World) (x:Int×Int) (o:Ending) (w':World):Prop:=o= .returned (.tuple #[.int .i64 x.1,.int .i64 x.2])∧∃y:A7 w,w'=y.w
theorem eJ {w:World} {a:Option Addr} {l:List Int} (h:S9 w a l) {i:Nat} (hi:i<l.length):∃b off,a=some ⟨b,off,none⟩∧b<w.heap.size∧w.cell? ⟨b,off+i,none⟩=some (.int .i64 (B0 l i)):=h i hi
theorem Bg8 (w:World) (x:A7 w) (p:G5) (ga pa la ka fa:Option Addr) (gc pc lc kc fc:Nat) (h:eI w p ga pa la ka fa) (r:A9) (hI:U0 r.pl) (hd:p.dk.length≤32):
 Calls Tryz.prog 106 #[.agg #[.slice ga p.tr.length gc,.slice pa p.ps.length pc,.slice la p.pl.length lc,.slice ka p.dk.length kc,.int .i64 p.cap,.slice fa p.fn.length fc,.int .i64 p.fd],.agg #[.int .i64 r.id,.int .i64 r.rd,.int .i64 r.s0,.int .i64 r.s1,.int .i64 r.e0,.int .i64 r.e1,.bool r.op,.slice r.la r.legs.length r.lc,.slice r.pa r.pauses.length r.pc,.int .i64 r.fw,.int .i64 r.fp,.int .i64 r.wh,.int .i64 r.pl]] x.w (qW w (S8 p r)):=by
 have HP:=A3 (fun(y:A7 w) (a b:Int) (h:S8 p r=(a,b))=>show qW w (S8 p r) (.returned (.tuple #[.int .i64 a,.int .i64 b])) y.w from by rw[h];exact⟨rfl,y,rfl⟩);generalize qW w (S8 p r)=PO at *;have hll:=h.ll;have hkl:=h.kl;obtain⟨hI1,hI2⟩:=hI;have Hl:=A3 h.l;have Hk:=A3 h.k;have hc:(r.wh=2∧0≤r.pl∧r.pl<(p.pl.length:Int))∨(r.wh=2∧0≤r.pl∧(p.pl.length:Int)≤r.pl)∨(r.wh=2∧r.pl<0)∨(r.wh≠2∧r.wh=1∧0≤r.pl∧r.pl/32<(p.dk.length:Int))∨(r.wh≠2∧r.wh=1∧0≤r.pl∧(p.dk.length:Int)≤r.pl/32)∨(r.wh≠2∧r.wh=1∧r.pl<0)∨(r.wh≠2∧r.wh≠1):=by omega
 clear h;rcases hc with⟨h1,h2,h3⟩|⟨h1,h2,h3⟩|⟨h1,h2⟩|⟨h1,h1',h2,h3⟩|⟨h1,h1',h2,h3⟩|⟨h1,h1',h2⟩|⟨h1,h1'⟩
 ·have HR:=A3 (show S8 p r=(B0 p.pl r.pl.toNat,r.pl)from by unfold S8;rw[if_pos ⟨h1,h2,h3⟩])
  have b1:(r.wh == 2)=true:=by simpa using h1
  clear h1;go_enter Tryz.func106,Tryz.ntmps106;go_upto_region 1 with fail;obtain⟨W,bx,y0,hW,hbx,-,B8,Hup,Hbx,HB0,HB1⟩:=Z7 x [.slice ga p.tr.length gc,.slice pa p.ps.length pc,.slice la p.pl.length lc,.slice ka p.dk.length kc,.int .i64 p.cap,.slice fa p.fn.length fc,.int .i64 p.fd] 53 [.int .i64 r.id,.int .i64 r.rd,.int .i64 r.s0,.int .i64 r.s1,.int .i64 r.e0,.int .i64 r.e1,.bool r.op,.slice r.la r.legs.length r.lc,.slice r.pa r.pauses.length r.pc,.int .i64 r.fw,.int .i64 r.fp,.int .i64 r.wh,.int .i64 r.pl] 40;rw[hW,hbx];clear hW hbx;obtain⟨D9,E7,F9,G0,G8,K4,O0,hf0⟩:=dV HB0;obtain⟨T9,V9,i7,j7,j8,p7,i8,x9,aA,gJ,gG,gH,gI,hf1⟩:=R5 HB1;clear HB0 HB1;obtain⟨b,off,rfl,hb,hcell⟩:=eJ (N0.to Hl.out B8) (i:=r.pl.toNat) (by omega);have hx:∀y:A7 W,y.w.cell? ⟨b,off+r.pl.toNat,none⟩=some (.int .i64 (B0 p.pl r.pl.toNat)):=fun y=>A7.cell hcell hb y;clear B8 hcell hb;go_upto_region 2 with fail;refine L5 (by kernel_rfl) (by kernel_rfl) ?_;repeat(go_big_quiet_step(fail))
  refine wpQuiet_nil ?_;rintro _ ⟨z,rfl⟩;go_wp2_with fail;obtain⟨z1,hz1⟩:=Hup.out z;rw[hz1];exact HP.out z1 _ _ HR.out
 ·have HR:=A3 (show S8 p r=(0,0)from by unfold S8;rw[if_neg (by omega),if_neg (by omega)])
  have b1:(r.wh == 2)=true:=by simpa using h1
  have b2:(r.wh == 1)=false:=by rw[h1];rfl
  have h3':¬r.pl<(p.pl.length:Int):=by omega
  clear h1;go_enter Tryz.func106,Tryz.ntmps106;go_upto_region 1 with fail;obtain⟨W,bx,y0,hW,hbx,-,B8,Hup,Hbx,HB0,HB1⟩:=Z7 x [.slice ga p.tr.length gc,.slice pa p.ps.length pc,.slice la p.pl.length lc,.slice ka p.dk.length kc,.int .i64 p.cap,.slice fa p.fn.length fc,.int .i64 p.fd] 53 [.int .i64 r.id,.int .i64 r.rd,.int .i64 r.s0,.int .i64 r.s1,.int .i64 r.e0,.int .i64 r.e1,.bool r.op,.slice r.la r.legs.length r.lc,.slice r.pa r.pauses.length r.pc,.int .i64 r.fw,.int .i64 r.fp,.int .i64 r.wh,.int .i64 r.pl] 40;rw[hW,hbx];clear hW hbx;obtain⟨D9,E7,F9,G0,G8,K4,O0,hf0⟩:=dV HB0;obtain⟨T9,V9,i7,j7,j8,p7,i8,x9,aA,gJ,gG,gH,gI,hf1⟩:=R5 HB1;clear HB0 HB1;clear B8;go_wp2_with fail;obtain⟨z1,hz1⟩:=Hup.out y0;rw[hz1];exact HP.out z1 _ _ HR.out
 ·have HR:=A3 (show S8 p r=(0,0)from by unfold S8;rw[if_neg (by omega),if_neg (by omega)])
  have b1:(r.wh == 2)=true:=by simpa using h1
  have b2:(r.wh == 1)=false:=by rw[h1];rfl
  have h2':¬0≤r.pl:=by omega
  clear h1;go_enter Tryz.func106,Tryz.ntmps106;go_upto_region 1 with fail;obtain⟨W,bx,y0,hW,hbx,-,B8,Hup,Hbx,HB0,HB1⟩:=Z7 x [.slice ga p.tr.length gc,.slice pa p.ps.length pc,.slice la p.pl.length lc,.slice ka p.dk.length kc,.int .i64 p.cap,.slice fa p.fn.length fc,.int .i64 p.fd] 53 [.int .i64 r.id,.int .i64 r.rd,.int .i64 r.s0,.int .i64 r.s1,.int .i64 r.e0,.int .i64 r.e1,.bool r.op,.slice r.la r.legs.length r.lc,.slice r.pa r.pauses.length r.pc,.int .i64 r.fw,.int .i64 r.fp,.int .i64 r.wh,.int .i64 r.pl] 40;rw[hW,hbx];clear hW hbx;obtain⟨D9,E7,F9,G0,G8,K4,O0,hf0⟩:=dV HB0;obtain⟨T9,V9,i7,j7,j8,p7,i8,x9,aA,gJ,gG,gH,gI,hf1⟩:=R5 HB1;clear HB0 HB1;clear B8;go_wp2_with fail;obtain⟨z1,hz1⟩:=Hup.out y0;rw[hz1];exact HP.out z1 _ _ HR.out
 ·have HR:=A3 (show S8 p r=(B0 p.dk (r.pl/32).toNat,64+r.pl/32)from by unfold S8;rw[if_neg (by omega),if_pos ⟨h1',h2,h3⟩])
  have b1:(r.wh == 2)=false:=by simpa using h1
  have b2:(r.wh == 1)=true:=by simpa using h1'
  have h4:0≤r.pl/32:=by omega
  have h5:wrap64 (64+r.pl/32)=64+r.pl/32:=IntWalk.wrap64_in _ ⟨by omega,by omega⟩;clear h1 h1';go_enter Tryz.func106,Tryz.ntmps106;go_upto_region 1 with fail;obtain⟨W,bx,y0,hW,hbx,-,B8,Hup,Hbx,HB0,HB1⟩:=Z7 x [.slice ga p.tr.length gc,.slice pa p.ps.length pc,.slice la p.pl.length lc,.slice ka p.dk.length kc,.int .i64 p.cap,.slice fa p.fn.length fc,.int .i64 p.fd] 53 [.int .i64 r.id,.int .i64 r.rd,.int .i64 r.s0,.int .i64 r.s1,.int .i64 r.e0,.int .i64 r.e1,.bool r.op,.slice r.la r.legs.length r.lc,.slice r.pa r.pauses.length r.pc,.int .i64 r.fw,.int .i64 r.fp,.int .i64 r.wh,.int .i64 r.pl] 40;rw[hW,hbx];clear hW hbx;obtain⟨D9,E7,F9,G0,G8,K4,O0,hf0⟩:=dV HB0;obtain⟨T9,V9,i7,j7,j8,p7,i8,x9,aA,gJ,gG,gH,gI,hf1⟩:=R5 HB1;clear HB0 HB1;obtain⟨b,off,rfl,hb,hcell⟩:=eJ (N0.to Hk.out B8) (i:=(r.pl/32).toNat) (by omega);have hx:∀y:A7 W,y.w.cell? ⟨b,off+(r.pl/32).toNat,none⟩=some (.int .i64 (B0 p.dk (r.pl/32).toNat)):=fun y=>A7.cell hcell hb y;clear B8 hcell hb;go_wp2_with fail;obtain⟨z1,hz1⟩:=Hup.out y0;rw[hz1];exact HP.out z1 _ _ HR.out
 ·have HR:=A3 (show S8 p r=(0,0)from by unfold S8;rw[if_neg (by omega),if_neg (by omega)])
  have b1:(r.wh == 2)=false:=by simpa using h1
  have b2:(r.wh == 1)=true:=by simpa using h1'
  have h3':¬r.pl/32<(p.dk.length:Int):=by omega
  clear h1 h1';go_enter Tryz.func106,Tryz.ntmps106;go_upto_region 1 with fail;obtain⟨W,bx,y0,hW,hbx,-,B8,Hup,Hbx,HB0,HB1⟩:=Z7 x [.slice ga p.tr.length gc,.slice pa p.ps.length pc,.slice la p.pl.length lc,.slice ka p.dk.length kc,.int .i64 p.cap,.slice fa p.fn.length fc,.int .i64 p.fd] 53 [.int .i64 r.id,.int .i64 r.rd,.int .i64 r.s0,.int .i64 r.s1,.int .i64 r.e0,.int .i64 r.e1,.bool r.op,.slice r.la r.legs.length r.lc,.slice r.pa r.pauses.length r.pc,.int .i64 r.fw,.int .i64 r.fp,.int .i64 r.wh,.int .i64 r.pl] 40;rw[hW,hbx];clear hW hbx;obtain⟨D9,E7,F9,G0,G8,K4,O0,hf0⟩:=dV HB0;obtain⟨T9,V9,i7,j7,j8,p7,i8,x9,aA,gJ,gG,gH,gI,hf1⟩:=R5 HB1;clear HB0 HB1;clear B8;go_wp2_with fail;obtain⟨z1,hz1⟩:=Hup.out y0;rw[hz1];exact HP.out z1 _ _ HR.out
 ·have HR:=A3 (show S8 p r=(0,0)from by unfold S8;rw[if_neg (by omega),if_neg (by omega)])
  have b1:(r.wh == 2)=false:=by simpa using h1
  have b2:(r.wh == 1)=true:=by simpa using h1'
  have h2':¬0≤r.pl:=by omega
  clear h1 h1';go_enter Tryz.func106,Tryz.ntmps106;go_upto_region 1 with fail;obtain⟨W,bx,y0,hW,hbx,-,B8,Hup,Hbx,HB0,HB1⟩:=Z7 x [.slice ga p.tr.length gc,.slice pa p.ps.length pc,.slice la p.pl.length lc,.slice ka p.dk.length kc,.int .i64 p.cap,.slice fa p.fn.length fc,.int .i64 p.fd] 53 [.int .i64 r.id,.int .i64 r.rd,.int .i64 r.s0,.int .i64 r.s1,.int .i64 r.e0,.int .i64 r.e1,.bool r.op,.slice r.la r.legs.length r.lc,.slice r.pa r.pauses.length r.pc,.int .i64 r.fw,.int .i64 r.fp,.int .i64 r.wh,.int .i64 r.pl] 40;rw[hW,hbx];clear hW hbx;obtain⟨D9,E7,F9,G0,G8,K4,O0,hf0⟩:=dV HB0;obtain⟨T9,V9,i7,j7,j8,p7,i8,x9,aA,gJ,gG,gH,gI,hf1⟩:=R5 HB1;clear HB0 HB1;clear B8;go_wp2_with fail;obtain⟨z1,hz1⟩:=Hup.out y0;rw[hz1];exact HP.out z1 _ _ HR.out
 ·have HR:=A3 (show S8 p r=(0,0)from by unfold S8;rw[if_neg (by omega),if_neg (by omega)])
  have b1:(r.wh == 2)=false:=by simpa using h1
  have b2:(r.wh == 1)=false:=by simpa using h1'
  clear h1 h1';go_enter Tryz.func106,Tryz.ntmps106;go_upto_region 1 with fail;obtain⟨W,bx,y0,hW,hbx,-,B8,Hup,Hbx,HB0,HB1⟩:=Z7 x [.slice ga p.tr.length gc,.slice pa p.ps.length pc,.slice la p.pl.length lc,.slice ka p.dk.length kc,.int .i64 p.cap,.slice fa p.fn.length fc,.int .i64 p.fd] 53 [.int .i64 r.id,.int .i64 r.rd,.int .i64 r.s0,.int .i64 r.s1,.int .i64 r.e0,.int .i64 r.e1,.bool r.op,.slice r.la r.legs.length r.lc,.slice r.pa r.pauses.length r.pc,.int .i64 r.fw,.int .i64 r.fp,.int .i64 r.wh,.int .i64 r.pl] 40;rw[hW,hbx];clear hW hbx;obtain⟨D9,E7,F9,G0,G8,K4,O0,hf0⟩:=dV HB0;obtain⟨T9,V9,i7,j7,j8,p7,i8,x9,aA,gJ,gG,gH,gI,hf1⟩:=R5 HB1;clear HB0 HB1;clear B8;go_wp2_with fail;obtain⟨z1,hz1⟩:=Hup.out y0;rw[hz1];exact HP.out z1 _ _ HR.out
end
section
open Go.RowKit
theorem Bg9 {p:G5} (h:512<p.fn.length):dN p=8:=by unfold dN;rw[if_pos h]
theorem Bh0 {p:G5} (h:¬512<p.fn.length) {k:Nat} (hk:k<p.fn.length) (hv:C6 (B0 p.fn k) 0 1000000=false):dN p=1:=by
 unfold dN;rw[if_neg h,vE (p:=fun n=>C6 n 0 1000000) hk hv];rfl
theorem Bh1 {p:G5} (h:¬512<p.fn.length) (hv:∀j,j<p.fn.length→C6 (B0 p.fn j) 0 1000000=true):dN p=if p.fd<0 then 1 else if 49709<p.fd then 1 else 0:=by
 unfold dN;rw[if_neg h,vF (p:=fun n=>C6 n 0 1000000) hv];unfold C6;by_cases h1:p.fd<0
 ·rw[if_pos h1,decide_eq_false (by omega:¬0≤p.fd)];rfl
 ·rw[if_neg h1,decide_eq_true (by omega:0≤p.fd)]
  by_cases h2:49709<p.fd
  ·rw[if_pos h2,decide_eq_false (by omega:¬p.fd≤49709)];rfl
  ·rw[if_neg h2,decide_eq_true (by omega:p.fd≤49709)];rfl
theorem Bh2 (w:World) (x:A7 w) (p:G5) (ga pa la ka fa:Option Addr) (gc pc lc kc fc:Nat) (h:eI w p ga pa la ka fa):
 Calls Tryz.prog 99 #[.agg #[.slice ga p.tr.length gc,.slice pa p.ps.length pc,.slice la p.pl.length lc,.slice ka p.dk.length kc,.int .i64 p.cap,.slice fa p.fn.length fc,.int .i64 p.fd]] x.w fun o w'=>o= .returned (.int .i64 (dN p))∧∃y:A7 w,w'=y.w:=by
 have Hn:=A3 h.n;have hnl:=h.nl;clear h;by_cases h0:512<p.fn.length
 ·have HR:=A3 (Bg9 h0)
  have h1:(512:Int)<(p.fn.length:Int):=by omega
  clear h0;go_enter Tryz.func99,Tryz.ntmps99;go_upto_region 1 with fail;obtain⟨W,bx,y0,hW,hbx,-,B8,Hup,Hbx,HB0⟩:=K7 x [.slice ga p.tr.length gc,.slice pa p.ps.length pc,.slice la p.pl.length lc,.slice ka p.dk.length kc,.int .i64 p.cap,.slice fa p.fn.length fc,.int .i64 p.fd] 53;rw[hW,hbx];clear hW hbx;obtain⟨D9,E7,F9,G0,G8,K4,O0,hf0⟩:=dV HB0;clear HB0;clear B8;go_wp2_with fail;go_ret;exact⟨D5 HR.out.symm,Hup.out _⟩
 ·have H2:=A3 (fun(k:Nat) (hk:k<p.fn.length) (hv:C6 (B0 p.fn k) 0 1000000=false)=>Bh0 h0 hk hv)
  have H3:=A3 (fun(hv:∀j,j<p.fn.length→C6 (B0 p.fn j) 0 1000000=true)=>Bh1 h0 hv);have h1:¬(512:Int)<(p.fn.length:Int):=by omega
  clear h0;go_enter Tryz.func99,Tryz.ntmps99;go_upto_region 1 with fail;obtain⟨W,bx,y0,hW,hbx,-,B8,Hup,Hbx,HB0⟩:=K7 x [.slice ga p.tr.length gc,.slice pa p.ps.length pc,.slice la p.pl.length lc,.slice ka p.dk.length kc,.int .i64 p.cap,.slice fa p.fn.length fc,.int .i64 p.fd] 53;rw[hW,hbx];clear hW hbx;obtain⟨D9,E7,F9,G0,G8,K4,O0,hf0⟩:=dV HB0;clear HB0;replace Hn:=A3 (N0.to Hn.out B8);clear B8;go_wp2_with fail;go_loopw [12] (fun i wr=>∃(k:Nat) (y:A7 W),k≤p.fn.length∧i= .int .i64 k∧wr=y.w∧∀j,j<k→C6 (B0 p.fn j) 0 1000000=true) (fun i _ =>p.fn.length-(intOf i).toNat)
  case atStart=>exact⟨0,y0,by omega,rfl,rfl,fun j hj=>by omega⟩
  case round=>
   obtain⟨k,y,hk,rfl,rfl,hok⟩:=hrel;have Hok:=A3 hok;clear hok;by_cases hlt:k<p.fn.length
   ·obtain⟨b,off,rfl,hb,hcell⟩:=eJ Hn.out hlt
    have hx:∀y:A7 W,y.w.cell? ⟨b,off+k,none⟩=some (.int .i64 (B0 p.fn k)):=fun y=>A7.cell hcell hb y;have hk0:(0:Int)≤(k:Int):=by omega
    have hkl:(k:Int)<(p.fn.length:Int):=by omega
    clear hb hcell;have hc:(B0 p.fn k<0)∨(0≤B0 p.fn k∧1000000<B0 p.fn k)∨(0≤B0 p.fn k∧B0 p.fn k≤1000000):=by omega
    rcases hc with h2|⟨h2,h3⟩|⟨h2,h3⟩
    ·have HR:=A3 (H2.out k hlt (by unfold C6;rw[decide_eq_false (by omega)];rfl))
     generalize B0 p.fn k=v at *;go_wp2_with fail;go_ret;exact⟨D5 HR.out.symm,Hup.out _⟩
    ·have HR:=A3 (H2.out k hlt (by unfold C6;rw[decide_eq_true (by omega),decide_eq_false (by omega)];rfl))
     have h4:¬B0 p.fn k<0:=by omega
     generalize B0 p.fn k=v at *;go_wp2_with fail;go_ret;exact⟨D5 HR.out.symm,Hup.out _⟩
    ·have HR:=A3 (show C6 (B0 p.fn k) 0 1000000=true from by unfold C6;rw[decide_eq_true (by omega),decide_eq_true (by omega)];rfl)
     have h4:¬B0 p.fn k<0:=by omega
     have h5:¬1000000<B0 p.fn k:=by omega
     have HN:=A3 (show∀j,j<k+1→C6 (B0 p.fn j) 0 1000000=true from fun j hj=>by
      by_cases hjk:j<k
      ·exact Hok.out j hjk
      ·obtain rfl:j=k:=by omega
       exact HR.out)
     clear HR;generalize hv:B0 p.fn k=v at *;clear hv;go_wp2_with fail;go_roundw
     case rel=>exact⟨k+1,y,by omega,by go_num,rfl,HN.out⟩
     case measure=>simp[intOf];omega
   ·obtain rfl:k=p.fn.length:=by omega
    have HR:=A3 (H3.out Hok.out);clear hlt;by_cases h2:p.fd<0
    ·have HR2:=A3 (HR.out.trans (if_pos h2))
     clear HR;go_wp2_with fail;go_ret;exact⟨D5 HR2.out.symm,Hup.out _⟩
    ·by_cases h3:49709<p.fd
     ·have HR2:=A3 (HR.out.trans ((if_neg h2).trans (if_pos h3)))
      clear HR;go_wp2_with fail;go_ret;exact⟨D5 HR2.out.symm,Hup.out _⟩
     ·have HR2:=A3 (HR.out.trans ((if_neg h2).trans (if_neg h3)))
      clear HR;go_wp2_with fail;go_ret;exact⟨D5 HR2.out.symm,Hup.out _⟩
theorem M5:M6 Tryz.prog 22 3 (.int .i64 0) 1 8:=M6.mk' (by kernel_rfl) (by kernel_rfl) rfl (by decide)
def qX (w:World) (l:List Int) (o:Ending) (w':World):Prop:=∃(v:Value) (y:A7 w),o= .returned v∧w'=y.w∧y.w.ownsRow w.heap.size 3 1 v l.length (l.map (Value.int .i64))
theorem Bh3 (w:World) (x:A7 w) (n:Nat) (hn:n≤1000):
 Calls Tryz.prog 141 #[.slice none 0 0,.int .i64 (n:Int)] x.w (qX w []):=by
 by_cases h0:n=0
 ·subst h0
  go_enter Tryz.func141,Tryz.ntmps141;go_wp2_with fail;go_ret;exact⟨_,x,rfl,rfl,rfl,.inl ⟨rfl,rfl⟩⟩
 ·obtain⟨i,hi,hz,hsize,hby⟩:=M5.e
  have hrz:∀ty,(Builtin.append_ #[22,3] ty #[.slice none 0 0,.int .i64 (n:Int)]).run Tryz.prog x.w= .ok (.slice (some ⟨x.w.heap.size,0,none⟩) n (grownCap x.w n 0 3)) (x.w.drew.alloc (.cells (#[] ++ Builtin.zeroCells (Value.int .i64 0).cells n ++ Builtin.zeroCells (Value.int .i64 0).cells (grownCap x.w n 0 3-n)) 3)):=fun ty=>by
   have h:=Lib.run_append_grow_zeros (P:=Tryz.prog) x.w 22 3 ty 3 i (.int .i64 0) .i64 .i64 M5.t (by kernel_rfl) hi hz none 0 0 [] (run_firstCells_none _ _ _ _ _) n (by omega) (by omega) (by omega) (by omega) (by rw[hby];omega) (by rw[Nat.zero_add];exact growslice_fits (by omega) (by rw[hby];omega));simpa using h
  have hsz:(#[] ++ Builtin.zeroCells (Value.int .i64 0).cells n ++ Builtin.zeroCells (Value.int .i64 0).cells (grownCap x.w n 0 3-n):Array Value).size=grownCap x.w n 0 3:=by
   have:=grownCap_ge x.w n 0 3;simp[size_zeroCells,Value.cells];omega
  have hge:=grownCap_ge x.w n 0 3;have hG63:=grownCap_le_maxLen x.w n 0 3 (by unfold maxLen;omega);have HO:=A3 (show∀cs:Array Value,cs.size=grownCap x.w n 0 3→(x.w.drew.alloc (.cells cs 3)).ownsRow w.heap.size 3 1 (.slice (some ⟨x.w.heap.size,0,none⟩) 0 (grownCap x.w n 0 3)) 0 []from fun cs hcs=>⟨rfl,.inr ⟨x.w.heap.size,grownCap x.w n 0 3,cs,rfl,x.b.size,by show(x.w.heap.push _)[x.w.heap.size]? = _;simp,Nat.zero_le _,hG63,by rw[hcs,Nat.mul_one],by simp⟩⟩);have HW:=A3 (show∀o:Obj,A8 w (x.w.drew.alloc o)from fun o=>A8.alloc (A8.drew' (A8.of x)) o);have HOr:=A3 (HO.out _ hsz);have h1:(0:Int)<(n:Int):=by omega
  have h2:¬(n:Int)<0:=by omega
  have h3:(n:Int)≤1000:=by omega
  unfold maxLen at hG63;clear hsz HO h0 hi hz hsize hby;generalize grownCap x.w n 0 3=G at *;generalize(#[] ++ Builtin.zeroCells (Value.int .i64 0).cells n ++ Builtin.zeroCells (Value.int .i64 0).cells (G-n):Array Value)=cs at *;go_enter Tryz.func141,Tryz.ntmps141;go_wp2_with(at_builtin;refine Lib.wpList_append_run _ rfl _ _ _ _ rfl _ _ rfl rfl _ _ (hrz _) ?_);go_ret;obtain⟨y,hy⟩:=HW.out (.cells cs 3);exact⟨_,y,rfl,hy,by rw[←hy];exact HOr.out⟩
def cV (z:Int):List Value:=[.int .i64 z]
theorem Ao7 (z:Int):(cV z).length=1:=rfl
theorem Ao8 (z:Int):∀u∈cV z,u.oneCell'=true:=by
 intro u hu;simp[cV]at hu;subst hu;rfl
theorem wJ:∀l:List Int,B4 cV l=l.map (.int .i64)
 |[]=>rfl
 |x :: l=>by
  have:B4 cV (x :: l)=cV x ++ B4 cV l:=rfl;rw[this,wJ l];rfl
theorem Ao9 {w:World} {a:Option Addr} {l:List Int} (h:S9 w a l):D0 cV 1 w a l:=by
 intro i x hx;obtain⟨b,off,ha,hb,hc⟩:=h i (A5 hx).1;refine⟨b,off,ha,hb,fun j v hv=>?_⟩;have hj:j=0:=by have:=(A5 hv).1;simpa[cV]using this
 subst hj;have hv':v= .int .i64 x:=by simpa[cV]using hv.symm
 subst hv';rw[Nat.mul_one,Nat.add_zero,hc];simp[B0,A6,hx]
theorem Bh4 (w:World) (x:A7 w) (g:Nat) (la ka:Option Addr) (l1 l2:List Int) (lc kc:Nat) (h0:∀y:A7 w,y.w.cell? ⟨g,0,none⟩=some (.slice la l1.length lc)) (h1:∀y:A7 w,y.w.cell? ⟨g,1,none⟩=some (.slice ka l2.length kc)) (hl:S9 w la l1) (hk:S9 w ka l2) (hn1:l1.length≤100) (hn2:l2.length≤100) (hz1:la=none→lc=0) (hz2:ka=none→kc=0):
 Calls Tryz.prog 98 #[.slice (some ⟨g,0,none⟩) 2 2] x.w (qX w (l1 ++ l2)):=by
 have HP:=A3 (fun(v:Value) (y:A7 w) (h:y.w.ownsRow w.heap.size 3 1 v (l1 ++ l2).length ((l1 ++ l2).map (Value.int .i64)))=>show qX w (l1 ++ l2) (.returned v) y.w from⟨v,y,rfl,rfl,h⟩);generalize qX w (l1 ++ l2)=PO at *;have HG:=A3 (fun(y:A7 w)=>Bh3 w y (l1.length+l2.length) (by omega));have HL:=A3 (Ao9 hl);have HK:=A3 (Ao9 hk);have w0:wrap64 (0+(l1.length:Int))=(l1.length:Int):=IntWalk.wrap64_in _ ⟨by omega,by omega⟩ |>.trans (by omega);have w1:wrap64 ((l1.length:Int)+(l2.length:Int))=((l1.length+l2.length:Nat):Int):=(IntWalk.wrap64_in _ ⟨by omega,by omega⟩).trans (by omega);have w2:¬(((l1.length+l2.length:Nat):Int)<0):=by omega
 have w3:¬((l1.length:Int)<0):=by omega
 clear hl hk;go_enter Tryz.func98,Tryz.ntmps98;go_wp2_with fail;refine wp_loop_rounds 3 ?_;rw[rounds_succ];go_wp2_with fail;rw[rounds_succ];go_wp2_with fail;rw[rounds_succ];go_wp2_with fail;have HG1:=HG.out x;rw[Int.natCast_add]at HG1;go_upto_region 10 with(go_at_call 141;(with_reducible refine HG1.mono ?_);clear HG1;rintro _ _ ⟨v,y,rfl,rfl,hown⟩;obtain⟨a3,n3,c3,rfl⟩:=I4 hown;have HO:=A3 hown;clear hown)
 clear w0 w1 w2 w3 HG;go_wp2_with fail;refine wp_loop_rounds 3 ?_;rw[rounds_succ];go_wp2_with(at_builtin;(refine cY (w0:=w) (enc:=cV) (k:=1) Ao7 (by decide) Ao8 ?hw rfl _ _ 22 rfl w.heap.size (Nat.le_refl _) ?hb 3 (.int .i64 0) 8 M5 (.slice a3 n3 c3) 0 [] rfl ?hown la l1 lc rfl ?hels hz1 ?h63 ?hbytes ?_;rotate_right 1;intro v2 y2 hown2 _ hg2;obtain⟨a4,n4,c4,rfl⟩:=I4 hown2;have HO2:=A3 hown2;clear hown2 hg2))
 case hw=>exact⟨y,rfl⟩
 case hb=>exact y.b.size
 case hown=>exact HO.out
 case hels=>exact A7.els HL.out y
 case h63=>unfold maxLen;omega
 case hbytes=>omega
 rw[rounds_succ];go_wp2_with(at_builtin;(refine cY (w0:=w) (enc:=cV) (k:=1) Ao7 (by decide) Ao8 ?hw rfl _ _ 22 rfl w.heap.size (Nat.le_refl _) ?hb 3 (.int .i64 0) 8 M5 (.slice a4 n4 c4) (0+l1.length) ([] ++ B4 cV l1) rfl ?hown ka l2 kc rfl ?hels hz2 ?h63 ?hbytes ?_;rotate_right 1;intro v3 y3 hown3 _ hg3;obtain⟨a5,n5,c5,rfl⟩:=I4 hown3;have HO3:=A3 hown3;clear hown3 hg3))
 case hw=>exact⟨y2,rfl⟩
 case hb=>exact y2.b.size
 case hown=>exact HO2.out
 case hels=>exact A7.els HK.out y2
 case h63=>unfold maxLen;omega
 case hbytes=>omega
 rw[rounds_succ];have HR:=A3 (HP.out (.slice a5 n5 c5) y3 (by
  have h:=HO3.out;rw[List.nil_append,Nat.zero_add,wJ,wJ]at h;rw[List.length_append,List.map_append];exact h))
 clear HO HO2 HO3;go_wp2_with fail;exact HR.out
end
section
open Go.RowKit Go.ChangeMaps
def jJ (l:List Int):Bool:=l.all fun n=>C6 n (-1000000) 1000000
def wK (p:G5):Int:=if p.cap<0 then 1 else if 1000000000000<p.cap then 1 else dN p
def qY (f:G4) (p:G5):Int:=if p.dk.length≠f.dk.length then 3 else if 64<p.pl.length then 3 else if jJ (p.pl ++ p.dk)=false then 1 else wK p
theorem Bh5 (f:G4) (p:G5):(if p.dk.length≠f.dk.length∨64<p.pl.length then 3 else if !((p.pl ++ p.dk).all fun n=>C6 n (-1000000) 1000000)then 1 else if !(C6 p.cap 0 1000000000000)then 1 else dN p)=qY f p:=by
 unfold qY wK jJ;by_cases h1:p.dk.length≠f.dk.length
 ·rw[if_pos (Or.inl h1),if_pos h1]
 ·rw[if_neg h1]
  by_cases h2:64<p.pl.length
  ·rw[if_pos (Or.inr h2),if_pos h2]
  ·rw[if_neg (fun h=>h.elim h1 h2),if_neg h2]
   have hc:(if !(C6 p.cap 0 1000000000000)then 1 else dN p)=if p.cap<0 then 1 else if 1000000000000<p.cap then 1 else dN p:=by
    unfold C6;by_cases h3:p.cap<0
    ·rw[if_pos h3,decide_eq_false (by omega:¬0≤p.cap)];rfl
    ·rw[if_neg h3,decide_eq_true (by omega:0≤p.cap)]
     by_cases h4:1000000000000<p.cap
     ·rw[if_pos h4,decide_eq_false (by omega:¬p.cap≤1000000000000)];rfl
     ·rw[if_neg h4,decide_eq_true (by omega:p.cap≤1000000000000)];rfl
   rw[hc]
   cases(p.pl ++ p.dk).all fun n=>C6 n (-1000000) 1000000<;>rfl
theorem Bh6 (f:G4) (p:G5):o7 f p=if K5 f≠0 then K5 f else if S3 p.tr≠0 then S3 p.tr else if W0 p.ps≠0 then W0 p.ps else qY f p:=by
 unfold o7;rw[Bh5]
theorem Bh7 {l:List Int} {k:Nat} (hk:k<l.length) (hv:C6 (B0 l k) (-1000000) 1000000=false):jJ l=false:=vE (p:=fun n=>C6 n (-1000000) 1000000) hk hv
theorem Bh8 {l:List Int} (hv:∀j,j<l.length→C6 (B0 l j) (-1000000) 1000000=true):jJ l=true:=vF (p:=fun n=>C6 n (-1000000) 1000000) hv
theorem qZ {w:World} {B n:Nat} {e:TypeId} {v:Value} {l:List Int} (h:w.ownsRow B e 1 v n (l.map (Value.int .i64))):n=l.length∧∃a c,v= .slice a l.length c∧S9 w a l:=by
 have hn:n=l.length:=by have:=h.1;simp at this;omega
 subst hn;obtain⟨a,c,rfl,_,hr,_⟩:=oH h;refine⟨rfl,a,c,rfl,fun i hi=>?_⟩;obtain⟨b,off,h1,h2,h3⟩:=hr i hi;refine⟨b,off,h1,h2,h3.trans ?_⟩;simp[A6,B0,hi]
theorem Bh9 (w:World) (x:A7 w) (f:G4) (da ta:Option Addr) (dc tc:Nat) (hf:i5 w f da ta) (p:G5) (ga pa la ka fa:Option Addr) (gc pc lc kc fc:Nat) (h:eI w p ga pa la ka fa) (hz1:la=none→lc=0) (hz2:ka=none→kc=0):
 Calls Tryz.prog 47 #[.agg #[.int .i64 f.bk,.int .i64 f.rd,.int .i64 f.dv,.slice da f.dk.length dc,.slice ta f.tk.length tc],.agg #[.slice ga p.tr.length gc,.slice pa p.ps.length pc,.slice la p.pl.length lc,.slice ka p.dk.length kc,.int .i64 p.cap,.slice fa p.fn.length fc,.int .i64 p.fd]] x.w fun o w'=>o= .returned (.int .i64 (o7 f p))∧∃y:A7 w,w'=y.w:=by
 have HE:=A3 (Bh6 f p);have HF:=A3 (fun(W:World) (hW:∃z:A7 w,W=z.w) (y:A7 W)=>vG W y f da ta dc tc (hf.to hW));have HT:=A3 (fun(W:World) (hW:∃z:A7 w,W=z.w) (y:A7 W)=>wI W y p.tr ga gc (h.t.to hW) h.tl);have HS:=A3 (fun(W:World) (hW:∃z:A7 w,W=z.w) (y:A7 W)=>Ab5 W y pa p.ps pc (h.s.to hW) h.sl);have HC:=A3 (fun(W:World) (hW:∃z:A7 w,W=z.w) (x:A7 W) (g:Nat) h0 h1 (hn1:p.pl.length≤64) (hn2:p.dk.length≤100)=>Bh4 W x g la ka p.pl p.dk lc kc h0 h1 (N0.to h.l hW) (N0.to h.k hW) (by omega) hn2 hz1 hz2);have HN:=A3 (fun(W:World) (hW:∃z:A7 w,W=z.w) (y:A7 W)=>Bh2 W y p ga pa la ka fa gc pc lc kc fc (h.to hW));have HD:=A3 (show K5 f=0→f.dk.length≤32 from fun h0=>by
  unfold K5 at h0;split at h0
  ·cases h0
  ·split at h0
   ·cases h0
   ·omega)
 have HPO:=A3 (fun(y:A7 w) (e:Int) (he:o7 f p=e)=>show(Ending.returned (.int .i64 e)= .returned (.int .i64 (o7 f p)))∧∃z:A7 w,y.w=z.w from⟨by rw[he],y,rfl⟩);have hdl:=hf.dl;have hkl:=h.kl;have hll:=h.ll;clear hf h hz1 hz2;generalize hfe:K5 f=fe at *;generalize S3 p.tr=te at *;generalize W0 p.ps=se at *;generalize o7 f p=ee at *;clear hfe;go_enter Tryz.func47,Tryz.ntmps47;go_upto_region 1 with fail;obtain⟨W,bx,y0,hW,hbx,-,B8,Hup,Hbx,HB0,HB1⟩:=Z7 x [.int .i64 f.bk,.int .i64 f.rd,.int .i64 f.dv,.slice da f.dk.length dc,.slice ta f.tk.length tc] 24 [.slice ga p.tr.length gc,.slice pa p.ps.length pc,.slice la p.pl.length lc,.slice ka p.dk.length kc,.int .i64 p.cap,.slice fa p.fn.length fc,.int .i64 p.fd] 53;rw[hW,hbx];clear hW hbx;obtain⟨D9,E7,F9,G0,G8,hf0⟩:=V5 HB0;obtain⟨T9,V9,i7,j7,j8,p7,i8,hf1⟩:=dV HB1;clear HB0 HB1;have HF1:=HF.out W B8 y0;go_upto_region 2 with(go_at_call 95;(with_reducible refine HF1.mono ?_);clear HF1;rintro _ _ ⟨rfl,y1,rfl⟩)
 by_cases h1:fe≠0
 ·have hb:(fe != 0)=true:=by simpa using h1
  have HR:=A3 (HE.out.trans (if_pos h1));clear h1;go_wp2_with fail;go_ret;obtain⟨z,hz⟩:=Hup.out y1;rw[hz];exact HPO.out z _ HR.out
 replace HE:=A3 (HE.out.trans (if_neg h1));replace h1:fe=0:=Decidable.of_not_not h1;replace HD:=HD.out h1;subst h1;have HT1:=HT.out W B8 y1;go_upto_region 5 with(go_at_call 96;(with_reducible refine HT1.mono ?_);clear HT1;rintro _ _ ⟨rfl,y2,rfl⟩)
 by_cases h1:te≠0
 ·have hb:(te != 0)=true:=by simpa using h1
  have HR:=A3 (HE.out.trans (if_pos h1));clear h1;go_wp2_with fail;go_ret;obtain⟨z,hz⟩:=Hup.out y2;rw[hz];exact HPO.out z _ HR.out
 replace HE:=A3 (HE.out.trans (if_neg h1));replace h1:=Decidable.of_not_not h1;subst h1;have HS1:=HS.out W B8 y2;go_upto_region 8 with(go_at_call 97;(with_reducible refine HS1.mono ?_);clear HS1;rintro _ _ ⟨rfl,y3,rfl⟩)
 by_cases h1:se≠0
 ·have hb:(se != 0)=true:=by simpa using h1
  have HR:=A3 (HE.out.trans (if_pos h1));clear h1;go_wp2_with fail;go_ret;obtain⟨z,hz⟩:=Hup.out y3;rw[hz];exact HPO.out z _ HR.out
 replace HE:=A3 (HE.out.trans (if_neg h1));replace h1:=Decidable.of_not_not h1;subst h1;clear HF HT HS;unfold qY at HE;by_cases h1:p.dk.length≠f.dk.length
 ·have hb:(p.dk.length == f.dk.length)=false:=beq_eq_false_iff_ne.2 h1
  have hb2:(((p.dk.length:Nat):Int) == ((f.dk.length:Nat):Int))=false:=beq_eq_false_iff_ne.2 (by omega);have hb3:(((p.dk.length:Nat):Int) != ((f.dk.length:Nat):Int))=true:=by rw[bne,hb2];rfl
  have HR:=A3 (HE.out.trans (if_pos h1));clear h1;go_wp2_with fail;go_ret;obtain⟨z,hz⟩:=Hup.out y3;rw[hz];exact HPO.out z _ HR.out
 replace HE:=A3 (HE.out.trans (if_neg h1));replace h1:p.dk.length=f.dk.length:=Decidable.of_not_not h1;have hb3:(((p.dk.length:Nat):Int) != ((f.dk.length:Nat):Int))=false:=by rw[h1];simp
 have hkd:p.dk.length≤32:=by omega
 by_cases h2:64<p.pl.length
 ·have hl2:(64:Int)<(p.pl.length:Int):=by omega
  have HR:=A3 (HE.out.trans (if_pos h2));clear h1 h2;go_wp2_with fail;go_ret;obtain⟨z,hz⟩:=Hup.out y3;rw[hz];exact HPO.out z _ HR.out
 replace HE:=A3 (HE.out.trans (if_neg h2));have hl2:¬(64:Int)<(p.pl.length:Int):=by omega
 have hpl:p.pl.length≤64:=by omega
 clear h1 h2;have hsum:(p.pl ++ p.dk).length≤96:=by rw[List.length_append];omega
 go_upto_region 12 with fail;obtain⟨W4,hW4⟩:∃W4,W4=y3.w.alloc (.cells #[.slice la p.pl.length lc,.slice ka p.dk.length kc] 22):=⟨_,rfl⟩
 have iQ:A8 W W4:=by rw[hW4];exact y3.alloc _
 have Az3:∃z:A7 w,W4=z.w:=A8.trans B8 iQ;have hcall:=HC.out W4 Az3 (A7.self W4) y3.w.heap.size (fun y=>A7.cell (by rw[hW4];simp[go_sem]) (by rw[hW4];simp) y) (fun y=>A7.cell (by rw[hW4];simp[go_sem]) (by rw[hW4];simp) y) hpl (by omega);rw[show(A7.self W4).w=W4 from rfl,hW4]at hcall;rw[hW4]at iQ;have HP3:=A3 (show jJ (p.pl ++ p.dk)=false→o7 f p=1∨ee=1 from fun h=>.inr (HE.out.trans (if_pos h)));have HE2:=A3 (fun(h:jJ (p.pl ++ p.dk)=true)=>HE.out.trans (if_neg (by rw[h];decide)));have HE1:=A3 (fun(h:jJ (p.pl ++ p.dk)=false)=>HE.out.trans (if_pos h));have HF1:=A3 (fun k (hk:k<(p.pl ++ p.dk).length) hv=>HE1.out (Bh7 hk hv));have HF2:=A3 (fun hv=>HE2.out (Bh8 hv));have Aw8:=A3 iQ;have Bs3:=A3 B8;clear iQ Az3 hW4 HP3 HE HE1 HE2 B8 HC;generalize p.pl ++ p.dk=q at *;go_upto_region 13 with(go_at_call 98;(with_reducible refine hcall.mono ?_);clear hcall;rintro _ _ ⟨v4,y4,rfl,rfl,hown⟩;obtain⟨_,a4,c4,rfl,hr4⟩:=qZ hown;have HR4:=A3 hr4;clear hown hr4)
 have HSn:=A3 (fun(y:A7 y4.w)=>show A8 W y.w from A8.trans Aw8.out (A8.trans ⟨y4,rfl⟩ ⟨y,rfl⟩));clear Aw8;generalize y4.w=wB at *;go_loopw [47] (fun i wr=>∃(k:Nat) (y:A7 wB),k≤q.length∧i= .int .i64 k∧wr=y.w∧∀j,j<k→C6 (B0 q j) (-1000000) 1000000=true) (fun i _ =>q.length-(intOf i).toNat)
 case atStart=>exact⟨0,A7.self wB,by omega,rfl,rfl,fun j hj=>by omega⟩
 case round=>
  obtain⟨k,y,hk,rfl,rfl,hok⟩:=hrel;have Hok:=A3 hok;clear hok;by_cases hlt:k<q.length
  ·obtain⟨b,off,rfl,hb,hcell⟩:=eJ HR4.out hlt
   have hx:∀y:A7 wB,y.w.cell? ⟨b,off+k,none⟩=some (.int .i64 (B0 q k)):=fun y=>A7.cell hcell hb y;have hk0:(0:Int)≤(k:Int):=by omega
   have hkl:(k:Int)<(q.length:Int):=by omega
   clear hb hcell;have hc:(B0 q k < -1000000)∨(-1000000≤B0 q k∧1000000<B0 q k)∨(-1000000≤B0 q k∧B0 q k≤1000000):=by omega
   rcases hc with h2|⟨h2,h3⟩|⟨h2,h3⟩
   ·have HR:=A3 (HF1.out k hlt (by unfold C6;rw[decide_eq_false (by omega)];rfl))
    generalize B0 q k=v at *;go_wp2_with fail;go_ret;obtain⟨z,hz⟩:=HSn.out y;obtain⟨z2,hz2⟩:=Hup.out z;rw[hz,hz2];exact HPO.out z2 _ HR.out
   ·have HR:=A3 (HF1.out k hlt (by unfold C6;rw[decide_eq_true (by omega),decide_eq_false (by omega)];rfl))
    have h4:¬B0 q k < -1000000:=by omega
    generalize B0 q k=v at *;go_wp2_with fail;go_ret;obtain⟨z,hz⟩:=HSn.out y;obtain⟨z2,hz2⟩:=Hup.out z;rw[hz,hz2];exact HPO.out z2 _ HR.out
   ·have HR:=A3 (show C6 (B0 q k) (-1000000) 1000000=true from by unfold C6;rw[decide_eq_true (by omega),decide_eq_true (by omega)];rfl)
    have h4:¬B0 q k < -1000000:=by omega
    have h5:¬1000000<B0 q k:=by omega
    have HN2:=A3 (show∀j,j<k+1→C6 (B0 q j) (-1000000) 1000000=true from fun j hj=>by
     by_cases hjk:j<k
     ·exact Hok.out j hjk
     ·obtain rfl:j=k:=by omega
      exact HR.out)
    clear HR;generalize hv:B0 q k=v at *;clear hv;go_wp2_with fail;go_roundw
    case rel=>exact⟨k+1,y,by omega,by go_num,rfl,HN2.out⟩
    case measure=>simp[intOf];omega
  ·obtain rfl:k=q.length:=by omega
   have HR:=A3 (HF2.out Hok.out);clear hlt HF1 HF2;have k4:∀z:A7 wB,z.w.cell? ⟨bx+1,4,none⟩=some (.int .i64 p.cap):=fun z=>A8.cell j8 (HSn.out z);have k0:∀z:A7 wB,z.w.cell? ⟨bx+1,0,none⟩=some (.slice ga p.tr.length gc):=fun z=>A8.cell T9 (HSn.out z);have k1:∀z:A7 wB,z.w.cell? ⟨bx+1,1,none⟩=some (.slice pa p.ps.length pc):=fun z=>A8.cell V9 (HSn.out z);have k2:∀z:A7 wB,z.w.cell? ⟨bx+1,2,none⟩=some (.slice la p.pl.length lc):=fun z=>A8.cell i7 (HSn.out z);have k3:∀z:A7 wB,z.w.cell? ⟨bx+1,3,none⟩=some (.slice ka p.dk.length kc):=fun z=>A8.cell j7 (HSn.out z);have k5:∀z:A7 wB,z.w.cell? ⟨bx+1,5,none⟩=some (.slice fa p.fn.length fc):=fun z=>A8.cell p7 (HSn.out z);have k6:∀z:A7 wB,z.w.cell? ⟨bx+1,6,none⟩=some (.int .i64 p.fd):=fun z=>A8.cell i8 (HSn.out z);have HSy:=A3 (HSn.out y);unfold wK at HR;by_cases h2:p.cap<0
   ·have HR2:=A3 (HR.out.trans (if_pos h2))
    clear HR;go_wp2_with fail;go_ret;obtain⟨z,hz⟩:=HSy.out;obtain⟨z2,hz2⟩:=Hup.out z;rw[hz,hz2];exact HPO.out z2 _ HR2.out
   ·by_cases h3:1000000000000<p.cap
    ·have HR2:=A3 (HR.out.trans ((if_neg h2).trans (if_pos h3)))
     clear HR;go_wp2_with fail;go_ret;obtain⟨z,hz⟩:=HSy.out;obtain⟨z2,hz2⟩:=Hup.out z;rw[hz,hz2];exact HPO.out z2 _ HR2.out
    ·have HR2:=A3 (HR.out.trans ((if_neg h2).trans (if_neg h3)))
     clear HR;obtain⟨z,hz⟩:=HSy.out;have hcall:=HN.out W Bs3.out z;rw[←hz]at hcall;clear hz;go_wp2_with(go_at_call 99;(with_reducible refine hcall.mono ?_);clear hcall;rintro _ _ ⟨rfl,y5,rfl⟩);go_ret;obtain⟨z2,hz2⟩:=Hup.out y5;rw[hz2];exact HPO.out z2 _ HR2.out
end
section
open Go.RowKit Go.ChangeMaps
theorem Bi0 {P:Program} {kt:TypeId} {κ:Type} [DecidableEq κ] {ek:κ→Value} {now:Bool} {w:World} {b i:Nat} {l:List (κ×Value)} {t et:TypeId} {v:Value} (K:Y2 P kt ek now) (h:J0 ek w b l) (ht:P.underlying t=some (.map kt et)) (x:κ) (hx:E8 x l 0=some (i,v)):
 (Instr.mapUpdate t (.map (some b)) (ek x) v).run P w= .ok () w:=by
 obtain⟨-,hl,-⟩:=jZ l 0 i hx;rw[Nat.sub_zero]at hl;have h':=h;unfold J0 at h;have he:(L6 ek l 0).toArray[i]? =some ⟨ek x,v,i⟩:=by simp[jX,hl]
 have hm:((L6 ek l 0).toArray.modify i fun e=>{e with key:=ek x,val:=v})=(L6 ek l 0).toArray:=by
  apply Array.ext_getElem?;intro j;rw[Array.getElem?_modify];split
  ·rename_i hj;subst hj;rw[he];rfl
  ·rfl
 have hs:(Instr.keyThatStays (ek x) (ek x)).run P w= .ok (ek x) w:=by
  unfold Instr.keyThatStays;rw[K.bits x];rfl
 simp only[Instr.mapUpdate,Sem.run_bind,run_underlying ht,Result.andThen_ok,MapKept.run_getObj_map h,K.chk,lO K,hx,he,Option.map_some,Option.getD_some,hs,MapKept.run_setObj_map _ h,hm];have:{w with heap:=w.heap.setIfInBounds b (.map (L6 ek l 0).toArray l.length)}=w:=zF h';rw[this]
def nF (ids:List Int) (k:Nat) (ds:List Int):Prop:=∀x,x∈ds↔x∈ids.take k
theorem nF.next {ids:List Int} {k:Nat} {ds:List Int} (h:nF ids k ds) {x:Int} (hx:ids[k]? =some x):(x∈ds→nF ids (k+1) ds)∧nF ids (k+1) (ds ++ [x]):=by
 have e:ids.take (k+1)=ids.take k ++ [x]:=by
  rw[List.take_succ_eq_append_getElem (A5 hx).1,(A5 hx).2]
 constructor
 ·intro hin y
  rw[e,List.mem_append,List.mem_singleton,←h y];constructor
  ·exact .inl
  ·rintro(h1|rfl)
   ·exact h1
   ·exact hin
 ·intro y
  rw[e,List.mem_append,List.mem_append,h y]
theorem Bi1 {ids:List Int} {k:Nat} {x:Int} (hx:ids[k]? =some x):r7 (ids.take (k+1))=(r7 (ids.take k) || decide (x∈ids.take k)):=by
 have h:=tH hx;rcases tG (ids.take k)with⟨h1,h2⟩|⟨h1,h2⟩
 ·rw[h1,mC (fun h3=>h2 (h.1 h3).1)];rfl
 ·rw[h1]
  by_cases h3:x∈ids.take k
  ·rw[decide_eq_true h3,mC (fun h4=>(h.1 h4).2 h3)];rfl
  ·rw[decide_eq_false h3,mD (h.2 ⟨h2,h3⟩)];rfl
theorem Bi2 (w:World) (x:A7 w) (a:Option Addr) (l:List A9) (c:Nat) (h:bQ w a l) (hl:l.length≤9223372036854775807):
 Calls Tryz.prog 48 #[.slice a l.length c] x.w fun o w'=>o= .returned (.int .i64 (U9 l))∧∃y:A7 w,w'=y.w:=by
 have HL:=A3 h;clear h;by_cases hbig:256<l.length
 ·have Hr:=A3 (show U9 l=8 by unfold U9;rw[if_pos hbig])
  go_enter Tryz.func48,Tryz.ntmps48;go_wp2_with fail;go_ret;exact⟨D5 Hr.out.symm,_,rfl⟩
 have sH:l.length≤256:=by omega
 have Hmk:∀k (e:A9),l[k]? =some e→(l.map fun r:A9=>r.id)[k]? =some e.id:=fun k e he=>iZ (f:=fun r:A9=>r.id) he;have HMk:=A3 Hmk;have H8:=A3 sH;clear hbig hl Hmk;have hmm:=@run_makeMap Tryz.prog;go_enter Tryz.func48,Tryz.ntmps48;go_wp2_with fail;have hm0:J0 W9 (x.w.alloc (.map #[] 0)) x.w.heap.size (Q8 []):=by
  show(x.w.heap.push _)[x.w.heap.size]? = _;simp[Q8,L6]
 obtain⟨y1,hy1⟩:=x.alloc (.map #[] 0);rw[hy1]at hm0⊢;have Hm0:=A3 hm0;have Hgb:=A3 x.b.size;clear hy1 hm0 hmm;generalize x.w.heap.size=bm at *;go_loopw [4,14] (fun tw i wr=>∃(k:Nat) (y:A7 w) (ds:List Int),k≤l.length∧i= .int .i64 k∧wr=y.w∧tw= .bool (r7 ((l.map fun r:A9=>r.id).take k))∧J0 W9 y.w bm (Q8 ds)∧nF (l.map fun r:A9=>r.id) k ds∧∀j,j<k→∀e,l[j]? =some e→J9 e=0) (fun _ i _ =>l.length-(intOf i).toNat)
 case atStart=>exact⟨0,y1,[],by omega,rfl,rfl,rfl,Hm0.out,fun x=>by simp,fun j hj=>by omega⟩
 case round=>
  clear Hm0;obtain⟨k,y,ds,hk,rfl,rfl,rfl,hm,hsm,hok⟩:=hrel;have Hok:=A3 hok;have Hm:=A3 hm;have Hsm:=A3 hsm;clear hok hm hsm;by_cases hlt:k<l.length
  ·obtain⟨e,he⟩:∃e,l[k]? =some e:=⟨_,A4 hlt⟩
   obtain⟨b1,off1,rfl,h1'⟩:=D0.ride HL.out.c he;have ra0:=h1'.c0;have ra1:=h1'.c1;have ra2:=h1'.c2;have ra3:=h1'.c3;have ra4:=h1'.c4;have ra5:=h1'.c5;have ra6:=h1'.c6;have ra7:=h1'.c7;have ra8:=h1'.c8;have ra9:=h1'.c9;have ra10:=h1'.c10;have ra11:=h1'.c11;have ra12:=h1'.c12;have hk0:(0:Int)≤(k:Int):=by omega
   have hkl:(k:Int)<(l.length:Int):=by omega
   have He':=A3 he;have Hat:=A3 (HL.out.r e (A0 he));have HD:=A3 (Bi1 (HMk.out k e he));have HS:=A3 (Hsm.out.next (HMk.out k e he));have HI:=A3 (Hsm.out e.id);clear h1' he;generalize r7 ((l.map fun r:A9=>r.id).take k)=tw at *;go_upto_region 8 with fail;obtain⟨y2,e2,C9,hsz0,hlt0,HX0⟩:=L8 y [.int .i64 e.id,.int .i64 e.rd,.int .i64 e.s0,.int .i64 e.s1,.int .i64 e.e0,.int .i64 e.e1,.bool e.op,.slice e.la e.legs.length e.lc,.slice e.pa e.pauses.length e.pc,.int .i64 e.fw,.int .i64 e.fp,.int .i64 e.wh,.int .i64 e.pl] 40;rw[e2];obtain⟨hx0,hx1,hx2,hx3,hx4,hx5,hx6,hx7,hx8,hx9,eN,eO,eP,hxf⟩:=bP HX0;(replace Hat:=A3 ((Hat.out.since y).to C9);replace Hm:=A3 (Hm.out.to' C9))
   clear e2 C9;generalize y.w.heap.size=g at *;obtain⟨E6,G9,K1,J5,O8,U5,X9,Z4,Z5,cL,cI,cJ,cK,I3⟩:=R5 HX0;have I9:=A3 (And.intro hsz0 hlt0);clear hlt0 hsz0 HX0;obtain⟨q0,hq0⟩:=A7.refl y2.w;rw[hq0];clear hq0;have Hck:=A3 (fun z:A7 y2.w=>oU y2.w z e Hat.out);by_cases her:J9 e=0
   ·rw[her]at Hck
    have Hv:=A3 (mA (P:=fun e:A9=>J9 e=0) Hok.out He'.out her);clear her;go_upto_region 11 with(go_at_call 9;((with_reducible refine(Hck.out _).mono ?_);rintro _ _ ⟨rfl,z1,rfl⟩))
    replace Hm:=A3 (Hm.out.to' ⟨z1,rfl⟩);have k0:∀z:A7 z1.w,z.w.cell? ⟨g,0,none⟩=some (.int .i64 e.id):=A7.cellTo ⟨z1,rfl⟩ E6;have hlk:=dS gR Hm.out Tryz.underlying199 (tN _) e.id false;unfold W9 at hlk;simp only[Bool.false_eq_true,if_false]at hlk;by_cases hin:e.id∈ds
    ·rw[tO hin]at hlk
     obtain⟨j,hj⟩:=(iY e.id ds 0).1 hin;have hst:=Bi0 gR Hm.out Tryz.underlying199 e.id hj;unfold W9 at hst;have HD2:=A3 (show r7 ((l.map fun r:A9=>r.id).take (k+1))=true by rw[HD.out,decide_eq_true (HI.out.1 hin)];simp);have HS2:=A3 (HS.out.1 hin);clear hj hin;obtain⟨q,eq⟩:=y2.trans z1;rw[eq]at Hm;have Eq:=A3 eq;clear eq
     cases tw with
     |true=>
      go_wp2_with fail
      go_roundw
      case rel=>exact⟨k+1,q,ds,by omega,by go_num,Eq.out,by rw[HD2.out],Hm.out,HS2.out,Hv.out⟩
      case measure=>simp[intOf]<;>omega
     |false=>
      go_wp2_with fail
      go_roundw
      case rel=>exact⟨k+1,q,ds,by omega,by go_num,Eq.out,by rw[HD2.out],Hm.out,HS2.out,Hv.out⟩
      case measure=>simp[intOf]<;>omega
    ·rw[tP hin]at hlk
     obtain⟨w2,hst,hw2⟩:=oO gR Hm.out Tryz.underlying199 e.id (.bool true) ((iY e.id _ 0).2 hin);unfold W9 at hst;have Hw2:=A3 hw2;have HD2:=A3 (show r7 ((l.map fun r:A9=>r.id).take (k+1))=tw by rw[HD.out,decide_eq_false (fun h=>hin (HI.out.2 h))];simp);have HS2:=A3 HS.out.2;clear hw2 hin;obtain⟨q,eq⟩:=y2.trans z1;rw[eq]at Hm Hw2;obtain⟨y3,hy3⟩:=q.block (r:=bm) Hgb.out (.map (L6 W9 (Q8 ds ++ [(e.id,Value.bool true)]) 0).toArray (Q8 ds ++ [(e.id,Value.bool true)]).length);have hm3:J0 W9 y3.w bm (Q8 (ds ++ [e.id])):=by
      rw[←hy3,show Q8 (ds ++ [e.id])=Q8 ds ++ [(e.id,Value.bool true)]from by simp[Q8]];exact cM Hm.out.lt'
     have Hm3:=A3 hm3;have Hy3:=A3 (Hw2.out.trans hy3);clear hm3 hy3 eq
     cases tw with
     |true=>
      go_wp2_with fail
      rw[Hy3.out]
      go_roundw
      case rel=>exact⟨k+1,y3,_,by omega,by go_num,rfl,by rw[HD2.out],Hm3.out,HS2.out,Hv.out⟩
      case measure=>simp[intOf]<;>omega
     |false=>
      go_wp2_with fail
      rw[Hy3.out]
      go_roundw
      case rel=>exact⟨k+1,y3,_,by omega,by go_num,rfl,by rw[HD2.out],Hm3.out,HS2.out,Hv.out⟩
      case measure=>simp[intOf]<;>omega
   ·have Hr:=A3 (show U9 l=J9 e by rw[Ab6 H8.out He'.out her Hok.out])
    have heb:(J9 e != 0)=true:=by simpa using her
    clear her;generalize J9 e=re at *;go_wp2_with(go_at_call 9;((with_reducible refine(Hck.out _).mono ?_);rintro _ _ ⟨rfl,z1,rfl⟩));go_ret;exact⟨D5 Hr.out.symm,by obtain⟨q,e⟩:=y2.trans z1;rw[e];exact⟨q,rfl⟩⟩
  ·obtain rfl:k=l.length:=by omega
   have HP:=A3 (tQ H8.out Hok.out);rw[List.take_of_length_le (by simp)]
   cases hd:r7 (l.map fun r:A9=>r.id)with
   |true=>
    have HR:=A3 (HP.out.trans (if_pos hd))
    clear hd
    go_wp2_with fail
    go_ret
    exact⟨D5 HR.out.symm,y,rfl⟩
   |false=>
    have HR:=A3 (HP.out.trans (if_neg (by rw[hd];simp)))
    clear hd
    go_wp2_with fail
    go_ret
    exact⟨D5 HR.out.symm,y,rfl⟩
end
section
open Go.RowKit Go.ChangeMaps
theorem rC (w:World) (n lo hi:Int) (h:lo≤n∧n≤hi):
 Calls Tryz.prog 158 #[.int .i64 n,.int .i64 lo,.int .i64 hi] w fun o w'=>o= .returned (.bool true)∧w=w':=by
 obtain⟨h1,h2⟩:=h;go_enter Tryz.func158,Tryz.ntmps158;go_wp2_with fail;go_ret;first|exact⟨rfl,rfl⟩|simp
structure rD (cap:Int) (rs ds ams:List Int) (n:Nat):Prop where
 c:0≤cap∧cap≤1000000000000
 r:rs.length=n
 d:ds.length=n
 a:ams.length=n
 nb:n≤256
 rv:∀i,i<n→0≤B0 rs i∧B0 rs i≤127
 dv:∀i,i<n→0≤B0 ds i∧B0 ds i≤49709
 av:∀i,i<n→0≤B0 ams i∧B0 ams i≤1000000000000
theorem Bi3 (w:World) (x:A7 w) (cap:Int) (n:Nat) (rs ds ams:List Int) (ra da aa:Option Addr) (rc dc ac:Nat) (hr:S9 w ra rs) (hd:S9 w da ds) (ha:S9 w aa ams) (h:rD cap rs ds ams n):
 Calls Tryz.prog 107 #[.int .i64 cap,.slice ra n rc,.slice da n dc,.slice aa n ac] x.w fun o w'=>o= .returned (.int .i64 0)∧∃y:A7 w,w'=y.w:=by
 have HR:=A3 hr;have HD:=A3 hd;have HA:=A3 ha;have HO:=A3 h;have hn:=h.nb;have hc:=fun W=>rC W cap 0 1000000000000 h.c;have HC:=A3 hc;clear hr hd ha h hc;go_enter Tryz.func107,Tryz.ntmps107;go_wp2_with(go_at_call 158;(with_reducible refine(HC.out _).mono ?_);rintro _ _ ⟨rfl,rfl⟩);go_loopw [33] (fun i wr=>∃(k:Nat) (y:A7 w),k≤n∧i= .int .i64 k∧wr=y.w) (fun i _ =>n-(intOf i).toNat)
 case atStart=>exact⟨0,x,by omega,rfl,rfl⟩
 case round=>
  obtain⟨k,y,hk,rfl,rfl⟩:=hrel;by_cases hlt:k<n
  ·obtain⟨b1,o1,rfl,hb1,hc1⟩:=eJ HR.out (i:=k) (by rw[HO.out.r];exact hlt)
   obtain⟨b2,o2,rfl,hb2,hc2⟩:=eJ HD.out (i:=k) (by rw[HO.out.d];exact hlt);obtain⟨b3,o3,rfl,hb3,hc3⟩:=eJ HA.out (i:=k) (by rw[HO.out.a];exact hlt);have hx1:∀y:A7 w,y.w.cell? ⟨b1,o1+k,none⟩=some (.int .i64 (B0 rs k)):=fun y=>A7.cell hc1 hb1 y;have hx2:∀y:A7 w,y.w.cell? ⟨b2,o2+k,none⟩=some (.int .i64 (B0 ds k)):=fun y=>A7.cell hc2 hb2 y;have hx3:∀y:A7 w,y.w.cell? ⟨b3,o3+k,none⟩=some (.int .i64 (B0 ams k)):=fun y=>A7.cell hc3 hb3 y;have H1:=A3 (fun W=>rC W (B0 rs k) 0 127 (HO.out.rv k hlt));have H2:=A3 (fun W=>rC W (B0 ds k) 0 49709 (HO.out.dv k hlt));have H3:=A3 (fun W=>rC W (B0 ams k) 0 1000000000000 (HO.out.av k hlt));have hk0:(0:Int)≤(k:Int):=by omega
   have hkl:(k:Int)<(n:Int):=by omega
   clear hc1 hb1 hc2 hb2 hc3 hb3;generalize B0 rs k=v1 at *;generalize B0 ds k=v2 at *;generalize B0 ams k=v3 at *;go_wp2_with(first
    |(go_at_call 158;(with_reducible refine(H1.out _).mono ?_);rintro _ _ ⟨rfl,rfl⟩)
    |(go_at_call 158;(with_reducible refine(H2.out _).mono ?_);rintro _ _ ⟨rfl,rfl⟩)
    |(go_at_call 158;(with_reducible refine(H3.out _).mono ?_);rintro _ _ ⟨rfl,rfl⟩))
   go_roundw
   case rel=>exact⟨k+1,y,by omega,by go_num,rfl⟩
   case measure=>simp[intOf];omega
  ·obtain rfl:k=n:=by omega
   go_wp2_with fail;go_ret;exact⟨rfl,y,rfl⟩
theorem nG:Y2 Tryz.prog 263 X0 false where
 chk em w x:=by unfold X0;kernel_rfl
 eq w x y:=by
  unfold X0;obtain⟨i,hi,_,_,_⟩:=info_parts (P:=Tryz.prog) (e:=3) (z:=.int .i64 0) (size:=1) (bytes:=8) (by kernel_rfl);have hc:Tryz.prog.cellsOf 3=1:=by kernel_rfl
  show(Op.equalIn (9999+1) _ _ _).run _ _ = _;rw[run_equalIn_array w 9999 _ _ Tryz.underlying263 hi,hc];have u3:=Tryz.underlying3;have a3:=Tryz.isAgg3;have z3:=Tryz.sizeOf3;rw[show List.range 2=[0,1]from rfl];have he:=fun(a b:Int)=>run_equalIn_int (P:=Tryz.prog) w 9998 3 .i64 .i64 a b u3;simp only[Op.eqItems,Sem.run_bind];go_simp;by_cases h1:x.1=y.1<;>by_cases h2:x.2=y.2<;>simp[h1,h2,Prod.ext_iff]
 und:=⟨_,Tryz.underlying263,fun x y=>rfl⟩
 bits x:=by
  unfold X0;rw[show(10000:Nat)=9999+1 from rfl];simp[Instr.sameBits]
theorem Ap0 {V:World} {bm:Nat} {L:List ((Int×Int)×Value)} (hL:J0 X0 V bm L) (k d v u:Int) (hv:Q4 (k,d) L (.int .i64 0)= .int .i64 v):
 ∃(w1 w2:World) (i:Nat),(Instr.mapEntry 211 (.map (some bm)) (.agg #[.int .i64 k,.int .i64 d])).run Tryz.prog V= .ok (.tuple #[.int .i64 v,.int .i64 (i:Int)]) w1∧
  (Instr.lookup 211 (.map (some bm)) (.agg #[.int .i64 k,.int .i64 d]) false).run Tryz.prog w1= .ok (.int .i64 v) w1∧
  (Instr.entryStore 211 (.map (some bm)) (.int .i64 (i:Int)) (.int .i64 u)).run Tryz.prog w1= .ok () w2∧
  J0 X0 w2 bm (cN (k,d) (.int .i64 u) L)∧V.grownBy w2 (some bm):=by
 have hlt:=hL.lt'
 cases hx:E8 (k,d) L 0 with
 |some r=>
  obtain⟨i,val⟩:=r
  have hval:val= .int .i64 v:=by rw[gM,hx]at hv;simpa using hv
  subst hval
  obtain⟨-,hi,-⟩:=jZ L 0 i hx
  rw[Nat.sub_zero]at hi
  have h1:=zG nG hL Tryz.underlying211 (k,d) hx
  have h2:=dS nG hL Tryz.underlying211 (gT V) (k,d) false
  simp only[Bool.false_eq_true,if_false]at h2
  rw[hv]at h2
  have h3:=oQ (P:=Tryz.prog) (t:=211) hL hi (.int .i64 u)
  refine⟨V,_,i,h1,h2,h3,?_,kJ hL⟩
  unfold cN
  rw[hx]
  exact cM hlt
 |none=>
  have hv0:v=0:=by rw[gM,hx]at hv;simpa using hv.symm
  subst hv0
  have h1:=zH nG hL Tryz.underlying211 (fun w=>gT w) (k,d) hx
  have hM:J0 X0 (setBlock V bm (.map (L6 X0 (L ++ [((k,d),Value.int .i64 0)]) 0).toArray (L ++ [((k,d),Value.int .i64 0)]).length)) bm (L ++ [((k,d),Value.int .i64 0)]):=cM hlt
  have h2:=dS nG hM Tryz.underlying211 (gT _) (k,d) false
  simp only[Bool.false_eq_true,if_false]at h2
  have hlk:Q4 (k,d) (L ++ [((k,d),Value.int .i64 0)]) (.int .i64 0)= .int .i64 0:=by
   rw[gM,lR L _ 0 hx];simp[E8]
  rw[hlk]at h2
  have h3:=oQ (P:=Tryz.prog) (t:=211) (i:=L.length) hM (x:=(k,d)) (v0:=Value.int .i64 0) (by simp) (.int .i64 u)
  refine⟨_,_,L.length,h1,h2,h3,?_,(kJ hL).trans (kJ hM)⟩
  have hset:(L ++ [((k,d),Value.int .i64 0)]).set L.length ((k,d),Value.int .i64 u)=cN (k,d) (.int .i64 u) L:=by
   unfold cN;rw[hx];simp
  rw[hset]
  exact cM (by rw[lP];exact hlt)
end
section
open Go.RowKit Go.ChangeMaps
def jK (w:World) (b:Nat) (done:List (Int×Int×Int)):Prop:=
 ∃L:List ((Int×Int)×Value),J0 X0 w b L∧∀k:Int×Int,Q4 k L (.int .i64 0)= .int .i64 (cD done k.1 k.2)
theorem jK.to {w W:World} {b:Nat} {done:List (Int×Int×Int)} (h:jK w b done) (hW:∃z:A7 w,W=z.w):jK W b done:=by
 obtain⟨L,h1,h2⟩:=h;exact⟨L,h1.to' hW,h2⟩
def p6 (n:Nat) (rs ds ams:List Int):List (Int×Int×Int):=(List.range n).map fun i=>(B0 rs i,B0 ds i,B0 ams i)
theorem Bi4 {n:Nat} {rs ds ams:List Int} {k:Nat} (hk:k<n):(p6 n rs ds ams)[k]? =some (B0 rs k,B0 ds k,B0 ams k):=by
 unfold p6;rw[List.getElem?_map,List.getElem?_range hk];rfl
theorem Bi5 (n:Nat) (rs ds ams:List Int):(p6 n rs ds ams).length=n:=by simp[p6]
def wL (w:World) (L:List Int) (o:Ending) (w':World):Prop:=
 ∃(v mv:Value) (y:A7 w),o= .returned (.tuple #[v,mv])∧w'=y.w∧y.w.ownsRow w.heap.size 3 1 v L.length (L.map (Value.int .i64))
theorem Bi6 (w:World) (x:A7 w) (cap:Int) (n:Nat) (rs ds ams:List Int) (ra da aa:Option Addr) (rc dc ac:Nat) (hr:S9 w ra rs) (hd:S9 w da ds) (ha:S9 w aa ams) (h:rD cap rs ds ams n):
 Calls Tryz.prog 108 #[.int .i64 cap,.slice ra n rc,.slice da n dc,.slice aa n ac] x.w (wL w (U2 cap (p6 n rs ds ams))):=by
 have HP:=A3 (fun(v mv:Value) (y:A7 w) (h:y.w.ownsRow w.heap.size 3 1 v (U2 cap (p6 n rs ds ams)).length ((U2 cap (p6 n rs ds ams)).map (Value.int .i64)))=>show wL w (U2 cap (p6 n rs ds ams)) (.returned (.tuple #[v,mv])) y.w from⟨v,mv,y,rfl,rfl,h⟩);generalize wL w (U2 cap (p6 n rs ds ams))=PO at *;have HR:=A3 hr;have HD:=A3 hd;have HA:=A3 ha;have HO:=A3 h;have HG:=A3 (fun k (hk:k<n)=>Bi4 (rs:=rs) (ds:=ds) (ams:=ams) hk);have HGl:=A3 (Bi5 n rs ds ams);have hn:=h.nb;have hcap:=h.c;have HS:=A3 (Am7 cap hcap.1 (p6 n rs ds ams));obtain⟨hc0,hc1⟩:=hcap;clear hr hd ha h;generalize p6 n rs ds ams=G at *;have hmm:=@run_makeMap Tryz.prog;go_enter Tryz.func108,Tryz.ntmps108;go_wp2_with fail;have hm0:J0 X0 (x.w.alloc (.map #[] 0)) x.w.heap.size []:=by
  show(x.w.heap.push _)[x.w.heap.size]? = _;simp[L6]
 obtain⟨y1,hy1⟩:=x.alloc (.map #[] 0);rw[hy1]at hm0⊢;have Hm0:=A3 (show jK y1.w x.w.heap.size []from⟨[],hm0,fun k=>rfl⟩);have Hgb:=A3 x.b.size;clear hy1 hm0 hmm;generalize x.w.heap.size=bm at *;go_loopw [10,18] (fun v i wr=>∃(k:Nat) (y:A7 w) (done:List (Int×Int×Int)) (outs:List Int),k≤n∧i= .int .i64 k∧wr=y.w∧fD cap G k done outs∧y.w.ownsRow w.heap.size 3 1 v outs.length (outs.map (Value.int .i64))∧jK y.w bm done) (fun _ i _ =>n-(intOf i).toNat)
 case atStart=>exact⟨0,y1,[],[],by omega,rfl,rfl,HS.out,⟨rfl,.inl ⟨rfl,rfl⟩⟩,Hm0.out⟩
 case round=>
  clear Hm0 HS;obtain⟨k,y,done,outs,hk,rfl,rfl,hs,hown,hpm⟩:=hrel;obtain⟨a4,n4,c4,rfl⟩:=I4 hown;have HS:=A3 hs;have I5:=A3 hown;have Hpm:=A3 hpm;clear hs hown hpm;by_cases hlt:k<n
  ·obtain⟨b1,o1,rfl,hb1,hc1'⟩:=eJ HR.out (i:=k) (by rw[HO.out.r];exact hlt)
   obtain⟨b2,o2,rfl,hb2,hc2'⟩:=eJ HD.out (i:=k) (by rw[HO.out.d];exact hlt);obtain⟨b3,o3,rfl,hb3,hc3'⟩:=eJ HA.out (i:=k) (by rw[HO.out.a];exact hlt);have hx1:∀y:A7 w,y.w.cell? ⟨b1,o1+k,none⟩=some (.int .i64 (B0 rs k)):=fun y=>A7.cell hc1' hb1 y;have hx2:∀y:A7 w,y.w.cell? ⟨b2,o2+k,none⟩=some (.int .i64 (B0 ds k)):=fun y=>A7.cell hc2' hb2 y;have hx3:∀y:A7 w,y.w.cell? ⟨b3,o3+k,none⟩=some (.int .i64 (B0 ams k)):=fun y=>A7.cell hc3' hb3 y;have hav:=HO.out.av k hlt;have HGk:=A3 (HG.out k hlt);have HN:=A3 (HS.out.next HGk.out hav);have HB:=A3 (HS.out.bd (B0 rs k) (B0 ds k));have hk0:(0:Int)≤(k:Int):=by omega
   have hkl:(k:Int)<(n:Int):=by omega
   clear hc1' hb1 hc2' hb2 hc3' hb3;obtain⟨r,hrv⟩:∃r,B0 rs k=r:=⟨_,rfl⟩
   obtain⟨d,hdv⟩:∃d,B0 ds k=d:=⟨_,rfl⟩
   obtain⟨a,hav'⟩:∃a,B0 ams k=a:=⟨_,rfl⟩
   rw[hrv]at hx1 HN HB HGk;rw[hdv]at hx2 HN HB HGk;rw[hav']at hx3 HN hav HGk;clear hrv hdv hav';go_upto_region 6 with fail;have HSf:=A3 (fun(w':World) (hw:A8 w w')=>show w'.cell? ⟨b1,o1+k,none⟩=some (.int .i64 r)∧w'.cell? ⟨b2,o2+k,none⟩=some (.int .i64 d)from⟨A8.cell hx1 hw,A8.cell hx2 hw⟩);refine R7 (fun w'=>w'.cell? ⟨b1,o1+k,none⟩=some (.int .i64 r)∧w'.cell? ⟨b2,o2+k,none⟩=some (.int .i64 d)) 10 (by kernel_rfl) (HSf.out _ (A8.drew' (A8.of y))) (fun hS=>?_);iterate 9
    refine J4 0 ?_ rfl rfl (by kernel_rfl) hS (fun _ _ _ h=>h) ?_ ?_
    rotate_left
    ·(intro w h;(try dsimp only at h);go_split_ands;go_simp;try with_reducible rfl)
    (try simp only[Act.put,B9])
   refine I0 9 (by kernel_rfl) rfl fun K hK=>?_;go_simp;refine E5 hK (HSf.out _ (A8.drew' (A8.alloc (A8.of y) _))) ?_;clear hK K hS;intro hS;(try simp only[Act.put,B9])
   refine I0 10 (by kernel_rfl) rfl fun K hK=>?_;go_simp;refine M9 hK (by kernel_rfl) ?_;clear hK K;(try clear hS)
   (try simp only[Act.put,B9])
   obtain⟨y2,e2,C9,hsz0,hlt0,HX0⟩:=sW y [.int .i64 r,.int .i64 d] 263;rw[e2];obtain⟨hx0,hx1,hxf⟩:=aC HX0;(replace Hpm:=A3 (Hpm.out.to C9);replace I5:=A3 (J8 I5.out C9))
   clear e2 C9;generalize y.w.heap.size=g at *;obtain⟨E6,G9,I3⟩:=p8 HX0;have I9:=A3 (And.intro hsz0 hlt0);clear hlt0 hsz0 HX0;obtain⟨L,hL,hLv⟩:=Hpm.out;have HL:=A3 hL;have HLv:=A3 hLv;have hlv:=hLv (r,d);obtain⟨s,hs⟩:∃s,cD done r d=s:=⟨_,rfl⟩
   rw[hs]at hlv HB;have hsb:=HB.out;have hs0:0≤s:=hsb.1;have hs1:s≤(k:Int)*1000000000000:=hsb.2.1;have hs2:s≤256000000000000:=by omega
   have hsc:=hsb.2.2;have Aw0:=A3 (show cE cap done r d a=if 0<cap then min a (cap-s)else a from by unfold cE;rw[hs]);have Hs:=A3 hs;clear hL hLv hsb hs;have hlk0:=fun(V:World) (h:J0 X0 V bm L)=>dS nG h Tryz.underlying211 (gT V) (r,d) false;rw[hlv]at hlk0;unfold X0 at hlk0;simp only[Bool.false_eq_true,if_false]at hlk0;have Hlk:=A3 hlk0;clear hlk0;generalize cE cap done r d a=m at *;obtain⟨hn1,hn2⟩:=HN.out.2;have HN1:=A3 HN.out.1;clear HN HB;have hmb:(0<cap∧m=min a (cap-s))∨(cap=0∧m=a):=by
    by_cases hcp:0<cap
    ·exact .inl ⟨hcp,Aw0.out.trans (if_pos hcp)⟩
    ·exact .inr ⟨by omega,Aw0.out.trans (if_neg hcp)⟩
   have hw2:wrap64 (s+m)=s+m:=IntWalk.wrap64_in _ ⟨by omega,by omega⟩;have hms:0≤s+m∧s+m≤257000000000000:=by omega
   have Ay3:=Hlk.out y2.w HL.out;have Hn:=A3 (show∀j,some bm=some j→w.heap.size≤j from fun j hj=>by cases hj;exact Hgb.out);rcases hmb with⟨hcp,hm⟩|⟨hcp,hm⟩
   ·have hsc':=hsc hcp
    have hw1:wrap64 (cap-s)=cap-s:=IntWalk.wrap64_in _ ⟨by omega,by omega⟩;have Hm:=A3 hm.symm;clear hsc hm hw2 hms;go_upto_region 9 with fail;rw[Hm.out];obtain⟨w1,w2,iE,hE,hK,hS,hM,hG⟩:=Ap0 (V:=y2.w.drew) (L:=L) HL.out r d s (s+m) (HLv.out (r,d) |>.trans (by rw[Hs.out]));have HM:=A3 hM;have HG:=A3 hG;have hw2:wrap64 (s+m)=s+m:=IntWalk.wrap64_in _ ⟨by omega,by omega⟩;have hw3:wrap64 (m+s)=s+m:=(IntWalk.wrap64_in _ ⟨by omega,by omega⟩).trans (Int.add_comm _ _);have g0:y2.w.drew.cell? ⟨g,0,none⟩=some (.int .i64 r):=E6 (A7.self y2.w);have g1:y2.w.drew.cell? ⟨g,1,none⟩=some (.int .i64 d):=G9 (A7.self y2.w);have oF:=Hlk.out y2.w.drew HL.out;clear hM hG Ay3;go_region
    have HMw:=A3 (HM.out.to' (A8.alloc (A8.self w2) (.cells #[.int .i64 m] 3)));have W6:=A3 (lM (J8 I5.out (A8.drew' (A8.of (A7.self y2.w)))) HG.out (fun b hb e=>oJ (J8 I5.out (A8.drew' (A8.of (A7.self y2.w)))) (show y2.w.drew.heap[bm]? = _ from HL.out) (by simp) b hb (Option.some.inj e)));have HI2:=A3 (show A8 w w2 from by
     obtain⟨yd,hyd⟩:=y2.drew;have h:=HG.out;rw[hyd]at h;exact yd.grown h Hn.out)
    have Hb2:=A3 (show w.heap.size≤w2.heap.size from A8.size HI2.out);have HPv:=A3 (show∀k:Int×Int,Q4 k (cN (r,d) (.int .i64 (s+m)) L) (.int .i64 0)= .int .i64 (cD (done ++ [(r,d,m)]) k.1 k.2)from fun k=>by
     obtain⟨r',d'⟩:=k;rw[sQ,wD];by_cases e:(r',d')=(r,d)
     ·rw[if_pos e,if_pos e]
      obtain⟨rfl,rfl⟩:=Prod.mk.inj e;rw[Hs.out]
     ·rw[if_neg e,if_neg e]
      exact HLv.out (r',d'))
    clear hE hK hS hw2 hw3 g0 g1 oF;go_wp2_with(at_builtin;(refine fM (k:=1) (w0:=w) ?hw rfl _ _ 22 rfl w.heap.size (Nat.le_refl _) ?hb 3 (.int .i64 0) 8 M5 (.slice a4 n4 c4) outs.length (outs.map (Value.int .i64)) rfl ?hown ⟨w2.heap.size,0,none⟩ 1 1 [.int .i64 m] rfl rfl ?hc (fun u hu=>by simp at hu;subst hu;rfl) ?h63 ?hbytes ?_;rotate_right 1;intro v2 q2 hown4 _ hg4;have Hg4:=A3 hg4;have V8:=A3 hown4;clear hg4 hown4))
    case hw=>exact A8.alloc HI2.out _
    case hb=>have:=Hb2.out;simp;omega
    case hown=>exact fN W6.out
    case hc=>exact sZ [.int .i64 m] _ rfl
    case h63=>have:=HS.out.len;unfold maxLen;omega
    case hbytes=>have:=HS.out.len;omega
    have HM4:=A3 (show jK q2.w bm (done ++ [(r,d,m)])from⟨_,J0.keep HMw.out Hg4.out (fun e=>oJ (fN W6.out) (show(w2.alloc (.cells #[.int .i64 m] 3)).heap[bm]? = _ from HMw.out) (by simp) bm e.symm rfl),HPv.out⟩);have xR:=A3 (show q2.w.ownsRow w.heap.size 3 1 v2 (outs ++ [m]).length ((outs ++ [m]).map (Value.int .i64))from by rw[List.length_append,List.map_append];exact V8.out);go_wp2_with fail;go_roundw
    case rel=>exact⟨k+1,q2,_,_,by omega,by go_num,rfl,HN1.out,xR.out,HM4.out⟩
    case measure=>simp[intOf];omega
   ·have hcn:¬0<cap:=by omega
    have Hm:=A3 hm.symm;clear hsc hm hw2 hms hcp;go_upto_region 9 with fail;rw[Hm.out];obtain⟨w1,w2,iE,hE,hK,hS,hM,hG⟩:=Ap0 (V:=y2.w.drew) (L:=L) HL.out r d s (s+m) (HLv.out (r,d) |>.trans (by rw[Hs.out]));have HM:=A3 hM;have HG:=A3 hG;have hw2:wrap64 (s+m)=s+m:=IntWalk.wrap64_in _ ⟨by omega,by omega⟩;have hw3:wrap64 (m+s)=s+m:=(IntWalk.wrap64_in _ ⟨by omega,by omega⟩).trans (Int.add_comm _ _);have g0:y2.w.drew.cell? ⟨g,0,none⟩=some (.int .i64 r):=E6 (A7.self y2.w);have g1:y2.w.drew.cell? ⟨g,1,none⟩=some (.int .i64 d):=G9 (A7.self y2.w);have oF:=Hlk.out y2.w.drew HL.out;clear hM hG Ay3;go_region
    have HMw:=A3 (HM.out.to' (A8.alloc (A8.self w2) (.cells #[.int .i64 m] 3)));have W6:=A3 (lM (J8 I5.out (A8.drew' (A8.of (A7.self y2.w)))) HG.out (fun b hb e=>oJ (J8 I5.out (A8.drew' (A8.of (A7.self y2.w)))) (show y2.w.drew.heap[bm]? = _ from HL.out) (by simp) b hb (Option.some.inj e)));have HI2:=A3 (show A8 w w2 from by
     obtain⟨yd,hyd⟩:=y2.drew;have h:=HG.out;rw[hyd]at h;exact yd.grown h Hn.out)
    have Hb2:=A3 (show w.heap.size≤w2.heap.size from A8.size HI2.out);have HPv:=A3 (show∀k:Int×Int,Q4 k (cN (r,d) (.int .i64 (s+m)) L) (.int .i64 0)= .int .i64 (cD (done ++ [(r,d,m)]) k.1 k.2)from fun k=>by
     obtain⟨r',d'⟩:=k;rw[sQ,wD];by_cases e:(r',d')=(r,d)
     ·rw[if_pos e,if_pos e]
      obtain⟨rfl,rfl⟩:=Prod.mk.inj e;rw[Hs.out]
     ·rw[if_neg e,if_neg e]
      exact HLv.out (r',d'))
    clear hE hK hS hw2 hw3 g0 g1 oF;go_wp2_with(at_builtin;(refine fM (k:=1) (w0:=w) ?hwB rfl _ _ 22 rfl w.heap.size (Nat.le_refl _) ?hbB 3 (.int .i64 0) 8 M5 (.slice a4 n4 c4) outs.length (outs.map (Value.int .i64)) rfl ?By1 ⟨w2.heap.size,0,none⟩ 1 1 [.int .i64 m] rfl rfl ?hcB (fun u hu=>by simp at hu;subst hu;rfl) ?Bw6 ?Bx2 ?_;rotate_right 1;intro v2 q2 hown4 _ hg4;have Hg4:=A3 hg4;have V8:=A3 hown4;clear hg4 hown4))
    case hwB=>exact A8.alloc HI2.out _
    case hbB=>have:=Hb2.out;simp;omega
    case By1=>exact fN W6.out
    case Bw6=>have:=HS.out.len;unfold maxLen;omega
    case Bx2=>have:=HS.out.len;omega
    have HM4:=A3 (show jK q2.w bm (done ++ [(r,d,m)])from⟨_,J0.keep HMw.out Hg4.out (fun e=>oJ (fN W6.out) (show(w2.alloc (.cells #[.int .i64 m] 3)).heap[bm]? = _ from HMw.out) (by simp) bm e.symm rfl),HPv.out⟩);have xR:=A3 (show q2.w.ownsRow w.heap.size 3 1 v2 (outs ++ [m]).length ((outs ++ [m]).map (Value.int .i64))from by rw[List.length_append,List.map_append];exact V8.out);go_wp2_with fail;go_roundw
    case rel=>exact⟨k+1,q2,_,_,by omega,by go_num,rfl,HN1.out,xR.out,HM4.out⟩
    case measure=>simp[intOf];omega
  ·obtain rfl:k=n:=by omega
   have HE:=A3 (show outs=U2 cap G from by have h:=HS.out;rw[←HGl.out]at h;exact h.done);have HR2:=A3 (HP.out _ (.map (some bm)) y (by rw[←HE.out];exact I5.out));clear I5 Hpm HS;go_wp2_with fail;exact HR2.out
def rE (w:World) (L:List Int) (o:Ending) (w':World):Prop:=
 ∃(v:Value) (y:A7 w),o= .returned (.tuple #[v,.int .i64 0])∧w'=y.w∧y.w.ownsRow w.heap.size 3 1 v L.length (L.map (Value.int .i64))
theorem Bi7 (w:World) (x:A7 w) (cap:Int) (n:Nat) (rs ds ams:List Int) (ra da aa:Option Addr) (rc dc ac:Nat) (hr:S9 w ra rs) (hd:S9 w da ds) (ha:S9 w aa ams) (h:rD cap rs ds ams n):
 Calls Tryz.prog 55 #[.int .i64 cap,.slice ra n rc,.slice da n dc,.slice aa n ac] x.w (rE w (U2 cap (p6 n rs ds ams))):=by
 have HP:=A3 (fun(v:Value) (y:A7 w) (h:y.w.ownsRow w.heap.size 3 1 v (U2 cap (p6 n rs ds ams)).length ((U2 cap (p6 n rs ds ams)).map (Value.int .i64)))=>show rE w (U2 cap (p6 n rs ds ams)) (.returned (.tuple #[v,.int .i64 0])) y.w from⟨v,y,rfl,rfl,h⟩);generalize rE w (U2 cap (p6 n rs ds ams))=PO at *;have HC:=A3 (Bi3 w x cap n rs ds ams ra da aa rc dc ac hr hd ha h);have HA:=A3 (fun y:A7 w=>Bi6 w y cap n rs ds ams ra da aa rc dc ac hr hd ha h);clear hr hd ha h;go_enter Tryz.func55,Tryz.ntmps55;go_upto_region 4 with(go_at_call 107;(with_reducible refine HC.out.mono ?_);rintro _ _ ⟨rfl,y1,rfl⟩)
 have hA:=HA.out y1;clear HC HA;go_wp2_with(go_at_call 108;(with_reducible refine hA.mono ?_);clear hA;rintro _ _ ⟨v,mv,y2,rfl,rfl,hown⟩;obtain⟨a3,n3,c3,rfl⟩:=I4 hown;have HR:=A3 (HP.out _ y2 hown);clear hown);exact HR.out
end
end Go.Proofs.YtmmlmhnjjfnpnaaGreat
