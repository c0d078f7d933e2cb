/- Texts that belong together. -/
import Derived.Test.YtmmlmhnjjfnpnaaGreatTpMza
import Derived.Test.YtmmlmhnjjfnpnaaGreatTpMzf
import Derived.BigQuiet
import Derived.Lib.AppendZerosOnto
import Derived.Laws.AppendOwn
import Derived.ChangeKeysEq
set_option linter.all false
namespace Go.Proofs.YtmmlmhnjjfnpnaaGreat
open Go.RowKit
structure BillM (w:World) (B g:Nat) (id rd:Int) (v:Value) (b:Bil):Prop where
 bx:BoxIs w g [.int .i64 id,.int .i64 rd,v,.int .i64 b.tt]
 it:w.ownsRow B 217 3 v b.it.length (flat Itm.cs b.it)
 ge:B≤g
 ne:∀x∈ob v,x≠g
theorem BillM.keepS {S:Nat→Prop} {w w':World} {B g:Nat} {id rd:Int} {v:Value} {b:Bil} (h:BillM w B g id rd v b) (hk:KpS S w w') (hn:∀x,x=g∨x∈ob v→¬S x):BillM w' B g id rd v b:=
 ⟨h.bx.keepS hk (hn g (.inl rfl)),own_keepS h.it hk (fun x hx=>hn x (.inr hx)),h.ge,h.ne⟩
theorem BillM.to {w w':World} {B g:Nat} {id rd:Int} {v:Value} {b:Bil} (h:BillM w B g id rd v b) (hW:∃z:Since w,w'=z.w):BillM w' B g id rd v b:=by
 obtain⟨z,rfl⟩:=hW;exact h.keepS (KpS.of (S:=fun _ =>False) z) fun _ _ h=>h
theorem BillM.lt {w:World} {B g:Nat} {id rd:Int} {v:Value} {b:Bil} (h:BillM w B g id rd v b):∀x,x=g∨x∈ob v→B≤x∧x<w.heap.size:=fun x hx=>by
 rcases hx with rfl|hx
 ·exact⟨h.ge,h.bx.lt⟩
 ·exact own_ge h.it x hx
def BillPost (w:World) (B g:Nat) (id rd:Int) (v:Value) (b:Bil) (o:Ending) (w':World):Prop:=
 o= .returned (.tuple #[])∧∃v',BillM w' B g id rd v' b∧KpS (fun x=>x=g∨x∈ob v) w w'∧∀x∈ob v',x∈ob v∨w.heap.size≤x
theorem sItm:SliceOf Tryz.prog 74 217 (.agg #[.int .i64 0,.int .i64 0,.int .i64 0]) 3 24:=SliceOf.mk' Tryz.underlying74 (by kernel_rfl) (by rfl) (by decide)
theorem itm_one (r:Itm):∀v∈r.cs,v.oneCell'=true:=by
 intro v hv;simp only[Itm.cs,List.mem_cons,List.not_mem_nil,or_false]at hv;rcases hv with rfl|rfl|rfl<;>rfl
set_option maxRecDepth 100000 in
set_option maxHeartbeats 8000000 in
theorem badd_calls (wB w:World) (hX:∃y:Since wB,w=y.w) (g:Nat) (id rd:Int) (v:Value) (b:Bil) (h:BillM w wB.heap.size g id rd v b) (k r a:Int) (hn:b.it.length≤1000) (ha:I64 (b.tt+a)):
 Calls Tryz.prog 61 #[.pointer (some ⟨g,0,none⟩),.int .i64 k,.int .i64 r,.int .i64 a] w (BillPost w wB.heap.size g id rd v (b.add k r a)):=by
 obtain⟨a1,n1,c1,hv⟩:=own_slice h.it;obtain rfl:n1=b.it.length:=by
  have h1:=h.it;rw[hv]at h1;obtain⟨_,⟨e2,e3⟩|⟨_,_,_,e2,_⟩⟩:=h1
  ·simp only[Value.slice.injEq]at e2;omega
  ·simp only[Value.slice.injEq]at e2;exact e2.2.1
 have HP:=Lib.hid (fun(w':World) (v':Value) (h1:BillM w' wB.heap.size g id rd v' (b.add k r a)) (h2:KpS (fun x=>x=g∨x∈ob v) w w') (h3:∀x∈ob v',x∈ob v∨w.heap.size≤x)=>show BillPost w wB.heap.size g id rd v (b.add k r a) (.returned (.tuple #[])) w' from⟨rfl,v',h1,h2,h3⟩);generalize BillPost w wB.heap.size g id rd v (b.add k r a)=PO at *;by_cases h0:a=0
 ·subst h0
  have hb:b.add k r 0=b:=by unfold Bil.add;rw[if_pos rfl]
  rw[hb]at HP;have HR:=Lib.hid (HP.out w v h (KpS.refl _ _) fun x hx=>.inl hx);clear h hX hb hv HP hn ha;go_enter Tryz.func61,Tryz.ntmps61;go_wp2_with fail;refine body_end (v:=.tuple #[]) (by simp[results,Tryz.results61,go_sem]) rfl ?_;exact HR.out
 ·have hb0:(a == 0)=false:=beq_eq_false_iff_ne.2 h0
  have Hb:=Lib.hid (show b.add k r a=⟨b.it ++ [⟨k,r,a⟩],b.tt+a⟩ by unfold Bil.add;rw[if_neg h0]);have Hv:=Lib.hid hv;have Hh:=Lib.hid h;have HX:=Lib.hid hX;have HN:=Lib.hid hn;have hw1:wrap64 (b.tt+a)=b.tt+a:=IntWalk.wrap64_in _ ⟨ha.1,by have:=ha.2;omega⟩;have c2:∀y:Since w,y.w.cell? ⟨g,2,none⟩=some (.slice a1 b.it.length c1):=fun y=>by rw[←Hv.out];exact(Hh.out.bx.since y).c 2 _ rfl
  clear h hX hv h0 hn ha;have HBx:=Lib.hid (Hh.out.bx.up (.cells (⟨k,r,a⟩:Itm).cs.toArray 217));have Hne:=Lib.hid (show some g≠v.ownBlock from fun e=>Hh.out.ne g (ob_mem.2 e.symm) rfl);have hg1:∀w',(w.alloc (.cells (⟨k,r,a⟩:Itm).cs.toArray 217)).grownBy w' v.ownBlock→w'.cell? ⟨g,2,none⟩=some v∧w'.frozen? ⟨g,2,none⟩=false:=fun w' h=>⟨(HBx.out.grown h Hne.out).c 2 _ rfl,(HBx.out.grown h Hne.out).f 2⟩
  have Hg1:=Lib.hid hg1;have d2:=c2 (Since.self w);rw[show(Since.self w).w=w from rfl]at d2;clear hg1 c2;go_enter Tryz.func61,Tryz.ntmps61;go_upto_region 2 with(at_builtin;(refine wpList_appendL (w0:=wB) ?hw rfl _ _ 74 rfl wB.heap.size (Nat.le_refl _) ?hb 217 (.agg #[.int .i64 0,.int .i64 0,.int .i64 0]) 24 sItm v b.it.length (flat Itm.cs b.it) ?hs ?hown ⟨w.heap.size,0,none⟩ 1 1 (⟨k,r,a⟩:Itm).cs rfl rfl ?hc (itm_one _) (by decide) ?h63 ?hbytes ?_;rotate_right 1;intro v2 q2 hown4 hg4 hl4;obtain⟨a2,n2,c3,rfl⟩:=own_slice hown4;obtain⟨k2,kf⟩:=Hg1.out _ hg4;have Hg4:=Lib.hid hg4;have Hl4:=Lib.hid hl4;have Ho4:=Lib.hid hown4;clear hg4 hl4 hown4))
  case hw=>obtain⟨y,e⟩:=HX.out;rw[e];exact y.alloc _
  case hb=>obtain⟨y,e⟩:=HX.out;have:=y.b.size;rw[e];simp;omega
  case hs=>exact Hv.out.symm
  case hown=>exact own_up Hh.out.it
  case hc=>exact cell_new_at w _ _
  case h63=>have:=HN.out;unfold maxLen;omega
  case hbytes=>have:=HN.out;omega
  obtain rfl:n2=b.it.length+1:=by
   obtain⟨_,⟨e2,e3⟩|⟨_,_,_,e2,_⟩⟩:=Ho4.out
   ·omega
   ·simp only[Value.slice.injEq]at e2;exact e2.2.1
  have HB4:=Lib.hid (HBx.out.grown Hg4.out Hne.out);have HB5:=Lib.hid (HB4.out.setj (j:=2) (by simp) (.slice a2 (b.it.length+1) c3));have Hnew:=Lib.hid (show∀x∈ob (Value.slice a2 (b.it.length+1) c3),x∈ob v∨w.heap.size≤x from fun x hx=>by
   rcases Hl4.out x (ob_mem.1 hx)with h'|h'
   ·exact .inl (ob_mem.2 h')
   ·right;rw[h'];simp)
  have Hng:=Lib.hid (show∀x∈ob (Value.slice a2 (b.it.length+1) c3),x≠g from fun x hx e=>by
   rcases Hnew.out x hx with h'|h'
   ·exact Hh.out.ne x h' e
   ·have:=Hh.out.bx.lt;omega)
  have HK5:=Lib.hid (show KpS (fun x=>x=g∨x∈ob v) w (q2.w.setCell ⟨g,2,none⟩ (.slice a2 (b.it.length+1) c3))from
   (((KpS.refl _ w).to (IsSince.alloc (IsSince.self _) _)).step ⟨Hg4.out.os,Hg4.out.tape,Hg4.out.output,Hg4.out.size,fun j hj hn=>Hg4.out.block j hj (fun e=>hn (.inr (ob_mem.2 e.symm)))⟩).step (KpS.set _ _ _ (.inl rfl)))
  have HO5:=Lib.hid (own_setB Ho4.out ⟨g,2,none⟩ (.slice a2 (b.it.length+1) c3) (fun x hx=>Hng.out x (ob_mem.2 hx)));simp only[List.set_cons_zero,List.set_cons_succ]at HB5;clear k2 kf d2;generalize q2.w.setCell ⟨g,2,none⟩ (.slice a2 (b.it.length+1) c3)=w5 at *;have k3:=HB5.out.c 3 _ rfl;have kf3:=HB5.out.f 3;have HB6:=Lib.hid (HB5.out.setj (j:=3) (by simp) (.int .i64 (b.tt+a)));simp only[List.set_cons_zero,List.set_cons_succ]at HB6;have HO6:=Lib.hid (own_setB HO5.out ⟨g,3,none⟩ (.int .i64 (b.tt+a)) (fun x hx=>Hng.out x (ob_mem.2 hx)));have HK6:=Lib.hid (HK5.out.step (KpS.set w5 ⟨g,3,none⟩ (.int .i64 (b.tt+a)) (.inl rfl)));rw[show flat Itm.cs b.it ++ (⟨k,r,a⟩:Itm).cs=flat Itm.cs (b.it ++ [⟨k,r,a⟩])from by rw[flat_append,flat_one]]at HO6;have HR:=Lib.hid (HP.out _ _ (by rw[Hb.out];exact⟨HB6.out,by rw[List.length_append];exact HO6.out,Hh.out.ge,Hng.out⟩) HK6.out Hnew.out);go_wp2_with fail;refine body_end (v:=.tuple #[]) (by simp[results,Tryz.results61,go_sem]) rfl ?_;exact HR.out
end Go.Proofs.YtmmlmhnjjfnpnaaGreat
namespace Go.Proofs.YtmmlmhnjjfnpnaaGreat
open Go.RowKit
structure PrcAt (w:World) (p:Prc) (ga pa la ka fa:Option Addr):Prop where
 t:Els Tar.cs 6 w ga p.tr
 s:PassRow w pa p.ps
 l:IntRow w la p.pl
 k:IntRow w ka p.dk
 n:IntRow w fa p.fn
 tl:p.tr.length≤9223372036854775807
 sl:p.ps.length≤9223372036854775807
 ll:p.pl.length≤4611686018427387904
 kl:p.dk.length≤4611686018427387904
 nl:p.fn.length≤9223372036854775807
theorem PrcAt.to {w W:World} {p:Prc} {ga pa la ka fa:Option Addr} (h:PrcAt w p ga pa la ka fa) (hW:∃z:Since w,W=z.w):PrcAt W p ga pa la ka fa:=
 ⟨h.t.to hW,h.s.to hW,Row.to h.l hW,Row.to h.k hW,Row.to h.n hW,h.tl,h.sl,h.ll,h.kl,h.nl⟩
def PlcRes (w:World) (x:Int×Int) (o:Ending) (w':World):Prop:=o= .returned (.tuple #[.int .i64 x.1,.int .i64 x.2])∧∃y:Since w,w'=y.w
theorem row_at {w:World} {a:Option Addr} {l:List Int} (h:IntRow w a l) {i:Nat} (hi:i<l.length):∃b off,a=some ⟨b,off,none⟩∧b<w.heap.size∧w.cell? ⟨b,off+i,none⟩=some (.int .i64 (at0 l i)):=h i hi
set_option maxRecDepth 100000 in
set_option maxHeartbeats 8000000 in
theorem place_calls (w:World) (x:Since w) (p:Prc) (ga pa la ka fa:Option Addr) (gc pc lc kc fc:Nat) (h:PrcAt w p ga pa la ka fa) (r:Ride) (hI:I64 r.pl) (hd:p.dk.length≤32):
 Calls Tryz.prog 106 #[.agg #[.slice ga p.tr.length gc,.slice pa p.ps.length pc,.slice la p.pl.length lc,.slice ka p.dk.length kc,.int .i64 p.cap,.slice fa p.fn.length fc,.int .i64 p.fd],.agg #[.int .i64 r.id,.int .i64 r.rd,.int .i64 r.s0,.int .i64 r.s1,.int .i64 r.e0,.int .i64 r.e1,.bool r.op,.slice r.la r.legs.length r.lc,.slice r.pa r.pauses.length r.pc,.int .i64 r.fw,.int .i64 r.fp,.int .i64 r.wh,.int .i64 r.pl]] x.w (PlcRes w (plcF p r)):=by
 have HP:=Lib.hid (fun(y:Since w) (a b:Int) (h:plcF p r=(a,b))=>show PlcRes w (plcF p r) (.returned (.tuple #[.int .i64 a,.int .i64 b])) y.w from by rw[h];exact⟨rfl,y,rfl⟩);generalize PlcRes w (plcF p r)=PO at *;have hll:=h.ll;have hkl:=h.kl;obtain⟨hI1,hI2⟩:=hI;have Hl:=Lib.hid h.l;have Hk:=Lib.hid h.k;have hc:(r.wh=2∧0≤r.pl∧r.pl<(p.pl.length:Int))∨(r.wh=2∧0≤r.pl∧(p.pl.length:Int)≤r.pl)∨(r.wh=2∧r.pl<0)∨(r.wh≠2∧r.wh=1∧0≤r.pl∧r.pl/32<(p.dk.length:Int))∨(r.wh≠2∧r.wh=1∧0≤r.pl∧(p.dk.length:Int)≤r.pl/32)∨(r.wh≠2∧r.wh=1∧r.pl<0)∨(r.wh≠2∧r.wh≠1):=by omega
 clear h;rcases hc with⟨h1,h2,h3⟩|⟨h1,h2,h3⟩|⟨h1,h2⟩|⟨h1,h1',h2,h3⟩|⟨h1,h1',h2,h3⟩|⟨h1,h1',h2⟩|⟨h1,h1'⟩
 ·have HR:=Lib.hid (show plcF p r=(at0 p.pl r.pl.toNat,r.pl)from by unfold plcF;rw[if_pos ⟨h1,h2,h3⟩])
  have b1:(r.wh == 2)=true:=by simpa using h1
  clear h1;go_enter Tryz.func106,Tryz.ntmps106;go_upto_region 1 with fail;obtain⟨W,bx,y0,hW,hbx,-,hWup,Hup,Hbx,HB0,HB1⟩:=heads2 x [.slice ga p.tr.length gc,.slice pa p.ps.length pc,.slice la p.pl.length lc,.slice ka p.dk.length kc,.int .i64 p.cap,.slice fa p.fn.length fc,.int .i64 p.fd] 53 [.int .i64 r.id,.int .i64 r.rd,.int .i64 r.s0,.int .i64 r.s1,.int .i64 r.e0,.int .i64 r.e1,.bool r.op,.slice r.la r.legs.length r.lc,.slice r.pa r.pauses.length r.pc,.int .i64 r.fw,.int .i64 r.fp,.int .i64 r.wh,.int .i64 r.pl] 40;rw[hW,hbx];clear hW hbx;obtain⟨hb0_0,hb0_1,hb0_2,hb0_3,hb0_4,hb0_5,hb0_6,hf0⟩:=bx7 HB0;obtain⟨hb1_0,hb1_1,hb1_2,hb1_3,hb1_4,hb1_5,hb1_6,hb1_7,hb1_8,hb1_9,hb1_10,hb1_11,hb1_12,hf1⟩:=bx13 HB1;clear HB0 HB1;obtain⟨b,off,rfl,hb,hcell⟩:=row_at (Row.to Hl.out hWup) (i:=r.pl.toNat) (by omega);have hx:∀y:Since W,y.w.cell? ⟨b,off+r.pl.toNat,none⟩=some (.int .i64 (at0 p.pl r.pl.toNat)):=fun y=>Since.cell hcell hb y;clear hWup hcell hb;go_upto_region 2 with fail;refine wp_region_since (by kernel_rfl) (by kernel_rfl) ?_;repeat(go_big_quiet_step(fail))
  refine wpQuiet_nil ?_;rintro _ ⟨z,rfl⟩;go_wp2_with fail;obtain⟨z1,hz1⟩:=Hup.out z;rw[hz1];exact HP.out z1 _ _ HR.out
 ·have HR:=Lib.hid (show plcF p r=(0,0)from by unfold plcF;rw[if_neg (by omega),if_neg (by omega)])
  have b1:(r.wh == 2)=true:=by simpa using h1
  have b2:(r.wh == 1)=false:=by rw[h1];rfl
  have h3':¬r.pl<(p.pl.length:Int):=by omega
  clear h1;go_enter Tryz.func106,Tryz.ntmps106;go_upto_region 1 with fail;obtain⟨W,bx,y0,hW,hbx,-,hWup,Hup,Hbx,HB0,HB1⟩:=heads2 x [.slice ga p.tr.length gc,.slice pa p.ps.length pc,.slice la p.pl.length lc,.slice ka p.dk.length kc,.int .i64 p.cap,.slice fa p.fn.length fc,.int .i64 p.fd] 53 [.int .i64 r.id,.int .i64 r.rd,.int .i64 r.s0,.int .i64 r.s1,.int .i64 r.e0,.int .i64 r.e1,.bool r.op,.slice r.la r.legs.length r.lc,.slice r.pa r.pauses.length r.pc,.int .i64 r.fw,.int .i64 r.fp,.int .i64 r.wh,.int .i64 r.pl] 40;rw[hW,hbx];clear hW hbx;obtain⟨hb0_0,hb0_1,hb0_2,hb0_3,hb0_4,hb0_5,hb0_6,hf0⟩:=bx7 HB0;obtain⟨hb1_0,hb1_1,hb1_2,hb1_3,hb1_4,hb1_5,hb1_6,hb1_7,hb1_8,hb1_9,hb1_10,hb1_11,hb1_12,hf1⟩:=bx13 HB1;clear HB0 HB1;clear hWup;go_wp2_with fail;obtain⟨z1,hz1⟩:=Hup.out y0;rw[hz1];exact HP.out z1 _ _ HR.out
 ·have HR:=Lib.hid (show plcF p r=(0,0)from by unfold plcF;rw[if_neg (by omega),if_neg (by omega)])
  have b1:(r.wh == 2)=true:=by simpa using h1
  have b2:(r.wh == 1)=false:=by rw[h1];rfl
  have h2':¬0≤r.pl:=by omega
  clear h1;go_enter Tryz.func106,Tryz.ntmps106;go_upto_region 1 with fail;obtain⟨W,bx,y0,hW,hbx,-,hWup,Hup,Hbx,HB0,HB1⟩:=heads2 x [.slice ga p.tr.length gc,.slice pa p.ps.length pc,.slice la p.pl.length lc,.slice ka p.dk.length kc,.int .i64 p.cap,.slice fa p.fn.length fc,.int .i64 p.fd] 53 [.int .i64 r.id,.int .i64 r.rd,.int .i64 r.s0,.int .i64 r.s1,.int .i64 r.e0,.int .i64 r.e1,.bool r.op,.slice r.la r.legs.length r.lc,.slice r.pa r.pauses.length r.pc,.int .i64 r.fw,.int .i64 r.fp,.int .i64 r.wh,.int .i64 r.pl] 40;rw[hW,hbx];clear hW hbx;obtain⟨hb0_0,hb0_1,hb0_2,hb0_3,hb0_4,hb0_5,hb0_6,hf0⟩:=bx7 HB0;obtain⟨hb1_0,hb1_1,hb1_2,hb1_3,hb1_4,hb1_5,hb1_6,hb1_7,hb1_8,hb1_9,hb1_10,hb1_11,hb1_12,hf1⟩:=bx13 HB1;clear HB0 HB1;clear hWup;go_wp2_with fail;obtain⟨z1,hz1⟩:=Hup.out y0;rw[hz1];exact HP.out z1 _ _ HR.out
 ·have HR:=Lib.hid (show plcF p r=(at0 p.dk (r.pl/32).toNat,64+r.pl/32)from by unfold plcF;rw[if_neg (by omega),if_pos ⟨h1',h2,h3⟩])
  have b1:(r.wh == 2)=false:=by simpa using h1
  have b2:(r.wh == 1)=true:=by simpa using h1'
  have h4:0≤r.pl/32:=by omega
  have h5:wrap64 (64+r.pl/32)=64+r.pl/32:=IntWalk.wrap64_in _ ⟨by omega,by omega⟩;clear h1 h1';go_enter Tryz.func106,Tryz.ntmps106;go_upto_region 1 with fail;obtain⟨W,bx,y0,hW,hbx,-,hWup,Hup,Hbx,HB0,HB1⟩:=heads2 x [.slice ga p.tr.length gc,.slice pa p.ps.length pc,.slice la p.pl.length lc,.slice ka p.dk.length kc,.int .i64 p.cap,.slice fa p.fn.length fc,.int .i64 p.fd] 53 [.int .i64 r.id,.int .i64 r.rd,.int .i64 r.s0,.int .i64 r.s1,.int .i64 r.e0,.int .i64 r.e1,.bool r.op,.slice r.la r.legs.length r.lc,.slice r.pa r.pauses.length r.pc,.int .i64 r.fw,.int .i64 r.fp,.int .i64 r.wh,.int .i64 r.pl] 40;rw[hW,hbx];clear hW hbx;obtain⟨hb0_0,hb0_1,hb0_2,hb0_3,hb0_4,hb0_5,hb0_6,hf0⟩:=bx7 HB0;obtain⟨hb1_0,hb1_1,hb1_2,hb1_3,hb1_4,hb1_5,hb1_6,hb1_7,hb1_8,hb1_9,hb1_10,hb1_11,hb1_12,hf1⟩:=bx13 HB1;clear HB0 HB1;obtain⟨b,off,rfl,hb,hcell⟩:=row_at (Row.to Hk.out hWup) (i:=(r.pl/32).toNat) (by omega);have hx:∀y:Since W,y.w.cell? ⟨b,off+(r.pl/32).toNat,none⟩=some (.int .i64 (at0 p.dk (r.pl/32).toNat)):=fun y=>Since.cell hcell hb y;clear hWup hcell hb;go_wp2_with fail;obtain⟨z1,hz1⟩:=Hup.out y0;rw[hz1];exact HP.out z1 _ _ HR.out
 ·have HR:=Lib.hid (show plcF p r=(0,0)from by unfold plcF;rw[if_neg (by omega),if_neg (by omega)])
  have b1:(r.wh == 2)=false:=by simpa using h1
  have b2:(r.wh == 1)=true:=by simpa using h1'
  have h3':¬r.pl/32<(p.dk.length:Int):=by omega
  clear h1 h1';go_enter Tryz.func106,Tryz.ntmps106;go_upto_region 1 with fail;obtain⟨W,bx,y0,hW,hbx,-,hWup,Hup,Hbx,HB0,HB1⟩:=heads2 x [.slice ga p.tr.length gc,.slice pa p.ps.length pc,.slice la p.pl.length lc,.slice ka p.dk.length kc,.int .i64 p.cap,.slice fa p.fn.length fc,.int .i64 p.fd] 53 [.int .i64 r.id,.int .i64 r.rd,.int .i64 r.s0,.int .i64 r.s1,.int .i64 r.e0,.int .i64 r.e1,.bool r.op,.slice r.la r.legs.length r.lc,.slice r.pa r.pauses.length r.pc,.int .i64 r.fw,.int .i64 r.fp,.int .i64 r.wh,.int .i64 r.pl] 40;rw[hW,hbx];clear hW hbx;obtain⟨hb0_0,hb0_1,hb0_2,hb0_3,hb0_4,hb0_5,hb0_6,hf0⟩:=bx7 HB0;obtain⟨hb1_0,hb1_1,hb1_2,hb1_3,hb1_4,hb1_5,hb1_6,hb1_7,hb1_8,hb1_9,hb1_10,hb1_11,hb1_12,hf1⟩:=bx13 HB1;clear HB0 HB1;clear hWup;go_wp2_with fail;obtain⟨z1,hz1⟩:=Hup.out y0;rw[hz1];exact HP.out z1 _ _ HR.out
 ·have HR:=Lib.hid (show plcF p r=(0,0)from by unfold plcF;rw[if_neg (by omega),if_neg (by omega)])
  have b1:(r.wh == 2)=false:=by simpa using h1
  have b2:(r.wh == 1)=true:=by simpa using h1'
  have h2':¬0≤r.pl:=by omega
  clear h1 h1';go_enter Tryz.func106,Tryz.ntmps106;go_upto_region 1 with fail;obtain⟨W,bx,y0,hW,hbx,-,hWup,Hup,Hbx,HB0,HB1⟩:=heads2 x [.slice ga p.tr.length gc,.slice pa p.ps.length pc,.slice la p.pl.length lc,.slice ka p.dk.length kc,.int .i64 p.cap,.slice fa p.fn.length fc,.int .i64 p.fd] 53 [.int .i64 r.id,.int .i64 r.rd,.int .i64 r.s0,.int .i64 r.s1,.int .i64 r.e0,.int .i64 r.e1,.bool r.op,.slice r.la r.legs.length r.lc,.slice r.pa r.pauses.length r.pc,.int .i64 r.fw,.int .i64 r.fp,.int .i64 r.wh,.int .i64 r.pl] 40;rw[hW,hbx];clear hW hbx;obtain⟨hb0_0,hb0_1,hb0_2,hb0_3,hb0_4,hb0_5,hb0_6,hf0⟩:=bx7 HB0;obtain⟨hb1_0,hb1_1,hb1_2,hb1_3,hb1_4,hb1_5,hb1_6,hb1_7,hb1_8,hb1_9,hb1_10,hb1_11,hb1_12,hf1⟩:=bx13 HB1;clear HB0 HB1;clear hWup;go_wp2_with fail;obtain⟨z1,hz1⟩:=Hup.out y0;rw[hz1];exact HP.out z1 _ _ HR.out
 ·have HR:=Lib.hid (show plcF p r=(0,0)from by unfold plcF;rw[if_neg (by omega),if_neg (by omega)])
  have b1:(r.wh == 2)=false:=by simpa using h1
  have b2:(r.wh == 1)=false:=by simpa using h1'
  clear h1 h1';go_enter Tryz.func106,Tryz.ntmps106;go_upto_region 1 with fail;obtain⟨W,bx,y0,hW,hbx,-,hWup,Hup,Hbx,HB0,HB1⟩:=heads2 x [.slice ga p.tr.length gc,.slice pa p.ps.length pc,.slice la p.pl.length lc,.slice ka p.dk.length kc,.int .i64 p.cap,.slice fa p.fn.length fc,.int .i64 p.fd] 53 [.int .i64 r.id,.int .i64 r.rd,.int .i64 r.s0,.int .i64 r.s1,.int .i64 r.e0,.int .i64 r.e1,.bool r.op,.slice r.la r.legs.length r.lc,.slice r.pa r.pauses.length r.pc,.int .i64 r.fw,.int .i64 r.fp,.int .i64 r.wh,.int .i64 r.pl] 40;rw[hW,hbx];clear hW hbx;obtain⟨hb0_0,hb0_1,hb0_2,hb0_3,hb0_4,hb0_5,hb0_6,hf0⟩:=bx7 HB0;obtain⟨hb1_0,hb1_1,hb1_2,hb1_3,hb1_4,hb1_5,hb1_6,hb1_7,hb1_8,hb1_9,hb1_10,hb1_11,hb1_12,hf1⟩:=bx13 HB1;clear HB0 HB1;clear hWup;go_wp2_with fail;obtain⟨z1,hz1⟩:=Hup.out y0;rw[hz1];exact HP.out z1 _ _ HR.out
end Go.Proofs.YtmmlmhnjjfnpnaaGreat
namespace Go.Proofs.YtmmlmhnjjfnpnaaGreat
open Go.RowKit
theorem finE_1 {p:Prc} (h:512<p.fn.length):finE p=8:=by unfold finE;rw[if_pos h]
theorem finE_2 {p:Prc} (h:¬512<p.fn.length) {k:Nat} (hk:k<p.fn.length) (hv:wthB (at0 p.fn k) 0 1000000=false):finE p=1:=by
 unfold finE;rw[if_neg h,all_noI (p:=fun n=>wthB n 0 1000000) hk hv];rfl
theorem finE_3 {p:Prc} (h:¬512<p.fn.length) (hv:∀j,j<p.fn.length→wthB (at0 p.fn j) 0 1000000=true):finE p=if p.fd<0 then 1 else if 49709<p.fd then 1 else 0:=by
 unfold finE;rw[if_neg h,all_yesI (p:=fun n=>wthB n 0 1000000) hv];unfold wthB;by_cases h1:p.fd<0
 ·rw[if_pos h1,decide_eq_false (by omega:¬0≤p.fd)];rfl
 ·rw[if_neg h1,decide_eq_true (by omega:0≤p.fd)]
  by_cases h2:49709<p.fd
  ·rw[if_pos h2,decide_eq_false (by omega:¬p.fd≤49709)];rfl
  ·rw[if_neg h2,decide_eq_true (by omega:p.fd≤49709)];rfl
set_option maxRecDepth 100000 in
set_option maxHeartbeats 8000000 in
theorem pnCheck_calls (w:World) (x:Since w) (p:Prc) (ga pa la ka fa:Option Addr) (gc pc lc kc fc:Nat) (h:PrcAt w p ga pa la ka fa):
 Calls Tryz.prog 99 #[.agg #[.slice ga p.tr.length gc,.slice pa p.ps.length pc,.slice la p.pl.length lc,.slice ka p.dk.length kc,.int .i64 p.cap,.slice fa p.fn.length fc,.int .i64 p.fd]] x.w fun o w'=>o= .returned (.int .i64 (finE p))∧∃y:Since w,w'=y.w:=by
 have Hn:=Lib.hid h.n;have hnl:=h.nl;clear h;by_cases h0:512<p.fn.length
 ·have HR:=Lib.hid (finE_1 h0)
  have h1:(512:Int)<(p.fn.length:Int):=by omega
  clear h0;go_enter Tryz.func99,Tryz.ntmps99;go_upto_region 1 with fail;obtain⟨W,bx,y0,hW,hbx,-,hWup,Hup,Hbx,HB0⟩:=heads1 x [.slice ga p.tr.length gc,.slice pa p.ps.length pc,.slice la p.pl.length lc,.slice ka p.dk.length kc,.int .i64 p.cap,.slice fa p.fn.length fc,.int .i64 p.fd] 53;rw[hW,hbx];clear hW hbx;obtain⟨hb0_0,hb0_1,hb0_2,hb0_3,hb0_4,hb0_5,hb0_6,hf0⟩:=bx7 HB0;clear HB0;clear hWup;go_wp2_with fail;go_ret;exact⟨ret_int HR.out.symm,Hup.out _⟩
 ·have H2:=Lib.hid (fun(k:Nat) (hk:k<p.fn.length) (hv:wthB (at0 p.fn k) 0 1000000=false)=>finE_2 h0 hk hv)
  have H3:=Lib.hid (fun(hv:∀j,j<p.fn.length→wthB (at0 p.fn j) 0 1000000=true)=>finE_3 h0 hv);have h1:¬(512:Int)<(p.fn.length:Int):=by omega
  clear h0;go_enter Tryz.func99,Tryz.ntmps99;go_upto_region 1 with fail;obtain⟨W,bx,y0,hW,hbx,-,hWup,Hup,Hbx,HB0⟩:=heads1 x [.slice ga p.tr.length gc,.slice pa p.ps.length pc,.slice la p.pl.length lc,.slice ka p.dk.length kc,.int .i64 p.cap,.slice fa p.fn.length fc,.int .i64 p.fd] 53;rw[hW,hbx];clear hW hbx;obtain⟨hb0_0,hb0_1,hb0_2,hb0_3,hb0_4,hb0_5,hb0_6,hf0⟩:=bx7 HB0;clear HB0;replace Hn:=Lib.hid (Row.to Hn.out hWup);clear hWup;go_wp2_with fail;go_loopw [12] (fun i wr=>∃(k:Nat) (y:Since W),k≤p.fn.length∧i= .int .i64 k∧wr=y.w∧∀j,j<k→wthB (at0 p.fn j) 0 1000000=true) (fun i _ =>p.fn.length-(intOf i).toNat)
  case atStart=>exact⟨0,y0,by omega,rfl,rfl,fun j hj=>by omega⟩
  case round=>
   obtain⟨k,y,hk,rfl,rfl,hok⟩:=hrel;have Hok:=Lib.hid hok;clear hok;by_cases hlt:k<p.fn.length
   ·obtain⟨b,off,rfl,hb,hcell⟩:=row_at Hn.out hlt
    have hx:∀y:Since W,y.w.cell? ⟨b,off+k,none⟩=some (.int .i64 (at0 p.fn k)):=fun y=>Since.cell hcell hb y;have hk0:(0:Int)≤(k:Int):=by omega
    have hkl:(k:Int)<(p.fn.length:Int):=by omega
    clear hb hcell;have hc:(at0 p.fn k<0)∨(0≤at0 p.fn k∧1000000<at0 p.fn k)∨(0≤at0 p.fn k∧at0 p.fn k≤1000000):=by omega
    rcases hc with h2|⟨h2,h3⟩|⟨h2,h3⟩
    ·have HR:=Lib.hid (H2.out k hlt (by unfold wthB;rw[decide_eq_false (by omega)];rfl))
     generalize at0 p.fn k=v at *;go_wp2_with fail;go_ret;exact⟨ret_int HR.out.symm,Hup.out _⟩
    ·have HR:=Lib.hid (H2.out k hlt (by unfold wthB;rw[decide_eq_true (by omega),decide_eq_false (by omega)];rfl))
     have h4:¬at0 p.fn k<0:=by omega
     generalize at0 p.fn k=v at *;go_wp2_with fail;go_ret;exact⟨ret_int HR.out.symm,Hup.out _⟩
    ·have HR:=Lib.hid (show wthB (at0 p.fn k) 0 1000000=true from by unfold wthB;rw[decide_eq_true (by omega),decide_eq_true (by omega)];rfl)
     have h4:¬at0 p.fn k<0:=by omega
     have h5:¬1000000<at0 p.fn k:=by omega
     have HN:=Lib.hid (show∀j,j<k+1→wthB (at0 p.fn j) 0 1000000=true from fun j hj=>by
      by_cases hjk:j<k
      ·exact Hok.out j hjk
      ·obtain rfl:j=k:=by omega
       exact HR.out)
     clear HR;generalize hv:at0 p.fn k=v at *;clear hv;go_wp2_with fail;go_roundw
     case rel=>exact⟨k+1,y,by omega,by go_num,rfl,HN.out⟩
     case measure=>simp[intOf];omega
   ·obtain rfl:k=p.fn.length:=by omega
    have HR:=Lib.hid (H3.out Hok.out);clear hlt;by_cases h2:p.fd<0
    ·have HR2:=Lib.hid (HR.out.trans (if_pos h2))
     clear HR;go_wp2_with fail;go_ret;exact⟨ret_int HR2.out.symm,Hup.out _⟩
    ·by_cases h3:49709<p.fd
     ·have HR2:=Lib.hid (HR.out.trans ((if_neg h2).trans (if_pos h3)))
      clear HR;go_wp2_with fail;go_ret;exact⟨ret_int HR2.out.symm,Hup.out _⟩
     ·have HR2:=Lib.hid (HR.out.trans ((if_neg h2).trans (if_neg h3)))
      clear HR;go_wp2_with fail;go_ret;exact⟨ret_int HR2.out.symm,Hup.out _⟩
theorem sIntC:SliceOf Tryz.prog 22 3 (.int .i64 0) 1 8:=SliceOf.mk' (by kernel_rfl) (by kernel_rfl) rfl (by decide)
def OwnInts (w:World) (l:List Int) (o:Ending) (w':World):Prop:=∃(v:Value) (y:Since w),o= .returned v∧w'=y.w∧y.w.ownsRow w.heap.size 3 1 v l.length (l.map (Value.int .i64))
set_option maxRecDepth 100000 in
set_option maxHeartbeats 8000000 in
theorem grow0_calls (w:World) (x:Since w) (n:Nat) (hn:n≤1000):
 Calls Tryz.prog 141 #[.slice none 0 0,.int .i64 (n:Int)] x.w (OwnInts w []):=by
 by_cases h0:n=0
 ·subst h0
  go_enter Tryz.func141,Tryz.ntmps141;go_wp2_with fail;go_ret;exact⟨_,x,rfl,rfl,rfl,.inl ⟨rfl,rfl⟩⟩
 ·obtain⟨i,hi,hz,hsize,hby⟩:=sIntC.e
  have hrz:∀ty,(Builtin.append_ #[22,3] ty #[.slice none 0 0,.int .i64 (n:Int)]).run Tryz.prog x.w= .ok (.slice (some ⟨x.w.heap.size,0,none⟩) n (grownCap x.w n 0 3)) (x.w.drew.alloc (.cells (#[] ++ Builtin.zeroCells (Value.int .i64 0).cells n ++ Builtin.zeroCells (Value.int .i64 0).cells (grownCap x.w n 0 3-n)) 3)):=fun ty=>by
   have h:=Lib.run_append_grow_zeros (P:=Tryz.prog) x.w 22 3 ty 3 i (.int .i64 0) .i64 .i64 sIntC.t (by kernel_rfl) hi hz none 0 0 [] (run_firstCells_none _ _ _ _ _) n (by omega) (by omega) (by omega) (by omega) (by rw[hby];omega) (by rw[Nat.zero_add];exact growslice_fits (by omega) (by rw[hby];omega));simpa using h
  have hsz:(#[] ++ Builtin.zeroCells (Value.int .i64 0).cells n ++ Builtin.zeroCells (Value.int .i64 0).cells (grownCap x.w n 0 3-n):Array Value).size=grownCap x.w n 0 3:=by
   have:=grownCap_ge x.w n 0 3;simp[size_zeroCells,Value.cells];omega
  have hge:=grownCap_ge x.w n 0 3;have hG63:=grownCap_le_maxLen x.w n 0 3 (by unfold maxLen;omega);have HO:=Lib.hid (show∀cs:Array Value,cs.size=grownCap x.w n 0 3→(x.w.drew.alloc (.cells cs 3)).ownsRow w.heap.size 3 1 (.slice (some ⟨x.w.heap.size,0,none⟩) 0 (grownCap x.w n 0 3)) 0 []from fun cs hcs=>⟨rfl,.inr ⟨x.w.heap.size,grownCap x.w n 0 3,cs,rfl,x.b.size,by show(x.w.heap.push _)[x.w.heap.size]? = _;simp,Nat.zero_le _,hG63,by rw[hcs,Nat.mul_one],by simp⟩⟩);have HW:=Lib.hid (show∀o:Obj,IsSince w (x.w.drew.alloc o)from fun o=>IsSince.alloc (IsSince.drew' (IsSince.of x)) o);have HOr:=Lib.hid (HO.out _ hsz);have h1:(0:Int)<(n:Int):=by omega
  have h2:¬(n:Int)<0:=by omega
  have h3:(n:Int)≤1000:=by omega
  unfold maxLen at hG63;clear hsz HO h0 hi hz hsize hby;generalize grownCap x.w n 0 3=G at *;generalize(#[] ++ Builtin.zeroCells (Value.int .i64 0).cells n ++ Builtin.zeroCells (Value.int .i64 0).cells (G-n):Array Value)=cs at *;go_enter Tryz.func141,Tryz.ntmps141;go_wp2_with(at_builtin;refine Lib.wpList_append_run _ rfl _ _ _ _ rfl _ _ rfl rfl _ _ (hrz _) ?_);go_ret;obtain⟨y,hy⟩:=HW.out (.cells cs 3);exact⟨_,y,rfl,hy,by rw[←hy];exact HOr.out⟩
def intCs (z:Int):List Value:=[.int .i64 z]
theorem intCs_len (z:Int):(intCs z).length=1:=rfl
theorem intCs_one (z:Int):∀u∈intCs z,u.oneCell'=true:=by
 intro u hu;simp[intCs]at hu;subst hu;rfl
theorem flat_ints:∀l:List Int,flat intCs l=l.map (.int .i64)
 |[]=>rfl
 |x :: l=>by
  have:flat intCs (x :: l)=intCs x ++ flat intCs l:=rfl;rw[this,flat_ints l];rfl
theorem els_ints {w:World} {a:Option Addr} {l:List Int} (h:IntRow w a l):Els intCs 1 w a l:=by
 intro i x hx;obtain⟨b,off,ha,hb,hc⟩:=h i (List.getElem?_eq_some_iff.1 hx).1;refine⟨b,off,ha,hb,fun j v hv=>?_⟩;have hj:j=0:=by have:=(List.getElem?_eq_some_iff.1 hv).1;simpa[intCs]using this
 subst hj;have hv':v= .int .i64 x:=by simpa[intCs]using hv.symm
 subst hv';rw[Nat.mul_one,Nat.add_zero,hc];simp[at0,List.getD_eq_getElem?_getD,hx]
set_option maxRecDepth 100000 in
set_option maxHeartbeats 8000000 in
theorem concat2_calls (w:World) (x:Since w) (g:Nat) (la ka:Option Addr) (l1 l2:List Int) (lc kc:Nat) (h0:∀y:Since w,y.w.cell? ⟨g,0,none⟩=some (.slice la l1.length lc)) (h1:∀y:Since w,y.w.cell? ⟨g,1,none⟩=some (.slice ka l2.length kc)) (hl:IntRow w la l1) (hk:IntRow w ka l2) (hn1:l1.length≤100) (hn2:l2.length≤100) (hz1:la=none→lc=0) (hz2:ka=none→kc=0):
 Calls Tryz.prog 98 #[.slice (some ⟨g,0,none⟩) 2 2] x.w (OwnInts w (l1 ++ l2)):=by
 have HP:=Lib.hid (fun(v:Value) (y:Since w) (h:y.w.ownsRow w.heap.size 3 1 v (l1 ++ l2).length ((l1 ++ l2).map (Value.int .i64)))=>show OwnInts w (l1 ++ l2) (.returned v) y.w from⟨v,y,rfl,rfl,h⟩);generalize OwnInts w (l1 ++ l2)=PO at *;have HG:=Lib.hid (fun(y:Since w)=>grow0_calls w y (l1.length+l2.length) (by omega));have HL:=Lib.hid (els_ints hl);have HK:=Lib.hid (els_ints hk);have w0:wrap64 (0+(l1.length:Int))=(l1.length:Int):=IntWalk.wrap64_in _ ⟨by omega,by omega⟩ |>.trans (by omega);have w1:wrap64 ((l1.length:Int)+(l2.length:Int))=((l1.length+l2.length:Nat):Int):=(IntWalk.wrap64_in _ ⟨by omega,by omega⟩).trans (by omega);have w2:¬(((l1.length+l2.length:Nat):Int)<0):=by omega
 have w3:¬((l1.length:Int)<0):=by omega
 clear hl hk;go_enter Tryz.func98,Tryz.ntmps98;go_wp2_with fail;refine wp_loop_rounds 3 ?_;rw[rounds_succ];go_wp2_with fail;rw[rounds_succ];go_wp2_with fail;rw[rounds_succ];go_wp2_with fail;have HG1:=HG.out x;rw[Int.natCast_add]at HG1;go_upto_region 10 with(go_at_call 141;(with_reducible refine HG1.mono ?_);clear HG1;rintro _ _ ⟨v,y,rfl,rfl,hown⟩;obtain⟨a3,n3,c3,rfl⟩:=own_slice hown;have HO:=Lib.hid hown;clear hown)
 clear w0 w1 w2 w3 HG;go_wp2_with fail;refine wp_loop_rounds 3 ?_;rw[rounds_succ];go_wp2_with(at_builtin;(refine wpList_appendEls (w0:=w) (enc:=intCs) (k:=1) intCs_len (by decide) intCs_one ?hw rfl _ _ 22 rfl w.heap.size (Nat.le_refl _) ?hb 3 (.int .i64 0) 8 sIntC (.slice a3 n3 c3) 0 [] rfl ?hown la l1 lc rfl ?hels hz1 ?h63 ?hbytes ?_;rotate_right 1;intro v2 y2 hown2 _ hg2;obtain⟨a4,n4,c4,rfl⟩:=own_slice hown2;have HO2:=Lib.hid hown2;clear hown2 hg2))
 case hw=>exact⟨y,rfl⟩
 case hb=>exact y.b.size
 case hown=>exact HO.out
 case hels=>exact Since.els HL.out y
 case h63=>unfold maxLen;omega
 case hbytes=>omega
 rw[rounds_succ];go_wp2_with(at_builtin;(refine wpList_appendEls (w0:=w) (enc:=intCs) (k:=1) intCs_len (by decide) intCs_one ?hw rfl _ _ 22 rfl w.heap.size (Nat.le_refl _) ?hb 3 (.int .i64 0) 8 sIntC (.slice a4 n4 c4) (0+l1.length) ([] ++ flat intCs l1) rfl ?hown ka l2 kc rfl ?hels hz2 ?h63 ?hbytes ?_;rotate_right 1;intro v3 y3 hown3 _ hg3;obtain⟨a5,n5,c5,rfl⟩:=own_slice hown3;have HO3:=Lib.hid hown3;clear hown3 hg3))
 case hw=>exact⟨y2,rfl⟩
 case hb=>exact y2.b.size
 case hown=>exact HO2.out
 case hels=>exact Since.els HK.out y2
 case h63=>unfold maxLen;omega
 case hbytes=>omega
 rw[rounds_succ];have HR:=Lib.hid (HP.out (.slice a5 n5 c5) y3 (by
  have h:=HO3.out;rw[List.nil_append,Nat.zero_add,flat_ints,flat_ints]at h;rw[List.length_append,List.map_append];exact h))
 clear HO HO2 HO3;go_wp2_with fail;exact HR.out
end Go.Proofs.YtmmlmhnjjfnpnaaGreat
namespace Go.Proofs.YtmmlmhnjjfnpnaaGreat
open Go.RowKit Go.ChangeMaps
def feeB (l:List Int):Bool:=l.all fun n=>wthB n (-1000000) 1000000
def prcs3 (p:Prc):Int:=if p.cap<0 then 1 else if 1000000000000<p.cap then 1 else finE p
def prcs2 (f:Flt) (p:Prc):Int:=if p.dk.length≠f.dk.length then 3 else if 64<p.pl.length then 3 else if feeB (p.pl ++ p.dk)=false then 1 else prcs3 p
theorem prcs2_eq (f:Flt) (p:Prc):(if p.dk.length≠f.dk.length∨64<p.pl.length then 3 else if !((p.pl ++ p.dk).all fun n=>wthB n (-1000000) 1000000)then 1 else if !(wthB p.cap 0 1000000000000)then 1 else finE p)=prcs2 f p:=by
 unfold prcs2 prcs3 feeB;by_cases h1:p.dk.length≠f.dk.length
 ·rw[if_pos (Or.inl h1),if_pos h1]
 ·rw[if_neg h1]
  by_cases h2:64<p.pl.length
  ·rw[if_pos (Or.inr h2),if_pos h2]
  ·rw[if_neg (fun h=>h.elim h1 h2),if_neg h2]
   have hc:(if !(wthB p.cap 0 1000000000000)then 1 else finE p)=if p.cap<0 then 1 else if 1000000000000<p.cap then 1 else finE p:=by
    unfold wthB;by_cases h3:p.cap<0
    ·rw[if_pos h3,decide_eq_false (by omega:¬0≤p.cap)];rfl
    ·rw[if_neg h3,decide_eq_true (by omega:0≤p.cap)]
     by_cases h4:1000000000000<p.cap
     ·rw[if_pos h4,decide_eq_false (by omega:¬p.cap≤1000000000000)];rfl
     ·rw[if_neg h4,decide_eq_true (by omega:p.cap≤1000000000000)];rfl
   rw[hc]
   cases(p.pl ++ p.dk).all fun n=>wthB n (-1000000) 1000000<;>rfl
theorem prcsE_2 (f:Flt) (p:Prc):prcsE f p=if fltE f≠0 then fltE f else if tarE p.tr≠0 then tarE p.tr else if passE p.ps≠0 then passE p.ps else prcs2 f p:=by
 unfold prcsE;rw[prcs2_eq]
theorem feeB_no {l:List Int} {k:Nat} (hk:k<l.length) (hv:wthB (at0 l k) (-1000000) 1000000=false):feeB l=false:=all_noI (p:=fun n=>wthB n (-1000000) 1000000) hk hv
theorem feeB_yes {l:List Int} (hv:∀j,j<l.length→wthB (at0 l j) (-1000000) 1000000=true):feeB l=true:=all_yesI (p:=fun n=>wthB n (-1000000) 1000000) hv
theorem own_ints {w:World} {B n:Nat} {e:TypeId} {v:Value} {l:List Int} (h:w.ownsRow B e 1 v n (l.map (Value.int .i64))):n=l.length∧∃a c,v= .slice a l.length c∧IntRow w a l:=by
 have hn:n=l.length:=by have:=h.1;simp at this;omega
 subst hn;obtain⟨a,c,rfl,_,hr,_⟩:=own_row h;refine⟨rfl,a,c,rfl,fun i hi=>?_⟩;obtain⟨b,off,h1,h2,h3⟩:=hr i hi;refine⟨b,off,h1,h2,h3.trans ?_⟩;simp[List.getD_eq_getElem?_getD,at0,hi]
set_option maxRecDepth 100000 in
set_option maxHeartbeats 16000000 in
theorem fcheck_calls (w:World) (x:Since w) (f:Flt) (da ta:Option Addr) (dc tc:Nat) (hf:FltAt w f da ta) (p:Prc) (ga pa la ka fa:Option Addr) (gc pc lc kc fc:Nat) (h:PrcAt w p ga pa la ka fa) (hz1:la=none→lc=0) (hz2:ka=none→kc=0):
 Calls Tryz.prog 47 #[.agg #[.int .i64 f.bk,.int .i64 f.rd,.int .i64 f.dv,.slice da f.dk.length dc,.slice ta f.tk.length tc],.agg #[.slice ga p.tr.length gc,.slice pa p.ps.length pc,.slice la p.pl.length lc,.slice ka p.dk.length kc,.int .i64 p.cap,.slice fa p.fn.length fc,.int .i64 p.fd]] x.w fun o w'=>o= .returned (.int .i64 (prcsE f p))∧∃y:Since w,w'=y.w:=by
 have HE:=Lib.hid (prcsE_2 f p);have HF:=Lib.hid (fun(W:World) (hW:∃z:Since w,W=z.w) (y:Since W)=>fleet_calls W y f da ta dc tc (hf.to hW));have HT:=Lib.hid (fun(W:World) (hW:∃z:Since w,W=z.w) (y:Since W)=>tarCheck_calls W y p.tr ga gc (h.t.to hW) h.tl);have HS:=Lib.hid (fun(W:World) (hW:∃z:Since w,W=z.w) (y:Since W)=>pcheck_calls W y pa p.ps pc (h.s.to hW) h.sl);have HC:=Lib.hid (fun(W:World) (hW:∃z:Since w,W=z.w) (x:Since W) (g:Nat) h0 h1 (hn1:p.pl.length≤64) (hn2:p.dk.length≤100)=>concat2_calls W x g la ka p.pl p.dk lc kc h0 h1 (Row.to h.l hW) (Row.to h.k hW) (by omega) hn2 hz1 hz2);have HN:=Lib.hid (fun(W:World) (hW:∃z:Since w,W=z.w) (y:Since W)=>pnCheck_calls W y p ga pa la ka fa gc pc lc kc fc (h.to hW));have HD:=Lib.hid (show fltE f=0→f.dk.length≤32 from fun h0=>by
  unfold fltE at h0;split at h0
  ·cases h0
  ·split at h0
   ·cases h0
   ·omega)
 have HPO:=Lib.hid (fun(y:Since w) (e:Int) (he:prcsE f p=e)=>show(Ending.returned (.int .i64 e)= .returned (.int .i64 (prcsE f p)))∧∃z:Since w,y.w=z.w from⟨by rw[he],y,rfl⟩);have hdl:=hf.dl;have hkl:=h.kl;have hll:=h.ll;clear hf h hz1 hz2;generalize hfe:fltE f=fe at *;generalize tarE p.tr=te at *;generalize passE p.ps=se at *;generalize prcsE f p=ee at *;clear hfe;go_enter Tryz.func47,Tryz.ntmps47;go_upto_region 1 with fail;obtain⟨W,bx,y0,hW,hbx,-,hWup,Hup,Hbx,HB0,HB1⟩:=heads2 x [.int .i64 f.bk,.int .i64 f.rd,.int .i64 f.dv,.slice da f.dk.length dc,.slice ta f.tk.length tc] 24 [.slice ga p.tr.length gc,.slice pa p.ps.length pc,.slice la p.pl.length lc,.slice ka p.dk.length kc,.int .i64 p.cap,.slice fa p.fn.length fc,.int .i64 p.fd] 53;rw[hW,hbx];clear hW hbx;obtain⟨hb0_0,hb0_1,hb0_2,hb0_3,hb0_4,hf0⟩:=bx5 HB0;obtain⟨hb1_0,hb1_1,hb1_2,hb1_3,hb1_4,hb1_5,hb1_6,hf1⟩:=bx7 HB1;clear HB0 HB1;have HF1:=HF.out W hWup y0;go_upto_region 2 with(go_at_call 95;(with_reducible refine HF1.mono ?_);clear HF1;rintro _ _ ⟨rfl,y1,rfl⟩)
 by_cases h1:fe≠0
 ·have hb:(fe != 0)=true:=by simpa using h1
  have HR:=Lib.hid (HE.out.trans (if_pos h1));clear h1;go_wp2_with fail;go_ret;obtain⟨z,hz⟩:=Hup.out y1;rw[hz];exact HPO.out z _ HR.out
 replace HE:=Lib.hid (HE.out.trans (if_neg h1));replace h1:fe=0:=Decidable.of_not_not h1;replace HD:=HD.out h1;subst h1;have HT1:=HT.out W hWup y1;go_upto_region 5 with(go_at_call 96;(with_reducible refine HT1.mono ?_);clear HT1;rintro _ _ ⟨rfl,y2,rfl⟩)
 by_cases h1:te≠0
 ·have hb:(te != 0)=true:=by simpa using h1
  have HR:=Lib.hid (HE.out.trans (if_pos h1));clear h1;go_wp2_with fail;go_ret;obtain⟨z,hz⟩:=Hup.out y2;rw[hz];exact HPO.out z _ HR.out
 replace HE:=Lib.hid (HE.out.trans (if_neg h1));replace h1:=Decidable.of_not_not h1;subst h1;have HS1:=HS.out W hWup y2;go_upto_region 8 with(go_at_call 97;(with_reducible refine HS1.mono ?_);clear HS1;rintro _ _ ⟨rfl,y3,rfl⟩)
 by_cases h1:se≠0
 ·have hb:(se != 0)=true:=by simpa using h1
  have HR:=Lib.hid (HE.out.trans (if_pos h1));clear h1;go_wp2_with fail;go_ret;obtain⟨z,hz⟩:=Hup.out y3;rw[hz];exact HPO.out z _ HR.out
 replace HE:=Lib.hid (HE.out.trans (if_neg h1));replace h1:=Decidable.of_not_not h1;subst h1;clear HF HT HS;unfold prcs2 at HE;by_cases h1:p.dk.length≠f.dk.length
 ·have hb:(p.dk.length == f.dk.length)=false:=beq_eq_false_iff_ne.2 h1
  have hb2:(((p.dk.length:Nat):Int) == ((f.dk.length:Nat):Int))=false:=beq_eq_false_iff_ne.2 (by omega);have hb3:(((p.dk.length:Nat):Int) != ((f.dk.length:Nat):Int))=true:=by rw[bne,hb2];rfl
  have HR:=Lib.hid (HE.out.trans (if_pos h1));clear h1;go_wp2_with fail;go_ret;obtain⟨z,hz⟩:=Hup.out y3;rw[hz];exact HPO.out z _ HR.out
 replace HE:=Lib.hid (HE.out.trans (if_neg h1));replace h1:p.dk.length=f.dk.length:=Decidable.of_not_not h1;have hb3:(((p.dk.length:Nat):Int) != ((f.dk.length:Nat):Int))=false:=by rw[h1];simp
 have hkd:p.dk.length≤32:=by omega
 by_cases h2:64<p.pl.length
 ·have hl2:(64:Int)<(p.pl.length:Int):=by omega
  have HR:=Lib.hid (HE.out.trans (if_pos h2));clear h1 h2;go_wp2_with fail;go_ret;obtain⟨z,hz⟩:=Hup.out y3;rw[hz];exact HPO.out z _ HR.out
 replace HE:=Lib.hid (HE.out.trans (if_neg h2));have hl2:¬(64:Int)<(p.pl.length:Int):=by omega
 have hpl:p.pl.length≤64:=by omega
 clear h1 h2;have hsum:(p.pl ++ p.dk).length≤96:=by rw[List.length_append];omega
 go_upto_region 12 with fail;obtain⟨W4,hW4⟩:∃W4,W4=y3.w.alloc (.cells #[.slice la p.pl.length lc,.slice ka p.dk.length kc] 22):=⟨_,rfl⟩
 have hst4:IsSince W W4:=by rw[hW4];exact y3.alloc _
 have hstw:∃z:Since w,W4=z.w:=IsSince.trans hWup hst4;have hcall:=HC.out W4 hstw (Since.self W4) y3.w.heap.size (fun y=>Since.cell (by rw[hW4];simp[go_sem]) (by rw[hW4];simp) y) (fun y=>Since.cell (by rw[hW4];simp[go_sem]) (by rw[hW4];simp) y) hpl (by omega);rw[show(Since.self W4).w=W4 from rfl,hW4]at hcall;rw[hW4]at hst4;have HP3:=Lib.hid (show feeB (p.pl ++ p.dk)=false→prcsE f p=1∨ee=1 from fun h=>.inr (HE.out.trans (if_pos h)));have HE2:=Lib.hid (fun(h:feeB (p.pl ++ p.dk)=true)=>HE.out.trans (if_neg (by rw[h];decide)));have HE1:=Lib.hid (fun(h:feeB (p.pl ++ p.dk)=false)=>HE.out.trans (if_pos h));have HF1:=Lib.hid (fun k (hk:k<(p.pl ++ p.dk).length) hv=>HE1.out (feeB_no hk hv));have HF2:=Lib.hid (fun hv=>HE2.out (feeB_yes hv));have Hst4:=Lib.hid hst4;have HWup:=Lib.hid hWup;clear hst4 hstw hW4 HP3 HE HE1 HE2 hWup HC;generalize p.pl ++ p.dk=q at *;go_upto_region 13 with(go_at_call 98;(with_reducible refine hcall.mono ?_);clear hcall;rintro _ _ ⟨v4,y4,rfl,rfl,hown⟩;obtain⟨_,a4,c4,rfl,hr4⟩:=own_ints hown;have HR4:=Lib.hid hr4;clear hown hr4)
 have HSn:=Lib.hid (fun(y:Since y4.w)=>show IsSince W y.w from IsSince.trans Hst4.out (IsSince.trans ⟨y4,rfl⟩ ⟨y,rfl⟩));clear Hst4;generalize y4.w=wB at *;go_loopw [47] (fun i wr=>∃(k:Nat) (y:Since wB),k≤q.length∧i= .int .i64 k∧wr=y.w∧∀j,j<k→wthB (at0 q j) (-1000000) 1000000=true) (fun i _ =>q.length-(intOf i).toNat)
 case atStart=>exact⟨0,Since.self wB,by omega,rfl,rfl,fun j hj=>by omega⟩
 case round=>
  obtain⟨k,y,hk,rfl,rfl,hok⟩:=hrel;have Hok:=Lib.hid hok;clear hok;by_cases hlt:k<q.length
  ·obtain⟨b,off,rfl,hb,hcell⟩:=row_at HR4.out hlt
   have hx:∀y:Since wB,y.w.cell? ⟨b,off+k,none⟩=some (.int .i64 (at0 q k)):=fun y=>Since.cell hcell hb y;have hk0:(0:Int)≤(k:Int):=by omega
   have hkl:(k:Int)<(q.length:Int):=by omega
   clear hb hcell;have hc:(at0 q k < -1000000)∨(-1000000≤at0 q k∧1000000<at0 q k)∨(-1000000≤at0 q k∧at0 q k≤1000000):=by omega
   rcases hc with h2|⟨h2,h3⟩|⟨h2,h3⟩
   ·have HR:=Lib.hid (HF1.out k hlt (by unfold wthB;rw[decide_eq_false (by omega)];rfl))
    generalize at0 q k=v at *;go_wp2_with fail;go_ret;obtain⟨z,hz⟩:=HSn.out y;obtain⟨z2,hz2⟩:=Hup.out z;rw[hz,hz2];exact HPO.out z2 _ HR.out
   ·have HR:=Lib.hid (HF1.out k hlt (by unfold wthB;rw[decide_eq_true (by omega),decide_eq_false (by omega)];rfl))
    have h4:¬at0 q k < -1000000:=by omega
    generalize at0 q k=v at *;go_wp2_with fail;go_ret;obtain⟨z,hz⟩:=HSn.out y;obtain⟨z2,hz2⟩:=Hup.out z;rw[hz,hz2];exact HPO.out z2 _ HR.out
   ·have HR:=Lib.hid (show wthB (at0 q k) (-1000000) 1000000=true from by unfold wthB;rw[decide_eq_true (by omega),decide_eq_true (by omega)];rfl)
    have h4:¬at0 q k < -1000000:=by omega
    have h5:¬1000000<at0 q k:=by omega
    have HN2:=Lib.hid (show∀j,j<k+1→wthB (at0 q j) (-1000000) 1000000=true from fun j hj=>by
     by_cases hjk:j<k
     ·exact Hok.out j hjk
     ·obtain rfl:j=k:=by omega
      exact HR.out)
    clear HR;generalize hv:at0 q k=v at *;clear hv;go_wp2_with fail;go_roundw
    case rel=>exact⟨k+1,y,by omega,by go_num,rfl,HN2.out⟩
    case measure=>simp[intOf];omega
  ·obtain rfl:k=q.length:=by omega
   have HR:=Lib.hid (HF2.out Hok.out);clear hlt HF1 HF2;have k4:∀z:Since wB,z.w.cell? ⟨bx+1,4,none⟩=some (.int .i64 p.cap):=fun z=>IsSince.cell hb1_4 (HSn.out z);have k0:∀z:Since wB,z.w.cell? ⟨bx+1,0,none⟩=some (.slice ga p.tr.length gc):=fun z=>IsSince.cell hb1_0 (HSn.out z);have k1:∀z:Since wB,z.w.cell? ⟨bx+1,1,none⟩=some (.slice pa p.ps.length pc):=fun z=>IsSince.cell hb1_1 (HSn.out z);have k2:∀z:Since wB,z.w.cell? ⟨bx+1,2,none⟩=some (.slice la p.pl.length lc):=fun z=>IsSince.cell hb1_2 (HSn.out z);have k3:∀z:Since wB,z.w.cell? ⟨bx+1,3,none⟩=some (.slice ka p.dk.length kc):=fun z=>IsSince.cell hb1_3 (HSn.out z);have k5:∀z:Since wB,z.w.cell? ⟨bx+1,5,none⟩=some (.slice fa p.fn.length fc):=fun z=>IsSince.cell hb1_5 (HSn.out z);have k6:∀z:Since wB,z.w.cell? ⟨bx+1,6,none⟩=some (.int .i64 p.fd):=fun z=>IsSince.cell hb1_6 (HSn.out z);have HSy:=Lib.hid (HSn.out y);unfold prcs3 at HR;by_cases h2:p.cap<0
   ·have HR2:=Lib.hid (HR.out.trans (if_pos h2))
    clear HR;go_wp2_with fail;go_ret;obtain⟨z,hz⟩:=HSy.out;obtain⟨z2,hz2⟩:=Hup.out z;rw[hz,hz2];exact HPO.out z2 _ HR2.out
   ·by_cases h3:1000000000000<p.cap
    ·have HR2:=Lib.hid (HR.out.trans ((if_neg h2).trans (if_pos h3)))
     clear HR;go_wp2_with fail;go_ret;obtain⟨z,hz⟩:=HSy.out;obtain⟨z2,hz2⟩:=Hup.out z;rw[hz,hz2];exact HPO.out z2 _ HR2.out
    ·have HR2:=Lib.hid (HR.out.trans ((if_neg h2).trans (if_neg h3)))
     clear HR;obtain⟨z,hz⟩:=HSy.out;have hcall:=HN.out W HWup.out z;rw[←hz]at hcall;clear hz;go_wp2_with(go_at_call 99;(with_reducible refine hcall.mono ?_);clear hcall;rintro _ _ ⟨rfl,y5,rfl⟩);go_ret;obtain⟨z2,hz2⟩:=Hup.out y5;rw[hz2];exact HPO.out z2 _ HR2.out
end Go.Proofs.YtmmlmhnjjfnpnaaGreat
namespace Go.Proofs.YtmmlmhnjjfnpnaaGreat
open Go.RowKit Go.ChangeMaps
theorem run_store_same {P:Program} {kt:TypeId} {κ:Type} [DecidableEq κ] {ek:κ→Value} {now:Bool} {w:World} {b i:Nat} {l:List (κ×Value)} {t et:TypeId} {v:Value} (K:KeyOps P kt ek now) (h:MapAt ek w b l) (ht:P.underlying t=some (.map kt et)) (x:κ) (hx:lkF x l 0=some (i,v)):
 (Instr.mapUpdate t (.map (some b)) (ek x) v).run P w= .ok () w:=by
 obtain⟨-,hl,-⟩:=lkF_spec l 0 i hx;rw[Nat.sub_zero]at hl;have h':=h;unfold MapAt at h;have he:(entF ek l 0).toArray[i]? =some ⟨ek x,v,i⟩:=by simp[entF_at,hl]
 have hm:((entF ek l 0).toArray.modify i fun e=>{e with key:=ek x,val:=v})=(entF ek l 0).toArray:=by
  apply Array.ext_getElem?;intro j;rw[Array.getElem?_modify];split
  ·rename_i hj;subst hj;rw[he];rfl
  ·rfl
 have hs:(Instr.keyThatStays (ek x) (ek x)).run P w= .ok (ek x) w:=by
  unfold Instr.keyThatStays;rw[K.bits x];rfl
 simp only[Instr.mapUpdate,Sem.run_bind,run_underlying ht,Result.andThen_ok,MapKept.run_getObj_map h,K.chk,run_findKey K,hx,he,Option.map_some,Option.getD_some,hs,MapKept.run_setObj_map _ h,hm];have:{w with heap:=w.heap.setIfInBounds b (.map (entF ek l 0).toArray l.length)}=w:=setBlock_self h';rw[this]
def SameIds (ids:List Int) (k:Nat) (ds:List Int):Prop:=∀x,x∈ds↔x∈ids.take k
theorem SameIds.next {ids:List Int} {k:Nat} {ds:List Int} (h:SameIds ids k ds) {x:Int} (hx:ids[k]? =some x):(x∈ds→SameIds ids (k+1) ds)∧SameIds ids (k+1) (ds ++ [x]):=by
 have e:ids.take (k+1)=ids.take k ++ [x]:=by
  rw[List.take_succ_eq_append_getElem (List.getElem?_eq_some_iff.1 hx).1,(List.getElem?_eq_some_iff.1 hx).2]
 constructor
 ·intro hin y
  rw[e,List.mem_append,List.mem_singleton,←h y];constructor
  ·exact .inl
  ·rintro(h1|rfl)
   ·exact h1
   ·exact hin
 ·intro y
  rw[e,List.mem_append,List.mem_append,h y]
theorem dupB_next {ids:List Int} {k:Nat} {x:Int} (hx:ids[k]? =some x):dupB (ids.take (k+1))=(dupB (ids.take k) || decide (x∈ids.take k)):=by
 have h:=nodup_take_next hx;rcases dupB_cases (ids.take k)with⟨h1,h2⟩|⟨h1,h2⟩
 ·rw[h1,dupB_true (fun h3=>h2 (h.1 h3).1)];rfl
 ·rw[h1]
  by_cases h3:x∈ids.take k
  ·rw[decide_eq_true h3,dupB_true (fun h4=>(h.1 h4).2 h3)];rfl
  ·rw[decide_eq_false h3,dupB_false (h.2 ⟨h2,h3⟩)];rfl
set_option maxRecDepth 100000 in
set_option maxHeartbeats 8000000 in
theorem frides_calls (w:World) (x:Since w) (a:Option Addr) (l:List Ride) (c:Nat) (h:RideRow w a l) (hl:l.length≤9223372036854775807):
 Calls Tryz.prog 48 #[.slice a l.length c] x.w fun o w'=>o= .returned (.int .i64 (ridesE l))∧∃y:Since w,w'=y.w:=by
 have HL:=Lib.hid h;clear h;by_cases hbig:256<l.length
 ·have Hr:=Lib.hid (show ridesE l=8 by unfold ridesE;rw[if_pos hbig])
  go_enter Tryz.func48,Tryz.ntmps48;go_wp2_with fail;go_ret;exact⟨ret_int Hr.out.symm,_,rfl⟩
 have hl256:l.length≤256:=by omega
 have Hmk:∀k (e:Ride),l[k]? =some e→(l.map fun r:Ride=>r.id)[k]? =some e.id:=fun k e he=>map_at (f:=fun r:Ride=>r.id) he;have HMk:=Lib.hid Hmk;have H8:=Lib.hid hl256;clear hbig hl Hmk;have hmm:=@run_makeMap Tryz.prog;go_enter Tryz.func48,Tryz.ntmps48;go_wp2_with fail;have hm0:MapAt eint (x.w.alloc (.map #[] 0)) x.w.heap.size (idE []):=by
  show(x.w.heap.push _)[x.w.heap.size]? = _;simp[idE,entF]
 obtain⟨y1,hy1⟩:=x.alloc (.map #[] 0);rw[hy1]at hm0⊢;have Hm0:=Lib.hid hm0;have Hgb:=Lib.hid x.b.size;clear hy1 hm0 hmm;generalize x.w.heap.size=bm at *;go_loopw [4,14] (fun tw i wr=>∃(k:Nat) (y:Since w) (ds:List Int),k≤l.length∧i= .int .i64 k∧wr=y.w∧tw= .bool (dupB ((l.map fun r:Ride=>r.id).take k))∧MapAt eint y.w bm (idE ds)∧SameIds (l.map fun r:Ride=>r.id) k ds∧∀j,j<k→∀e,l[j]? =some e→rideE e=0) (fun _ i _ =>l.length-(intOf i).toNat)
 case atStart=>exact⟨0,y1,[],by omega,rfl,rfl,rfl,Hm0.out,fun x=>by simp,fun j hj=>by omega⟩
 case round=>
  clear Hm0;obtain⟨k,y,ds,hk,rfl,rfl,rfl,hm,hsm,hok⟩:=hrel;have Hok:=Lib.hid hok;have Hm:=Lib.hid hm;have Hsm:=Lib.hid hsm;clear hok hm hsm;by_cases hlt:k<l.length
  ·obtain⟨e,he⟩:∃e,l[k]? =some e:=⟨_,List.getElem?_eq_getElem hlt⟩
   obtain⟨b1,off1,rfl,h1'⟩:=Els.ride HL.out.c he;have ra0:=h1'.c0;have ra1:=h1'.c1;have ra2:=h1'.c2;have ra3:=h1'.c3;have ra4:=h1'.c4;have ra5:=h1'.c5;have ra6:=h1'.c6;have ra7:=h1'.c7;have ra8:=h1'.c8;have ra9:=h1'.c9;have ra10:=h1'.c10;have ra11:=h1'.c11;have ra12:=h1'.c12;have hk0:(0:Int)≤(k:Int):=by omega
   have hkl:(k:Int)<(l.length:Int):=by omega
   have He':=Lib.hid he;have Hat:=Lib.hid (HL.out.r e (List.mem_of_getElem? he));have HD:=Lib.hid (dupB_next (HMk.out k e he));have HS:=Lib.hid (Hsm.out.next (HMk.out k e he));have HI:=Lib.hid (Hsm.out e.id);clear h1' he;generalize dupB ((l.map fun r:Ride=>r.id).take k)=tw at *;go_upto_region 8 with fail;obtain⟨y2,e2,hst0,hsz0,hlt0,HX0⟩:=grow1 y [.int .i64 e.id,.int .i64 e.rd,.int .i64 e.s0,.int .i64 e.s1,.int .i64 e.e0,.int .i64 e.e1,.bool e.op,.slice e.la e.legs.length e.lc,.slice e.pa e.pauses.length e.pc,.int .i64 e.fw,.int .i64 e.fp,.int .i64 e.wh,.int .i64 e.pl] 40;rw[e2];obtain⟨hx0,hx1,hx2,hx3,hx4,hx5,hx6,hx7,hx8,hx9,hx10,hx11,hx12,hxf⟩:=cx13 HX0;(replace Hat:=Lib.hid ((Hat.out.since y).to hst0);replace Hm:=Lib.hid (Hm.out.to' hst0))
   clear e2 hst0;generalize y.w.heap.size=g at *;obtain⟨Hhx0,Hhx1,Hhx2,Hhx3,Hhx4,Hhx5,Hhx6,Hhx7,Hhx8,Hhx9,Hhx10,Hhx11,Hhx12,Hhxf⟩:=bx13 HX0;have Hhxg:=Lib.hid (And.intro hsz0 hlt0);clear hlt0 hsz0 HX0;obtain⟨q0,hq0⟩:=Since.refl y2.w;rw[hq0];clear hq0;have Hck:=Lib.hid (fun z:Since y2.w=>check_calls y2.w z e Hat.out);by_cases her:rideE e=0
   ·rw[her]at Hck
    have Hv:=Lib.hid (upto_next (P:=fun e:Ride=>rideE e=0) Hok.out He'.out her);clear her;go_upto_region 11 with(go_at_call 9;((with_reducible refine(Hck.out _).mono ?_);rintro _ _ ⟨rfl,z1,rfl⟩))
    replace Hm:=Lib.hid (Hm.out.to' ⟨z1,rfl⟩);have k0:∀z:Since z1.w,z.w.cell? ⟨g,0,none⟩=some (.int .i64 e.id):=Since.cellTo ⟨z1,rfl⟩ Hhx0;have hlk:=run_look keyInt Hm.out Tryz.underlying199 (zeroBool _) e.id false;unfold eint at hlk;simp only[Bool.false_eq_true,if_false]at hlk;by_cases hin:e.id∈ds
    ·rw[idE_in hin]at hlk
     obtain⟨j,hj⟩:=(idE_lk e.id ds 0).1 hin;have hst:=run_store_same keyInt Hm.out Tryz.underlying199 e.id hj;unfold eint at hst;have HD2:=Lib.hid (show dupB ((l.map fun r:Ride=>r.id).take (k+1))=true by rw[HD.out,decide_eq_true (HI.out.1 hin)];simp);have HS2:=Lib.hid (HS.out.1 hin);clear hj hin;obtain⟨q,eq⟩:=y2.trans z1;rw[eq]at Hm;have Eq:=Lib.hid eq;clear eq
     cases tw with
     |true=>
      go_wp2_with fail
      go_roundw
      case rel=>exact⟨k+1,q,ds,by omega,by go_num,Eq.out,by rw[HD2.out],Hm.out,HS2.out,Hv.out⟩
      case measure=>simp[intOf]<;>omega
     |false=>
      go_wp2_with fail
      go_roundw
      case rel=>exact⟨k+1,q,ds,by omega,by go_num,Eq.out,by rw[HD2.out],Hm.out,HS2.out,Hv.out⟩
      case measure=>simp[intOf]<;>omega
    ·rw[idE_out hin]at hlk
     obtain⟨w2,hst,hw2⟩:=run_store_new keyInt Hm.out Tryz.underlying199 e.id (.bool true) ((idE_lk e.id _ 0).2 hin);unfold eint at hst;have Hw2:=Lib.hid hw2;have HD2:=Lib.hid (show dupB ((l.map fun r:Ride=>r.id).take (k+1))=tw by rw[HD.out,decide_eq_false (fun h=>hin (HI.out.2 h))];simp);have HS2:=Lib.hid HS.out.2;clear hw2 hin;obtain⟨q,eq⟩:=y2.trans z1;rw[eq]at Hm Hw2;obtain⟨y3,hy3⟩:=q.block (r:=bm) Hgb.out (.map (entF eint (idE ds ++ [(e.id,Value.bool true)]) 0).toArray (idE ds ++ [(e.id,Value.bool true)]).length);have hm3:MapAt eint y3.w bm (idE (ds ++ [e.id])):=by
      rw[←hy3,show idE (ds ++ [e.id])=idE ds ++ [(e.id,Value.bool true)]from by simp[idE]];exact setBlock_at Hm.out.lt'
     have Hm3:=Lib.hid hm3;have Hy3:=Lib.hid (Hw2.out.trans hy3);clear hm3 hy3 eq
     cases tw with
     |true=>
      go_wp2_with fail
      rw[Hy3.out]
      go_roundw
      case rel=>exact⟨k+1,y3,_,by omega,by go_num,rfl,by rw[HD2.out],Hm3.out,HS2.out,Hv.out⟩
      case measure=>simp[intOf]<;>omega
     |false=>
      go_wp2_with fail
      rw[Hy3.out]
      go_roundw
      case rel=>exact⟨k+1,y3,_,by omega,by go_num,rfl,by rw[HD2.out],Hm3.out,HS2.out,Hv.out⟩
      case measure=>simp[intOf]<;>omega
   ·have Hr:=Lib.hid (show ridesE l=rideE e by rw[ridesE_err H8.out He'.out her Hok.out])
    have heb:(rideE e != 0)=true:=by simpa using her
    clear her;generalize rideE e=re at *;go_wp2_with(go_at_call 9;((with_reducible refine(Hck.out _).mono ?_);rintro _ _ ⟨rfl,z1,rfl⟩));go_ret;exact⟨ret_int Hr.out.symm,by obtain⟨q,e⟩:=y2.trans z1;rw[e];exact⟨q,rfl⟩⟩
  ·obtain rfl:k=l.length:=by omega
   have HP:=Lib.hid (ridesE_ok H8.out Hok.out);rw[List.take_of_length_le (by simp)]
   cases hd:dupB (l.map fun r:Ride=>r.id)with
   |true=>
    have HR:=Lib.hid (HP.out.trans (if_pos hd))
    clear hd
    go_wp2_with fail
    go_ret
    exact⟨ret_int HR.out.symm,y,rfl⟩
   |false=>
    have HR:=Lib.hid (HP.out.trans (if_neg (by rw[hd];simp)))
    clear hd
    go_wp2_with fail
    go_ret
    exact⟨ret_int HR.out.symm,y,rfl⟩
end Go.Proofs.YtmmlmhnjjfnpnaaGreat
namespace Go.Proofs.YtmmlmhnjjfnpnaaGreat
open Go.RowKit Go.ChangeMaps
set_option maxHeartbeats 2000000 in
theorem din_calls (w:World) (n lo hi:Int) (h:lo≤n∧n≤hi):
 Calls Tryz.prog 158 #[.int .i64 n,.int .i64 lo,.int .i64 hi] w fun o w'=>o= .returned (.bool true)∧w=w':=by
 obtain⟨h1,h2⟩:=h;go_enter Tryz.func158,Tryz.ntmps158;go_wp2_with fail;go_ret;first|exact⟨rfl,rfl⟩|simp
structure DcOk (cap:Int) (rs ds ams:List Int) (n:Nat):Prop where
 c:0≤cap∧cap≤1000000000000
 r:rs.length=n
 d:ds.length=n
 a:ams.length=n
 nb:n≤256
 rv:∀i,i<n→0≤at0 rs i∧at0 rs i≤127
 dv:∀i,i<n→0≤at0 ds i∧at0 ds i≤49709
 av:∀i,i<n→0≤at0 ams i∧at0 ams i≤1000000000000
set_option maxRecDepth 100000 in
set_option maxHeartbeats 8000000 in
theorem dcheck_calls (w:World) (x:Since w) (cap:Int) (n:Nat) (rs ds ams:List Int) (ra da aa:Option Addr) (rc dc ac:Nat) (hr:IntRow w ra rs) (hd:IntRow w da ds) (ha:IntRow w aa ams) (h:DcOk cap rs ds ams n):
 Calls Tryz.prog 107 #[.int .i64 cap,.slice ra n rc,.slice da n dc,.slice aa n ac] x.w fun o w'=>o= .returned (.int .i64 0)∧∃y:Since w,w'=y.w:=by
 have HR:=Lib.hid hr;have HD:=Lib.hid hd;have HA:=Lib.hid ha;have HO:=Lib.hid h;have hn:=h.nb;have hc:=fun W=>din_calls W cap 0 1000000000000 h.c;have HC:=Lib.hid hc;clear hr hd ha h hc;go_enter Tryz.func107,Tryz.ntmps107;go_wp2_with(go_at_call 158;(with_reducible refine(HC.out _).mono ?_);rintro _ _ ⟨rfl,rfl⟩);go_loopw [33] (fun i wr=>∃(k:Nat) (y:Since w),k≤n∧i= .int .i64 k∧wr=y.w) (fun i _ =>n-(intOf i).toNat)
 case atStart=>exact⟨0,x,by omega,rfl,rfl⟩
 case round=>
  obtain⟨k,y,hk,rfl,rfl⟩:=hrel;by_cases hlt:k<n
  ·obtain⟨b1,o1,rfl,hb1,hc1⟩:=row_at HR.out (i:=k) (by rw[HO.out.r];exact hlt)
   obtain⟨b2,o2,rfl,hb2,hc2⟩:=row_at HD.out (i:=k) (by rw[HO.out.d];exact hlt);obtain⟨b3,o3,rfl,hb3,hc3⟩:=row_at HA.out (i:=k) (by rw[HO.out.a];exact hlt);have hx1:∀y:Since w,y.w.cell? ⟨b1,o1+k,none⟩=some (.int .i64 (at0 rs k)):=fun y=>Since.cell hc1 hb1 y;have hx2:∀y:Since w,y.w.cell? ⟨b2,o2+k,none⟩=some (.int .i64 (at0 ds k)):=fun y=>Since.cell hc2 hb2 y;have hx3:∀y:Since w,y.w.cell? ⟨b3,o3+k,none⟩=some (.int .i64 (at0 ams k)):=fun y=>Since.cell hc3 hb3 y;have H1:=Lib.hid (fun W=>din_calls W (at0 rs k) 0 127 (HO.out.rv k hlt));have H2:=Lib.hid (fun W=>din_calls W (at0 ds k) 0 49709 (HO.out.dv k hlt));have H3:=Lib.hid (fun W=>din_calls W (at0 ams k) 0 1000000000000 (HO.out.av k hlt));have hk0:(0:Int)≤(k:Int):=by omega
   have hkl:(k:Int)<(n:Int):=by omega
   clear hc1 hb1 hc2 hb2 hc3 hb3;generalize at0 rs k=v1 at *;generalize at0 ds k=v2 at *;generalize at0 ams k=v3 at *;go_wp2_with(first
    |(go_at_call 158;(with_reducible refine(H1.out _).mono ?_);rintro _ _ ⟨rfl,rfl⟩)
    |(go_at_call 158;(with_reducible refine(H2.out _).mono ?_);rintro _ _ ⟨rfl,rfl⟩)
    |(go_at_call 158;(with_reducible refine(H3.out _).mono ?_);rintro _ _ ⟨rfl,rfl⟩))
   go_roundw
   case rel=>exact⟨k+1,y,by omega,by go_num,rfl⟩
   case measure=>simp[intOf];omega
  ·obtain rfl:k=n:=by omega
   go_wp2_with fail;go_ret;exact⟨rfl,y,rfl⟩
theorem keyArr:KeyOps Tryz.prog 263 eturn false where
 chk em w x:=by unfold eturn;kernel_rfl
 eq w x y:=by
  unfold eturn;obtain⟨i,hi,_,_,_⟩:=info_parts (P:=Tryz.prog) (e:=3) (z:=.int .i64 0) (size:=1) (bytes:=8) (by kernel_rfl);have hc:Tryz.prog.cellsOf 3=1:=by kernel_rfl
  show(Op.equalIn (9999+1) _ _ _).run _ _ = _;rw[run_equalIn_array w 9999 _ _ Tryz.underlying263 hi,hc];have u3:=Tryz.underlying3;have a3:=Tryz.isAgg3;have z3:=Tryz.sizeOf3;rw[show List.range 2=[0,1]from rfl];have he:=fun(a b:Int)=>run_equalIn_int (P:=Tryz.prog) w 9998 3 .i64 .i64 a b u3;simp only[Op.eqItems,Sem.run_bind];go_simp;by_cases h1:x.1=y.1<;>by_cases h2:x.2=y.2<;>simp[h1,h2,Prod.ext_iff]
 und:=⟨_,Tryz.underlying263,fun x y=>rfl⟩
 bits x:=by
  unfold eturn;rw[show(10000:Nat)=9999+1 from rfl];simp[Instr.sameBits]
theorem addm_run {V:World} {bm:Nat} {L:List ((Int×Int)×Value)} (hL:MapAt eturn V bm L) (k d v u:Int) (hv:lkV (k,d) L (.int .i64 0)= .int .i64 v):
 ∃(w1 w2:World) (i:Nat),(Instr.mapEntry 211 (.map (some bm)) (.agg #[.int .i64 k,.int .i64 d])).run Tryz.prog V= .ok (.tuple #[.int .i64 v,.int .i64 (i:Int)]) w1∧
  (Instr.lookup 211 (.map (some bm)) (.agg #[.int .i64 k,.int .i64 d]) false).run Tryz.prog w1= .ok (.int .i64 v) w1∧
  (Instr.entryStore 211 (.map (some bm)) (.int .i64 (i:Int)) (.int .i64 u)).run Tryz.prog w1= .ok () w2∧
  MapAt eturn w2 bm (mput (k,d) (.int .i64 u) L)∧V.grownBy w2 (some bm):=by
 have hlt:=hL.lt'
 cases hx:lkF (k,d) L 0 with
 |some r=>
  obtain⟨i,val⟩:=r
  have hval:val= .int .i64 v:=by rw[lkV_eq,hx]at hv;simpa using hv
  subst hval
  obtain⟨-,hi,-⟩:=lkF_spec L 0 i hx
  rw[Nat.sub_zero]at hi
  have h1:=run_entry_old keyArr hL Tryz.underlying211 (k,d) hx
  have h2:=run_look keyArr hL Tryz.underlying211 (zeroInt V) (k,d) false
  simp only[Bool.false_eq_true,if_false]at h2
  rw[hv]at h2
  have h3:=run_entry_store (P:=Tryz.prog) (t:=211) hL hi (.int .i64 u)
  refine⟨V,_,i,h1,h2,h3,?_,setBlock_grown hL⟩
  unfold mput
  rw[hx]
  exact setBlock_at hlt
 |none=>
  have hv0:v=0:=by rw[lkV_eq,hx]at hv;simpa using hv.symm
  subst hv0
  have h1:=run_entry_new keyArr hL Tryz.underlying211 (fun w=>zeroInt w) (k,d) hx
  have hM:MapAt eturn (setBlock V bm (.map (entF eturn (L ++ [((k,d),Value.int .i64 0)]) 0).toArray (L ++ [((k,d),Value.int .i64 0)]).length)) bm (L ++ [((k,d),Value.int .i64 0)]):=setBlock_at hlt
  have h2:=run_look keyArr hM Tryz.underlying211 (zeroInt _) (k,d) false
  simp only[Bool.false_eq_true,if_false]at h2
  have hlk:lkV (k,d) (L ++ [((k,d),Value.int .i64 0)]) (.int .i64 0)= .int .i64 0:=by
   rw[lkV_eq,lkF_append L _ 0 hx];simp[lkF]
  rw[hlk]at h2
  have h3:=run_entry_store (P:=Tryz.prog) (t:=211) (i:=L.length) hM (x:=(k,d)) (v0:=Value.int .i64 0) (by simp) (.int .i64 u)
  refine⟨_,_,L.length,h1,h2,h3,?_,(setBlock_grown hL).trans (setBlock_grown hM)⟩
  have hset:(L ++ [((k,d),Value.int .i64 0)]).set L.length ((k,d),Value.int .i64 u)=mput (k,d) (.int .i64 u) L:=by
   unfold mput;rw[hx];simp
  rw[hset]
  exact setBlock_at (by rw[setBlock_size];exact hlt)
end Go.Proofs.YtmmlmhnjjfnpnaaGreat
namespace Go.Proofs.YtmmlmhnjjfnpnaaGreat
open Go.RowKit Go.ChangeMaps
def PaidM (w:World) (b:Nat) (done:List (Int×Int×Int)):Prop:=
 ∃L:List ((Int×Int)×Value),MapAt eturn w b L∧∀k:Int×Int,lkV k L (.int .i64 0)= .int .i64 (grpS done k.1 k.2)
theorem PaidM.to {w W:World} {b:Nat} {done:List (Int×Int×Int)} (h:PaidM w b done) (hW:∃z:Since w,W=z.w):PaidM W b done:=by
 obtain⟨L,h1,h2⟩:=h;exact⟨L,h1.to' hW,h2⟩
def grpG (n:Nat) (rs ds ams:List Int):List (Int×Int×Int):=(List.range n).map fun i=>(at0 rs i,at0 ds i,at0 ams i)
theorem grpG_at {n:Nat} {rs ds ams:List Int} {k:Nat} (hk:k<n):(grpG n rs ds ams)[k]? =some (at0 rs k,at0 ds k,at0 ams k):=by
 unfold grpG;rw[List.getElem?_map,List.getElem?_range hk];rfl
theorem grpG_len (n:Nat) (rs ds ams:List Int):(grpG n rs ds ams).length=n:=by simp[grpG]
def AppRes (w:World) (L:List Int) (o:Ending) (w':World):Prop:=
 ∃(v mv:Value) (y:Since w),o= .returned (.tuple #[v,mv])∧w'=y.w∧y.w.ownsRow w.heap.size 3 1 v L.length (L.map (Value.int .i64))
set_option maxRecDepth 100000 in
set_option maxHeartbeats 16000000 in
theorem dapply_calls (w:World) (x:Since w) (cap:Int) (n:Nat) (rs ds ams:List Int) (ra da aa:Option Addr) (rc dc ac:Nat) (hr:IntRow w ra rs) (hd:IntRow w da ds) (ha:IntRow w aa ams) (h:DcOk cap rs ds ams n):
 Calls Tryz.prog 108 #[.int .i64 cap,.slice ra n rc,.slice da n dc,.slice aa n ac] x.w (AppRes w (paidL cap (grpG n rs ds ams))):=by
 have HP:=Lib.hid (fun(v mv:Value) (y:Since w) (h:y.w.ownsRow w.heap.size 3 1 v (paidL cap (grpG n rs ds ams)).length ((paidL cap (grpG n rs ds ams)).map (Value.int .i64)))=>show AppRes w (paidL cap (grpG n rs ds ams)) (.returned (.tuple #[v,mv])) y.w from⟨v,mv,y,rfl,rfl,h⟩);generalize AppRes w (paidL cap (grpG n rs ds ams))=PO at *;have HR:=Lib.hid hr;have HD:=Lib.hid hd;have HA:=Lib.hid ha;have HO:=Lib.hid h;have HG:=Lib.hid (fun k (hk:k<n)=>grpG_at (rs:=rs) (ds:=ds) (ams:=ams) hk);have HGl:=Lib.hid (grpG_len n rs ds ams);have hn:=h.nb;have hcap:=h.c;have HS:=Lib.hid (pdS_start cap hcap.1 (grpG n rs ds ams));obtain⟨hc0,hc1⟩:=hcap;clear hr hd ha h;generalize grpG n rs ds ams=G at *;have hmm:=@run_makeMap Tryz.prog;go_enter Tryz.func108,Tryz.ntmps108;go_wp2_with fail;have hm0:MapAt eturn (x.w.alloc (.map #[] 0)) x.w.heap.size []:=by
  show(x.w.heap.push _)[x.w.heap.size]? = _;simp[entF]
 obtain⟨y1,hy1⟩:=x.alloc (.map #[] 0);rw[hy1]at hm0⊢;have Hm0:=Lib.hid (show PaidM y1.w x.w.heap.size []from⟨[],hm0,fun k=>rfl⟩);have Hgb:=Lib.hid x.b.size;clear hy1 hm0 hmm;generalize x.w.heap.size=bm at *;go_loopw [10,18] (fun v i wr=>∃(k:Nat) (y:Since w) (done:List (Int×Int×Int)) (outs:List Int),k≤n∧i= .int .i64 k∧wr=y.w∧PdS cap G k done outs∧y.w.ownsRow w.heap.size 3 1 v outs.length (outs.map (Value.int .i64))∧PaidM y.w bm done) (fun _ i _ =>n-(intOf i).toNat)
 case atStart=>exact⟨0,y1,[],[],by omega,rfl,rfl,HS.out,⟨rfl,.inl ⟨rfl,rfl⟩⟩,Hm0.out⟩
 case round=>
  clear Hm0 HS;obtain⟨k,y,done,outs,hk,rfl,rfl,hs,hown,hpm⟩:=hrel;obtain⟨a4,n4,c4,rfl⟩:=own_slice hown;have HS:=Lib.hid hs;have Hown:=Lib.hid hown;have Hpm:=Lib.hid hpm;clear hs hown hpm;by_cases hlt:k<n
  ·obtain⟨b1,o1,rfl,hb1,hc1'⟩:=row_at HR.out (i:=k) (by rw[HO.out.r];exact hlt)
   obtain⟨b2,o2,rfl,hb2,hc2'⟩:=row_at HD.out (i:=k) (by rw[HO.out.d];exact hlt);obtain⟨b3,o3,rfl,hb3,hc3'⟩:=row_at HA.out (i:=k) (by rw[HO.out.a];exact hlt);have hx1:∀y:Since w,y.w.cell? ⟨b1,o1+k,none⟩=some (.int .i64 (at0 rs k)):=fun y=>Since.cell hc1' hb1 y;have hx2:∀y:Since w,y.w.cell? ⟨b2,o2+k,none⟩=some (.int .i64 (at0 ds k)):=fun y=>Since.cell hc2' hb2 y;have hx3:∀y:Since w,y.w.cell? ⟨b3,o3+k,none⟩=some (.int .i64 (at0 ams k)):=fun y=>Since.cell hc3' hb3 y;have hav:=HO.out.av k hlt;have HGk:=Lib.hid (HG.out k hlt);have HN:=Lib.hid (HS.out.next HGk.out hav);have HB:=Lib.hid (HS.out.bd (at0 rs k) (at0 ds k));have hk0:(0:Int)≤(k:Int):=by omega
   have hkl:(k:Int)<(n:Int):=by omega
   clear hc1' hb1 hc2' hb2 hc3' hb3;obtain⟨r,hrv⟩:∃r,at0 rs k=r:=⟨_,rfl⟩
   obtain⟨d,hdv⟩:∃d,at0 ds k=d:=⟨_,rfl⟩
   obtain⟨a,hav'⟩:∃a,at0 ams k=a:=⟨_,rfl⟩
   rw[hrv]at hx1 HN HB HGk;rw[hdv]at hx2 HN HB HGk;rw[hav']at hx3 HN hav HGk;clear hrv hdv hav';go_upto_region 6 with fail;have HSf:=Lib.hid (fun(w':World) (hw:IsSince w w')=>show w'.cell? ⟨b1,o1+k,none⟩=some (.int .i64 r)∧w'.cell? ⟨b2,o2+k,none⟩=some (.int .i64 d)from⟨IsSince.cell hx1 hw,IsSince.cell hx2 hw⟩);refine wp_region_M (fun w'=>w'.cell? ⟨b1,o1+k,none⟩=some (.int .i64 r)∧w'.cell? ⟨b2,o2+k,none⟩=some (.int .i64 d)) 10 (by kernel_rfl) (HSf.out _ (IsSince.drew' (IsSince.of y))) (fun hS=>?_);refine tk 0 ?_ rfl (by kernel_rfl) hS (fun _ _ _ h=>h) ?_ ?_;rotate_left
   ·(intro w h;(try dsimp only at h);go_split_ands;go_simp;try with_reducible rfl)
   (try simp only[Act.put,actS])
   refine tk 1 ?_ rfl (by kernel_rfl) hS (fun _ _ _ h=>h) ?_ ?_;rotate_left
   ·(intro w h;(try dsimp only at h);go_split_ands;go_simp;try with_reducible rfl)
   (try simp only[Act.put,actS])
   refine tk 2 ?_ rfl (by kernel_rfl) hS (fun _ _ _ h=>h) ?_ ?_;rotate_left
   ·(intro w h;(try dsimp only at h);go_split_ands;go_simp;try with_reducible rfl)
   (try simp only[Act.put,actS])
   refine tk 3 ?_ rfl (by kernel_rfl) hS (fun _ _ _ h=>h) ?_ ?_;rotate_left
   ·(intro w h;(try dsimp only at h);go_split_ands;go_simp;try with_reducible rfl)
   (try simp only[Act.put,actS])
   refine tk 4 ?_ rfl (by kernel_rfl) hS (fun _ _ _ h=>h) ?_ ?_;rotate_left
   ·(intro w h;(try dsimp only at h);go_split_ands;go_simp;try with_reducible rfl)
   (try simp only[Act.put,actS])
   refine tk 5 ?_ rfl (by kernel_rfl) hS (fun _ _ _ h=>h) ?_ ?_;rotate_left
   ·(intro w h;(try dsimp only at h);go_split_ands;go_simp;try with_reducible rfl)
   (try simp only[Act.put,actS])
   refine tk 6 ?_ rfl (by kernel_rfl) hS (fun _ _ _ h=>h) ?_ ?_;rotate_left
   ·(intro w h;(try dsimp only at h);go_split_ands;go_simp;try with_reducible rfl)
   (try simp only[Act.put,actS])
   refine tk 7 ?_ rfl (by kernel_rfl) hS (fun _ _ _ h=>h) ?_ ?_;rotate_left
   ·(intro w h;(try dsimp only at h);go_split_ands;go_simp;try with_reducible rfl)
   (try simp only[Act.put,actS])
   refine tk 8 ?_ rfl (by kernel_rfl) hS (fun _ _ _ h=>h) ?_ ?_;rotate_left
   ·(intro w h;(try dsimp only at h);go_split_ands;go_simp;try with_reducible rfl)
   (try simp only[Act.put,actS])
   refine tk1 9 (by kernel_rfl) rfl fun K hK=>?_;go_simp;refine tkK hK (HSf.out _ (IsSince.drew' (IsSince.alloc (IsSince.of y) _))) ?_;clear hK K hS;intro hS;(try simp only[Act.put,actS])
   refine tk1 10 (by kernel_rfl) rfl fun K hK=>?_;go_simp;refine tkL hK (by kernel_rfl) ?_;clear hK K hS;(try simp only[Act.put,actS])
   obtain⟨y2,e2,hst0,hsz0,hlt0,HX0⟩:=grow1d y [.int .i64 r,.int .i64 d] 263;rw[e2];obtain⟨hx0,hx1,hxf⟩:=cx2 HX0;(replace Hpm:=Lib.hid (Hpm.out.to hst0);replace Hown:=Lib.hid (own_to Hown.out hst0))
   clear e2 hst0;generalize y.w.heap.size=g at *;obtain⟨Hhx0,Hhx1,Hhxf⟩:=bx2 HX0;have Hhxg:=Lib.hid (And.intro hsz0 hlt0);clear hlt0 hsz0 HX0;obtain⟨L,hL,hLv⟩:=Hpm.out;have HL:=Lib.hid hL;have HLv:=Lib.hid hLv;have hlv:=hLv (r,d);obtain⟨s,hs⟩:∃s,grpS done r d=s:=⟨_,rfl⟩
   rw[hs]at hlv HB;have hsb:=HB.out;have hs0:0≤s:=hsb.1;have hs1:s≤(k:Int)*1000000000000:=hsb.2.1;have hs2:s≤256000000000000:=by omega
   have hsc:=hsb.2.2;have Hpay:=Lib.hid (show payM cap done r d a=if 0<cap then min a (cap-s)else a from by unfold payM;rw[hs]);have Hs:=Lib.hid hs;clear hL hLv hsb hs;have hlk0:=fun(V:World) (h:MapAt eturn V bm L)=>run_look keyArr h Tryz.underlying211 (zeroInt V) (r,d) false;rw[hlv]at hlk0;unfold eturn at hlk0;simp only[Bool.false_eq_true,if_false]at hlk0;have Hlk:=Lib.hid hlk0;clear hlk0;generalize payM cap done r d a=m at *;obtain⟨hn1,hn2⟩:=HN.out.2;have HN1:=Lib.hid HN.out.1;clear HN HB;have hmb:(0<cap∧m=min a (cap-s))∨(cap=0∧m=a):=by
    by_cases hcp:0<cap
    ·exact .inl ⟨hcp,Hpay.out.trans (if_pos hcp)⟩
    ·exact .inr ⟨by omega,Hpay.out.trans (if_neg hcp)⟩
   have hw2:wrap64 (s+m)=s+m:=IntWalk.wrap64_in _ ⟨by omega,by omega⟩;have hms:0≤s+m∧s+m≤257000000000000:=by omega
   have hlk1:=Hlk.out y2.w HL.out;have Hn:=Lib.hid (show∀j,some bm=some j→w.heap.size≤j from fun j hj=>by cases hj;exact Hgb.out);rcases hmb with⟨hcp,hm⟩|⟨hcp,hm⟩
   ·have hsc':=hsc hcp
    have hw1:wrap64 (cap-s)=cap-s:=IntWalk.wrap64_in _ ⟨by omega,by omega⟩;have Hm:=Lib.hid hm.symm;clear hsc hm hw2 hms;go_upto_region 9 with fail;rw[Hm.out];obtain⟨w1,w2,iE,hE,hK,hS,hM,hG⟩:=addm_run (V:=y2.w.drew) (L:=L) HL.out r d s (s+m) (HLv.out (r,d) |>.trans (by rw[Hs.out]));have HM:=Lib.hid hM;have HG:=Lib.hid hG;have hw2:wrap64 (s+m)=s+m:=IntWalk.wrap64_in _ ⟨by omega,by omega⟩;have hw3:wrap64 (m+s)=s+m:=(IntWalk.wrap64_in _ ⟨by omega,by omega⟩).trans (Int.add_comm _ _);have g0:y2.w.drew.cell? ⟨g,0,none⟩=some (.int .i64 r):=Hhx0 (Since.self y2.w);have g1:y2.w.drew.cell? ⟨g,1,none⟩=some (.int .i64 d):=Hhx1 (Since.self y2.w);have hlkd:=Hlk.out y2.w.drew HL.out;clear hM hG hlk1;go_region
    have HMw:=Lib.hid (HM.out.to' (IsSince.alloc (IsSince.self w2) (.cells #[.int .i64 m] 3)));have Hown2:=Lib.hid (own_keep (own_to Hown.out (IsSince.drew' (IsSince.of (Since.self y2.w)))) HG.out (fun b hb e=>own_ne (own_to Hown.out (IsSince.drew' (IsSince.of (Since.self y2.w)))) (show y2.w.drew.heap[bm]? = _ from HL.out) (by simp) b hb (Option.some.inj e)));have HI2:=Lib.hid (show IsSince w w2 from by
     obtain⟨yd,hyd⟩:=y2.drew;have h:=HG.out;rw[hyd]at h;exact yd.grown h Hn.out)
    have Hb2:=Lib.hid (show w.heap.size≤w2.heap.size from IsSince.size HI2.out);have HPv:=Lib.hid (show∀k:Int×Int,lkV k (mput (r,d) (.int .i64 (s+m)) L) (.int .i64 0)= .int .i64 (grpS (done ++ [(r,d,m)]) k.1 k.2)from fun k=>by
     obtain⟨r',d'⟩:=k;rw[lkV_mput,grpS_snoc];by_cases e:(r',d')=(r,d)
     ·rw[if_pos e,if_pos e]
      obtain⟨rfl,rfl⟩:=Prod.mk.inj e;rw[Hs.out]
     ·rw[if_neg e,if_neg e]
      exact HLv.out (r',d'))
    clear hE hK hS hw2 hw3 g0 g1 hlkd;go_wp2_with(at_builtin;(refine wpList_appendK (k:=1) (w0:=w) ?hw rfl _ _ 22 rfl w.heap.size (Nat.le_refl _) ?hb 3 (.int .i64 0) 8 sIntC (.slice a4 n4 c4) outs.length (outs.map (Value.int .i64)) rfl ?hown ⟨w2.heap.size,0,none⟩ 1 1 [.int .i64 m] rfl rfl ?hc (fun u hu=>by simp at hu;subst hu;rfl) ?h63 ?hbytes ?_;rotate_right 1;intro v2 q2 hown4 _ hg4;have Hg4:=Lib.hid hg4;have Hown4:=Lib.hid hown4;clear hg4 hown4))
    case hw=>exact IsSince.alloc HI2.out _
    case hb=>have:=Hb2.out;simp;omega
    case hown=>exact own_up Hown2.out
    case hc=>exact blk_cells [.int .i64 m] _ rfl
    case h63=>have:=HS.out.len;unfold maxLen;omega
    case hbytes=>have:=HS.out.len;omega
    have HM4:=Lib.hid (show PaidM q2.w bm (done ++ [(r,d,m)])from⟨_,MapAt.keep HMw.out Hg4.out (fun e=>own_ne (own_up Hown2.out) (show(w2.alloc (.cells #[.int .i64 m] 3)).heap[bm]? = _ from HMw.out) (by simp) bm e.symm rfl),HPv.out⟩);have Hown5:=Lib.hid (show q2.w.ownsRow w.heap.size 3 1 v2 (outs ++ [m]).length ((outs ++ [m]).map (Value.int .i64))from by rw[List.length_append,List.map_append];exact Hown4.out);go_wp2_with fail;go_roundw
    case rel=>exact⟨k+1,q2,_,_,by omega,by go_num,rfl,HN1.out,Hown5.out,HM4.out⟩
    case measure=>simp[intOf];omega
   ·have hcn:¬0<cap:=by omega
    have Hm:=Lib.hid hm.symm;clear hsc hm hw2 hms hcp;go_upto_region 9 with fail;rw[Hm.out];obtain⟨w1,w2,iE,hE,hK,hS,hM,hG⟩:=addm_run (V:=y2.w.drew) (L:=L) HL.out r d s (s+m) (HLv.out (r,d) |>.trans (by rw[Hs.out]));have HM:=Lib.hid hM;have HG:=Lib.hid hG;have hw2:wrap64 (s+m)=s+m:=IntWalk.wrap64_in _ ⟨by omega,by omega⟩;have hw3:wrap64 (m+s)=s+m:=(IntWalk.wrap64_in _ ⟨by omega,by omega⟩).trans (Int.add_comm _ _);have g0:y2.w.drew.cell? ⟨g,0,none⟩=some (.int .i64 r):=Hhx0 (Since.self y2.w);have g1:y2.w.drew.cell? ⟨g,1,none⟩=some (.int .i64 d):=Hhx1 (Since.self y2.w);have hlkd:=Hlk.out y2.w.drew HL.out;clear hM hG hlk1;go_region
    have HMw:=Lib.hid (HM.out.to' (IsSince.alloc (IsSince.self w2) (.cells #[.int .i64 m] 3)));have Hown2:=Lib.hid (own_keep (own_to Hown.out (IsSince.drew' (IsSince.of (Since.self y2.w)))) HG.out (fun b hb e=>own_ne (own_to Hown.out (IsSince.drew' (IsSince.of (Since.self y2.w)))) (show y2.w.drew.heap[bm]? = _ from HL.out) (by simp) b hb (Option.some.inj e)));have HI2:=Lib.hid (show IsSince w w2 from by
     obtain⟨yd,hyd⟩:=y2.drew;have h:=HG.out;rw[hyd]at h;exact yd.grown h Hn.out)
    have Hb2:=Lib.hid (show w.heap.size≤w2.heap.size from IsSince.size HI2.out);have HPv:=Lib.hid (show∀k:Int×Int,lkV k (mput (r,d) (.int .i64 (s+m)) L) (.int .i64 0)= .int .i64 (grpS (done ++ [(r,d,m)]) k.1 k.2)from fun k=>by
     obtain⟨r',d'⟩:=k;rw[lkV_mput,grpS_snoc];by_cases e:(r',d')=(r,d)
     ·rw[if_pos e,if_pos e]
      obtain⟨rfl,rfl⟩:=Prod.mk.inj e;rw[Hs.out]
     ·rw[if_neg e,if_neg e]
      exact HLv.out (r',d'))
    clear hE hK hS hw2 hw3 g0 g1 hlkd;go_wp2_with(at_builtin;(refine wpList_appendK (k:=1) (w0:=w) ?hwB rfl _ _ 22 rfl w.heap.size (Nat.le_refl _) ?hbB 3 (.int .i64 0) 8 sIntC (.slice a4 n4 c4) outs.length (outs.map (Value.int .i64)) rfl ?hownB ⟨w2.heap.size,0,none⟩ 1 1 [.int .i64 m] rfl rfl ?hcB (fun u hu=>by simp at hu;subst hu;rfl) ?h63B ?hbytesB ?_;rotate_right 1;intro v2 q2 hown4 _ hg4;have Hg4:=Lib.hid hg4;have Hown4:=Lib.hid hown4;clear hg4 hown4))
    case hwB=>exact IsSince.alloc HI2.out _
    case hbB=>have:=Hb2.out;simp;omega
    case hownB=>exact own_up Hown2.out
    case h63B=>have:=HS.out.len;unfold maxLen;omega
    case hbytesB=>have:=HS.out.len;omega
    have HM4:=Lib.hid (show PaidM q2.w bm (done ++ [(r,d,m)])from⟨_,MapAt.keep HMw.out Hg4.out (fun e=>own_ne (own_up Hown2.out) (show(w2.alloc (.cells #[.int .i64 m] 3)).heap[bm]? = _ from HMw.out) (by simp) bm e.symm rfl),HPv.out⟩);have Hown5:=Lib.hid (show q2.w.ownsRow w.heap.size 3 1 v2 (outs ++ [m]).length ((outs ++ [m]).map (Value.int .i64))from by rw[List.length_append,List.map_append];exact Hown4.out);go_wp2_with fail;go_roundw
    case rel=>exact⟨k+1,q2,_,_,by omega,by go_num,rfl,HN1.out,Hown5.out,HM4.out⟩
    case measure=>simp[intOf];omega
  ·obtain rfl:k=n:=by omega
   have HE:=Lib.hid (show outs=paidL cap G from by have h:=HS.out;rw[←HGl.out]at h;exact h.done);have HR2:=Lib.hid (HP.out _ (.map (some bm)) y (by rw[←HE.out];exact Hown.out));clear Hown Hpm HS;go_wp2_with fail;exact HR2.out
def PaidRes (w:World) (L:List Int) (o:Ending) (w':World):Prop:=
 ∃(v:Value) (y:Since w),o= .returned (.tuple #[v,.int .i64 0])∧w'=y.w∧y.w.ownsRow w.heap.size 3 1 v L.length (L.map (Value.int .i64))
theorem dcapply_calls (w:World) (x:Since w) (cap:Int) (n:Nat) (rs ds ams:List Int) (ra da aa:Option Addr) (rc dc ac:Nat) (hr:IntRow w ra rs) (hd:IntRow w da ds) (ha:IntRow w aa ams) (h:DcOk cap rs ds ams n):
 Calls Tryz.prog 55 #[.int .i64 cap,.slice ra n rc,.slice da n dc,.slice aa n ac] x.w (PaidRes w (paidL cap (grpG n rs ds ams))):=by
 have HP:=Lib.hid (fun(v:Value) (y:Since w) (h:y.w.ownsRow w.heap.size 3 1 v (paidL cap (grpG n rs ds ams)).length ((paidL cap (grpG n rs ds ams)).map (Value.int .i64)))=>show PaidRes w (paidL cap (grpG n rs ds ams)) (.returned (.tuple #[v,.int .i64 0])) y.w from⟨v,y,rfl,rfl,h⟩);generalize PaidRes w (paidL cap (grpG n rs ds ams))=PO at *;have HC:=Lib.hid (dcheck_calls w x cap n rs ds ams ra da aa rc dc ac hr hd ha h);have HA:=Lib.hid (fun y:Since w=>dapply_calls w y cap n rs ds ams ra da aa rc dc ac hr hd ha h);clear hr hd ha h;go_enter Tryz.func55,Tryz.ntmps55;go_upto_region 4 with(go_at_call 107;(with_reducible refine HC.out.mono ?_);rintro _ _ ⟨rfl,y1,rfl⟩)
 have hA:=HA.out y1;clear HC HA;go_wp2_with(go_at_call 108;(with_reducible refine hA.mono ?_);clear hA;rintro _ _ ⟨v,mv,y2,rfl,rfl,hown⟩;obtain⟨a3,n3,c3,rfl⟩:=own_slice hown;have HR:=Lib.hid (HP.out _ y2 hown);clear hown);exact HR.out
end Go.Proofs.YtmmlmhnjjfnpnaaGreat
