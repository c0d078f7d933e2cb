/- Texts that belong together. -/
import Derived.Test.YtmmlmhnjjfnpnaaGreatTpMzj
set_option linter.all false
namespace Go.Proofs.YtmmlmhnjjfnpnaaGreat
def f1:Flt:=⟨1,1,1,[],[]⟩
def e1:Ev:=⟨0,1,10,10,2,0,0,0,0⟩
def e2:Ev:=⟨0,2,1000,1010,3,0,0,0,7⟩
def e3:Ev:=⟨0,3,1600,1605,2,0,0,0,0⟩
def evs3:List Ev:=[e1,e2,e3]
def t1:Tar:=⟨0,100,60,0,20,0⟩
def p1:Prc:=⟨[t1],[],[],[],0,[],0⟩
def r1 (la:Option Addr) (lc:Nat) (pa:Option Addr) (pc:Nat):Ride:=⟨7,0,1000,1010,1600,1605,false,la,[⟨0,1000,1010,1600,1605⟩],lc,pa,[],pc,2,0,2,0⟩
theorem f1_ok:fltE f1=0:=by decide +kernel
theorem evs3_set:setL evs3=evs3:=setL_self (by simp only[evs3,List.pairwise_cons];decide +kernel) (by simp only[evs3,List.pairwise_cons];decide +kernel)
theorem evs3_rides:ridesL f1 evs3=[r1 none 0 none 0]:=by kernel_rfl
theorem evs3_all:sortI (ridesL f1 (setL evs3))=[r1 none 0 none 0]:=by
 rw[evs3_set,evs3_rides];exact List.perm_singleton.1 (sortI_perm _)
theorem r1_of {R:List Ride} (h:R.map Ride.br=sortI (ridesL f1 (setL evs3))):∃la lc pa pc,R=[r1 la lc pa pc]:=by
 rw[evs3_all]at h;obtain⟨r,rfl,h2⟩:=List.map_eq_singleton_iff.1 h;obtain⟨id,rd,s0,s1,e0,e1,op,la,legs,lc,pa,ps,pc,fw,fp,wh,pl⟩:=r;simp only[Ride.br,r1,Ride.mk.injEq]at h2;obtain⟨rfl,rfl,rfl,rfl,rfl,rfl,rfl,_,rfl,_,_,rfl,_,rfl,rfl,rfl,rfl⟩:=h2;exact⟨la,lc,pa,pc,rfl⟩
section
variable (la:Option Addr) (lc:Nat) (pa:Option Addr) (pc:Nat)
theorem r1_ivE:ivE (r1 la lc pa pc)=0:=by kernel_rfl
theorem r1_secR:secR (r1 la lc pa pc)=590:=by
 unfold secR;rw[if_pos (r1_ivE la lc pa pc),lenS_eq];have h:cnt (ridS (r1 la lc pa pc)) 4294944000=cnt (fun t=>inW t ⟨1010,1600⟩) 4294944000:=cnt_congr _ fun t _ _ =>by
  unfold ridS sureW;rw[if_pos (r1_ivE la lc pa pc)];simp[r1,hasW];rfl
 rw[h,cnt_win ⟨1010,1600⟩ (by decide) (by decide)];decide +kernel
theorem r1_secP:secP (r1 la lc pa pc)=0:=by
 unfold secP;rw[if_pos (r1_ivE la lc pa pc),lenS_eq];exact cnt_none _ fun t _ _ =>by simp[pauS,r1,hasW]
theorem r1_cnt:cntL [r1 la lc pa pc]=[r1 la lc pa pc]:=by
 have h:([r1 la lc pa pc].filter fun r=>!r.op)=[r1 la lc pa pc]:=rfl;unfold cntL;rw[h];exact List.perm_singleton.1 (sortB_perm _)
theorem r1_use {u:Nat→Int} (h:IsUse p1.ps [r1 la lc pa pc] u):u 0= -1:=by
 rw[h 0 Nat.one_pos];rfl
theorem r1_bil:bilL p1 (r1 la lc pa pc) (-1)=⟨[⟨1,0,100⟩,⟨2,0,200⟩],300⟩:=by
 have h:bil3 p1 (r1 la lc pa pc)=⟨[⟨1,0,100⟩,⟨2,0,200⟩],300⟩:=by
  unfold bil3;rw[r1_secR,r1_secP];rfl
 unfold bilL;rw[if_neg (by decide)];unfold bil4;rw[h];rfl
theorem r1_bils {u:Nat→Int} (h:u 0= -1):bilsE p1 [r1 la lc pa pc] u 1=0:=by
 show(if(0:Int)≠0 then(0:Int)else bilE p1 (r1 la lc pa pc) (u 0))=0;rw[if_neg (by decide),h];unfold bilE;rw[r1_bil,r1_secR,r1_secP];rfl
theorem p1_ok:prcsE f1 p1=0:=by decide +kernel
theorem r1_ridesE:ridesE [r1 la lc pa pc]=0:=by
 refine(ridesE_ok (l:=[r1 la lc pa pc]) (by simp) (fun j hj x hx=>?_)).trans ?_
 ·simp at hj
  subst hj;obtain rfl:r1 la lc pa pc=x:=Option.some.inj hx;exact((ivE_zero _).1 (r1_ivE la lc pa pc)).1
 ·rfl
theorem r1_farE {u:Nat→Int} (h:prcsE f1 p1=0→ridesE [r1 la lc pa pc]=0→IsUse p1.ps (cntL [r1 la lc pa pc]) u):faresE f1 p1 [r1 la lc pa pc] u=0:=by
 have hu:=h p1_ok (r1_ridesE la lc pa pc);rw[r1_cnt]at hu;unfold faresE;rw[if_neg (by rw[p1_ok];decide),if_neg (by rw[r1_ridesE];decide),r1_cnt];exact r1_bils la lc pa pc (r1_use la lc pa pc hu)
theorem r1_far {u:Nat→Int} (h:prcsE f1 p1=0→ridesE [r1 la lc pa pc]=0→IsUse p1.ps (cntL [r1 la lc pa pc]) u):farL p1 (cntL [r1 la lc pa pc]) u=[⟨7,0,⟨[⟨1,0,100⟩,⟨2,0,200⟩],300⟩⟩]:=by
 have hu:=h p1_ok (r1_ridesE la lc pa pc);rw[r1_cnt]at hu⊢;have hu0:=r1_use la lc pa pc hu;have hb:bilL p1 (rAt [r1 la lc pa pc] 0) (u 0)=⟨[⟨1,0,100⟩,⟨2,0,200⟩],300⟩:=by rw[hu0];exact r1_bil la lc pa pc
 have hg:grpL p1 [r1 la lc pa pc] u=[(0,0,300)]:=by
  show[((rAt [r1 la lc pa pc] 0).rd,day (rAt [r1 la lc pa pc] 0),(bilL p1 (rAt [r1 la lc pa pc] 0) (u 0)).tt)]= _;rw[hb];rfl
 show[farI p1 [r1 la lc pa pc] u 0]= _;unfold farI;rw[hb,hg];rfl
end
end Go.Proofs.YtmmlmhnjjfnpnaaGreat
namespace Go.Proofs.YtmmlmhnjjfnpnaaGreat
open Go.RowKit
theorem els_newT {α:Type} {enc:α→List Value} {k:Nat} (hk:∀x,(enc x).length=k) (w:World) (l:List α) (T:TypeId):Els enc k (w.alloc (.cells (flat enc l).toArray T)) (some ⟨w.heap.size,0,none⟩) l:=by
 intro i x hx;refine⟨w.heap.size,0,rfl,by simp,fun j v hv=>?_⟩;have:=cell_new_at w (flat enc l) T (i*k+j) v (flat_at hk l i x j v hx hv);rw[Addr.add_lit]at this;rw[show 0+i*k+j=0+(i*k+j) by omega];exact this
theorem els_oneT {α:Type} {enc:α→List Value} {k:Nat} {w:World} {g:Nat} {x:α} (hg:g<w.heap.size) (h:∀j v,(enc x)[j]? =some v→w.cell? ⟨g,j,none⟩=some v):Els enc k w (some ⟨g,0,none⟩) [x]:=by
 intro i y hy;match i,hy with
 |0,hy=>
  obtain rfl:x=y:=Option.some.inj hy
  exact⟨g,0,rfl,hg,fun j v hv=>by rw[show 0+0*k+j=j by omega];exact h j v hv⟩
 |i+1,hy=>simp at hy
theorem els_nilT {α:Type} {enc:α→List Value} {k:Nat} {w:World} {a:Option Addr}:Els enc k w a ([]:List α):=fun i x h=>by simp at h
theorem RideM.at {w:World} {B:Nat} {r:Ride} (h:RideM w B r) (h1:r.legs.length≤9223372036854775807) (h2:r.pauses.length≤9223372036854775807):r.At w:=by
 obtain⟨_,a,c,e1,_,h3,_,_⟩:=own_els Leg.len (by decide) h.l;obtain⟨_,a',c',e2,_,h4,_,_⟩:=own_els Pse.len (by decide) h.p;unfold Ride.lv at e1;unfold Ride.pv at e2;simp only[Value.slice.injEq]at e1 e2;exact⟨by rw[e1.1];exact h3,by rw[e2.1];exact h4,h1,h2⟩
def CityRes (w:World) (o:Ending) (w':World):Prop:=
 ∃(la:Option Addr) (lc:Nat) (pa:Option Addr) (pc:Nat) (a:Option Addr) (c:Nat) (y:Since w),o= .returned (.tuple #[.slice a 1 c,.int .i64 0])∧w'=y.w∧RideRow y.w a [r1 la lc pa pc]
theorem city_res {w:World} {o:Ending} {w':World} (h:AllRes w f1 (setL evs3) o w'):CityRes w o w':=by
 unfold AllRes at h;rw[f1_ok]at h;obtain⟨v,y,rfl,rfl,⟨h1,_⟩|⟨_,R,h2,h3,h4⟩⟩:=h
 ·exact absurd rfl h1
 ·obtain⟨la,lc,pa,pc,rfl⟩:=r1_of h4
  obtain⟨_,a,c,e,_,h5,_,_⟩:=own_els Ride.len (by decide) h2;refine⟨la,lc,pa,pc,a,c,y,by rw[e];rfl,rfl,h5,fun r hr=>?_⟩;have h6:=h3 r hr;rw[List.mem_singleton]at hr;subst hr;exact h6.at (by simp[r1]) (by simp[r1])
def CfRes (w:World) (o:Ending) (w':World):Prop:=
 ∃(g c:Nat) (y:Since w),o= .returned (.tuple #[.slice (some ⟨g,0,none⟩) 1 c,.int .i64 0])∧w'=y.w∧y.w.cell? ⟨g,0,none⟩=some (.int .i64 7)∧y.w.cell? ⟨g,3,none⟩=some (.int .i64 300)
theorem cf_res {w:World} {o:Ending} {w':World} {la:Option Addr} {lc:Nat} {pa:Option Addr} {pc:Nat} (h:FaresRes w f1 p1 [r1 la lc pa pc] o w'):CfRes w o w':=by
 unfold FaresRes at h;obtain⟨v,e,y,u,rfl,rfl,he,hu,h⟩:=h;have he0:=he.trans (r1_farE la lc pa pc hu);subst he0;rcases h with⟨h1,_⟩|⟨_,F,hF⟩
 ·exact absurd rfl h1
 ·have hp:=hF.f
  rw[r1_far la lc pa pc hu]at hp;obtain⟨x,rfl,hx⟩:=List.map_eq_singleton_iff.1 (List.perm_singleton.1 hp);obtain⟨id,rd,ia,it,ic,tt⟩:=x;simp only[Fre.far,Far.mk.injEq,Bil.mk.injEq]at hx;obtain⟨rfl,rfl,rfl,rfl⟩:=hx;obtain⟨g,c,rfl,_,_⟩:=own_some hF.r (by simp);exact⟨g,c,y,rfl,rfl,(own_cell hF.r (j:=0) rfl).1 (Since.self _),(own_cell hF.r (j:=3) rfl).1 (Since.self _)⟩
set_option maxRecDepth 100000 in
set_option maxHeartbeats 16000000 in
theorem fareAwake_calls (w:World) (x:Since w):Calls Tryz.prog 7 #[] x.w fun o w'=>o= .returned (.bool true)∧∃y:Since w,w'=y.w:=by
 go_enter Tryz.func7,Tryz.ntmps7;go_upto_region 2 with fail;obtain⟨y1,e2,hst0,hsz0,hlt0,HX0⟩:=grow1 x [.int .i64 1,.int .i64 1,.int .i64 1,.slice none 0 0,.slice none 0 0] 24;rw[e2];obtain⟨hx0,hx1,hx2,hx3,hx4,hxf⟩:=cx5 HX0;skip;clear e2 hst0;generalize x.w.heap.size=g1 at *;obtain⟨Hhx0,Hhx1,Hhx2,Hhx3,Hhx4,Hhxf⟩:=bx5 HX0;have Hhxg:=Lib.hid (And.intro hsz0 hlt0);clear hlt0 hsz0 HX0;clear hx0 hx1 hx2 hx3 hx4 hxf Hhxf;go_upto_region 3 with fail;obtain⟨y2,e2,hst0,hsz0,hlt0,HX0,HX1⟩:=grow2 y1 [.int .i64 0,.int .i64 100,.int .i64 60,.int .i64 0,.int .i64 20,.int .i64 0] 27 [.slice (some ⟨y1.w.heap.size,0,none⟩) 1 1,.slice none 0 0,.slice none 0 0,.slice none 0 0,.int .i64 0,.slice none 0 0,.int .i64 0] 53;rw[e2];obtain⟨hy0_0,hy0_1,hy0_2,hy0_3,hy0_4,hy0_5,hy0_f⟩:=cx6 HX0;obtain⟨hy1_0,hy1_1,hy1_2,hy1_3,hy1_4,hy1_5,hy1_6,hy1_f⟩:=cx7 HX1;(have Hst:=Lib.hid hst0)
 clear e2 hst0;generalize y1.w.heap.size=g2 at *;obtain⟨Hhy0_0,Hhy0_1,Hhy0_2,Hhy0_3,Hhy0_4,Hhy0_5,Hhy0_f⟩:=bx6 HX0;obtain⟨Hhy1_0,Hhy1_1,Hhy1_2,Hhy1_3,Hhy1_4,Hhy1_5,Hhy1_6,Hhy1_f⟩:=bx7 HX1;have Hhyg:=Lib.hid (And.intro hsz0 hlt0);clear hlt0 hsz0 HX0 HX1;have HA:=Lib.hid (show PrcAt y2.w p1 (some ⟨g2,0,none⟩) none none none none from⟨els_oneT (by have:=Hhyg.out;omega) (fun j v hv=>by
  match j,hv with
  |0,hv=>rw[←Option.some.inj hv];exact hy0_0
  |1,hv=>rw[←Option.some.inj hv];exact hy0_1
  |2,hv=>rw[←Option.some.inj hv];exact hy0_2
  |3,hv=>rw[←Option.some.inj hv];exact hy0_3
  |4,hv=>rw[←Option.some.inj hv];exact hy0_4
  |5,hv=>rw[←Option.some.inj hv];exact hy0_5
  |j+6,hv=>simp[t1,Tar.cs]at hv),els_nilT,fun i hi=>absurd hi (by simp[p1]),fun i hi=>absurd hi (by simp[p1]),fun i hi=>absurd hi (by simp[p1]),by simp[p1],by simp[p1],by simp[p1],by simp[p1],by simp[p1]⟩)
 have c0:∀y:Since y2.w,y.w.cell? ⟨g1,0,none⟩=some (.int .i64 1):=fun y=>by obtain⟨z,hz⟩:=IsSince.trans Hst.out ⟨y,rfl⟩;rw[hz];exact Hhx0 z
 have c1:∀y:Since y2.w,y.w.cell? ⟨g1,1,none⟩=some (.int .i64 1):=fun y=>by obtain⟨z,hz⟩:=IsSince.trans Hst.out ⟨y,rfl⟩;rw[hz];exact Hhx1 z
 have c2:∀y:Since y2.w,y.w.cell? ⟨g1,2,none⟩=some (.int .i64 1):=fun y=>by obtain⟨z,hz⟩:=IsSince.trans Hst.out ⟨y,rfl⟩;rw[hz];exact Hhx2 z
 have c3:∀y:Since y2.w,y.w.cell? ⟨g1,3,none⟩=some (.slice none 0 0):=fun y=>by obtain⟨z,hz⟩:=IsSince.trans Hst.out ⟨y,rfl⟩;rw[hz];exact Hhx3 z
 have c4:∀y:Since y2.w,y.w.cell? ⟨g1,4,none⟩=some (.slice none 0 0):=fun y=>by obtain⟨z,hz⟩:=IsSince.trans Hst.out ⟨y,rfl⟩;rw[hz];exact Hhx4 z
 have Hf1:=Lib.hid (fun W:World=>show FltAt W f1 none none from⟨fun i hi=>absurd hi (by simp[f1]),fun i hi=>absurd hi (by simp[f1]),by simp[f1],by simp[f1]⟩);have hcall:=all_r_calls (y2.w.alloc (.cells (flat Ev.cs evs3).toArray 63)) (Since.self _) f1 none none 0 0 (Hf1.out _) (some ⟨y2.w.heap.size,0,none⟩) evs3 3 (els_newT (enc:=Ev.cs) (k:=9) (fun _ =>rfl) y2.w evs3 63) (by decide) (fun e he=>by simp only[evs3,List.mem_cons,List.not_mem_nil,or_false]at he;rcases he with rfl|rfl|rfl<;>exact⟨by decide,by decide⟩);replace hcall:=hcall.mono (fun o w' h=>city_res h);change Calls _ _ #[.agg #[.int .i64 1,.int .i64 1,.int .i64 1,.slice none 0 0,.slice none 0 0],.slice (some ⟨y2.w.heap.size,0,none⟩) 3 3] (y2.w.alloc (.cells #[.int .i64 0,.int .i64 1,.int .i64 10,.int .i64 10,.int .i64 2,.int .i64 0,.int .i64 0,.int .i64 0,.int .i64 0,.int .i64 0,.int .i64 2,.int .i64 1000,.int .i64 1010,.int .i64 3,.int .i64 0,.int .i64 0,.int .i64 0,.int .i64 7,.int .i64 0,.int .i64 3,.int .i64 1600,.int .i64 1605,.int .i64 2,.int .i64 0,.int .i64 0,.int .i64 0,.int .i64 0] 63)) _ at hcall;unfold CityRes at hcall;clear hy0_0 hy0_1 hy0_2 hy0_3 hy0_4 hy0_5 hy1_0 hy1_1 hy1_2 hy1_3 hy1_4 hy1_5 hy1_6 Hhx0 Hhx1 Hhx2 Hhx3 Hhx4 Hst;have d0:y2.w.cell? ⟨g1,0,none⟩=some (.int .i64 1):=c0 (Since.self y2.w);have d1:y2.w.cell? ⟨g1,1,none⟩=some (.int .i64 1):=c1 (Since.self y2.w);have d2:y2.w.cell? ⟨g1,2,none⟩=some (.int .i64 1):=c2 (Since.self y2.w);have d3:y2.w.cell? ⟨g1,3,none⟩=some (.slice none 0 0):=c3 (Since.self y2.w);have d4:y2.w.cell? ⟨g1,4,none⟩=some (.slice none 0 0):=c4 (Since.self y2.w);go_upto_region 4 with(go_at_call 8;(with_reducible refine hcall.mono ?_);clear hcall;rintro _ _ ⟨la,lc,pa,pc,a,c,y3,rfl,rfl,hr⟩;(have HRr:=Lib.hid hr);clear hr)
 clear d0 d1 d2 d3 d4;obtain⟨y4,hy4⟩:=IsSince.trans (IsSince.alloc (IsSince.self y2.w) _) ⟨y3,rfl⟩;rw[hy4]at HRr⊢;clear hy4;have hcall:=fall_calls y4.w (Since.self _) f1 none none 0 0 (Hf1.out _) p1 (some ⟨g2,0,none⟩) none none none none 1 0 0 0 0 (HA.out.to ⟨y4,rfl⟩) (fun _ =>rfl) (fun _ =>rfl) [r1 la lc pa pc] a c HRr.out (by simp) (fun r hr=>by rw[List.mem_singleton]at hr;subst hr;exact(show I64 0 from⟨by decide,by decide⟩));replace hcall:=hcall.mono (fun o w' h=>cf_res h);change Calls _ _ #[.agg #[.int .i64 1,.int .i64 1,.int .i64 1,.slice none 0 0,.slice none 0 0],.agg #[.slice (some ⟨g2,0,none⟩) 1 1,.slice none 0 0,.slice none 0 0,.slice none 0 0,.int .i64 0,.slice none 0 0,.int .i64 0],.slice a 1 c,.slice none 0 0] y4.w _ at hcall;unfold CfRes at hcall;go_upto_region 5 with(go_at_call 19;(with_reducible refine hcall.mono ?_);clear hcall;rintro _ _ ⟨g,cf,y5,rfl,rfl,c7,c8⟩)
 clear c0 c1 c2 c3 c4;have HR:=Lib.hid (show∃y:Since w,y5.w=y.w from IsSince.trans ⟨y2,rfl⟩ (IsSince.trans ⟨y4,rfl⟩ ⟨y5,rfl⟩));go_wp2_with fail;go_ret;exact⟨ret_bool (by first|rfl|(simp;done)|(simp;omega)),HR.out⟩
end Go.Proofs.YtmmlmhnjjfnpnaaGreat
