/- Texts that belong together. -/
import Derived.Test.YtmmlmhnjjfnpnaaGreatTpNg
import Derived.Test.YtmmlmhnjjfnpnaaGreatTpNq
import Derived.Test.YtmmlmhnjjfnpnaaGreatTpNr
import Derived.Test.YtmmlmhnjjfnpnaaGreatProg
import Derived.BigQuiet
set_option linter.all false
namespace Go.Proofs.YtmmlmhnjjfnpnaaGreat
set_option maxRecDepth 200000
set_option maxHeartbeats 64000000
section
open Go.RowKit Go.ChangeMaps
theorem AW8 (w:World) (x:A6 w) (u:D3):
 Calls Tryz.prog 184 #[.agg #[.int .i64 u.w,.int .i64 u.p,.int .i64 u.r,.bool u.z]] x.w fun o w'=>o= .returned (.bool (P6 u))∧∃y:A6 w,w'=y.w:=by
 rcases(by omega:u.w=1∨u.w=2∨(u.w≠1∧u.w≠2))with h|h|⟨h,h'⟩
 ·have Hv:=A2 (show P6 u=true from by unfold P6;rw[h];rfl)
  rw[h];go_enter Tryz.func184,Tryz.ntmps184;go_wp2_with fail;go_ret;exact⟨F9 Hv.out.symm,x.alloc _⟩
 ·have Hv:=A2 (show P6 u=true from by unfold P6;rw[h];rfl)
  rw[h];go_enter Tryz.func184,Tryz.ntmps184;go_wp2_with fail;go_ret;exact⟨F9 Hv.out.symm,x.alloc _⟩
 ·have Hv:=A2 (show P6 u=false from by unfold P6;rw[decide_eq_false h,decide_eq_false h'];rfl)
  have h1:(u.w == 1)=false:=by simpa using h
  have h2:(u.w == 2)=false:=by simpa using h'
  clear h h';go_enter Tryz.func184,Tryz.ntmps184;go_wp2_with fail;go_ret;exact⟨F9 (by first|exact Hv.out.symm|(rw[Hv.out];assumption)),x.alloc _⟩
def gT (wh pl:Int) (l:List D3):Nat:=(l.filter fun x=>decide (x.w=wh) && decide (x.p=pl)).length
theorem AW9 {wh pl:Int} {l:List D3} {k:Nat} {u:D3} (h:l[k]? =some u):gT wh pl (l.take (k+1))=gT wh pl (l.take k)+if u.w=wh∧u.p=pl then 1 else 0:=by
 unfold gT;have hk:k<l.length:=(A4 h).1;have hu:l[k]=u:=(A4 h).2;rw[List.take_add_one,A3 hk,List.filter_append,List.length_append,hu];by_cases h1:u.w=wh∧u.p=pl
 ·simp[h1]
 ·rw[if_neg h1]
  have:(decide (u.w=wh) && decide (u.p=pl))=false:=by
   cases hd:(decide (u.w=wh) && decide (u.p=pl))with
   |false=>rfl
   |true=>simp at hd;exact absurd hd h1
  simp[this]
theorem AX0 (wh pl:Int) (l:List D3):gT wh pl l≤l.length:=List.length_filter_le _ _
theorem Al8 (w:World) (x:A6 w) (f:D5) (da ta:Option Addr) (dc tc p gs bo bu n:Nat) (T:List E7) (c:B9) (h:I8 w [.int .i64 f.bk,.int .i64 f.rd,.int .i64 f.dv,.slice da f.dk.length dc,.slice ta f.tk.length tc] p gs bo bu n T c) (hl:c.sp.length≤128) (wh pl:Int):
 Calls Tryz.prog 185 #[.pointer (some ⟨p,0,none⟩),.int .i64 wh,.int .i64 pl] x.w fun o w'=>o= .returned (.int .i64 (c.cnt wh pl))∧∃y:A6 w,w'=y.w:=by
 have HC:=A2 (show c.cnt wh pl=(gT wh pl c.sp:Nat)from rfl);have kp:∀y:A6 w,y.w.cell? ⟨p,5,none⟩=some (.slice (some ⟨gs,0,none⟩) c.sp.length c.sp.length):=fun y=>(h.st.since y).c 5 _ rfl;have hsp:=A2 h.sp;clear h;generalize c.sp=L at *;go_enter Tryz.func185,Tryz.ntmps185;go_wp2_with fail;go_loopw [15,7] (fun i m wr=>∃(k:Nat) (y:A6 w),k≤L.length∧i= .int .i64 k∧m= .int .i64 (gT wh pl (L.take k):Nat)∧wr=y.w) (fun i _ _ =>L.length-(intOf i).toNat)
 case atStart=>exact⟨0,x,by omega,rfl,rfl,rfl⟩
 case round=>
  obtain⟨k,y,hk,rfl,rfl,rfl⟩:=hrel;by_cases hlt:k<L.length
  ·obtain⟨u,hu⟩:∃u,L[k]? =some u:=⟨_,A3 hlt⟩
   have c0:∀y:A6 w,y.w.cell? ⟨gs,k*4,none⟩=some (.int .i64 u.w):=fun y=>(hsp.out.since y).c _ _ (G0 D3.len L k u 0 _ hu rfl);have c1:∀y:A6 w,y.w.cell? ⟨gs,k*4+1,none⟩=some (.int .i64 u.p):=fun y=>(hsp.out.since y).c _ _ (G0 D3.len L k u 1 _ hu rfl);have c2:∀y:A6 w,y.w.cell? ⟨gs,k*4+2,none⟩=some (.int .i64 u.r):=fun y=>(hsp.out.since y).c _ _ (G0 D3.len L k u 2 _ hu rfl);have c3:∀y:A6 w,y.w.cell? ⟨gs,k*4+3,none⟩=some (.bool u.z):=fun y=>(hsp.out.since y).c _ _ (G0 D3.len L k u 3 _ hu rfl);have hk0:(0:Int)≤(k:Int):=by omega
   have hkl:(k:Int)<(L.length:Int):=by omega
   have HS:=A2 (AW9 (wh:=wh) (pl:=pl) hu);have hm:gT wh pl (L.take k)≤128:=Nat.le_trans (AX0 _ _ _) (by rw[List.length_take];omega);clear hu;generalize gT wh pl (L.take k)=m at *;go_upto_region 5 with fail;obtain⟨y2,e2,C5,hsz0,hlt0,HX0⟩:=L9 y [.int .i64 u.w,.int .i64 u.p,.int .i64 u.r,.bool u.z] 180;rw[e2];obtain⟨hx0,hx1,hx2,hx3,hxf⟩:=fA HX0;skip;clear e2 C5;generalize y.w.heap.size=g at *;obtain⟨E9,G1,J4,I9,G8⟩:=bF HX0;have I5:=A2 (And.intro hsz0 hlt0);clear hlt0 hsz0 HX0;obtain⟨q0,hq0⟩:=A6.refl y2.w;rw[hq0];clear hq0;clear c0 c1 c2 c3;by_cases h1:u.w=wh∧u.p=pl
   ·have HS2:=A2 (HS.out.trans (congrArg _ (if_pos h1)))
    obtain⟨h1,h2⟩:=h1;have e1:(u.w == wh)=true:=by simpa using h1
    have e2:(u.p == pl)=true:=by simpa using h2
    clear h1 h2 HS;have hmw:wrap64 ((m:Int)+1)=(m:Int)+1:=IntWalk.wrap64_in _ ⟨by omega,by omega⟩;go_wp2_with fail;go_roundw
    case rel=>obtain⟨y3,e3⟩:=y2.trans q0;exact⟨k+1,y3,by omega,by go_num,by rw[HS2.out];go_num,e3⟩
    case measure=>simp[intOf];omega
   ·have HS2:=A2 (HS.out.trans (congrArg _ (if_neg h1)))
    clear HS;by_cases h2:u.w=wh
    ·have h3:¬u.p=pl:=fun h=>h1 ⟨h2,h⟩
     have e1:(u.w == wh)=true:=by simpa using h2
     have e2:(u.p == pl)=false:=by simpa using h3
     clear h1 h2 h3;go_wp2_with fail;go_roundw
     case rel=>obtain⟨y3,e3⟩:=y2.trans q0;exact⟨k+1,y3,by omega,by go_num,by rw[HS2.out];rfl,e3⟩
     case measure=>simp[intOf];omega
    ·have e1:(u.w == wh)=false:=by simpa using h2
     clear h1 h2;go_wp2_with fail;go_roundw
     case rel=>obtain⟨y3,e3⟩:=y2.trans q0;exact⟨k+1,y3,by omega,by go_num,by rw[HS2.out];rfl,e3⟩
     case measure=>simp[intOf];omega
  ·obtain rfl:k=L.length:=by omega
   rw[List.take_length];go_wp2_with fail;go_ret;exact⟨D1 HC.out.symm,y,rfl⟩
end
section
open Go.RowKit Go.ChangeMaps
theorem fL:V6 Tryz.prog 3 fK true:=gH
theorem AX1 {c:B9} {T:List E7} (h:c.op=T.map fun x=>(x.i,x.t)) {r:Int} (hn:∀e∈T,e.t.rd≠r):c.rides r=false:=by
 unfold B9.rides;rw[List.any_eq_false];intro x hx;rw[h]at hx;obtain⟨e,he,rfl⟩:=List.mem_map.1 hx;simpa using hn e he
theorem AX2 {l:List E7} (h:(l.map (·.n)).Nodup) {x y:E7} (h1:x∈l) (h2:y∈l) (e:x.n=y.n):x=y:=by
 induction l with
 |nil=>simp at h1
 |cons z l ih=>
  simp only[List.map_cons,List.nodup_cons]at h
  rcases List.mem_cons.1 h1 with e1|h1
  ·rcases List.mem_cons.1 h2 with e2|h2
   ·rw[e1,e2]
   ·exact absurd (List.mem_map.2 ⟨_,h2,by rw[←e,e1]⟩) h.1
  ·rcases List.mem_cons.1 h2 with e2|h2
   ·exact absurd (List.mem_map.2 ⟨_,h1,by rw[e,e2]⟩) h.1
   ·exact ih h.2 h1 h2
theorem AX3 {c:B9} {T:List E7} (h:c.op=T.map fun x=>(x.i,x.t)) {e:E7} (he:e∈T):c.rides e.t.rd=true:=by
 unfold B9.rides;rw[List.any_eq_true];exact⟨(e.i,e.t),by rw[h];exact List.mem_map.2 ⟨e,he,rfl⟩,by simp⟩
theorem AX4 (w:World) (x:A6 w) (f:D5) (da ta:Option Addr) (dc tc p gs bo bu n:Nat) (T:List E7) (c:B9) (h:I8 w [.int .i64 f.bk,.int .i64 f.rd,.int .i64 f.dv,.slice da f.dk.length dc,.slice ta f.tk.length tc] p gs bo bu n T c) (rd:Int):
 Calls Tryz.prog 186 #[.pointer (some ⟨p,0,none⟩),.int .i64 rd] x.w fun o w'=>o= .returned (.bool (c.rides rd))∧∃y:A6 w,w'=y.w:=by
 have kp:∀y:A6 w,y.w.cell? ⟨p,6,none⟩=some (.map (some bo)):=fun y=>(h.st.since y).c 6 _ rfl;have HT:=A2 h.tr;have HO:=A2 h.op;have hmo:=h.mo;have hbn:=h.bn;clear h;go_enter Tryz.func186,Tryz.ntmps186;go_wp2_with(at_range;refine AI6 (w0:=w) ⟨_,rfl⟩ rfl _ _ rfl Tryz.underlying278 rfl (hmo.since _) ?_;intro q r hm hit hr0 hrs hgr);clear hm hrs hgr;go_frame
 go_loopw [6] (fun _ wr=>∃(seen:Array Nat) (y:A6 w),wr=y.w∧L5 wr bo r n seen∧o7 n seen∧∀e∈T,e.n∈seen→e.t.rd≠rd) (fun _ wr=>dK wr r)
 case atStart=>exact⟨#[],q,rfl,hit,tR _,fun e _ hi=>by simp at hi⟩
 case round=>
  clear hit;obtain⟨seen,y,rfl,hit,hso,hall⟩:=hrel;have iG:=A2 hall;clear hall;have Hit:=A2 hit;have Hso:=A2 hso;go_wp2_with(at_next;refine AI7 (w0:=w) ⟨_,rfl⟩ rfl _ rfl hr0 rfl (hmo.since _) hbn hit hso ?_ ?_)
  ·intro hdone
   have hres:=A2 (AX1 (r:=rd) HO.out (fun e he=>iG.out e he (hdone e he)));clear hdone;go_wp2_with fail;go_ret;exact⟨F9 hres.out.symm,y,rfl⟩
  ·intro i a v q e he hee hn hm hit2 iI hgr hen
   simp only[E7.ent,Prod.mk.injEq]at hee;obtain⟨rfl,rfl,rfl⟩:=hee;unfold fK at hen⊢;clear hm hgr;have lN:=A2 hit2;have eU:=A2 iI;have He:=A2 he;have k0:∀y:A6 w,y.w.cell? ⟨e.g,0,none⟩=some (.int .i64 e.t.rd):=fun y=>((HT.out e he).since y).c 0 _ rfl;clear hit2 iI he;by_cases hr:e.t.rd=rd
   ·have hres:=A2 (show c.rides rd=true from by rw[←hr];exact AX3 HO.out He.out)
    have hb:(e.t.rd == rd)=true:=by simpa using hr
    clear hr;go_wp2_with fail;go_ret;exact⟨F9 hres.out.symm,q,rfl⟩
   ·have hb:(e.t.rd == rd)=false:=by simpa using hr
    have Hr:=A2 hr;clear hr;go_wp2_with fail;refine⟨⟨seen.push e.n,q,rfl,lN.out,eU.out,fun z hz hj=>?_⟩,pD Hit.out lN.out eU.out⟩;rcases Array.mem_push.1 hj with hj|hj
    ·exact iG.out z hz hj
    ·have hb1:=hbn.nodup
     have:z=e:=by
      have hb2:(T.map (·.n)).Nodup:=by simpa[List.map_map,Function.comp_def,E7.ent]using hb1
      exact AX2 hb2 hz He.out hj
     rw[this];exact Hr.out
end
section
open Go.RowKit Go.ChangeMaps
theorem AX5 (w:World) (x:A6 w) (no:Bool) (f:Int):
 Calls Tryz.prog 183 #[.bool no,.int .i64 f] x.w fun o w'=>o= .returned (.int .i64 (if no then f else 0))∧∃y:A6 w,w'=y.w:=by
 cases no with
 |true=>
  go_enter Tryz.func183,Tryz.ntmps183
  go_wp2_with fail
  go_ret
  exact⟨rfl,x,rfl⟩
 |false=>
  go_enter Tryz.func183,Tryz.ntmps183
  go_wp2_with fail
  go_ret
  exact⟨rfl,x,rfl⟩
theorem AX6 (w:World):(zeroValue 286).run Tryz.prog w= .ok (.pointer none) w:=by kernel_rfl
theorem AX7 (w:World):(zeroValue 4).run Tryz.prog w= .ok (.bool false) w:=by kernel_rfl
theorem AX8 (w:World) (x:A6 w) (f:D5) (da ta:Option Addr) (dc tc p gs bo bu n:Nat) (T:List E7) (c:B9) (h:I8 w [.int .i64 f.bk,.int .i64 f.rd,.int .i64 f.dv,.slice da f.dk.length dc,.slice ta f.tk.length tc] p gs bo bu n T c) (hf:Y6 w f da ta) (hkeys:(c.op.map (·.1)).Nodup) (hl:c.sp.length≤128)
 (d q a t k:Int) (b:Nat) (pl r i:Int) (hb:b<c.sp.length) (hk:1≤k∧k≤9) (hp7:k=7→0≤pl∧pl<(f.tk.length:Int)):
 Calls Tryz.prog 124 #[.pointer (some ⟨p,0,none⟩),.agg #[.int .i64 d,.int .i64 q,.int .i64 a,.int .i64 t,.int .i64 k,.int .i64 (b:Int),.int .i64 pl,.int .i64 r,.int .i64 i]] x.w fun o w'=>o= .returned (.int .i64 (G2 f c ⟨d,q,a,t,k,(b:Int),pl,r,i⟩))∧∃y:A6 w,w'=y.w:=by
 obtain⟨u,hu⟩:∃u,c.sp[b]? =some u:=⟨_,A3 hb⟩
 have HU:=A2 (show c.spt (b:Int)=u from by unfold B9.spt;rw[Int.toNat_natCast,A5,hu];rfl);have Hh:=A2 h;have Hf:=A2 hf;have aI:=A2 hkeys;have HP7:=A2 hp7;have hb0:(0:Int)≤(b:Int):=by omega
 have hbl:(b:Int)<(c.sp.length:Int):=by omega
 have Hl:=A2 hl;clear h hf hkeys hl hp7;go_enter Tryz.func124,Tryz.ntmps124;go_upto_region 1 with fail;obtain⟨W,bx,y0,hW,hbx,-,B8,Hup,Hbx,HB0⟩:=J8 x [.int .i64 d,.int .i64 q,.int .i64 a,.int .i64 t,.int .i64 k,.int .i64 (b:Int),.int .i64 pl,.int .i64 r,.int .i64 i] 63;rw[hW,hbx];clear hW hbx;obtain⟨D7,D9,E3,E5,F3,I0,K9,O5,O6,hf0⟩:=j2 HB0;clear HB0;replace Hh:=A2 (Hh.out.to B8);replace Hf:=A2 (Hf.out.to B8);have he4:=fun(w':World) (h:A7 W w')=>A7.cell (F3) h;have he5:=fun(w':World) (h:A7 W w')=>A7.cell (I0) h;have hs1:∀w',A7 W w'→w'.cell? ⟨p,5,none⟩=some (.slice (some ⟨gs,0,none⟩) c.sp.length c.sp.length):=fun w' h=>by obtain⟨y,rfl⟩:=h;exact(Hh.out.st.since y).c 5 _ rfl
 have hq:=fun(j:Nat) (v:Value) (hj:u.cs[j]? =some v) (w':World) (h:A7 W w')=>show w'.cell? ⟨gs,b*4+j,none⟩=some v from by obtain⟨y,rfl⟩:=h;exact(Hh.out.sp.since y).c _ _ (G0 D3.len c.sp b u j v hu hj)
 have hq0:=hq 0 _ rfl;have hq1:=hq 1 _ rfl;have hq2:=hq 2 _ rfl;have hq3:=hq 3 _ rfl;simp only[Nat.add_zero]at hq0;clear hq B8 hu;go_region_held3 (fun w'=>A7 W w') (first|assumption|exact A7.drew _|exact A7.drew' (A7.alloc (A7.of _) _)) (fail);go_upto_region 2 with fail;clear hq0 hq1 hq2 hq3 hs1 he4 he5;obtain⟨y1,e2,C5,hsz0,hlt0,HX0⟩:=iL y0 [.int .i64 u.w,.int .i64 u.p,.int .i64 u.r,.bool u.z] 180;rw[e2];obtain⟨hx0,hx1,hx2,hx3,hxf⟩:=fA HX0;skip;clear e2 C5;generalize y0.w.heap.size=g at *;obtain⟨E9,G1,J4,I9,G8⟩:=bF HX0;have I5:=A2 (And.intro hsz0 hlt0);clear hlt0 hsz0 HX0;clear hx0 hx1 hx2 hx3 hxf;replace D7:∀(y:A6 y1.w),y.w.cell? ⟨bx,0,none⟩=some (.int .i64 d):=fun y=>by obtain⟨z,e⟩:=y1.trans y;rw[e];exact D7 z
 replace D9:∀(y:A6 y1.w),y.w.cell? ⟨bx,1,none⟩=some (.int .i64 q):=fun y=>by obtain⟨z,e⟩:=y1.trans y;rw[e];exact D9 z
 replace E3:∀(y:A6 y1.w),y.w.cell? ⟨bx,2,none⟩=some (.int .i64 a):=fun y=>by obtain⟨z,e⟩:=y1.trans y;rw[e];exact E3 z
 replace E5:∀(y:A6 y1.w),y.w.cell? ⟨bx,3,none⟩=some (.int .i64 t):=fun y=>by obtain⟨z,e⟩:=y1.trans y;rw[e];exact E5 z
 replace F3:∀(y:A6 y1.w),y.w.cell? ⟨bx,4,none⟩=some (.int .i64 k):=fun y=>by obtain⟨z,e⟩:=y1.trans y;rw[e];exact F3 z
 replace I0:∀(y:A6 y1.w),y.w.cell? ⟨bx,5,none⟩=some (.int .i64 (b:Int)):=fun y=>by obtain⟨z,e⟩:=y1.trans y;rw[e];exact I0 z
 replace K9:∀(y:A6 y1.w),y.w.cell? ⟨bx,6,none⟩=some (.int .i64 pl):=fun y=>by obtain⟨z,e⟩:=y1.trans y;rw[e];exact K9 z
 replace O5:∀(y:A6 y1.w),y.w.cell? ⟨bx,7,none⟩=some (.int .i64 r):=fun y=>by obtain⟨z,e⟩:=y1.trans y;rw[e];exact O5 z
 replace O6:∀(y:A6 y1.w),y.w.cell? ⟨bx,8,none⟩=some (.int .i64 i):=fun y=>by obtain⟨z,e⟩:=y1.trans y;rw[e];exact O6 z
 replace hf0:∀(y:A6 y1.w) (o:Nat),y.w.frozen? ⟨bx,o,none⟩=false:=fun y o=>by obtain⟨z,e⟩:=y1.trans y;rw[e];exact hf0 z o
 replace Hh:=A2 (Hh.out.to ⟨y1,rfl⟩);replace Hf:=A2 (Hf.out.to ⟨y1,rfl⟩);replace Hup:=A2 (show∀z:A6 y1.w,∃y:A6 w,z.w=y.w from fun z=>by obtain⟨y2,e⟩:=y1.trans z;rw[e];exact Hup.out y2);have hs2:∀y:A6 y1.w,y.w.cell? ⟨p,6,none⟩=some (.map (some bo)):=fun y=>(Hh.out.st.since y).c 6 _ rfl;have hlk:∀z:A6 y1.w,(Instr.lookup 278 (.map (some bo)) (.int .i64 i) false).run Tryz.prog z.w= .ok (N7 i (N9 (T.map E7.ent)) (.pointer none)) z.w:=fun z=>tV fL (Hh.out.mo.since z) Tryz.underlying278 (AX6 _) i false;have BB0:=A2 (qV Hh.out aI.out i);generalize N7 i (N9 (T.map E7.ent)) (.pointer none)=tv at *;obtain⟨q0,hq0⟩:=A6.refl y1.w;rw[hq0];clear hq0;refine K6 (by kernel_rfl) (by kernel_rfl) ?_;repeat(go_big_quiet_step(fail))
 refine wpQuiet_nil ?_;rintro _ ⟨q1,rfl⟩;clear hlk hs2;have PK:∀x:A6 y1.w,Calls Tryz.prog 184 #[.agg #[.int .i64 u.w,.int .i64 u.p,.int .i64 u.r,.bool u.z]] x.w fun o w'=>o= .returned (.bool (P6 u))∧∃y:A6 y1.w,w'=y.w:=fun x=>AW8 y1.w x u;have RF:∀(x:A6 y1.w) (no:Bool) (f:Int),Calls Tryz.prog 183 #[.bool no,.int .i64 f] x.w fun o w'=>o= .returned (.int .i64 (if no then f else 0))∧∃y:A6 y1.w,w'=y.w:=fun x no f=>AX5 y1.w x no f;have hkk:k=1∨k=2∨k=3∨k=4∨k=5∨k=6∨k=7∨k=8∨k=9:=by omega
 clear hk;rcases hkk with rfl|rfl|rfl|rfl|rfl|rfl|rfl|rfl|rfl
 ·cases hA:P6 u with
  |true=>
   have HA:=A2 hA;clear hA
   have HR:=A2 (show G2 f c ⟨d,q,a,t,1,(b:Int),pl,r,i⟩=23 from by unfold G2;dsimp only;rw[HU.out];simp[HA.out])
   go_wp2_with(first
    |(go_at_call 184;(with_reducible refine(PK _).mono ?_);rintro _ _ ⟨rfl,y2,rfl⟩;rw[HA.out])
    |(go_at_call 185;(with_reducible refine(CT _).mono ?_);rintro _ _ ⟨rfl,y3,rfl⟩)
    |(go_at_call 186;(with_reducible refine(RD _).mono ?_);rintro _ _ ⟨rfl,y4,rfl⟩;rw[HB.out])
    |(go_at_call 183;(with_reducible refine(RF _ _ _).mono ?_);rintro _ _ ⟨rfl,y5,rfl⟩))
   go_ret
   exact⟨D1 HR.out.symm,Hup.out _⟩
  |false=>
   have HA:=A2 hA;clear hA
   obtain⟨N,hN⟩:∃N,c.cnt 1 pl=N:=⟨_,rfl⟩
   have HN:=A2 hN;clear hN
   have CT:∀x:A6 y1.w,Calls Tryz.prog 185 #[.pointer (some ⟨p,0,none⟩),.int .i64 1,.int .i64 pl] x.w fun o w'=>o= .returned (.int .i64 N)∧∃y:A6 y1.w,w'=y.w:=fun x=>by rw[←HN.out];exact Al8 y1.w x f da ta dc tc p gs bo bu n T c Hh.out Hl.out 1 pl
   by_cases h1:0<N
   ·have Hg:=A2 h1
    have HR:=A2 (show G2 f c ⟨d,q,a,t,1,(b:Int),pl,r,i⟩=22 from by unfold G2;dsimp only;rw[HU.out];simp[HA.out,HN.out,Hg.out]);go_wp2_with(first
     |(go_at_call 184;(with_reducible refine(PK _).mono ?_);rintro _ _ ⟨rfl,y2,rfl⟩;rw[HA.out])
     |(go_at_call 185;(with_reducible refine(CT _).mono ?_);rintro _ _ ⟨rfl,y3,rfl⟩)
     |(go_at_call 186;(with_reducible refine(RD _).mono ?_);rintro _ _ ⟨rfl,y4,rfl⟩;rw[HB.out])
     |(go_at_call 183;(with_reducible refine(RF _ _ _).mono ?_);rintro _ _ ⟨rfl,y5,rfl⟩))
    go_ret;exact⟨D1 HR.out.symm,Hup.out _⟩
   ·have Hg:=A2 h1
    have h1':N≤0:=by omega
    have HR:=A2 (show G2 f c ⟨d,q,a,t,1,(b:Int),pl,r,i⟩=0 from by unfold G2;dsimp only;rw[HU.out];simp[HA.out,HN.out,Hg.out]);clear h1;go_wp2_with(first
     |(go_at_call 184;(with_reducible refine(PK _).mono ?_);rintro _ _ ⟨rfl,y2,rfl⟩;rw[HA.out])
     |(go_at_call 185;(with_reducible refine(CT _).mono ?_);rintro _ _ ⟨rfl,y3,rfl⟩)
     |(go_at_call 186;(with_reducible refine(RD _).mono ?_);rintro _ _ ⟨rfl,y4,rfl⟩;rw[HB.out])
     |(go_at_call 183;(with_reducible refine(RF _ _ _).mono ?_);rintro _ _ ⟨rfl,y5,rfl⟩))
    go_ret;exact⟨D1 HR.out.symm,Hup.out _⟩
 ·cases hA:P6 u with
  |true=>
   have HA:=A2 hA;clear hA
   have HR:=A2 (show G2 f c ⟨d,q,a,t,2,(b:Int),pl,r,i⟩=23 from by unfold G2;dsimp only;rw[HU.out];simp[HA.out])
   go_wp2_with(first
    |(go_at_call 184;(with_reducible refine(PK _).mono ?_);rintro _ _ ⟨rfl,y2,rfl⟩;rw[HA.out])
    |(go_at_call 185;(with_reducible refine(CT _).mono ?_);rintro _ _ ⟨rfl,y3,rfl⟩)
    |(go_at_call 186;(with_reducible refine(RD _).mono ?_);rintro _ _ ⟨rfl,y4,rfl⟩;rw[HB.out])
    |(go_at_call 183;(with_reducible refine(RF _ _ _).mono ?_);rintro _ _ ⟨rfl,y5,rfl⟩))
   go_ret
   exact⟨D1 HR.out.symm,Hup.out _⟩
  |false=>
   have HA:=A2 hA;clear hA
   have HR:=A2 (show G2 f c ⟨d,q,a,t,2,(b:Int),pl,r,i⟩=0 from by unfold G2;dsimp only;rw[HU.out];simp[HA.out])
   go_wp2_with(first
    |(go_at_call 184;(with_reducible refine(PK _).mono ?_);rintro _ _ ⟨rfl,y2,rfl⟩;rw[HA.out])
    |(go_at_call 185;(with_reducible refine(CT _).mono ?_);rintro _ _ ⟨rfl,y3,rfl⟩)
    |(go_at_call 186;(with_reducible refine(RD _).mono ?_);rintro _ _ ⟨rfl,y4,rfl⟩;rw[HB.out])
    |(go_at_call 183;(with_reducible refine(RF _ _ _).mono ?_);rintro _ _ ⟨rfl,y5,rfl⟩))
   go_ret
   exact⟨D1 HR.out.symm,Hup.out _⟩
 ·cases hA:P6 u with
  |false=>
   have HA:=A2 hA;clear hA
   have HR:=A2 (show G2 f c ⟨d,q,a,t,3,(b:Int),pl,r,i⟩=23 from by unfold G2;dsimp only;rw[HU.out];simp[HA.out])
   go_wp2_with(first
    |(go_at_call 184;(with_reducible refine(PK _).mono ?_);rintro _ _ ⟨rfl,y2,rfl⟩;rw[HA.out])
    |(go_at_call 185;(with_reducible refine(CT _).mono ?_);rintro _ _ ⟨rfl,y3,rfl⟩)
    |(go_at_call 186;(with_reducible refine(RD _).mono ?_);rintro _ _ ⟨rfl,y4,rfl⟩;rw[HB.out])
    |(go_at_call 183;(with_reducible refine(RF _ _ _).mono ?_);rintro _ _ ⟨rfl,y5,rfl⟩))
   go_ret
   exact⟨D1 HR.out.symm,Hup.out _⟩
  |true=>
   have HA:=A2 hA;clear hA
   have hs3:∀y:A6 y1.w,y.w.cell? ⟨p,7,none⟩=some (.map (some bu)):=fun y=>(Hh.out.st.since y).c 7 _ rfl
   have hlk:∀z:A6 y1.w,(Instr.lookup 199 (.map (some bu)) (.int .i64 i) false).run Tryz.prog z.w= .ok (.bool (c.us.contains i)) z.w:=fun z=>by
    have h:=bD fL (Hh.out.mu.since z) Tryz.underlying199 (AX7 _) i false;rw[if_neg (by decide),(Al7 c.us i).1]at h;exact h
   cases hC:c.us.contains i with
   |true=>
    rw[hC]at hlk
    have HC:=A2 (show i∈c.us from by simpa using hC)
    clear hC
    go_upto_region 19 with(first
     |(go_at_call 184;(with_reducible refine(PK _).mono ?_);rintro _ _ ⟨rfl,y2,rfl⟩;rw[HA.out])
     |(go_at_call 185;(with_reducible refine(CT _).mono ?_);rintro _ _ ⟨rfl,y3,rfl⟩)
     |(go_at_call 186;(with_reducible refine(RD _).mono ?_);rintro _ _ ⟨rfl,y4,rfl⟩;rw[HB.out])
     |(go_at_call 183;(with_reducible refine(RF _ _ _).mono ?_);rintro _ _ ⟨rfl,y5,rfl⟩))
    obtain⟨q9,hq9⟩:=A6.refl y2.w
    obtain⟨q8,hq8⟩:∃z:A6 y1.w,y2.w=z.w:=⟨y2,rfl⟩
    clear hq9 q9 hq8 q8
    refine K6 (by kernel_rfl) (by kernel_rfl) ?_
    repeat(go_big_quiet_step(fail))
    refine wpQuiet_nil ?_
    rintro _ ⟨q2,rfl⟩
    have HR:=A2 (show G2 f c ⟨d,q,a,t,3,(b:Int),pl,r,i⟩=6 from by unfold G2;dsimp only;rw[HU.out];simp[HA.out,HC.out])
    go_wp2_with(first
     |(go_at_call 184;(with_reducible refine(PK _).mono ?_);rintro _ _ ⟨rfl,y2,rfl⟩;rw[HA.out])
     |(go_at_call 185;(with_reducible refine(CT _).mono ?_);rintro _ _ ⟨rfl,y3,rfl⟩)
     |(go_at_call 186;(with_reducible refine(RD _).mono ?_);rintro _ _ ⟨rfl,y4,rfl⟩;rw[HB.out])
     |(go_at_call 183;(with_reducible refine(RF _ _ _).mono ?_);rintro _ _ ⟨rfl,y5,rfl⟩))
    go_ret
    exact⟨D1 HR.out.symm,Hup.out _⟩
   |false=>
    rw[hC]at hlk
    have HC:=A2 (show i∉c.us from by simpa using hC)
    clear hC
    go_upto_region 19 with(first
     |(go_at_call 184;(with_reducible refine(PK _).mono ?_);rintro _ _ ⟨rfl,y2,rfl⟩;rw[HA.out])
     |(go_at_call 185;(with_reducible refine(CT _).mono ?_);rintro _ _ ⟨rfl,y3,rfl⟩)
     |(go_at_call 186;(with_reducible refine(RD _).mono ?_);rintro _ _ ⟨rfl,y4,rfl⟩;rw[HB.out])
     |(go_at_call 183;(with_reducible refine(RF _ _ _).mono ?_);rintro _ _ ⟨rfl,y5,rfl⟩))
    obtain⟨q9,hq9⟩:=A6.refl y2.w
    obtain⟨q8,hq8⟩:∃z:A6 y1.w,y2.w=z.w:=⟨y2,rfl⟩
    clear hq9 q9 hq8 q8
    refine K6 (by kernel_rfl) (by kernel_rfl) ?_
    repeat(go_big_quiet_step(fail))
    refine wpQuiet_nil ?_
    rintro _ ⟨q2,rfl⟩
    have RD0:∀x:A6 y1.w,Calls Tryz.prog 186 #[.pointer (some ⟨p,0,none⟩),.int .i64 r] x.w fun o w'=>o= .returned (.bool (c.rides r))∧∃y:A6 y1.w,w'=y.w:=fun x=>AX4 y1.w x f da ta dc tc p gs bo bu n T c Hh.out r
    cases hB:c.rides r with
    |true=>
     have HB:=A2 hB;clear hB
     have RD:=RD0;clear RD0
     have HR:=A2 (show G2 f c ⟨d,q,a,t,3,(b:Int),pl,r,i⟩=22 from by unfold G2;dsimp only;rw[HU.out];simp[HA.out,HC.out,HB.out])
     go_wp2_with(first
      |(go_at_call 184;(with_reducible refine(PK _).mono ?_);rintro _ _ ⟨rfl,y2,rfl⟩;rw[HA.out])
      |(go_at_call 185;(with_reducible refine(CT _).mono ?_);rintro _ _ ⟨rfl,y3,rfl⟩)
      |(go_at_call 186;(with_reducible refine(RD _).mono ?_);rintro _ _ ⟨rfl,y4,rfl⟩;rw[HB.out])
      |(go_at_call 183;(with_reducible refine(RF _ _ _).mono ?_);rintro _ _ ⟨rfl,y5,rfl⟩))
     go_ret
     exact⟨D1 HR.out.symm,Hup.out _⟩
    |false=>
     have HB:=A2 hB;clear hB
     have RD:=RD0;clear RD0
     have HR:=A2 (show G2 f c ⟨d,q,a,t,3,(b:Int),pl,r,i⟩=0 from by unfold G2;dsimp only;rw[HU.out];simp[HA.out,HC.out,HB.out])
     go_wp2_with(first
      |(go_at_call 184;(with_reducible refine(PK _).mono ?_);rintro _ _ ⟨rfl,y2,rfl⟩;rw[HA.out])
      |(go_at_call 185;(with_reducible refine(CT _).mono ?_);rintro _ _ ⟨rfl,y3,rfl⟩)
      |(go_at_call 186;(with_reducible refine(RD _).mono ?_);rintro _ _ ⟨rfl,y4,rfl⟩;rw[HB.out])
      |(go_at_call 183;(with_reducible refine(RF _ _ _).mono ?_);rintro _ _ ⟨rfl,y5,rfl⟩))
     go_ret
     exact⟨D1 HR.out.symm,Hup.out _⟩
 ·rcases BB0.out with⟨xt,hxt,hxi,htr,htv⟩|⟨htr,_,htv⟩
  ·have Htr:=A2 htr;clear htr
   subst htv;have k2:∀y:A6 y1.w,y.w.cell? ⟨xt.g,2,none⟩=some (.bool xt.t.z):=fun y=>((Hh.out.tr xt hxt).since y).c 2 _ rfl;clear hxt hxi
   cases hA:P6 u with
   |false=>
    have HA:=A2 hA;clear hA
    have HR:=A2 (show G2 f c ⟨d,q,a,t,4,(b:Int),pl,r,i⟩=23 from by unfold G2;dsimp only;rw[HU.out];simp[HA.out,Htr.out])
    go_wp2_with(first
     |(go_at_call 184;(with_reducible refine(PK _).mono ?_);rintro _ _ ⟨rfl,y2,rfl⟩;rw[HA.out])
     |(go_at_call 185;(with_reducible refine(CT _).mono ?_);rintro _ _ ⟨rfl,y3,rfl⟩)
     |(go_at_call 186;(with_reducible refine(RD _).mono ?_);rintro _ _ ⟨rfl,y4,rfl⟩;rw[HB.out])
     |(go_at_call 183;(with_reducible refine(RF _ _ _).mono ?_);rintro _ _ ⟨rfl,y5,rfl⟩))
    go_ret
    exact⟨D1 HR.out.symm,Hup.out _⟩
   |true=>
    have HA:=A2 hA;clear hA
    cases hz:xt.t.z with
    |true=>
     rw[hz]at k2
     have Hz:=A2 hz;clear hz
     have HR:=A2 (show G2 f c ⟨d,q,a,t,4,(b:Int),pl,r,i⟩=12 from by unfold G2;dsimp only;rw[HU.out];simp[HA.out,Htr.out,Hz.out])
     go_wp2_with(first
      |(go_at_call 184;(with_reducible refine(PK _).mono ?_);rintro _ _ ⟨rfl,y2,rfl⟩;rw[HA.out])
      |(go_at_call 185;(with_reducible refine(CT _).mono ?_);rintro _ _ ⟨rfl,y3,rfl⟩)
      |(go_at_call 186;(with_reducible refine(RD _).mono ?_);rintro _ _ ⟨rfl,y4,rfl⟩;rw[HB.out])
      |(go_at_call 183;(with_reducible refine(RF _ _ _).mono ?_);rintro _ _ ⟨rfl,y5,rfl⟩))
     go_ret
     exact⟨D1 HR.out.symm,Hup.out _⟩
    |false=>
     rw[hz]at k2
     have Hz:=A2 hz;clear hz
     have HR:=A2 (show G2 f c ⟨d,q,a,t,4,(b:Int),pl,r,i⟩=0 from by unfold G2;dsimp only;rw[HU.out];simp[HA.out,Htr.out,Hz.out])
     go_wp2_with(first
      |(go_at_call 184;(with_reducible refine(PK _).mono ?_);rintro _ _ ⟨rfl,y2,rfl⟩;rw[HA.out])
      |(go_at_call 185;(with_reducible refine(CT _).mono ?_);rintro _ _ ⟨rfl,y3,rfl⟩)
      |(go_at_call 186;(with_reducible refine(RD _).mono ?_);rintro _ _ ⟨rfl,y4,rfl⟩;rw[HB.out])
      |(go_at_call 183;(with_reducible refine(RF _ _ _).mono ?_);rintro _ _ ⟨rfl,y5,rfl⟩))
     go_ret
     exact⟨D1 HR.out.symm,Hup.out _⟩
  ·have Htr:=A2 htr;clear htr
   subst htv;have HR:=A2 (show G2 f c ⟨d,q,a,t,4,(b:Int),pl,r,i⟩=7 from by unfold G2;dsimp only;rw[HU.out];simp[Htr.out]);go_wp2_with(first
    |(go_at_call 184;(with_reducible refine(PK _).mono ?_);rintro _ _ ⟨rfl,y2,rfl⟩;rw[HA.out])
    |(go_at_call 185;(with_reducible refine(CT _).mono ?_);rintro _ _ ⟨rfl,y3,rfl⟩)
    |(go_at_call 186;(with_reducible refine(RD _).mono ?_);rintro _ _ ⟨rfl,y4,rfl⟩;rw[HB.out])
    |(go_at_call 183;(with_reducible refine(RF _ _ _).mono ?_);rintro _ _ ⟨rfl,y5,rfl⟩))
   go_ret;exact⟨D1 HR.out.symm,Hup.out _⟩
 ·by_cases h3:u.w=3
  ·have H3:=A2 h3
   have e3:(u.w != 3)=false:=by rw[h3];rfl
   rw[h3]at E9;clear h3
   cases hz:u.z with
   |true=>
    rw[hz]at I9
    have Hz:=A2 hz;clear hz
    have HR:=A2 (show G2 f c ⟨d,q,a,t,5,(b:Int),pl,r,i⟩=12 from by unfold G2;dsimp only;rw[HU.out];simp[H3.out,Hz.out])
    go_wp2_with(first
     |(go_at_call 184;(with_reducible refine(PK _).mono ?_);rintro _ _ ⟨rfl,y2,rfl⟩;rw[HA.out])
     |(go_at_call 185;(with_reducible refine(CT _).mono ?_);rintro _ _ ⟨rfl,y3,rfl⟩)
     |(go_at_call 186;(with_reducible refine(RD _).mono ?_);rintro _ _ ⟨rfl,y4,rfl⟩;rw[HB.out])
     |(go_at_call 183;(with_reducible refine(RF _ _ _).mono ?_);rintro _ _ ⟨rfl,y5,rfl⟩))
    go_ret
    exact⟨D1 HR.out.symm,Hup.out _⟩
   |false=>
    rw[hz]at I9
    have Hz:=A2 hz;clear hz
    have HR:=A2 (show G2 f c ⟨d,q,a,t,5,(b:Int),pl,r,i⟩=0 from by unfold G2;dsimp only;rw[HU.out];simp[H3.out,Hz.out])
    go_wp2_with(first
     |(go_at_call 184;(with_reducible refine(PK _).mono ?_);rintro _ _ ⟨rfl,y2,rfl⟩;rw[HA.out])
     |(go_at_call 185;(with_reducible refine(CT _).mono ?_);rintro _ _ ⟨rfl,y3,rfl⟩)
     |(go_at_call 186;(with_reducible refine(RD _).mono ?_);rintro _ _ ⟨rfl,y4,rfl⟩;rw[HB.out])
     |(go_at_call 183;(with_reducible refine(RF _ _ _).mono ?_);rintro _ _ ⟨rfl,y5,rfl⟩))
    go_ret
    exact⟨D1 HR.out.symm,Hup.out _⟩
  ·have H3:=A2 h3
   have e3:(u.w != 3)=true:=by simpa using h3
   clear h3;have HR:=A2 (show G2 f c ⟨d,q,a,t,5,(b:Int),pl,r,i⟩=23 from by unfold G2;dsimp only;rw[HU.out];simp[H3.out]);go_wp2_with(first
    |(go_at_call 184;(with_reducible refine(PK _).mono ?_);rintro _ _ ⟨rfl,y2,rfl⟩;rw[HA.out])
    |(go_at_call 185;(with_reducible refine(CT _).mono ?_);rintro _ _ ⟨rfl,y3,rfl⟩)
    |(go_at_call 186;(with_reducible refine(RD _).mono ?_);rintro _ _ ⟨rfl,y4,rfl⟩;rw[HB.out])
    |(go_at_call 183;(with_reducible refine(RF _ _ _).mono ?_);rintro _ _ ⟨rfl,y5,rfl⟩))
   go_ret;exact⟨D1 HR.out.symm,Hup.out _⟩
 ·by_cases h3:u.w=3
  ·have H3:=A2 h3
   have e3:(u.w != 3)=false:=by rw[h3];rfl
   rw[h3]at E9;clear h3
   cases hz:u.z with
   |true=>
    rw[hz]at I9
    have Hz:=A2 hz;clear hz
    have HR:=A2 (show G2 f c ⟨d,q,a,t,6,(b:Int),pl,r,i⟩=0 from by unfold G2;dsimp only;rw[HU.out];simp[H3.out,Hz.out])
    go_wp2_with(first
     |(go_at_call 184;(with_reducible refine(PK _).mono ?_);rintro _ _ ⟨rfl,y2,rfl⟩;rw[HA.out])
     |(go_at_call 185;(with_reducible refine(CT _).mono ?_);rintro _ _ ⟨rfl,y3,rfl⟩)
     |(go_at_call 186;(with_reducible refine(RD _).mono ?_);rintro _ _ ⟨rfl,y4,rfl⟩;rw[HB.out])
     |(go_at_call 183;(with_reducible refine(RF _ _ _).mono ?_);rintro _ _ ⟨rfl,y5,rfl⟩))
    go_ret
    exact⟨D1 HR.out.symm,Hup.out _⟩
   |false=>
    rw[hz]at I9
    have Hz:=A2 hz;clear hz
    have HR:=A2 (show G2 f c ⟨d,q,a,t,6,(b:Int),pl,r,i⟩=12 from by unfold G2;dsimp only;rw[HU.out];simp[H3.out,Hz.out])
    go_wp2_with(first
     |(go_at_call 184;(with_reducible refine(PK _).mono ?_);rintro _ _ ⟨rfl,y2,rfl⟩;rw[HA.out])
     |(go_at_call 185;(with_reducible refine(CT _).mono ?_);rintro _ _ ⟨rfl,y3,rfl⟩)
     |(go_at_call 186;(with_reducible refine(RD _).mono ?_);rintro _ _ ⟨rfl,y4,rfl⟩;rw[HB.out])
     |(go_at_call 183;(with_reducible refine(RF _ _ _).mono ?_);rintro _ _ ⟨rfl,y5,rfl⟩))
    go_ret
    exact⟨D1 HR.out.symm,Hup.out _⟩
  ·have H3:=A2 h3
   have e3:(u.w != 3)=true:=by simpa using h3
   clear h3;have HR:=A2 (show G2 f c ⟨d,q,a,t,6,(b:Int),pl,r,i⟩=23 from by unfold G2;dsimp only;rw[HU.out];simp[H3.out]);go_wp2_with(first
    |(go_at_call 184;(with_reducible refine(PK _).mono ?_);rintro _ _ ⟨rfl,y2,rfl⟩;rw[HA.out])
    |(go_at_call 185;(with_reducible refine(CT _).mono ?_);rintro _ _ ⟨rfl,y3,rfl⟩)
    |(go_at_call 186;(with_reducible refine(RD _).mono ?_);rintro _ _ ⟨rfl,y4,rfl⟩;rw[HB.out])
    |(go_at_call 183;(with_reducible refine(RF _ _ _).mono ?_);rintro _ _ ⟨rfl,y5,rfl⟩))
   go_ret;exact⟨D1 HR.out.symm,Hup.out _⟩
 ·by_cases h3:u.w=3
  ·have H3:=A2 h3
   rw[h3]at E9;clear h3;have HR:=A2 (show G2 f c ⟨d,q,a,t,7,(b:Int),pl,r,i⟩=23 from by unfold G2;dsimp only;rw[HU.out];simp[H3.out]);go_wp2_with(first
    |(go_at_call 184;(with_reducible refine(PK _).mono ?_);rintro _ _ ⟨rfl,y2,rfl⟩;rw[HA.out])
    |(go_at_call 185;(with_reducible refine(CT _).mono ?_);rintro _ _ ⟨rfl,y3,rfl⟩)
    |(go_at_call 186;(with_reducible refine(RD _).mono ?_);rintro _ _ ⟨rfl,y4,rfl⟩;rw[HB.out])
    |(go_at_call 183;(with_reducible refine(RF _ _ _).mono ?_);rintro _ _ ⟨rfl,y5,rfl⟩))
   go_ret;exact⟨D1 HR.out.symm,Hup.out _⟩
  ·by_cases h4:u.w=4
   ·have H3:=A2 h4
    rw[h4]at E9;clear h3 h4;have HR:=A2 (show G2 f c ⟨d,q,a,t,7,(b:Int),pl,r,i⟩=23 from by unfold G2;dsimp only;rw[HU.out];simp[H3.out]);go_wp2_with(first
     |(go_at_call 184;(with_reducible refine(PK _).mono ?_);rintro _ _ ⟨rfl,y2,rfl⟩;rw[HA.out])
     |(go_at_call 185;(with_reducible refine(CT _).mono ?_);rintro _ _ ⟨rfl,y3,rfl⟩)
     |(go_at_call 186;(with_reducible refine(RD _).mono ?_);rintro _ _ ⟨rfl,y4,rfl⟩;rw[HB.out])
     |(go_at_call 183;(with_reducible refine(RF _ _ _).mono ?_);rintro _ _ ⟨rfl,y5,rfl⟩))
    go_ret;exact⟨D1 HR.out.symm,Hup.out _⟩
   ·have H3:=A2 h3
    have H4:=A2 h4;have e3:(u.w == 3)=false:=by simpa using h3
    have e4:(u.w == 4)=false:=by simpa using h4
    clear h3 h4;obtain⟨hp0,hpl⟩:=HP7.out rfl;obtain⟨m,rfl⟩:∃m:Nat,pl=(m:Int):=⟨pl.toNat,by omega⟩
    obtain⟨N,hN⟩:∃N,c.cnt 4 (m:Int)=N:=⟨_,rfl⟩
    have HN:=A2 hN;clear hN;obtain⟨bt,offt,rfl,hbt,hct⟩:=Hf.out.t m (by omega);have kt:∀y:A6 y1.w,y.w.cell? ⟨bt,offt+m,none⟩=some (.int .i64 (B2 f.tk m)):=fun y=>A6.cell hct hbt y;have ks:∀y:A6 y1.w,y.w.cell? ⟨p,4,none⟩=some (.slice (some ⟨bt,offt,none⟩) f.tk.length tc):=fun y=>(Hh.out.st.since y).c 4 _ rfl;obtain⟨M,hM⟩:∃M,B2 f.tk m=M:=⟨_,rfl⟩
    rw[hM]at kt;have HM:=A2 hM;clear hM hct hbt;have CT:∀x:A6 y1.w,Calls Tryz.prog 185 #[.pointer (some ⟨p,0,none⟩),.int .i64 4,.int .i64 (m:Int)] x.w fun o w'=>o= .returned (.int .i64 N)∧∃y:A6 y1.w,w'=y.w:=fun x=>by rw[←HN.out];exact Al8 y1.w x f da _ dc tc p gs bo bu n T c Hh.out Hl.out 4 (m:Int)
    have HRF:=RF;by_cases hMN:M≤N
    ·have Hg:=A2 hMN
     have hd:decide (M≤N)=true:=by simpa using hMN
     clear hMN;have HR:=A2 (show G2 f c ⟨d,q,a,t,7,(b:Int),(m:Int),r,i⟩=24 from by unfold G2;dsimp only;rw[HU.out];simp[H3.out,H4.out,HN.out,HM.out,Hg.out]);go_upto_region 32 with fail;refine K6 (by kernel_rfl) (by kernel_rfl) ?_;repeat(go_big_quiet_step((first|(go_at_call 185;exact CT _)|(go_at_call 183;exact RF _ _ _))))
     refine wpQuiet_nil ?_;rintro _ ⟨q2,rfl⟩;go_wp2_with fail;go_ret;exact⟨D1 HR.out.symm,Hup.out _⟩
    ·have Hg:=A2 hMN
     have hd:decide (M≤N)=false:=by simpa using hMN
     clear hMN;have HR:=A2 (show G2 f c ⟨d,q,a,t,7,(b:Int),(m:Int),r,i⟩=0 from by unfold G2;dsimp only;rw[HU.out];simp[H3.out,H4.out,HN.out,HM.out,Hg.out]);go_upto_region 32 with fail;refine K6 (by kernel_rfl) (by kernel_rfl) ?_;repeat(go_big_quiet_step((first|(go_at_call 185;exact CT _)|(go_at_call 183;exact RF _ _ _))))
     refine wpQuiet_nil ?_;rintro _ ⟨q2,rfl⟩;go_wp2_with fail;go_ret;exact⟨D1 HR.out.symm,Hup.out _⟩
 ·by_cases h3:u.w=3
  ·have H3:=A2 h3
   rw[h3]at E9;clear h3;have HR:=A2 (show G2 f c ⟨d,q,a,t,8,(b:Int),pl,r,i⟩=23 from by unfold G2;dsimp only;rw[HU.out];simp[H3.out]);go_wp2_with(first
    |(go_at_call 184;(with_reducible refine(PK _).mono ?_);rintro _ _ ⟨rfl,y2,rfl⟩;rw[HA.out])
    |(go_at_call 185;(with_reducible refine(CT _).mono ?_);rintro _ _ ⟨rfl,y3,rfl⟩)
    |(go_at_call 186;(with_reducible refine(RD _).mono ?_);rintro _ _ ⟨rfl,y4,rfl⟩;rw[HB.out])
    |(go_at_call 183;(with_reducible refine(RF _ _ _).mono ?_);rintro _ _ ⟨rfl,y5,rfl⟩))
   go_ret;exact⟨D1 HR.out.symm,Hup.out _⟩
  ·by_cases h4:u.w=5
   ·have H3:=A2 h4
    rw[h4]at E9;clear h3 h4;have HR:=A2 (show G2 f c ⟨d,q,a,t,8,(b:Int),pl,r,i⟩=23 from by unfold G2;dsimp only;rw[HU.out];simp[H3.out]);go_wp2_with(first
     |(go_at_call 184;(with_reducible refine(PK _).mono ?_);rintro _ _ ⟨rfl,y2,rfl⟩;rw[HA.out])
     |(go_at_call 185;(with_reducible refine(CT _).mono ?_);rintro _ _ ⟨rfl,y3,rfl⟩)
     |(go_at_call 186;(with_reducible refine(RD _).mono ?_);rintro _ _ ⟨rfl,y4,rfl⟩;rw[HB.out])
     |(go_at_call 183;(with_reducible refine(RF _ _ _).mono ?_);rintro _ _ ⟨rfl,y5,rfl⟩))
    go_ret;exact⟨D1 HR.out.symm,Hup.out _⟩
   ·have H3:=A2 h3
    have H4:=A2 h4;have e3:(u.w == 3)=false:=by simpa using h3
    have e4:(u.w == 5)=false:=by simpa using h4
    clear h3 h4;have HR:=A2 (show G2 f c ⟨d,q,a,t,8,(b:Int),pl,r,i⟩=0 from by unfold G2;dsimp only;rw[HU.out];simp[H3.out,H4.out]);go_wp2_with(first
     |(go_at_call 184;(with_reducible refine(PK _).mono ?_);rintro _ _ ⟨rfl,y2,rfl⟩;rw[HA.out])
     |(go_at_call 185;(with_reducible refine(CT _).mono ?_);rintro _ _ ⟨rfl,y3,rfl⟩)
     |(go_at_call 186;(with_reducible refine(RD _).mono ?_);rintro _ _ ⟨rfl,y4,rfl⟩;rw[HB.out])
     |(go_at_call 183;(with_reducible refine(RF _ _ _).mono ?_);rintro _ _ ⟨rfl,y5,rfl⟩))
    go_ret;exact⟨D1 HR.out.symm,Hup.out _⟩
 ·by_cases h3:u.w=5
  ·have H3:=A2 h3
   rw[h3]at E9;clear h3;have HR:=A2 (show G2 f c ⟨d,q,a,t,9,(b:Int),pl,r,i⟩=23 from by unfold G2;dsimp only;rw[HU.out];simp[H3.out]);go_wp2_with(first
    |(go_at_call 184;(with_reducible refine(PK _).mono ?_);rintro _ _ ⟨rfl,y2,rfl⟩;rw[HA.out])
    |(go_at_call 185;(with_reducible refine(CT _).mono ?_);rintro _ _ ⟨rfl,y3,rfl⟩)
    |(go_at_call 186;(with_reducible refine(RD _).mono ?_);rintro _ _ ⟨rfl,y4,rfl⟩;rw[HB.out])
    |(go_at_call 183;(with_reducible refine(RF _ _ _).mono ?_);rintro _ _ ⟨rfl,y5,rfl⟩))
   go_ret;exact⟨D1 HR.out.symm,Hup.out _⟩
  ·by_cases h4:u.w=6
   ·have H3:=A2 h4
    rw[h4]at E9;clear h3 h4;have HR:=A2 (show G2 f c ⟨d,q,a,t,9,(b:Int),pl,r,i⟩=23 from by unfold G2;dsimp only;rw[HU.out];simp[H3.out]);go_wp2_with(first
     |(go_at_call 184;(with_reducible refine(PK _).mono ?_);rintro _ _ ⟨rfl,y2,rfl⟩;rw[HA.out])
     |(go_at_call 185;(with_reducible refine(CT _).mono ?_);rintro _ _ ⟨rfl,y3,rfl⟩)
     |(go_at_call 186;(with_reducible refine(RD _).mono ?_);rintro _ _ ⟨rfl,y4,rfl⟩;rw[HB.out])
     |(go_at_call 183;(with_reducible refine(RF _ _ _).mono ?_);rintro _ _ ⟨rfl,y5,rfl⟩))
    go_ret;exact⟨D1 HR.out.symm,Hup.out _⟩
   ·have H3:=A2 h3
    have H4:=A2 h4;have e3:(u.w == 5)=false:=by simpa using h3
    have e4:(u.w == 6)=false:=by simpa using h4
    clear h3 h4;have HR:=A2 (show G2 f c ⟨d,q,a,t,9,(b:Int),pl,r,i⟩=0 from by unfold G2;dsimp only;rw[HU.out];simp[H3.out,H4.out]);go_wp2_with(first
     |(go_at_call 184;(with_reducible refine(PK _).mono ?_);rintro _ _ ⟨rfl,y2,rfl⟩;rw[HA.out])
     |(go_at_call 185;(with_reducible refine(CT _).mono ?_);rintro _ _ ⟨rfl,y3,rfl⟩)
     |(go_at_call 186;(with_reducible refine(RD _).mono ?_);rintro _ _ ⟨rfl,y4,rfl⟩;rw[HB.out])
     |(go_at_call 183;(with_reducible refine(RF _ _ _).mono ?_);rintro _ _ ⟨rfl,y5,rfl⟩))
    go_ret;exact⟨D1 HR.out.symm,Hup.out _⟩
end
section
open Go.RowKit Go.ChangeMaps
def kV (w:World) (fc:List Value) (p gs bo bu n:Nat) (T:List E7) (c:B9) (o:Ending) (w':World):Prop:=
 o= .returned (.tuple #[])∧B7 (M6 gs bo bu T) w w'∧∃T':List E7,I8 w' fc p gs bo bu n T' c∧∀g∈T'.map (·.g),g∈T.map (·.g)
theorem qW {w:World} {g:Nat} {a b c d:Value} (lt:g<w.heap.size) (h0:w.cell? ⟨g,0,none⟩=some a) (h1:w.cell? ⟨g,1,none⟩=some b) (h2:w.cell? ⟨g,2,none⟩=some c) (h3:w.cell? ⟨g,3,none⟩=some d) (hf:∀o,w.frozen? ⟨g,o,none⟩=false):C3 w g [a,b,c,d]:=by
 refine⟨lt,fun j v hv=>?_,hf⟩;match j,hv with
 |0,hv=>cases hv;exact h0
 |1,hv=>cases hv;exact h1
 |2,hv=>cases hv;exact h2
 |3,hv=>cases hv;exact h3
 |j+4,hv=>simp at hv
theorem I8.lts {w:World} {fc:List Value} {p gs bo bu n:Nat} {T:List E7} {c:B9} (h:I8 w fc p gs bo bu n T c):p<w.heap.size∧gs<w.heap.size∧bo<w.heap.size∧bu<w.heap.size∧∀g∈T.map (·.g),g<w.heap.size:=
 ⟨h.st.lt,h.sp.lt,h.mo.lt,h.mu.lt,fun g hg=>by obtain⟨x,hx,rfl⟩:=List.mem_map.1 hg;exact(h.tr x hx).lt⟩
theorem I8.notS {w:World} {fc:List Value} {p gs bo bu n:Nat} {T:List E7} {c:B9} (h:I8 w fc p gs bo bu n T c) {g:Nat} (hg:w.heap.size≤g):¬M6 gs bo bu T g:=by
 obtain⟨h1,h2,h3,h4,h5⟩:=h.lts;unfold M6;intro hm;simp only[List.mem_cons]at hm;rcases hm with rfl|rfl|rfl|hm
 ·omega
 ·omega
 ·omega
 ·have:=h5 g hm;omega
theorem wN {gs bo bu g:Nat} {T T':List E7} (h:∀g∈T'.map (·.g),g∈T.map (·.g)) (hg:M6 gs bo bu T' g):M6 gs bo bu T g:=by
 unfold M6 at hg⊢;simp only[List.mem_cons]at hg⊢;rcases hg with rfl|rfl|rfl|hg
 ·exact .inl rfl
 ·exact .inr (.inl rfl)
 ·exact .inr (.inr (.inl rfl))
 ·exact .inr (.inr (.inr (h g hg)))
theorem C3.setE1 {α:Type} {enc:α→List Value} {k:Nat} (hk:∀x,(enc x).length=k) {w:World} {g:Nat} {L:List α} (h:C3 w g (B6 enc L)) {b j:Nat} {u y:α} {v:Value} (hu:L[b]? =some u) (hj:j<k) (hy:enc y=(enc u).set j v):C3 (w.setCell ⟨g,b*k+j,none⟩ v) g (B6 enc (L.set b y)):=by
 have hb:b<L.length:=(A4 hu).1;have hm:(b+1)*k≤L.length*k:=Nat.mul_le_mul_right k hb;rw[Nat.succ_mul]at hm;have h1:=h.setj (j:=b*k+j) (by rw[b9 hk];omega) v;have e:(B6 enc L).set (b*k+j) v=B6 enc (L.set b y):=by
  refine List.ext_getElem? fun i=>?_;rw[qT hk y L b hb];by_cases hi:b*k≤i∧i<b*k+k
  ·rw[if_pos hi,hy]
   obtain⟨m,rfl⟩:∃m,i=b*k+m:=⟨i-b*k,by omega⟩
   rw[show b*k+m-b*k=m by omega,List.getElem?_set,List.getElem?_set];obtain⟨v',hv'⟩:∃v',(enc u)[m]? =some v':=⟨_,A3 (by rw[hk];omega)⟩
   have:=G0 hk L b u m v' hu hv';by_cases hjm:j=m
   ·subst hjm;rw[if_pos rfl,if_pos (by rw[b9 hk];omega),if_pos rfl,if_pos (by rw[hk];exact hj)]
   ·rw[if_neg (by omega),if_neg hjm,this,hv']
  ·rw[if_neg hi,List.getElem?_set,if_neg (by omega)]
 rwa[e]at h1
theorem I8.put3 {w:World} {fc:List Value} {p gs bo bu n:Nat} {T:List E7} {c:B9} (h:I8 w fc p gs bo bu n T c) {b:Nat} {u:D3} (hu:c.sp[b]? =some u) (z:Bool):I8 (w.setCell ⟨gs,b*4+3,none⟩ (.bool z)) fc p gs bo bu n T (c.put (b:Int) {u with z:=z})∧B7 (M6 gs bo bu T) w (w.setCell ⟨gs,b*4+3,none⟩ (.bool z)):=by
 have hk:B7 (fun g=>g=gs) w (w.setCell ⟨gs,b*4+3,none⟩ (.bool z)):=B7.set (S:=fun g=>g=gs) w _ _ rfl;have hn:=h.ne;simp only[List.nodup_cons,List.mem_cons,List.mem_map,not_or]at hn;obtain⟨⟨n1,n2,n3,n4⟩,⟨n5,n6,n7⟩,⟨n8,n9⟩,n10,n11⟩:=hn;refine⟨⟨?_,?_,h.mo.keepS hk (Ne.symm n5),h.bn,h.mu.keepS hk (Ne.symm n6),fun y hy=>(h.tr y hy).keepS hk (fun e=>n7 ⟨y,hy,e⟩),h.op,h.ne⟩,B7.set _ _ _ (by simp[M6])⟩
 ·have:=h.st.keepS hk n1
  simpa[B9.put]using this
 ·have:=h.sp.setE1 D3.len hu (j:=3) (y:={u with z:=z}) (v:=.bool z) (by decide) rfl
  simpa[B9.put]using this
theorem Al9 (w:World):(zeroValue 286).run Tryz.prog w= .ok (.pointer none) w:=by kernel_rfl
theorem AX9 {i:Int} {T:List E7} (h:D8 i (N9 (T.map E7.ent)) 0=none):∀x∈T,x.i≠i:=by
 have key:∀(T:List E7) (m:Nat),D8 i (N9 (T.map E7.ent)) m=none→∀x∈T,x.i≠i:=by
  intro T;induction T with
  |nil=>intro m _ x hx;cases hx
  |cons y T ih=>
   intro m h x hx
   have e:D8 i (N9 ((y :: T).map E7.ent)) m=if i=y.i then some (m,.pointer (some ⟨y.g,0,none⟩))else D8 i (N9 (T.map E7.ent)) (m+1):=rfl
   rw[e]at h
   split at h
   ·cases h
   ·rename_i hne
    rcases List.mem_cons.1 hx with rfl|hx
    ·exact fun e=>hne e.symm
    ·exact ih _ h x hx
 exact key T 0 h
theorem AY0 {c:B9} {b:Nat} {u v:D3} (hu:c.spt (b:Int)=u) (h:u.w=3):c.leave (b:Int) v=B9.put {c with op:=c.op.filter fun y=>decide (y.1≠u.r)} (b:Int) v:=by
 unfold B9.leave;rw[hu,if_pos h]
theorem AY1 {c:B9} {b:Nat} {u v:D3} (hu:c.spt (b:Int)=u) (h:u.w≠3):c.leave (b:Int) v=c.put (b:Int) v:=by
 unfold B9.leave;rw[hu,if_neg h]
theorem nE (w:World) (f:D5) (da ta:Option Addr) (dc tc p gs bo bu n:Nat) (T:List E7) (c:B9) (h:I8 w [.int .i64 f.bk,.int .i64 f.rd,.int .i64 f.dv,.slice da f.dk.length dc,.slice ta f.tk.length tc] p gs bo bu n T c) (hkeys:(c.op.map (·.1)).Nodup)
 (b:Nat) (hb:b<c.sp.length) (v:D3):
 Calls Tryz.prog 187 #[.pointer (some ⟨p,0,none⟩),.int .i64 (b:Int),.agg #[.int .i64 v.w,.int .i64 v.p,.int .i64 v.r,.bool v.z]] w (kV w [.int .i64 f.bk,.int .i64 f.rd,.int .i64 f.dv,.slice da f.dk.length dc,.slice ta f.tk.length tc] p gs bo bu n T (c.leave (b:Int) v)):=by
 obtain⟨u,hu⟩:∃u,c.sp[b]? =some u:=⟨_,A3 hb⟩
 have HU:=A2 (show c.spt (b:Int)=u from by unfold B9.spt;rw[Int.toNat_natCast,A5,hu];rfl);have HP:=A2 (fun(w':World) (T':List E7) (k1:B7 (M6 gs bo bu T) w w') (k2:I8 w' [.int .i64 f.bk,.int .i64 f.rd,.int .i64 f.dv,.slice da f.dk.length dc,.slice ta f.tk.length tc] p gs bo bu n T' (c.leave (b:Int) v)) (k3:∀g∈T'.map (·.g),g∈T.map (·.g))=>show kV w [.int .i64 f.bk,.int .i64 f.rd,.int .i64 f.dv,.slice da f.dk.length dc,.slice ta f.tk.length tc] p gs bo bu n T (c.leave (b:Int) v) (.returned (.tuple #[])) w' from⟨rfl,k1,T',k2,k3⟩);generalize kV w [.int .i64 f.bk,.int .i64 f.rd,.int .i64 f.dv,.slice da f.dk.length dc,.slice ta f.tk.length tc] p gs bo bu n T (c.leave (b:Int) v)=PO at *;have aI:=A2 hkeys;have Hh:=A2 h;have Hh0:=A2 h;have HB:=A2 hb;have hb0:(0:Int)≤(b:Int):=by omega
 have hbl:(b:Int)<(c.sp.length:Int):=by omega
 obtain⟨x,hx⟩:=A6.refl w;rw[hx];clear hx h hkeys hb;go_enter Tryz.func187,Tryz.ntmps187;go_upto_region 1 with fail;obtain⟨W,bx,y0,hW,hbx,-,B8,Hup,Hbx,HB0⟩:=J8 x [.int .i64 v.w,.int .i64 v.p,.int .i64 v.r,.bool v.z] 180;rw[hW,hbx];clear hW hbx;obtain⟨D7,D9,E3,E5,hf0⟩:=bF HB0;clear HB0;replace Hh:=A2 (Hh.out.to B8);have hs1:∀y:A6 W,y.w.cell? ⟨p,5,none⟩=some (.slice (some ⟨gs,0,none⟩) c.sp.length c.sp.length):=fun y=>(Hh.out.st.since y).c 5 _ rfl;have hq:=fun(j:Nat) (v:Value) (hj:u.cs[j]? =some v) (y:A6 W)=>show y.w.cell? ⟨gs,b*4+j,none⟩=some v from(Hh.out.sp.since y).c _ _ (G0 D3.len c.sp b u j v hu hj);have hq0:=hq 0 _ rfl;have hq1:=hq 1 _ rfl;have hq2:=hq 2 _ rfl;have hq3:=hq 3 _ rfl;simp only[Nat.add_zero]at hq0;clear hq hu B8;go_upto_region 2 with fail;clear hq0 hq1 hq2 hq3 hs1;obtain⟨y1,e2,C5,hsz0,hlt0,HX0⟩:=L9 y0 [.int .i64 u.w,.int .i64 u.p,.int .i64 u.r,.bool u.z] 180;rw[e2];obtain⟨hx0,hx1,hx2,hx3,hxf⟩:=fA HX0;skip;clear e2 C5;generalize y0.w.heap.size=g at *;obtain⟨E9,G1,J4,I9,G8⟩:=bF HX0;have I5:=A2 (And.intro hsz0 hlt0);clear hlt0 hsz0 HX0;clear hx0 hx1 hx2 hx3 hxf;replace D7:∀(y:A6 y1.w),y.w.cell? ⟨bx,0,none⟩=some (.int .i64 v.w):=fun y=>by obtain⟨z,e⟩:=y1.trans y;rw[e];exact D7 z
 replace D9:∀(y:A6 y1.w),y.w.cell? ⟨bx,1,none⟩=some (.int .i64 v.p):=fun y=>by obtain⟨z,e⟩:=y1.trans y;rw[e];exact D9 z
 replace E3:∀(y:A6 y1.w),y.w.cell? ⟨bx,2,none⟩=some (.int .i64 v.r):=fun y=>by obtain⟨z,e⟩:=y1.trans y;rw[e];exact E3 z
 replace E5:∀(y:A6 y1.w),y.w.cell? ⟨bx,3,none⟩=some (.bool v.z):=fun y=>by obtain⟨z,e⟩:=y1.trans y;rw[e];exact E5 z
 replace hf0:∀(y:A6 y1.w) (o:Nat),y.w.frozen? ⟨bx,o,none⟩=false:=fun y o=>by obtain⟨z,e⟩:=y1.trans y;rw[e];exact hf0 z o
 replace Hh:=A2 (Hh.out.to ⟨y1,rfl⟩);have HK:=A2 (show B7 (M6 gs bo bu T) w y1.w from by obtain⟨y,e⟩:=Hup.out y1;rw[e];exact B7.of y);have hbv:C3 y1.w bx v.cs:=qW (by have h1:=Hbx.out;have h2:=y1.b.size;omega) (D7 (A6.self _)) (D9 (A6.self _)) (E3 (A6.self _)) (E5 (A6.self _)) (fun o=>hf0 (A6.self _) o);have Hbv:=A2 hbv;have Hbw:=A2 (show w.heap.size≤bx from Hbx.out.1);clear hbv D7 D9 E3 E5 hf0 I5;by_cases h3:u.w=3
 ·have HE:=A2 (AY0 (v:=v) HU.out h3)
  rw[h3]at E9;have hx0:y1.w.cell? ⟨g,0,none⟩=some (.int .i64 3):=E9 (A6.self _);clear h3;have hs2:∀w',A7 y1.w w'→w'.cell? ⟨p,6,none⟩=some (.map (some bo)):=fun w' h=>by obtain⟨y,rfl⟩:=h;exact(Hh.out.st.since y).c 6 _ rfl
  have hx2:=fun(w':World) (h:A7 y1.w w')=>A7.cell J4 h;go_upto_region 3 with fail;clear hx0;refine R0 (fun w'=>A7 y1.w w') 6 (by kernel_rfl) (A7.drew' (A7.self _)) (fun hS=>?_);refine tk 0 ?_ rfl (by kernel_rfl) hS (fun _ _ _ h=>h) ?_ ?_;rotate_left
  ·(intro w h;(try dsimp only at h);go_split_ands;go_simp;try with_reducible rfl)
  (try simp only[Act.put,B0])
  refine tk 1 ?_ rfl (by kernel_rfl) hS (fun _ _ _ h=>h) ?_ ?_;rotate_left
  ·(intro w h;(try dsimp only at h);go_split_ands;go_simp;try with_reducible rfl)
  (try simp only[Act.put,B0])
  refine tk 2 ?_ rfl (by kernel_rfl) hS (fun _ _ _ h=>h) ?_ ?_;rotate_left
  ·(intro w h;(try dsimp only at h);go_split_ands;go_simp;try with_reducible rfl)
  (try simp only[Act.put,B0])
  refine tk 3 ?_ rfl (by kernel_rfl) hS (fun _ _ _ h=>h) ?_ ?_;rotate_left
  ·(intro w h;(try dsimp only at h);go_split_ands;go_simp;try with_reducible rfl)
  (try simp only[Act.put,B0])
  refine tk 4 ?_ rfl (by kernel_rfl) hS (fun _ _ _ h=>h) ?_ ?_;rotate_left
  ·(intro w h;(try dsimp only at h);go_split_ands;go_simp;try with_reducible rfl)
  (try simp only[Act.put,B0])
  refine tk 5 ?_ rfl (by kernel_rfl) hS (fun _ _ _ h=>h) ?_ ?_;rotate_left
  ·(intro w h;(try dsimp only at h);go_split_ands;go_simp;try with_reducible rfl)
  (try simp only[Act.put,B0])
  refine G6 6 (by kernel_rfl) rfl fun K hK=>?_;(refine AJ8 (n:=n) fL rfl _ _ _ _ rfl Tryz.underlying278 rfl u.r rfl Hh.out.mo.drew ?_;intro w2 hm2 hg2)
  refine M0 hK (by kernel_rfl) ?_;clear hK K;(try clear hS)
  (try simp only[Act.put,B0])
  clear hs2 hx2 E9 G1 J4 I9 G8;obtain⟨hM,hK⟩:=(Hh.out.to (A7.drew' (A7.self _))).gone aI.out u.r hm2 hg2;have AB9:C3 w2 bx v.cs:=(Hbv.out.drew).keepS hK (Hh0.out.notS Hbw.out);have hK2:=HK.out.step ((B7.to (B7.refl (M6 gs bo bu T) y1.w) (A7.drew' (A7.self _))).step hK);have hM0:=hM;have HM:=A2 hM;have HK3:=A2 hK2;have HB2:=A2 AB9;have HS2:=A2 (show∀g∈(T.filter fun x=>decide (x.i≠u.r)).map (·.g),g∈T.map (·.g)from fun g hg=>by
   obtain⟨x,hx,rfl⟩:=List.mem_map.1 hg;exact List.mem_map.2 ⟨x,(List.mem_filter.1 hx).1,rfl⟩)
  clear hM hK AB9 hK2 hm2 hg2 hM0 Hbv HK;generalize T.filter (fun x=>decide (x.i≠u.r))=T2 at *;have HB3:=A2 (show b<({c with op:=c.op.filter fun y=>decide (y.1≠u.r)}:B9).sp.length from HB.out);have HL:=A2 (show({c with op:=c.op.filter fun y=>decide (y.1≠u.r)}:B9).sp.length=c.sp.length from rfl);generalize({c with op:=c.op.filter fun y=>decide (y.1≠u.r)}:B9)=c2 at *;have hs1:∀w',A7 w2 w'→w'.cell? ⟨p,5,none⟩=some (.slice (some ⟨gs,0,none⟩) c.sp.length c.sp.length):=fun w' h=>by obtain⟨y,rfl⟩:=h;have h1:=(HM.out.st.since y).c 5 _ rfl;rw[HL.out]at h1;exact h1
  have hv0:=fun(w':World) (h:A7 w2 w')=>((HB2.out.to h).c 0 _ rfl)
  have hv1:=fun(w':World) (h:A7 w2 w')=>((HB2.out.to h).c 1 _ rfl)
  have hv2:=fun(w':World) (h:A7 w2 w')=>((HB2.out.to h).c 2 _ rfl)
  have hv3:=fun(w':World) (h:A7 w2 w')=>((HB2.out.to h).c 3 _ rfl)
  obtain⟨u3,hu3⟩:∃u,c2.sp[b]? =some u:=⟨_,A3 HB3.out⟩
  have hq:=fun(j:Nat) (v:Value) (hj:u3.cs[j]? =some v)=>show w2.cell? ⟨gs,b*4+j,none⟩=some v from HM.out.sp.c _ _ (G0 D3.len c2.sp b u3 j v hu3 hj);have hq0:=hq 0 _ rfl;have hq1:=hq 1 _ rfl;have hq2:=hq 2 _ rfl;have hq3:=hq 3 _ rfl;have hqf:∀o,w2.frozen? ⟨gs,o,none⟩=false:=fun o=>HM.out.sp.f o;simp only[Nat.add_zero]at hq0;clear hq hu3;go_upto_region 4 with fail;refine R0 (fun w'=>A7 w2 w') 7 (by kernel_rfl) (A7.drew' (A7.self _)) (fun hS=>?_);refine tk 0 ?_ rfl (by kernel_rfl) hS (fun _ _ _ h=>h) ?_ ?_;rotate_left
  ·(intro w h;(try dsimp only at h);go_split_ands;go_simp;try with_reducible rfl)
  (try simp only[Act.put,B0])
  refine tk 1 ?_ rfl (by kernel_rfl) hS (fun _ _ _ h=>h) ?_ ?_;rotate_left
  ·(intro w h;(try dsimp only at h);go_split_ands;go_simp;try with_reducible rfl)
  (try simp only[Act.put,B0])
  refine tk 2 ?_ rfl (by kernel_rfl) hS (fun _ _ _ h=>h) ?_ ?_;rotate_left
  ·(intro w h;(try dsimp only at h);go_split_ands;go_simp;try with_reducible rfl)
  (try simp only[Act.put,B0])
  refine tk 3 ?_ rfl (by kernel_rfl) hS (fun _ _ _ h=>h) ?_ ?_;rotate_left
  ·(intro w h;(try dsimp only at h);go_split_ands;go_simp;try with_reducible rfl)
  (try simp only[Act.put,B0])
  refine tk 4 ?_ rfl (by kernel_rfl) hS (fun _ _ _ h=>h) ?_ ?_;rotate_left
  ·(intro w h;(try dsimp only at h);go_split_ands;go_simp;try with_reducible rfl)
  (try simp only[Act.put,B0])
  refine tk 5 ?_ rfl (by kernel_rfl) hS (fun _ _ _ h=>h) ?_ ?_;rotate_left
  ·(intro w h;(try dsimp only at h);go_split_ands;go_simp;try with_reducible rfl)
  (try simp only[Act.put,B0])
  refine tk 6 ?_ rfl (by kernel_rfl) hS (fun _ _ _ h=>h) ?_ ?_;rotate_left
  ·(intro w h;(try dsimp only at h);go_split_ands;go_simp;try with_reducible rfl)
  (try simp only[Act.put,B0])
  refine G6 7 (by kernel_rfl) rfl fun K hK=>?_;go_simp;refine M0 hK (by kernel_rfl) ?_;clear hK K;(try clear hS)
  (try simp only[Act.put,B0])
  clear hs1 hv0 hv1 hv2 hv3 hq0 hq1 hq2 hq3 hqf;have hM:=HM.out.to (A7.drew' (A7.self _));obtain⟨hP,hK⟩:=hM.put HB3.out v;have hk1:B7 (M6 gs bo bu T2) w2 w2.drew:=B7.to (B7.refl _ _) (A7.drew' (A7.self _));have hk2:=HK3.out.trans (hk1.step hK) (fun g hg=>.inl (wN HS2.out hg));refine M9 (v:=.tuple #[]) (by simp[results,Tryz.results187,go_sem]) rfl ?_;exact HP.out _ T2 hk2 (by rw[HE.out];exact hP) HS2.out
 ·have HE:=A2 (AY1 (v:=v) HU.out h3)
  have e3:(u.w == 3)=false:=by simpa using h3
  have hx0:y1.w.cell? ⟨g,0,none⟩=some (.int .i64 u.w):=E9 (A6.self _);clear h3;go_upto_region 4 with fail;clear hx0 e3 E9 G1 J4 I9 G8;have HM:=Hh;have HK3:=HK;have HB2:=Hbv;have HB3:=HB;have HL:=A2 (show c.sp.length=c.sp.length from rfl);have HS2:=A2 (show∀g∈T.map (·.g),g∈T.map (·.g)from fun g hg=>hg);clear Hbv HK;have hs1:∀w',A7 y1.w w'→w'.cell? ⟨p,5,none⟩=some (.slice (some ⟨gs,0,none⟩) c.sp.length c.sp.length):=fun w' h=>by obtain⟨y,rfl⟩:=h;have h1:=(HM.out.st.since y).c 5 _ rfl;rw[HL.out]at h1;exact h1
  have hv0:=fun(w':World) (h:A7 y1.w w')=>((HB2.out.to h).c 0 _ rfl)
  have hv1:=fun(w':World) (h:A7 y1.w w')=>((HB2.out.to h).c 1 _ rfl)
  have hv2:=fun(w':World) (h:A7 y1.w w')=>((HB2.out.to h).c 2 _ rfl)
  have hv3:=fun(w':World) (h:A7 y1.w w')=>((HB2.out.to h).c 3 _ rfl)
  obtain⟨u3,hu3⟩:∃u,c.sp[b]? =some u:=⟨_,A3 HB3.out⟩
  have hq:=fun(j:Nat) (v:Value) (hj:u3.cs[j]? =some v)=>show y1.w.cell? ⟨gs,b*4+j,none⟩=some v from HM.out.sp.c _ _ (G0 D3.len c.sp b u3 j v hu3 hj);have hq0:=hq 0 _ rfl;have hq1:=hq 1 _ rfl;have hq2:=hq 2 _ rfl;have hq3:=hq 3 _ rfl;have hqf:∀o,y1.w.frozen? ⟨gs,o,none⟩=false:=fun o=>HM.out.sp.f o;simp only[Nat.add_zero]at hq0;clear hq hu3;go_upto_region 4 with fail;refine R0 (fun w'=>A7 y1.w w') 7 (by kernel_rfl) (A7.drew' (A7.self _)) (fun hS=>?_);refine tk 0 ?_ rfl (by kernel_rfl) hS (fun _ _ _ h=>h) ?_ ?_;rotate_left
  ·(intro w h;(try dsimp only at h);go_split_ands;go_simp;try with_reducible rfl)
  (try simp only[Act.put,B0])
  refine tk 1 ?_ rfl (by kernel_rfl) hS (fun _ _ _ h=>h) ?_ ?_;rotate_left
  ·(intro w h;(try dsimp only at h);go_split_ands;go_simp;try with_reducible rfl)
  (try simp only[Act.put,B0])
  refine tk 2 ?_ rfl (by kernel_rfl) hS (fun _ _ _ h=>h) ?_ ?_;rotate_left
  ·(intro w h;(try dsimp only at h);go_split_ands;go_simp;try with_reducible rfl)
  (try simp only[Act.put,B0])
  refine tk 3 ?_ rfl (by kernel_rfl) hS (fun _ _ _ h=>h) ?_ ?_;rotate_left
  ·(intro w h;(try dsimp only at h);go_split_ands;go_simp;try with_reducible rfl)
  (try simp only[Act.put,B0])
  refine tk 4 ?_ rfl (by kernel_rfl) hS (fun _ _ _ h=>h) ?_ ?_;rotate_left
  ·(intro w h;(try dsimp only at h);go_split_ands;go_simp;try with_reducible rfl)
  (try simp only[Act.put,B0])
  refine tk 5 ?_ rfl (by kernel_rfl) hS (fun _ _ _ h=>h) ?_ ?_;rotate_left
  ·(intro w h;(try dsimp only at h);go_split_ands;go_simp;try with_reducible rfl)
  (try simp only[Act.put,B0])
  refine tk 6 ?_ rfl (by kernel_rfl) hS (fun _ _ _ h=>h) ?_ ?_;rotate_left
  ·(intro w h;(try dsimp only at h);go_split_ands;go_simp;try with_reducible rfl)
  (try simp only[Act.put,B0])
  refine G6 7 (by kernel_rfl) rfl fun K hK=>?_;go_simp;refine M0 hK (by kernel_rfl) ?_;clear hK K;(try clear hS)
  (try simp only[Act.put,B0])
  clear hs1 hv0 hv1 hv2 hv3 hq0 hq1 hq2 hq3 hqf;have hM:=HM.out.to (A7.drew' (A7.self _));obtain⟨hP,hK⟩:=hM.put HB3.out v;have hk1:B7 (M6 gs bo bu T) y1.w y1.w.drew:=B7.to (B7.refl _ _) (A7.drew' (A7.self _));have hk2:=HK3.out.trans (hk1.step hK) (fun g hg=>.inl (wN HS2.out hg));refine M9 (v:=.tuple #[]) (by simp[results,Tryz.results187,go_sem]) rfl ?_;exact HP.out _ T hk2 (by rw[HE.out];exact hP) HS2.out
theorem Am0 (w:World) (f:D5) (da ta:Option Addr) (dc tc p gs bo bu n:Nat) (T:List E7) (c:B9) (h:I8 w [.int .i64 f.bk,.int .i64 f.rd,.int .i64 f.dv,.slice da f.dk.length dc,.slice ta f.tk.length tc] p gs bo bu n T c) (hkeys:(c.op.map (·.1)).Nodup)
 (b:Nat) (u:D3) (hu:c.sp[b]? =some u) (hx:∃x∈T,x.i=u.r) (z:Bool):
 Calls Tryz.prog 188 #[.pointer (some ⟨p,0,none⟩),.int .i64 (b:Int),.bool z] w (kV w [.int .i64 f.bk,.int .i64 f.rd,.int .i64 f.dv,.slice da f.dk.length dc,.slice ta f.tk.length tc] p gs bo bu n T ((c.put (b:Int) {c.spt (b:Int)with z:=z}).setT (c.spt (b:Int)).r fun t=>{t with z:=z})):=by
 have hU:c.spt (b:Int)=u:=by unfold B9.spt;rw[Int.toNat_natCast,A5,hu];rfl
 rw[hU];have HP:=A2 (fun(w':World) (T':List E7) (k1:B7 (M6 gs bo bu T) w w') (k2:I8 w' [.int .i64 f.bk,.int .i64 f.rd,.int .i64 f.dv,.slice da f.dk.length dc,.slice ta f.tk.length tc] p gs bo bu n T' ((c.put (b:Int) {u with z:=z}).setT u.r fun t=>{t with z:=z})) (k3:∀g∈T'.map (·.g),g∈T.map (·.g))=>show kV w [.int .i64 f.bk,.int .i64 f.rd,.int .i64 f.dv,.slice da f.dk.length dc,.slice ta f.tk.length tc] p gs bo bu n T ((c.put (b:Int) {u with z:=z}).setT u.r fun t=>{t with z:=z}) (.returned (.tuple #[])) w' from⟨rfl,k1,T',k2,k3⟩);generalize kV w [.int .i64 f.bk,.int .i64 f.rd,.int .i64 f.dv,.slice da f.dk.length dc,.slice ta f.tk.length tc] p gs bo bu n T ((c.put (b:Int) {u with z:=z}).setT u.r fun t=>{t with z:=z})=PO at *;obtain⟨xt,hxt,hxi⟩:=hx;have hlo:=qV h hkeys u.r;have hlv:N7 u.r (N9 (T.map E7.ent)) (.pointer none)= .pointer (some ⟨xt.g,0,none⟩):=by
  rcases hlo with⟨x,hx,hi,_,hv⟩|⟨_,hno,_⟩
  ·have:x=xt:=wM (h.keys hkeys) hx hxt (hi.trans hxi.symm)
   rw[hv,this]
  ·have hmem:=AX9 hno
   exact absurd hxi (hmem xt hxt)
 have aI:=A2 hkeys;have Hh:=A2 h;have Hxt:=A2 hxt;have Hxi:=A2 hxi;have Hu:=A2 hu;have hb:b<c.sp.length:=(A4 hu).1;have hb0:(0:Int)≤(b:Int):=by omega
 have hbl:(b:Int)<(c.sp.length:Int):=by omega
 have hs1:∀w',A7 w w'→w'.cell? ⟨p,5,none⟩=some (.slice (some ⟨gs,0,none⟩) c.sp.length c.sp.length):=fun w' h=>by obtain⟨y,rfl⟩:=h;exact(Hh.out.st.since y).c 5 _ rfl
 have hs2:∀w',A7 w w'→w'.cell? ⟨p,6,none⟩=some (.map (some bo)):=fun w' h=>by obtain⟨y,rfl⟩:=h;exact(Hh.out.st.since y).c 6 _ rfl
 have hq2:∀w',A7 w w'→w'.cell? ⟨gs,b*4+2,none⟩=some (.int .i64 u.r):=fun w' h=>by obtain⟨y,rfl⟩:=h;exact(Hh.out.sp.since y).c _ _ (G0 D3.len c.sp b u 2 _ Hu.out rfl)
 have hlk:∀w',A7 w w'→(Instr.lookup 278 (.map (some bo)) (.int .i64 u.r) false).run Tryz.prog w'= .ok (.pointer (some ⟨xt.g,0,none⟩)) w':=fun w' h=>by obtain⟨y,rfl⟩:=h;have h1:=tV fL (Hh.out.mo.since y) Tryz.underlying278 (Al9 _) u.r false;rw[if_neg (by decide),hlv]at h1;exact h1
 have hk2:w.cell? ⟨xt.g,2,none⟩=some (.bool xt.t.z):=(Hh.out.tr xt Hxt.out).c 2 _ rfl;have hkf:∀o,w.frozen? ⟨xt.g,o,none⟩=false:=fun o=>(Hh.out.tr xt Hxt.out).f o;clear h hkeys hxt hxi hu hlo hlv hU;go_enter Tryz.func188,Tryz.ntmps188;go_upto_region 0 with fail;refine R0 (fun w'=>A7 w w') 16 (by kernel_rfl) (A7.drew' (A7.self _)) (fun hS=>?_);refine tk 0 ?_ rfl (by kernel_rfl) hS (fun _ _ _ h=>h) ?_ ?_;rotate_left
 ·(intro w h;(try dsimp only at h);go_split_ands;go_simp;try with_reducible rfl)
 (try simp only[Act.put,B0])
 refine tk 1 ?_ rfl (by kernel_rfl) hS (fun _ _ _ h=>h) ?_ ?_;rotate_left
 ·(intro w h;(try dsimp only at h);go_split_ands;go_simp;try with_reducible rfl)
 (try simp only[Act.put,B0])
 refine tk 2 ?_ rfl (by kernel_rfl) hS (fun _ _ _ h=>h) ?_ ?_;rotate_left
 ·(intro w h;(try dsimp only at h);go_split_ands;go_simp;try with_reducible rfl)
 (try simp only[Act.put,B0])
 refine tk 3 ?_ rfl (by kernel_rfl) hS (fun _ _ _ h=>h) ?_ ?_;rotate_left
 ·(intro w h;(try dsimp only at h);go_split_ands;go_simp;try with_reducible rfl)
 (try simp only[Act.put,B0])
 refine tk 4 ?_ rfl (by kernel_rfl) hS (fun _ _ _ h=>h) ?_ ?_;rotate_left
 ·(intro w h;(try dsimp only at h);go_split_ands;go_simp;try with_reducible rfl)
 (try simp only[Act.put,B0])
 refine tk 5 ?_ rfl (by kernel_rfl) hS (fun _ _ _ h=>h) ?_ ?_;rotate_left
 ·(intro w h;(try dsimp only at h);go_split_ands;go_simp;try with_reducible rfl)
 (try simp only[Act.put,B0])
 refine tk 6 ?_ rfl (by kernel_rfl) hS (fun _ _ _ h=>h) ?_ ?_;rotate_left
 ·(intro w h;(try dsimp only at h);go_split_ands;go_simp;try with_reducible rfl)
 (try simp only[Act.put,B0])
 refine tk 7 ?_ rfl (by kernel_rfl) hS (fun _ _ _ h=>h) ?_ ?_;rotate_left
 ·(intro w h;(try dsimp only at h);go_split_ands;go_simp;try with_reducible rfl)
 (try simp only[Act.put,B0])
 refine tk 8 ?_ rfl (by kernel_rfl) hS (fun _ _ _ h=>h) ?_ ?_;rotate_left
 ·(intro w h;(try dsimp only at h);go_split_ands;go_simp;try with_reducible rfl)
 (try simp only[Act.put,B0])
 refine tk 9 ?_ rfl (by kernel_rfl) hS (fun _ _ _ h=>h) ?_ ?_;rotate_left
 ·(intro w h;(try dsimp only at h);go_split_ands;go_simp;try with_reducible rfl)
 (try simp only[Act.put,B0])
 refine tk 10 ?_ rfl (by kernel_rfl) hS (fun _ _ _ h=>h) ?_ ?_;rotate_left
 ·(intro w h;(try dsimp only at h);go_split_ands;go_simp;try with_reducible rfl)
 (try simp only[Act.put,B0])
 refine tk 11 ?_ rfl (by kernel_rfl) hS (fun _ _ _ h=>h) ?_ ?_;rotate_left
 ·(intro w h;(try dsimp only at h);go_split_ands;go_simp;try with_reducible rfl)
 (try simp only[Act.put,B0])
 refine tk 12 ?_ rfl (by kernel_rfl) hS (fun _ _ _ h=>h) ?_ ?_;rotate_left
 ·(intro w h;(try dsimp only at h);go_split_ands;go_simp;try with_reducible rfl)
 (try simp only[Act.put,B0])
 refine tk 13 ?_ rfl (by kernel_rfl) hS (fun _ _ _ h=>h) ?_ ?_;rotate_left
 ·(intro w h;(try dsimp only at h);go_split_ands;go_simp;try with_reducible rfl)
 (try simp only[Act.put,B0])
 refine tk 14 ?_ rfl (by kernel_rfl) hS (fun _ _ _ h=>h) ?_ ?_;rotate_left
 ·(intro w h;(try dsimp only at h);go_split_ands;go_simp;try with_reducible rfl)
 (try simp only[Act.put,B0])
 refine tk 15 ?_ rfl (by kernel_rfl) hS (fun _ _ _ h=>h) ?_ ?_;rotate_left
 ·(intro w h;(try dsimp only at h);go_split_ands;go_simp;try with_reducible rfl)
 (try simp only[Act.put,B0])
 refine G6 16 (by kernel_rfl) rfl fun K hK=>?_;go_simp;refine M0 hK (by kernel_rfl) ?_;clear hK K;(try clear hS)
 (try simp only[Act.put,B0])
 clear hs1 hs2 hq2 hlk hk2 hkf;obtain⟨hM,hK⟩:=(Hh.out.to (A7.drew' (A7.self _))).trip1 aI.out Hxt.out (fun t=>{t with z:=z}) 2 (.bool z) (by decide) rfl;rw[show(w.drew.setCell ⟨xt.g,2,none⟩ (.bool z))=(w.setCell ⟨xt.g,2,none⟩ (.bool z)).drew from rfl]at hM hK;rw[Hxi.out]at hM;have HM:=A2 hM;have HK:=A2 ((B7.to (B7.refl (M6 gs bo bu T) w) (A7.drew' (A7.self _))).step hK);clear hM hK;generalize(w.setCell ⟨xt.g,2,none⟩ (.bool z)).drew=w2 at *;have hs1:w2.cell? ⟨p,5,none⟩=some (.slice (some ⟨gs,0,none⟩) c.sp.length c.sp.length):=HM.out.st.c 5 _ rfl;have hq3:w2.cell? ⟨gs,b*4+3,none⟩=some (.bool u.z):=HM.out.sp.c _ _ (G0 D3.len c.sp b u 3 _ Hu.out rfl);have hqf:∀o,w2.frozen? ⟨gs,o,none⟩=false:=fun o=>HM.out.sp.f o;go_wp2_with fail;clear hs1 hq3 hqf;obtain⟨hP,hK⟩:=HM.out.put3 Hu.out z;refine M9 (v:=.tuple #[]) (by simp[results,Tryz.results188,go_sem]) rfl ?_;refine HP.out _ _ (HK.out.trans hK (fun g hg=>.inl (wN (fun g hg=>by rw[qU]at hg;exact hg) hg))) hP (fun g hg=>by rw[qU]at hg;exact hg)
end
end Go.Proofs.YtmmlmhnjjfnpnaaGreat
