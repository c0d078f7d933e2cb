/- Texts that belong together. -/
import Derived.Test.YtmmlmhnjjfnpnaaGreatTpQg
import Derived.Test.YtmmlmhnjjfnpnaaGreatTpQu
import Derived.Test.YtmmlmhnjjfnpnaaGreatTpQv
import Derived.Test.YtmmlmhnjjfnpnaaGreatProg
import Derived.BigQuiet
set_option linter.all false
namespace Go.Proofs.YtmmlmhnjjfnpnaaGreat
set_option maxRecDepth 200000
set_option maxHeartbeats 64000000
section
open Go.RowKit Go.ChangeMaps
theorem AV2 (w:World) (x:A7 w) (u:D8):
 Calls Tryz.prog 184 #[.agg #[.int .i64 u.w,.int .i64 u.p,.int .i64 u.r,.bool u.z]] x.w fun o w'=>o= .returned (.bool (Q9 u))∧∃y:A7 w,w'=y.w:=by
 rcases(by omega:u.w=1∨u.w=2∨(u.w≠1∧u.w≠2))with h|h|⟨h,h'⟩
 ·have Hv:=A3 (show Q9 u=true from by unfold Q9;rw[h];rfl)
  rw[h];go_enter Tryz.func184,Tryz.ntmps184;go_wp2_with fail;go_ret;exact⟨I1 Hv.out.symm,x.alloc _⟩
 ·have Hv:=A3 (show Q9 u=true from by unfold Q9;rw[h];rfl)
  rw[h];go_enter Tryz.func184,Tryz.ntmps184;go_wp2_with fail;go_ret;exact⟨I1 Hv.out.symm,x.alloc _⟩
 ·have Hv:=A3 (show Q9 u=false from by unfold Q9;rw[decide_eq_false h,decide_eq_false h'];rfl)
  have h1:(u.w == 1)=false:=by simpa using h
  have h2:(u.w == 2)=false:=by simpa using h'
  clear h h';go_enter Tryz.func184,Tryz.ntmps184;go_wp2_with fail;go_ret;exact⟨I1 (by first|exact Hv.out.symm|(rw[Hv.out];assumption)),x.alloc _⟩
def iC (wh pl:Int) (l:List D8):Nat:=(l.filter fun x=>decide (x.w=wh) && decide (x.p=pl)).length
theorem AV3 {wh pl:Int} {l:List D8} {k:Nat} {u:D8} (h:l[k]? =some u):iC wh pl (l.take (k+1))=iC wh pl (l.take k)+if u.w=wh∧u.p=pl then 1 else 0:=by
 unfold iC;have hk:k<l.length:=(A5 h).1;have hu:l[k]=u:=(A5 h).2;rw[List.take_add_one,A4 hk,List.filter_append,List.length_append,hu];by_cases h1:u.w=wh∧u.p=pl
 ·simp[h1]
 ·rw[if_neg h1]
  have:(decide (u.w=wh) && decide (u.p=pl))=false:=by
   cases hd:(decide (u.w=wh) && decide (u.p=pl))with
   |false=>rfl
   |true=>simp at hd;exact absurd hd h1
  simp[this]
theorem AV4 (wh pl:Int) (l:List D8):iC wh pl l≤l.length:=List.length_filter_le _ _
theorem Aj9 (w:World) (x:A7 w) (f:G4) (da ta:Option Addr) (dc tc p gs bo bu n:Nat) (T:List F0) (c:C5) (h:K0 w [.int .i64 f.bk,.int .i64 f.rd,.int .i64 f.dv,.slice da f.dk.length dc,.slice ta f.tk.length tc] p gs bo bu n T c) (hl:c.sp.length≤128) (wh pl:Int):
 Calls Tryz.prog 185 #[.pointer (some ⟨p,0,none⟩),.int .i64 wh,.int .i64 pl] x.w fun o w'=>o= .returned (.int .i64 (c.cnt wh pl))∧∃y:A7 w,w'=y.w:=by
 have HC:=A3 (show c.cnt wh pl=(iC wh pl c.sp:Nat)from rfl);have kp:∀y:A7 w,y.w.cell? ⟨p,5,none⟩=some (.slice (some ⟨gs,0,none⟩) c.sp.length c.sp.length):=fun y=>(h.st.since y).c 5 _ rfl;have hsp:=A3 h.sp;clear h;generalize c.sp=L at *;go_enter Tryz.func185,Tryz.ntmps185;go_wp2_with fail;go_loopw [15,7] (fun i m wr=>∃(k:Nat) (y:A7 w),k≤L.length∧i= .int .i64 k∧m= .int .i64 (iC wh pl (L.take k):Nat)∧wr=y.w) (fun i _ _ =>L.length-(intOf i).toNat)
 case atStart=>exact⟨0,x,by omega,rfl,rfl,rfl⟩
 case round=>
  obtain⟨k,y,hk,rfl,rfl,rfl⟩:=hrel;by_cases hlt:k<L.length
  ·obtain⟨u,hu⟩:∃u,L[k]? =some u:=⟨_,A4 hlt⟩
   have c0:∀y:A7 w,y.w.cell? ⟨gs,k*4,none⟩=some (.int .i64 u.w):=fun y=>(hsp.out.since y).c _ _ (H7 D8.len L k u 0 _ hu rfl);have c1:∀y:A7 w,y.w.cell? ⟨gs,k*4+1,none⟩=some (.int .i64 u.p):=fun y=>(hsp.out.since y).c _ _ (H7 D8.len L k u 1 _ hu rfl);have c2:∀y:A7 w,y.w.cell? ⟨gs,k*4+2,none⟩=some (.int .i64 u.r):=fun y=>(hsp.out.since y).c _ _ (H7 D8.len L k u 2 _ hu rfl);have c3:∀y:A7 w,y.w.cell? ⟨gs,k*4+3,none⟩=some (.bool u.z):=fun y=>(hsp.out.since y).c _ _ (H7 D8.len L k u 3 _ hu rfl);have hk0:(0:Int)≤(k:Int):=by omega
   have hkl:(k:Int)<(L.length:Int):=by omega
   have HS:=A3 (AV3 (wh:=wh) (pl:=pl) hu);have hm:iC wh pl (L.take k)≤128:=Nat.le_trans (AV4 _ _ _) (by rw[List.length_take];omega);clear hu;generalize iC wh pl (L.take k)=m at *;go_upto_region 5 with fail;obtain⟨y2,e2,C9,hsz0,hlt0,HX0⟩:=L8 y [.int .i64 u.w,.int .i64 u.p,.int .i64 u.r,.bool u.z] 180;rw[e2];obtain⟨hx0,hx1,hx2,hx3,hxf⟩:=dU HX0;skip;clear e2 C9;generalize y.w.heap.size=g at *;obtain⟨E6,G9,K1,J5,I3⟩:=bO HX0;have I9:=A3 (And.intro hsz0 hlt0);clear hlt0 hsz0 HX0;obtain⟨q0,hq0⟩:=A7.refl y2.w;rw[hq0];clear hq0;clear c0 c1 c2 c3;by_cases h1:u.w=wh∧u.p=pl
   ·have HS2:=A3 (HS.out.trans (congrArg _ (if_pos h1)))
    obtain⟨h1,h2⟩:=h1;have e1:(u.w == wh)=true:=by simpa using h1
    have e2:(u.p == pl)=true:=by simpa using h2
    clear h1 h2 HS;have hmw:wrap64 ((m:Int)+1)=(m:Int)+1:=IntWalk.wrap64_in _ ⟨by omega,by omega⟩;go_wp2_with fail;go_roundw
    case rel=>obtain⟨y3,e3⟩:=y2.trans q0;exact⟨k+1,y3,by omega,by go_num,by rw[HS2.out];go_num,e3⟩
    case measure=>simp[intOf];omega
   ·have HS2:=A3 (HS.out.trans (congrArg _ (if_neg h1)))
    clear HS;by_cases h2:u.w=wh
    ·have h3:¬u.p=pl:=fun h=>h1 ⟨h2,h⟩
     have e1:(u.w == wh)=true:=by simpa using h2
     have e2:(u.p == pl)=false:=by simpa using h3
     clear h1 h2 h3;go_wp2_with fail;go_roundw
     case rel=>obtain⟨y3,e3⟩:=y2.trans q0;exact⟨k+1,y3,by omega,by go_num,by rw[HS2.out];rfl,e3⟩
     case measure=>simp[intOf];omega
    ·have e1:(u.w == wh)=false:=by simpa using h2
     clear h1 h2;go_wp2_with fail;go_roundw
     case rel=>obtain⟨y3,e3⟩:=y2.trans q0;exact⟨k+1,y3,by omega,by go_num,by rw[HS2.out];rfl,e3⟩
     case measure=>simp[intOf];omega
  ·obtain rfl:k=L.length:=by omega
   rw[List.take_length];go_wp2_with fail;go_ret;exact⟨D5 HC.out.symm,y,rfl⟩
end
section
open Go.RowKit Go.ChangeMaps
theorem gB:Y2 Tryz.prog 3 fZ true:=gR
theorem AV5 {c:C5} {T:List F0} (h:c.op=T.map fun x=>(x.i,x.t)) {r:Int} (hn:∀e∈T,e.t.rd≠r):c.rides r=false:=by
 unfold C5.rides;rw[List.any_eq_false];intro x hx;rw[h]at hx;obtain⟨e,he,rfl⟩:=List.mem_map.1 hx;simpa using hn e he
theorem AV6 {l:List F0} (h:(l.map (·.n)).Nodup) {x y:F0} (h1:x∈l) (h2:y∈l) (e:x.n=y.n):x=y:=by
 induction l with
 |nil=>simp at h1
 |cons z l ih=>
  simp only[List.map_cons,List.nodup_cons]at h
  rcases List.mem_cons.1 h1 with e1|h1
  ·rcases List.mem_cons.1 h2 with e2|h2
   ·rw[e1,e2]
   ·exact absurd (List.mem_map.2 ⟨_,h2,by rw[←e,e1]⟩) h.1
  ·rcases List.mem_cons.1 h2 with e2|h2
   ·exact absurd (List.mem_map.2 ⟨_,h1,by rw[e,e2]⟩) h.1
   ·exact ih h.2 h1 h2
theorem AV7 {c:C5} {T:List F0} (h:c.op=T.map fun x=>(x.i,x.t)) {e:F0} (he:e∈T):c.rides e.t.rd=true:=by
 unfold C5.rides;rw[List.any_eq_true];exact⟨(e.i,e.t),by rw[h];exact List.mem_map.2 ⟨e,he,rfl⟩,by simp⟩
theorem AV8 (w:World) (x:A7 w) (f:G4) (da ta:Option Addr) (dc tc p gs bo bu n:Nat) (T:List F0) (c:C5) (h:K0 w [.int .i64 f.bk,.int .i64 f.rd,.int .i64 f.dv,.slice da f.dk.length dc,.slice ta f.tk.length tc] p gs bo bu n T c) (rd:Int):
 Calls Tryz.prog 186 #[.pointer (some ⟨p,0,none⟩),.int .i64 rd] x.w fun o w'=>o= .returned (.bool (c.rides rd))∧∃y:A7 w,w'=y.w:=by
 have kp:∀y:A7 w,y.w.cell? ⟨p,6,none⟩=some (.map (some bo)):=fun y=>(h.st.since y).c 6 _ rfl;have HT:=A3 h.tr;have HO:=A3 h.op;have hmo:=h.mo;have hbn:=h.bn;clear h;go_enter Tryz.func186,Tryz.ntmps186;go_wp2_with(at_range;refine AC9 (w0:=w) ⟨_,rfl⟩ rfl _ _ rfl Tryz.underlying278 rfl (hmo.since _) ?_;intro q r hm hit hr0 hrs hgr);clear hm hrs hgr;go_frame
 go_loopw [6] (fun _ wr=>∃(seen:Array Nat) (y:A7 w),wr=y.w∧aB wr bo r n seen∧eS n seen∧∀e∈T,e.n∈seen→e.t.rd≠rd) (fun _ wr=>lQ wr r)
 case atStart=>exact⟨#[],q,rfl,hit,AB9 _,fun e _ hi=>by simp at hi⟩
 case round=>
  clear hit;obtain⟨seen,y,rfl,hit,hso,hall⟩:=hrel;have At5:=A3 hall;clear hall;have Hit:=A3 hit;have Hso:=A3 hso;go_wp2_with(at_next;refine AD0 (w0:=w) ⟨_,rfl⟩ rfl _ rfl hr0 rfl (hmo.since _) hbn hit hso ?_ ?_)
  ·intro hdone
   have hres:=A3 (AV5 (r:=rd) HO.out (fun e he=>At5.out e he (hdone e he)));clear hdone;go_wp2_with fail;go_ret;exact⟨I1 hres.out.symm,y,rfl⟩
  ·intro i a v q e he hee hn hm hit2 Az2 hgr hen
   simp only[F0.ent,Prod.mk.injEq]at hee;obtain⟨rfl,rfl,rfl⟩:=hee;unfold fZ at hen⊢;clear hm hgr;have Av8:=A3 hit2;have Aw6:=A3 Az2;have He:=A3 he;have k0:∀y:A7 w,y.w.cell? ⟨e.g,0,none⟩=some (.int .i64 e.t.rd):=fun y=>((HT.out e he).since y).c 0 _ rfl;clear hit2 Az2 he;by_cases hr:e.t.rd=rd
   ·have hres:=A3 (show c.rides rd=true from by rw[←hr];exact AV7 HO.out He.out)
    have hb:(e.t.rd == rd)=true:=by simpa using hr
    clear hr;go_wp2_with fail;go_ret;exact⟨I1 hres.out.symm,q,rfl⟩
   ·have hb:(e.t.rd == rd)=false:=by simpa using hr
    have Hr:=A3 hr;clear hr;go_wp2_with fail;refine⟨⟨seen.push e.n,q,rfl,Av8.out,Aw6.out,fun z hz hj=>?_⟩,AC0 Hit.out Av8.out Aw6.out⟩;rcases Array.mem_push.1 hj with hj|hj
    ·exact At5.out z hz hj
    ·have hb1:=hbn.nodup
     have:z=e:=by
      have hb2:(T.map (·.n)).Nodup:=by simpa[List.map_map,Function.comp_def,F0.ent]using hb1
      exact AV6 hb2 hz He.out hj
     rw[this];exact Hr.out
end
section
open Go.RowKit Go.ChangeMaps
theorem AV9 (w:World) (x:A7 w) (no:Bool) (f:Int):
 Calls Tryz.prog 183 #[.bool no,.int .i64 f] x.w fun o w'=>o= .returned (.int .i64 (if no then f else 0))∧∃y:A7 w,w'=y.w:=by
 cases no with
 |true=>
  go_enter Tryz.func183,Tryz.ntmps183
  go_wp2_with fail
  go_ret
  exact⟨rfl,x,rfl⟩
 |false=>
  go_enter Tryz.func183,Tryz.ntmps183
  go_wp2_with fail
  go_ret
  exact⟨rfl,x,rfl⟩
theorem AW0 (w:World):(zeroValue 286).run Tryz.prog w= .ok (.pointer none) w:=by kernel_rfl
theorem AW1 (w:World):(zeroValue 4).run Tryz.prog w= .ok (.bool false) w:=by kernel_rfl
theorem AW2 (w:World) (x:A7 w) (f:G4) (da ta:Option Addr) (dc tc p gs bo bu n:Nat) (T:List F0) (c:C5) (h:K0 w [.int .i64 f.bk,.int .i64 f.rd,.int .i64 f.dv,.slice da f.dk.length dc,.slice ta f.tk.length tc] p gs bo bu n T c) (hf:i5 w f da ta) (hkeys:(c.op.map (·.1)).Nodup) (hl:c.sp.length≤128)
 (d q a t k:Int) (b:Nat) (pl r i:Int) (hb:b<c.sp.length) (hk:1≤k∧k≤9) (hp7:k=7→0≤pl∧pl<(f.tk.length:Int)):
 Calls Tryz.prog 124 #[.pointer (some ⟨p,0,none⟩),.agg #[.int .i64 d,.int .i64 q,.int .i64 a,.int .i64 t,.int .i64 k,.int .i64 (b:Int),.int .i64 pl,.int .i64 r,.int .i64 i]] x.w fun o w'=>o= .returned (.int .i64 (I6 f c ⟨d,q,a,t,k,(b:Int),pl,r,i⟩))∧∃y:A7 w,w'=y.w:=by
 obtain⟨u,hu⟩:∃u,c.sp[b]? =some u:=⟨_,A4 hb⟩
 have HU:=A3 (show c.spt (b:Int)=u from by unfold C5.spt;rw[Int.toNat_natCast,A6,hu];rfl);have Hh:=A3 h;have Hf:=A3 hf;have aW:=A3 hkeys;have HP7:=A3 hp7;have hb0:(0:Int)≤(b:Int):=by omega
 have hbl:(b:Int)<(c.sp.length:Int):=by omega
 have Hl:=A3 hl;clear h hf hkeys hl hp7;go_enter Tryz.func124,Tryz.ntmps124;go_upto_region 1 with fail;obtain⟨W,bx,y0,hW,hbx,-,B8,Hup,Hbx,HB0⟩:=K7 x [.int .i64 d,.int .i64 q,.int .i64 a,.int .i64 t,.int .i64 k,.int .i64 (b:Int),.int .i64 pl,.int .i64 r,.int .i64 i] 63;rw[hW,hbx];clear hW hbx;obtain⟨D9,E7,F9,G0,G8,K4,O0,Q6,R0,hf0⟩:=eT HB0;clear HB0;replace Hh:=A3 (Hh.out.to B8);replace Hf:=A3 (Hf.out.to B8);have he4:=fun(w':World) (h:A8 W w')=>A8.cell (G8) h;have he5:=fun(w':World) (h:A8 W w')=>A8.cell (K4) h;have hs1:∀w',A8 W w'→w'.cell? ⟨p,5,none⟩=some (.slice (some ⟨gs,0,none⟩) c.sp.length c.sp.length):=fun w' h=>by obtain⟨y,rfl⟩:=h;exact(Hh.out.st.since y).c 5 _ rfl
 have hq:=fun(j:Nat) (v:Value) (hj:u.cs[j]? =some v) (w':World) (h:A8 W w')=>show w'.cell? ⟨gs,b*4+j,none⟩=some v from by obtain⟨y,rfl⟩:=h;exact(Hh.out.sp.since y).c _ _ (H7 D8.len c.sp b u j v hu hj)
 have hq0:=hq 0 _ rfl;have hq1:=hq 1 _ rfl;have hq2:=hq 2 _ rfl;have hq3:=hq 3 _ rfl;simp only[Nat.add_zero]at hq0;clear hq B8 hu;go_region_held3 (fun w'=>A8 W w') (first|assumption|exact A8.drew _|exact A8.drew' (A8.alloc (A8.of _) _)) (fail);go_upto_region 2 with fail;clear hq0 hq1 hq2 hq3 hs1 he4 he5;obtain⟨y1,e2,C9,hsz0,hlt0,HX0⟩:=sW y0 [.int .i64 u.w,.int .i64 u.p,.int .i64 u.r,.bool u.z] 180;rw[e2];obtain⟨hx0,hx1,hx2,hx3,hxf⟩:=dU HX0;skip;clear e2 C9;generalize y0.w.heap.size=g at *;obtain⟨E6,G9,K1,J5,I3⟩:=bO HX0;have I9:=A3 (And.intro hsz0 hlt0);clear hlt0 hsz0 HX0;clear hx0 hx1 hx2 hx3 hxf;replace D9:∀(y:A7 y1.w),y.w.cell? ⟨bx,0,none⟩=some (.int .i64 d):=fun y=>by obtain⟨z,e⟩:=y1.trans y;rw[e];exact D9 z
 replace E7:∀(y:A7 y1.w),y.w.cell? ⟨bx,1,none⟩=some (.int .i64 q):=fun y=>by obtain⟨z,e⟩:=y1.trans y;rw[e];exact E7 z
 replace F9:∀(y:A7 y1.w),y.w.cell? ⟨bx,2,none⟩=some (.int .i64 a):=fun y=>by obtain⟨z,e⟩:=y1.trans y;rw[e];exact F9 z
 replace G0:∀(y:A7 y1.w),y.w.cell? ⟨bx,3,none⟩=some (.int .i64 t):=fun y=>by obtain⟨z,e⟩:=y1.trans y;rw[e];exact G0 z
 replace G8:∀(y:A7 y1.w),y.w.cell? ⟨bx,4,none⟩=some (.int .i64 k):=fun y=>by obtain⟨z,e⟩:=y1.trans y;rw[e];exact G8 z
 replace K4:∀(y:A7 y1.w),y.w.cell? ⟨bx,5,none⟩=some (.int .i64 (b:Int)):=fun y=>by obtain⟨z,e⟩:=y1.trans y;rw[e];exact K4 z
 replace O0:∀(y:A7 y1.w),y.w.cell? ⟨bx,6,none⟩=some (.int .i64 pl):=fun y=>by obtain⟨z,e⟩:=y1.trans y;rw[e];exact O0 z
 replace Q6:∀(y:A7 y1.w),y.w.cell? ⟨bx,7,none⟩=some (.int .i64 r):=fun y=>by obtain⟨z,e⟩:=y1.trans y;rw[e];exact Q6 z
 replace R0:∀(y:A7 y1.w),y.w.cell? ⟨bx,8,none⟩=some (.int .i64 i):=fun y=>by obtain⟨z,e⟩:=y1.trans y;rw[e];exact R0 z
 replace hf0:∀(y:A7 y1.w) (o:Nat),y.w.frozen? ⟨bx,o,none⟩=false:=fun y o=>by obtain⟨z,e⟩:=y1.trans y;rw[e];exact hf0 z o
 replace Hh:=A3 (Hh.out.to ⟨y1,rfl⟩);replace Hf:=A3 (Hf.out.to ⟨y1,rfl⟩);replace Hup:=A3 (show∀z:A7 y1.w,∃y:A7 w,z.w=y.w from fun z=>by obtain⟨y2,e⟩:=y1.trans z;rw[e];exact Hup.out y2);have hs2:∀y:A7 y1.w,y.w.cell? ⟨p,6,none⟩=some (.map (some bo)):=fun y=>(Hh.out.st.since y).c 6 _ rfl;have hlk:∀z:A7 y1.w,(Instr.lookup 278 (.map (some bo)) (.int .i64 i) false).run Tryz.prog z.w= .ok (Q4 i (P1 (T.map F0.ent)) (.pointer none)) z.w:=fun z=>sS gB (Hh.out.mo.since z) Tryz.underlying278 (AW0 _) i false;have Bv7:=A3 (qD Hh.out aW.out i);generalize Q4 i (P1 (T.map F0.ent)) (.pointer none)=tv at *;obtain⟨q0,hq0⟩:=A7.refl y1.w;rw[hq0];clear hq0;refine L5 (by kernel_rfl) (by kernel_rfl) ?_;repeat(go_big_quiet_step(fail))
 refine wpQuiet_nil ?_;rintro _ ⟨q1,rfl⟩;clear hlk hs2;have PK:∀x:A7 y1.w,Calls Tryz.prog 184 #[.agg #[.int .i64 u.w,.int .i64 u.p,.int .i64 u.r,.bool u.z]] x.w fun o w'=>o= .returned (.bool (Q9 u))∧∃y:A7 y1.w,w'=y.w:=fun x=>AV2 y1.w x u;have RF:∀(x:A7 y1.w) (no:Bool) (f:Int),Calls Tryz.prog 183 #[.bool no,.int .i64 f] x.w fun o w'=>o= .returned (.int .i64 (if no then f else 0))∧∃y:A7 y1.w,w'=y.w:=fun x no f=>AV9 y1.w x no f;have hkk:k=1∨k=2∨k=3∨k=4∨k=5∨k=6∨k=7∨k=8∨k=9:=by omega
 clear hk;rcases hkk with rfl|rfl|rfl|rfl|rfl|rfl|rfl|rfl|rfl
 ·cases hA:Q9 u with
  |true=>
   have HA:=A3 hA;clear hA
   have HR:=A3 (show I6 f c ⟨d,q,a,t,1,(b:Int),pl,r,i⟩=23 from by unfold I6;dsimp only;rw[HU.out];simp[HA.out])
   go_wp2_with(first
    |(go_at_call 184;(with_reducible refine(PK _).mono ?_);rintro _ _ ⟨rfl,y2,rfl⟩;rw[HA.out])
    |(go_at_call 185;(with_reducible refine(CT _).mono ?_);rintro _ _ ⟨rfl,y3,rfl⟩)
    |(go_at_call 186;(with_reducible refine(RD _).mono ?_);rintro _ _ ⟨rfl,y4,rfl⟩;rw[HB.out])
    |(go_at_call 183;(with_reducible refine(RF _ _ _).mono ?_);rintro _ _ ⟨rfl,y5,rfl⟩))
   go_ret
   exact⟨D5 HR.out.symm,Hup.out _⟩
  |false=>
   have HA:=A3 hA;clear hA
   obtain⟨N,hN⟩:∃N,c.cnt 1 pl=N:=⟨_,rfl⟩
   have HN:=A3 hN;clear hN
   have CT:∀x:A7 y1.w,Calls Tryz.prog 185 #[.pointer (some ⟨p,0,none⟩),.int .i64 1,.int .i64 pl] x.w fun o w'=>o= .returned (.int .i64 N)∧∃y:A7 y1.w,w'=y.w:=fun x=>by rw[←HN.out];exact Aj9 y1.w x f da ta dc tc p gs bo bu n T c Hh.out Hl.out 1 pl
   by_cases h1:0<N
   ·have Hg:=A3 h1
    have HR:=A3 (show I6 f c ⟨d,q,a,t,1,(b:Int),pl,r,i⟩=22 from by unfold I6;dsimp only;rw[HU.out];simp[HA.out,HN.out,Hg.out]);go_wp2_with(first
     |(go_at_call 184;(with_reducible refine(PK _).mono ?_);rintro _ _ ⟨rfl,y2,rfl⟩;rw[HA.out])
     |(go_at_call 185;(with_reducible refine(CT _).mono ?_);rintro _ _ ⟨rfl,y3,rfl⟩)
     |(go_at_call 186;(with_reducible refine(RD _).mono ?_);rintro _ _ ⟨rfl,y4,rfl⟩;rw[HB.out])
     |(go_at_call 183;(with_reducible refine(RF _ _ _).mono ?_);rintro _ _ ⟨rfl,y5,rfl⟩))
    go_ret;exact⟨D5 HR.out.symm,Hup.out _⟩
   ·have Hg:=A3 h1
    have h1':N≤0:=by omega
    have HR:=A3 (show I6 f c ⟨d,q,a,t,1,(b:Int),pl,r,i⟩=0 from by unfold I6;dsimp only;rw[HU.out];simp[HA.out,HN.out,Hg.out]);clear h1;go_wp2_with(first
     |(go_at_call 184;(with_reducible refine(PK _).mono ?_);rintro _ _ ⟨rfl,y2,rfl⟩;rw[HA.out])
     |(go_at_call 185;(with_reducible refine(CT _).mono ?_);rintro _ _ ⟨rfl,y3,rfl⟩)
     |(go_at_call 186;(with_reducible refine(RD _).mono ?_);rintro _ _ ⟨rfl,y4,rfl⟩;rw[HB.out])
     |(go_at_call 183;(with_reducible refine(RF _ _ _).mono ?_);rintro _ _ ⟨rfl,y5,rfl⟩))
    go_ret;exact⟨D5 HR.out.symm,Hup.out _⟩
 ·cases hA:Q9 u with
  |true=>
   have HA:=A3 hA;clear hA
   have HR:=A3 (show I6 f c ⟨d,q,a,t,2,(b:Int),pl,r,i⟩=23 from by unfold I6;dsimp only;rw[HU.out];simp[HA.out])
   go_wp2_with(first
    |(go_at_call 184;(with_reducible refine(PK _).mono ?_);rintro _ _ ⟨rfl,y2,rfl⟩;rw[HA.out])
    |(go_at_call 185;(with_reducible refine(CT _).mono ?_);rintro _ _ ⟨rfl,y3,rfl⟩)
    |(go_at_call 186;(with_reducible refine(RD _).mono ?_);rintro _ _ ⟨rfl,y4,rfl⟩;rw[HB.out])
    |(go_at_call 183;(with_reducible refine(RF _ _ _).mono ?_);rintro _ _ ⟨rfl,y5,rfl⟩))
   go_ret
   exact⟨D5 HR.out.symm,Hup.out _⟩
  |false=>
   have HA:=A3 hA;clear hA
   have HR:=A3 (show I6 f c ⟨d,q,a,t,2,(b:Int),pl,r,i⟩=0 from by unfold I6;dsimp only;rw[HU.out];simp[HA.out])
   go_wp2_with(first
    |(go_at_call 184;(with_reducible refine(PK _).mono ?_);rintro _ _ ⟨rfl,y2,rfl⟩;rw[HA.out])
    |(go_at_call 185;(with_reducible refine(CT _).mono ?_);rintro _ _ ⟨rfl,y3,rfl⟩)
    |(go_at_call 186;(with_reducible refine(RD _).mono ?_);rintro _ _ ⟨rfl,y4,rfl⟩;rw[HB.out])
    |(go_at_call 183;(with_reducible refine(RF _ _ _).mono ?_);rintro _ _ ⟨rfl,y5,rfl⟩))
   go_ret
   exact⟨D5 HR.out.symm,Hup.out _⟩
 ·cases hA:Q9 u with
  |false=>
   have HA:=A3 hA;clear hA
   have HR:=A3 (show I6 f c ⟨d,q,a,t,3,(b:Int),pl,r,i⟩=23 from by unfold I6;dsimp only;rw[HU.out];simp[HA.out])
   go_wp2_with(first
    |(go_at_call 184;(with_reducible refine(PK _).mono ?_);rintro _ _ ⟨rfl,y2,rfl⟩;rw[HA.out])
    |(go_at_call 185;(with_reducible refine(CT _).mono ?_);rintro _ _ ⟨rfl,y3,rfl⟩)
    |(go_at_call 186;(with_reducible refine(RD _).mono ?_);rintro _ _ ⟨rfl,y4,rfl⟩;rw[HB.out])
    |(go_at_call 183;(with_reducible refine(RF _ _ _).mono ?_);rintro _ _ ⟨rfl,y5,rfl⟩))
   go_ret
   exact⟨D5 HR.out.symm,Hup.out _⟩
  |true=>
   have HA:=A3 hA;clear hA
   have hs3:∀y:A7 y1.w,y.w.cell? ⟨p,7,none⟩=some (.map (some bu)):=fun y=>(Hh.out.st.since y).c 7 _ rfl
   have hlk:∀z:A7 y1.w,(Instr.lookup 199 (.map (some bu)) (.int .i64 i) false).run Tryz.prog z.w= .ok (.bool (c.us.contains i)) z.w:=fun z=>by
    have h:=dS gB (Hh.out.mu.since z) Tryz.underlying199 (AW1 _) i false;rw[if_neg (by decide),(Aj8 c.us i).1]at h;exact h
   cases hC:c.us.contains i with
   |true=>
    rw[hC]at hlk
    have HC:=A3 (show i∈c.us from by simpa using hC)
    clear hC
    go_upto_region 19 with(first
     |(go_at_call 184;(with_reducible refine(PK _).mono ?_);rintro _ _ ⟨rfl,y2,rfl⟩;rw[HA.out])
     |(go_at_call 185;(with_reducible refine(CT _).mono ?_);rintro _ _ ⟨rfl,y3,rfl⟩)
     |(go_at_call 186;(with_reducible refine(RD _).mono ?_);rintro _ _ ⟨rfl,y4,rfl⟩;rw[HB.out])
     |(go_at_call 183;(with_reducible refine(RF _ _ _).mono ?_);rintro _ _ ⟨rfl,y5,rfl⟩))
    obtain⟨q9,hq9⟩:=A7.refl y2.w
    obtain⟨q8,hq8⟩:∃z:A7 y1.w,y2.w=z.w:=⟨y2,rfl⟩
    clear hq9 q9 hq8 q8
    refine L5 (by kernel_rfl) (by kernel_rfl) ?_
    repeat(go_big_quiet_step(fail))
    refine wpQuiet_nil ?_
    rintro _ ⟨q2,rfl⟩
    have HR:=A3 (show I6 f c ⟨d,q,a,t,3,(b:Int),pl,r,i⟩=6 from by unfold I6;dsimp only;rw[HU.out];simp[HA.out,HC.out])
    go_wp2_with(first
     |(go_at_call 184;(with_reducible refine(PK _).mono ?_);rintro _ _ ⟨rfl,y2,rfl⟩;rw[HA.out])
     |(go_at_call 185;(with_reducible refine(CT _).mono ?_);rintro _ _ ⟨rfl,y3,rfl⟩)
     |(go_at_call 186;(with_reducible refine(RD _).mono ?_);rintro _ _ ⟨rfl,y4,rfl⟩;rw[HB.out])
     |(go_at_call 183;(with_reducible refine(RF _ _ _).mono ?_);rintro _ _ ⟨rfl,y5,rfl⟩))
    go_ret
    exact⟨D5 HR.out.symm,Hup.out _⟩
   |false=>
    rw[hC]at hlk
    have HC:=A3 (show i∉c.us from by simpa using hC)
    clear hC
    go_upto_region 19 with(first
     |(go_at_call 184;(with_reducible refine(PK _).mono ?_);rintro _ _ ⟨rfl,y2,rfl⟩;rw[HA.out])
     |(go_at_call 185;(with_reducible refine(CT _).mono ?_);rintro _ _ ⟨rfl,y3,rfl⟩)
     |(go_at_call 186;(with_reducible refine(RD _).mono ?_);rintro _ _ ⟨rfl,y4,rfl⟩;rw[HB.out])
     |(go_at_call 183;(with_reducible refine(RF _ _ _).mono ?_);rintro _ _ ⟨rfl,y5,rfl⟩))
    obtain⟨q9,hq9⟩:=A7.refl y2.w
    obtain⟨q8,hq8⟩:∃z:A7 y1.w,y2.w=z.w:=⟨y2,rfl⟩
    clear hq9 q9 hq8 q8
    refine L5 (by kernel_rfl) (by kernel_rfl) ?_
    repeat(go_big_quiet_step(fail))
    refine wpQuiet_nil ?_
    rintro _ ⟨q2,rfl⟩
    have RD0:∀x:A7 y1.w,Calls Tryz.prog 186 #[.pointer (some ⟨p,0,none⟩),.int .i64 r] x.w fun o w'=>o= .returned (.bool (c.rides r))∧∃y:A7 y1.w,w'=y.w:=fun x=>AV8 y1.w x f da ta dc tc p gs bo bu n T c Hh.out r
    cases hB:c.rides r with
    |true=>
     have HB:=A3 hB;clear hB
     have RD:=RD0;clear RD0
     have HR:=A3 (show I6 f c ⟨d,q,a,t,3,(b:Int),pl,r,i⟩=22 from by unfold I6;dsimp only;rw[HU.out];simp[HA.out,HC.out,HB.out])
     go_wp2_with(first
      |(go_at_call 184;(with_reducible refine(PK _).mono ?_);rintro _ _ ⟨rfl,y2,rfl⟩;rw[HA.out])
      |(go_at_call 185;(with_reducible refine(CT _).mono ?_);rintro _ _ ⟨rfl,y3,rfl⟩)
      |(go_at_call 186;(with_reducible refine(RD _).mono ?_);rintro _ _ ⟨rfl,y4,rfl⟩;rw[HB.out])
      |(go_at_call 183;(with_reducible refine(RF _ _ _).mono ?_);rintro _ _ ⟨rfl,y5,rfl⟩))
     go_ret
     exact⟨D5 HR.out.symm,Hup.out _⟩
    |false=>
     have HB:=A3 hB;clear hB
     have RD:=RD0;clear RD0
     have HR:=A3 (show I6 f c ⟨d,q,a,t,3,(b:Int),pl,r,i⟩=0 from by unfold I6;dsimp only;rw[HU.out];simp[HA.out,HC.out,HB.out])
     go_wp2_with(first
      |(go_at_call 184;(with_reducible refine(PK _).mono ?_);rintro _ _ ⟨rfl,y2,rfl⟩;rw[HA.out])
      |(go_at_call 185;(with_reducible refine(CT _).mono ?_);rintro _ _ ⟨rfl,y3,rfl⟩)
      |(go_at_call 186;(with_reducible refine(RD _).mono ?_);rintro _ _ ⟨rfl,y4,rfl⟩;rw[HB.out])
      |(go_at_call 183;(with_reducible refine(RF _ _ _).mono ?_);rintro _ _ ⟨rfl,y5,rfl⟩))
     go_ret
     exact⟨D5 HR.out.symm,Hup.out _⟩
 ·rcases Bv7.out with⟨xt,hxt,hxi,htr,htv⟩|⟨htr,_,htv⟩
  ·have Htr:=A3 htr;clear htr
   subst htv;have k2:∀y:A7 y1.w,y.w.cell? ⟨xt.g,2,none⟩=some (.bool xt.t.z):=fun y=>((Hh.out.tr xt hxt).since y).c 2 _ rfl;clear hxt hxi
   cases hA:Q9 u with
   |false=>
    have HA:=A3 hA;clear hA
    have HR:=A3 (show I6 f c ⟨d,q,a,t,4,(b:Int),pl,r,i⟩=23 from by unfold I6;dsimp only;rw[HU.out];simp[HA.out,Htr.out])
    go_wp2_with(first
     |(go_at_call 184;(with_reducible refine(PK _).mono ?_);rintro _ _ ⟨rfl,y2,rfl⟩;rw[HA.out])
     |(go_at_call 185;(with_reducible refine(CT _).mono ?_);rintro _ _ ⟨rfl,y3,rfl⟩)
     |(go_at_call 186;(with_reducible refine(RD _).mono ?_);rintro _ _ ⟨rfl,y4,rfl⟩;rw[HB.out])
     |(go_at_call 183;(with_reducible refine(RF _ _ _).mono ?_);rintro _ _ ⟨rfl,y5,rfl⟩))
    go_ret
    exact⟨D5 HR.out.symm,Hup.out _⟩
   |true=>
    have HA:=A3 hA;clear hA
    cases hz:xt.t.z with
    |true=>
     rw[hz]at k2
     have Hz:=A3 hz;clear hz
     have HR:=A3 (show I6 f c ⟨d,q,a,t,4,(b:Int),pl,r,i⟩=12 from by unfold I6;dsimp only;rw[HU.out];simp[HA.out,Htr.out,Hz.out])
     go_wp2_with(first
      |(go_at_call 184;(with_reducible refine(PK _).mono ?_);rintro _ _ ⟨rfl,y2,rfl⟩;rw[HA.out])
      |(go_at_call 185;(with_reducible refine(CT _).mono ?_);rintro _ _ ⟨rfl,y3,rfl⟩)
      |(go_at_call 186;(with_reducible refine(RD _).mono ?_);rintro _ _ ⟨rfl,y4,rfl⟩;rw[HB.out])
      |(go_at_call 183;(with_reducible refine(RF _ _ _).mono ?_);rintro _ _ ⟨rfl,y5,rfl⟩))
     go_ret
     exact⟨D5 HR.out.symm,Hup.out _⟩
    |false=>
     rw[hz]at k2
     have Hz:=A3 hz;clear hz
     have HR:=A3 (show I6 f c ⟨d,q,a,t,4,(b:Int),pl,r,i⟩=0 from by unfold I6;dsimp only;rw[HU.out];simp[HA.out,Htr.out,Hz.out])
     go_wp2_with(first
      |(go_at_call 184;(with_reducible refine(PK _).mono ?_);rintro _ _ ⟨rfl,y2,rfl⟩;rw[HA.out])
      |(go_at_call 185;(with_reducible refine(CT _).mono ?_);rintro _ _ ⟨rfl,y3,rfl⟩)
      |(go_at_call 186;(with_reducible refine(RD _).mono ?_);rintro _ _ ⟨rfl,y4,rfl⟩;rw[HB.out])
      |(go_at_call 183;(with_reducible refine(RF _ _ _).mono ?_);rintro _ _ ⟨rfl,y5,rfl⟩))
     go_ret
     exact⟨D5 HR.out.symm,Hup.out _⟩
  ·have Htr:=A3 htr;clear htr
   subst htv;have HR:=A3 (show I6 f c ⟨d,q,a,t,4,(b:Int),pl,r,i⟩=7 from by unfold I6;dsimp only;rw[HU.out];simp[Htr.out]);go_wp2_with(first
    |(go_at_call 184;(with_reducible refine(PK _).mono ?_);rintro _ _ ⟨rfl,y2,rfl⟩;rw[HA.out])
    |(go_at_call 185;(with_reducible refine(CT _).mono ?_);rintro _ _ ⟨rfl,y3,rfl⟩)
    |(go_at_call 186;(with_reducible refine(RD _).mono ?_);rintro _ _ ⟨rfl,y4,rfl⟩;rw[HB.out])
    |(go_at_call 183;(with_reducible refine(RF _ _ _).mono ?_);rintro _ _ ⟨rfl,y5,rfl⟩))
   go_ret;exact⟨D5 HR.out.symm,Hup.out _⟩
 ·by_cases h3:u.w=3
  ·have H3:=A3 h3
   have e3:(u.w != 3)=false:=by rw[h3];rfl
   rw[h3]at E6;clear h3
   cases hz:u.z with
   |true=>
    rw[hz]at J5
    have Hz:=A3 hz;clear hz
    have HR:=A3 (show I6 f c ⟨d,q,a,t,5,(b:Int),pl,r,i⟩=12 from by unfold I6;dsimp only;rw[HU.out];simp[H3.out,Hz.out])
    go_wp2_with(first
     |(go_at_call 184;(with_reducible refine(PK _).mono ?_);rintro _ _ ⟨rfl,y2,rfl⟩;rw[HA.out])
     |(go_at_call 185;(with_reducible refine(CT _).mono ?_);rintro _ _ ⟨rfl,y3,rfl⟩)
     |(go_at_call 186;(with_reducible refine(RD _).mono ?_);rintro _ _ ⟨rfl,y4,rfl⟩;rw[HB.out])
     |(go_at_call 183;(with_reducible refine(RF _ _ _).mono ?_);rintro _ _ ⟨rfl,y5,rfl⟩))
    go_ret
    exact⟨D5 HR.out.symm,Hup.out _⟩
   |false=>
    rw[hz]at J5
    have Hz:=A3 hz;clear hz
    have HR:=A3 (show I6 f c ⟨d,q,a,t,5,(b:Int),pl,r,i⟩=0 from by unfold I6;dsimp only;rw[HU.out];simp[H3.out,Hz.out])
    go_wp2_with(first
     |(go_at_call 184;(with_reducible refine(PK _).mono ?_);rintro _ _ ⟨rfl,y2,rfl⟩;rw[HA.out])
     |(go_at_call 185;(with_reducible refine(CT _).mono ?_);rintro _ _ ⟨rfl,y3,rfl⟩)
     |(go_at_call 186;(with_reducible refine(RD _).mono ?_);rintro _ _ ⟨rfl,y4,rfl⟩;rw[HB.out])
     |(go_at_call 183;(with_reducible refine(RF _ _ _).mono ?_);rintro _ _ ⟨rfl,y5,rfl⟩))
    go_ret
    exact⟨D5 HR.out.symm,Hup.out _⟩
  ·have H3:=A3 h3
   have e3:(u.w != 3)=true:=by simpa using h3
   clear h3;have HR:=A3 (show I6 f c ⟨d,q,a,t,5,(b:Int),pl,r,i⟩=23 from by unfold I6;dsimp only;rw[HU.out];simp[H3.out]);go_wp2_with(first
    |(go_at_call 184;(with_reducible refine(PK _).mono ?_);rintro _ _ ⟨rfl,y2,rfl⟩;rw[HA.out])
    |(go_at_call 185;(with_reducible refine(CT _).mono ?_);rintro _ _ ⟨rfl,y3,rfl⟩)
    |(go_at_call 186;(with_reducible refine(RD _).mono ?_);rintro _ _ ⟨rfl,y4,rfl⟩;rw[HB.out])
    |(go_at_call 183;(with_reducible refine(RF _ _ _).mono ?_);rintro _ _ ⟨rfl,y5,rfl⟩))
   go_ret;exact⟨D5 HR.out.symm,Hup.out _⟩
 ·by_cases h3:u.w=3
  ·have H3:=A3 h3
   have e3:(u.w != 3)=false:=by rw[h3];rfl
   rw[h3]at E6;clear h3
   cases hz:u.z with
   |true=>
    rw[hz]at J5
    have Hz:=A3 hz;clear hz
    have HR:=A3 (show I6 f c ⟨d,q,a,t,6,(b:Int),pl,r,i⟩=0 from by unfold I6;dsimp only;rw[HU.out];simp[H3.out,Hz.out])
    go_wp2_with(first
     |(go_at_call 184;(with_reducible refine(PK _).mono ?_);rintro _ _ ⟨rfl,y2,rfl⟩;rw[HA.out])
     |(go_at_call 185;(with_reducible refine(CT _).mono ?_);rintro _ _ ⟨rfl,y3,rfl⟩)
     |(go_at_call 186;(with_reducible refine(RD _).mono ?_);rintro _ _ ⟨rfl,y4,rfl⟩;rw[HB.out])
     |(go_at_call 183;(with_reducible refine(RF _ _ _).mono ?_);rintro _ _ ⟨rfl,y5,rfl⟩))
    go_ret
    exact⟨D5 HR.out.symm,Hup.out _⟩
   |false=>
    rw[hz]at J5
    have Hz:=A3 hz;clear hz
    have HR:=A3 (show I6 f c ⟨d,q,a,t,6,(b:Int),pl,r,i⟩=12 from by unfold I6;dsimp only;rw[HU.out];simp[H3.out,Hz.out])
    go_wp2_with(first
     |(go_at_call 184;(with_reducible refine(PK _).mono ?_);rintro _ _ ⟨rfl,y2,rfl⟩;rw[HA.out])
     |(go_at_call 185;(with_reducible refine(CT _).mono ?_);rintro _ _ ⟨rfl,y3,rfl⟩)
     |(go_at_call 186;(with_reducible refine(RD _).mono ?_);rintro _ _ ⟨rfl,y4,rfl⟩;rw[HB.out])
     |(go_at_call 183;(with_reducible refine(RF _ _ _).mono ?_);rintro _ _ ⟨rfl,y5,rfl⟩))
    go_ret
    exact⟨D5 HR.out.symm,Hup.out _⟩
  ·have H3:=A3 h3
   have e3:(u.w != 3)=true:=by simpa using h3
   clear h3;have HR:=A3 (show I6 f c ⟨d,q,a,t,6,(b:Int),pl,r,i⟩=23 from by unfold I6;dsimp only;rw[HU.out];simp[H3.out]);go_wp2_with(first
    |(go_at_call 184;(with_reducible refine(PK _).mono ?_);rintro _ _ ⟨rfl,y2,rfl⟩;rw[HA.out])
    |(go_at_call 185;(with_reducible refine(CT _).mono ?_);rintro _ _ ⟨rfl,y3,rfl⟩)
    |(go_at_call 186;(with_reducible refine(RD _).mono ?_);rintro _ _ ⟨rfl,y4,rfl⟩;rw[HB.out])
    |(go_at_call 183;(with_reducible refine(RF _ _ _).mono ?_);rintro _ _ ⟨rfl,y5,rfl⟩))
   go_ret;exact⟨D5 HR.out.symm,Hup.out _⟩
 ·by_cases h3:u.w=3
  ·have H3:=A3 h3
   rw[h3]at E6;clear h3;have HR:=A3 (show I6 f c ⟨d,q,a,t,7,(b:Int),pl,r,i⟩=23 from by unfold I6;dsimp only;rw[HU.out];simp[H3.out]);go_wp2_with(first
    |(go_at_call 184;(with_reducible refine(PK _).mono ?_);rintro _ _ ⟨rfl,y2,rfl⟩;rw[HA.out])
    |(go_at_call 185;(with_reducible refine(CT _).mono ?_);rintro _ _ ⟨rfl,y3,rfl⟩)
    |(go_at_call 186;(with_reducible refine(RD _).mono ?_);rintro _ _ ⟨rfl,y4,rfl⟩;rw[HB.out])
    |(go_at_call 183;(with_reducible refine(RF _ _ _).mono ?_);rintro _ _ ⟨rfl,y5,rfl⟩))
   go_ret;exact⟨D5 HR.out.symm,Hup.out _⟩
  ·by_cases h4:u.w=4
   ·have H3:=A3 h4
    rw[h4]at E6;clear h3 h4;have HR:=A3 (show I6 f c ⟨d,q,a,t,7,(b:Int),pl,r,i⟩=23 from by unfold I6;dsimp only;rw[HU.out];simp[H3.out]);go_wp2_with(first
     |(go_at_call 184;(with_reducible refine(PK _).mono ?_);rintro _ _ ⟨rfl,y2,rfl⟩;rw[HA.out])
     |(go_at_call 185;(with_reducible refine(CT _).mono ?_);rintro _ _ ⟨rfl,y3,rfl⟩)
     |(go_at_call 186;(with_reducible refine(RD _).mono ?_);rintro _ _ ⟨rfl,y4,rfl⟩;rw[HB.out])
     |(go_at_call 183;(with_reducible refine(RF _ _ _).mono ?_);rintro _ _ ⟨rfl,y5,rfl⟩))
    go_ret;exact⟨D5 HR.out.symm,Hup.out _⟩
   ·have H3:=A3 h3
    have H4:=A3 h4;have e3:(u.w == 3)=false:=by simpa using h3
    have e4:(u.w == 4)=false:=by simpa using h4
    clear h3 h4;obtain⟨hp0,hpl⟩:=HP7.out rfl;obtain⟨m,rfl⟩:∃m:Nat,pl=(m:Int):=⟨pl.toNat,by omega⟩
    obtain⟨N,hN⟩:∃N,c.cnt 4 (m:Int)=N:=⟨_,rfl⟩
    have HN:=A3 hN;clear hN;obtain⟨bt,offt,rfl,hbt,hct⟩:=Hf.out.t m (by omega);have kt:∀y:A7 y1.w,y.w.cell? ⟨bt,offt+m,none⟩=some (.int .i64 (B0 f.tk m)):=fun y=>A7.cell hct hbt y;have ks:∀y:A7 y1.w,y.w.cell? ⟨p,4,none⟩=some (.slice (some ⟨bt,offt,none⟩) f.tk.length tc):=fun y=>(Hh.out.st.since y).c 4 _ rfl;obtain⟨M,hM⟩:∃M,B0 f.tk m=M:=⟨_,rfl⟩
    rw[hM]at kt;have HM:=A3 hM;clear hM hct hbt;have CT:∀x:A7 y1.w,Calls Tryz.prog 185 #[.pointer (some ⟨p,0,none⟩),.int .i64 4,.int .i64 (m:Int)] x.w fun o w'=>o= .returned (.int .i64 N)∧∃y:A7 y1.w,w'=y.w:=fun x=>by rw[←HN.out];exact Aj9 y1.w x f da _ dc tc p gs bo bu n T c Hh.out Hl.out 4 (m:Int)
    have HRF:=RF;by_cases hMN:M≤N
    ·have Hg:=A3 hMN
     have hd:decide (M≤N)=true:=by simpa using hMN
     clear hMN;have HR:=A3 (show I6 f c ⟨d,q,a,t,7,(b:Int),(m:Int),r,i⟩=24 from by unfold I6;dsimp only;rw[HU.out];simp[H3.out,H4.out,HN.out,HM.out,Hg.out]);go_upto_region 32 with fail;refine L5 (by kernel_rfl) (by kernel_rfl) ?_;repeat(go_big_quiet_step((first|(go_at_call 185;exact CT _)|(go_at_call 183;exact RF _ _ _))))
     refine wpQuiet_nil ?_;rintro _ ⟨q2,rfl⟩;go_wp2_with fail;go_ret;exact⟨D5 HR.out.symm,Hup.out _⟩
    ·have Hg:=A3 hMN
     have hd:decide (M≤N)=false:=by simpa using hMN
     clear hMN;have HR:=A3 (show I6 f c ⟨d,q,a,t,7,(b:Int),(m:Int),r,i⟩=0 from by unfold I6;dsimp only;rw[HU.out];simp[H3.out,H4.out,HN.out,HM.out,Hg.out]);go_upto_region 32 with fail;refine L5 (by kernel_rfl) (by kernel_rfl) ?_;repeat(go_big_quiet_step((first|(go_at_call 185;exact CT _)|(go_at_call 183;exact RF _ _ _))))
     refine wpQuiet_nil ?_;rintro _ ⟨q2,rfl⟩;go_wp2_with fail;go_ret;exact⟨D5 HR.out.symm,Hup.out _⟩
 ·by_cases h3:u.w=3
  ·have H3:=A3 h3
   rw[h3]at E6;clear h3;have HR:=A3 (show I6 f c ⟨d,q,a,t,8,(b:Int),pl,r,i⟩=23 from by unfold I6;dsimp only;rw[HU.out];simp[H3.out]);go_wp2_with(first
    |(go_at_call 184;(with_reducible refine(PK _).mono ?_);rintro _ _ ⟨rfl,y2,rfl⟩;rw[HA.out])
    |(go_at_call 185;(with_reducible refine(CT _).mono ?_);rintro _ _ ⟨rfl,y3,rfl⟩)
    |(go_at_call 186;(with_reducible refine(RD _).mono ?_);rintro _ _ ⟨rfl,y4,rfl⟩;rw[HB.out])
    |(go_at_call 183;(with_reducible refine(RF _ _ _).mono ?_);rintro _ _ ⟨rfl,y5,rfl⟩))
   go_ret;exact⟨D5 HR.out.symm,Hup.out _⟩
  ·by_cases h4:u.w=5
   ·have H3:=A3 h4
    rw[h4]at E6;clear h3 h4;have HR:=A3 (show I6 f c ⟨d,q,a,t,8,(b:Int),pl,r,i⟩=23 from by unfold I6;dsimp only;rw[HU.out];simp[H3.out]);go_wp2_with(first
     |(go_at_call 184;(with_reducible refine(PK _).mono ?_);rintro _ _ ⟨rfl,y2,rfl⟩;rw[HA.out])
     |(go_at_call 185;(with_reducible refine(CT _).mono ?_);rintro _ _ ⟨rfl,y3,rfl⟩)
     |(go_at_call 186;(with_reducible refine(RD _).mono ?_);rintro _ _ ⟨rfl,y4,rfl⟩;rw[HB.out])
     |(go_at_call 183;(with_reducible refine(RF _ _ _).mono ?_);rintro _ _ ⟨rfl,y5,rfl⟩))
    go_ret;exact⟨D5 HR.out.symm,Hup.out _⟩
   ·have H3:=A3 h3
    have H4:=A3 h4;have e3:(u.w == 3)=false:=by simpa using h3
    have e4:(u.w == 5)=false:=by simpa using h4
    clear h3 h4;have HR:=A3 (show I6 f c ⟨d,q,a,t,8,(b:Int),pl,r,i⟩=0 from by unfold I6;dsimp only;rw[HU.out];simp[H3.out,H4.out]);go_wp2_with(first
     |(go_at_call 184;(with_reducible refine(PK _).mono ?_);rintro _ _ ⟨rfl,y2,rfl⟩;rw[HA.out])
     |(go_at_call 185;(with_reducible refine(CT _).mono ?_);rintro _ _ ⟨rfl,y3,rfl⟩)
     |(go_at_call 186;(with_reducible refine(RD _).mono ?_);rintro _ _ ⟨rfl,y4,rfl⟩;rw[HB.out])
     |(go_at_call 183;(with_reducible refine(RF _ _ _).mono ?_);rintro _ _ ⟨rfl,y5,rfl⟩))
    go_ret;exact⟨D5 HR.out.symm,Hup.out _⟩
 ·by_cases h3:u.w=5
  ·have H3:=A3 h3
   rw[h3]at E6;clear h3;have HR:=A3 (show I6 f c ⟨d,q,a,t,9,(b:Int),pl,r,i⟩=23 from by unfold I6;dsimp only;rw[HU.out];simp[H3.out]);go_wp2_with(first
    |(go_at_call 184;(with_reducible refine(PK _).mono ?_);rintro _ _ ⟨rfl,y2,rfl⟩;rw[HA.out])
    |(go_at_call 185;(with_reducible refine(CT _).mono ?_);rintro _ _ ⟨rfl,y3,rfl⟩)
    |(go_at_call 186;(with_reducible refine(RD _).mono ?_);rintro _ _ ⟨rfl,y4,rfl⟩;rw[HB.out])
    |(go_at_call 183;(with_reducible refine(RF _ _ _).mono ?_);rintro _ _ ⟨rfl,y5,rfl⟩))
   go_ret;exact⟨D5 HR.out.symm,Hup.out _⟩
  ·by_cases h4:u.w=6
   ·have H3:=A3 h4
    rw[h4]at E6;clear h3 h4;have HR:=A3 (show I6 f c ⟨d,q,a,t,9,(b:Int),pl,r,i⟩=23 from by unfold I6;dsimp only;rw[HU.out];simp[H3.out]);go_wp2_with(first
     |(go_at_call 184;(with_reducible refine(PK _).mono ?_);rintro _ _ ⟨rfl,y2,rfl⟩;rw[HA.out])
     |(go_at_call 185;(with_reducible refine(CT _).mono ?_);rintro _ _ ⟨rfl,y3,rfl⟩)
     |(go_at_call 186;(with_reducible refine(RD _).mono ?_);rintro _ _ ⟨rfl,y4,rfl⟩;rw[HB.out])
     |(go_at_call 183;(with_reducible refine(RF _ _ _).mono ?_);rintro _ _ ⟨rfl,y5,rfl⟩))
    go_ret;exact⟨D5 HR.out.symm,Hup.out _⟩
   ·have H3:=A3 h3
    have H4:=A3 h4;have e3:(u.w == 5)=false:=by simpa using h3
    have e4:(u.w == 6)=false:=by simpa using h4
    clear h3 h4;have HR:=A3 (show I6 f c ⟨d,q,a,t,9,(b:Int),pl,r,i⟩=0 from by unfold I6;dsimp only;rw[HU.out];simp[H3.out,H4.out]);go_wp2_with(first
     |(go_at_call 184;(with_reducible refine(PK _).mono ?_);rintro _ _ ⟨rfl,y2,rfl⟩;rw[HA.out])
     |(go_at_call 185;(with_reducible refine(CT _).mono ?_);rintro _ _ ⟨rfl,y3,rfl⟩)
     |(go_at_call 186;(with_reducible refine(RD _).mono ?_);rintro _ _ ⟨rfl,y4,rfl⟩;rw[HB.out])
     |(go_at_call 183;(with_reducible refine(RF _ _ _).mono ?_);rintro _ _ ⟨rfl,y5,rfl⟩))
    go_ret;exact⟨D5 HR.out.symm,Hup.out _⟩
end
section
open Go.RowKit Go.ChangeMaps
def kS (w:World) (fc:List Value) (p gs bo bu n:Nat) (T:List F0) (c:C5) (o:Ending) (w':World):Prop:=
 o= .returned (.tuple #[])∧B7 (N8 gs bo bu T) w w'∧∃T':List F0,K0 w' fc p gs bo bu n T' c∧∀g∈T'.map (·.g),g∈T.map (·.g)
theorem qE {w:World} {g:Nat} {a b c d:Value} (lt:g<w.heap.size) (h0:w.cell? ⟨g,0,none⟩=some a) (h1:w.cell? ⟨g,1,none⟩=some b) (h2:w.cell? ⟨g,2,none⟩=some c) (h3:w.cell? ⟨g,3,none⟩=some d) (hf:∀o,w.frozen? ⟨g,o,none⟩=false):C4 w g [a,b,c,d]:=by
 refine⟨lt,fun j v hv=>?_,hf⟩;match j,hv with
 |0,hv=>cases hv;exact h0
 |1,hv=>cases hv;exact h1
 |2,hv=>cases hv;exact h2
 |3,hv=>cases hv;exact h3
 |j+4,hv=>simp at hv
theorem K0.lts {w:World} {fc:List Value} {p gs bo bu n:Nat} {T:List F0} {c:C5} (h:K0 w fc p gs bo bu n T c):p<w.heap.size∧gs<w.heap.size∧bo<w.heap.size∧bu<w.heap.size∧∀g∈T.map (·.g),g<w.heap.size:=
 ⟨h.st.lt,h.sp.lt,h.mo.lt,h.mu.lt,fun g hg=>by obtain⟨x,hx,rfl⟩:=List.mem_map.1 hg;exact(h.tr x hx).lt⟩
theorem K0.notS {w:World} {fc:List Value} {p gs bo bu n:Nat} {T:List F0} {c:C5} (h:K0 w fc p gs bo bu n T c) {g:Nat} (hg:w.heap.size≤g):¬N8 gs bo bu T g:=by
 obtain⟨h1,h2,h3,h4,h5⟩:=h.lts;unfold N8;intro hm;simp only[List.mem_cons]at hm;rcases hm with rfl|rfl|rfl|hm
 ·omega
 ·omega
 ·omega
 ·have:=h5 g hm;omega
theorem vI {gs bo bu g:Nat} {T T':List F0} (h:∀g∈T'.map (·.g),g∈T.map (·.g)) (hg:N8 gs bo bu T' g):N8 gs bo bu T g:=by
 unfold N8 at hg⊢;simp only[List.mem_cons]at hg⊢;rcases hg with rfl|rfl|rfl|hg
 ·exact .inl rfl
 ·exact .inr (.inl rfl)
 ·exact .inr (.inr (.inl rfl))
 ·exact .inr (.inr (.inr (h g hg)))
theorem C4.setE1 {α:Type} {enc:α→List Value} {k:Nat} (hk:∀x,(enc x).length=k) {w:World} {g:Nat} {L:List α} (h:C4 w g (B4 enc L)) {b j:Nat} {u y:α} {v:Value} (hu:L[b]? =some u) (hj:j<k) (hy:enc y=(enc u).set j v):C4 (w.setCell ⟨g,b*k+j,none⟩ v) g (B4 enc (L.set b y)):=by
 have hb:b<L.length:=(A5 hu).1;have hm:(b+1)*k≤L.length*k:=Nat.mul_le_mul_right k hb;rw[Nat.succ_mul]at hm;have h1:=h.setj (j:=b*k+j) (by rw[U7 hk];omega) v;have e:(B4 enc L).set (b*k+j) v=B4 enc (L.set b y):=by
  refine List.ext_getElem? fun i=>?_;rw[qB hk y L b hb];by_cases hi:b*k≤i∧i<b*k+k
  ·rw[if_pos hi,hy]
   obtain⟨m,rfl⟩:∃m,i=b*k+m:=⟨i-b*k,by omega⟩
   rw[show b*k+m-b*k=m by omega,List.getElem?_set,List.getElem?_set];obtain⟨v',hv'⟩:∃v',(enc u)[m]? =some v':=⟨_,A4 (by rw[hk];omega)⟩
   have:=H7 hk L b u m v' hu hv';by_cases hjm:j=m
   ·subst hjm;rw[if_pos rfl,if_pos (by rw[U7 hk];omega),if_pos rfl,if_pos (by rw[hk];exact hj)]
   ·rw[if_neg (by omega),if_neg hjm,this,hv']
  ·rw[if_neg hi,List.getElem?_set,if_neg (by omega)]
 rwa[e]at h1
theorem K0.put3 {w:World} {fc:List Value} {p gs bo bu n:Nat} {T:List F0} {c:C5} (h:K0 w fc p gs bo bu n T c) {b:Nat} {u:D8} (hu:c.sp[b]? =some u) (z:Bool):K0 (w.setCell ⟨gs,b*4+3,none⟩ (.bool z)) fc p gs bo bu n T (c.put (b:Int) {u with z:=z})∧B7 (N8 gs bo bu T) w (w.setCell ⟨gs,b*4+3,none⟩ (.bool z)):=by
 have hk:B7 (fun g=>g=gs) w (w.setCell ⟨gs,b*4+3,none⟩ (.bool z)):=B7.set (S:=fun g=>g=gs) w _ _ rfl;have hn:=h.ne;simp only[List.nodup_cons,List.mem_cons,List.mem_map,not_or]at hn;obtain⟨⟨n1,n2,n3,n4⟩,⟨n5,n6,n7⟩,⟨n8,n9⟩,n10,n11⟩:=hn;refine⟨⟨?_,?_,h.mo.keepS hk (Ne.symm n5),h.bn,h.mu.keepS hk (Ne.symm n6),fun y hy=>(h.tr y hy).keepS hk (fun e=>n7 ⟨y,hy,e⟩),h.op,h.ne⟩,B7.set _ _ _ (by simp[N8])⟩
 ·have:=h.st.keepS hk n1
  simpa[C5.put]using this
 ·have:=h.sp.setE1 D8.len hu (j:=3) (y:={u with z:=z}) (v:=.bool z) (by decide) rfl
  simpa[C5.put]using this
theorem Ak0 (w:World):(zeroValue 286).run Tryz.prog w= .ok (.pointer none) w:=by kernel_rfl
theorem AW3 {i:Int} {T:List F0} (h:E8 i (P1 (T.map F0.ent)) 0=none):∀x∈T,x.i≠i:=by
 have key:∀(T:List F0) (m:Nat),E8 i (P1 (T.map F0.ent)) m=none→∀x∈T,x.i≠i:=by
  intro T;induction T with
  |nil=>intro m _ x hx;cases hx
  |cons y T ih=>
   intro m h x hx
   have e:E8 i (P1 ((y :: T).map F0.ent)) m=if i=y.i then some (m,.pointer (some ⟨y.g,0,none⟩))else E8 i (P1 (T.map F0.ent)) (m+1):=rfl
   rw[e]at h
   split at h
   ·cases h
   ·rename_i hne
    rcases List.mem_cons.1 hx with rfl|hx
    ·exact fun e=>hne e.symm
    ·exact ih _ h x hx
 exact key T 0 h
theorem AW4 {c:C5} {b:Nat} {u v:D8} (hu:c.spt (b:Int)=u) (h:u.w=3):c.leave (b:Int) v=C5.put {c with op:=c.op.filter fun y=>decide (y.1≠u.r)} (b:Int) v:=by
 unfold C5.leave;rw[hu,if_pos h]
theorem AW5 {c:C5} {b:Nat} {u v:D8} (hu:c.spt (b:Int)=u) (h:u.w≠3):c.leave (b:Int) v=c.put (b:Int) v:=by
 unfold C5.leave;rw[hu,if_neg h]
theorem mU (w:World) (f:G4) (da ta:Option Addr) (dc tc p gs bo bu n:Nat) (T:List F0) (c:C5) (h:K0 w [.int .i64 f.bk,.int .i64 f.rd,.int .i64 f.dv,.slice da f.dk.length dc,.slice ta f.tk.length tc] p gs bo bu n T c) (hkeys:(c.op.map (·.1)).Nodup)
 (b:Nat) (hb:b<c.sp.length) (v:D8):
 Calls Tryz.prog 187 #[.pointer (some ⟨p,0,none⟩),.int .i64 (b:Int),.agg #[.int .i64 v.w,.int .i64 v.p,.int .i64 v.r,.bool v.z]] w (kS w [.int .i64 f.bk,.int .i64 f.rd,.int .i64 f.dv,.slice da f.dk.length dc,.slice ta f.tk.length tc] p gs bo bu n T (c.leave (b:Int) v)):=by
 obtain⟨u,hu⟩:∃u,c.sp[b]? =some u:=⟨_,A4 hb⟩
 have HU:=A3 (show c.spt (b:Int)=u from by unfold C5.spt;rw[Int.toNat_natCast,A6,hu];rfl);have HP:=A3 (fun(w':World) (T':List F0) (k1:B7 (N8 gs bo bu T) w w') (k2:K0 w' [.int .i64 f.bk,.int .i64 f.rd,.int .i64 f.dv,.slice da f.dk.length dc,.slice ta f.tk.length tc] p gs bo bu n T' (c.leave (b:Int) v)) (k3:∀g∈T'.map (·.g),g∈T.map (·.g))=>show kS w [.int .i64 f.bk,.int .i64 f.rd,.int .i64 f.dv,.slice da f.dk.length dc,.slice ta f.tk.length tc] p gs bo bu n T (c.leave (b:Int) v) (.returned (.tuple #[])) w' from⟨rfl,k1,T',k2,k3⟩);generalize kS w [.int .i64 f.bk,.int .i64 f.rd,.int .i64 f.dv,.slice da f.dk.length dc,.slice ta f.tk.length tc] p gs bo bu n T (c.leave (b:Int) v)=PO at *;have aW:=A3 hkeys;have Hh:=A3 h;have Hh0:=A3 h;have HB:=A3 hb;have hb0:(0:Int)≤(b:Int):=by omega
 have hbl:(b:Int)<(c.sp.length:Int):=by omega
 obtain⟨x,hx⟩:=A7.refl w;rw[hx];clear hx h hkeys hb;go_enter Tryz.func187,Tryz.ntmps187;go_upto_region 1 with fail;obtain⟨W,bx,y0,hW,hbx,-,B8,Hup,Hbx,HB0⟩:=K7 x [.int .i64 v.w,.int .i64 v.p,.int .i64 v.r,.bool v.z] 180;rw[hW,hbx];clear hW hbx;obtain⟨D9,E7,F9,G0,hf0⟩:=bO HB0;clear HB0;replace Hh:=A3 (Hh.out.to B8);have hs1:∀y:A7 W,y.w.cell? ⟨p,5,none⟩=some (.slice (some ⟨gs,0,none⟩) c.sp.length c.sp.length):=fun y=>(Hh.out.st.since y).c 5 _ rfl;have hq:=fun(j:Nat) (v:Value) (hj:u.cs[j]? =some v) (y:A7 W)=>show y.w.cell? ⟨gs,b*4+j,none⟩=some v from(Hh.out.sp.since y).c _ _ (H7 D8.len c.sp b u j v hu hj);have hq0:=hq 0 _ rfl;have hq1:=hq 1 _ rfl;have hq2:=hq 2 _ rfl;have hq3:=hq 3 _ rfl;simp only[Nat.add_zero]at hq0;clear hq hu B8;go_upto_region 2 with fail;clear hq0 hq1 hq2 hq3 hs1;obtain⟨y1,e2,C9,hsz0,hlt0,HX0⟩:=L8 y0 [.int .i64 u.w,.int .i64 u.p,.int .i64 u.r,.bool u.z] 180;rw[e2];obtain⟨hx0,hx1,hx2,hx3,hxf⟩:=dU HX0;skip;clear e2 C9;generalize y0.w.heap.size=g at *;obtain⟨E6,G9,K1,J5,I3⟩:=bO HX0;have I9:=A3 (And.intro hsz0 hlt0);clear hlt0 hsz0 HX0;clear hx0 hx1 hx2 hx3 hxf;replace D9:∀(y:A7 y1.w),y.w.cell? ⟨bx,0,none⟩=some (.int .i64 v.w):=fun y=>by obtain⟨z,e⟩:=y1.trans y;rw[e];exact D9 z
 replace E7:∀(y:A7 y1.w),y.w.cell? ⟨bx,1,none⟩=some (.int .i64 v.p):=fun y=>by obtain⟨z,e⟩:=y1.trans y;rw[e];exact E7 z
 replace F9:∀(y:A7 y1.w),y.w.cell? ⟨bx,2,none⟩=some (.int .i64 v.r):=fun y=>by obtain⟨z,e⟩:=y1.trans y;rw[e];exact F9 z
 replace G0:∀(y:A7 y1.w),y.w.cell? ⟨bx,3,none⟩=some (.bool v.z):=fun y=>by obtain⟨z,e⟩:=y1.trans y;rw[e];exact G0 z
 replace hf0:∀(y:A7 y1.w) (o:Nat),y.w.frozen? ⟨bx,o,none⟩=false:=fun y o=>by obtain⟨z,e⟩:=y1.trans y;rw[e];exact hf0 z o
 replace Hh:=A3 (Hh.out.to ⟨y1,rfl⟩);have HK:=A3 (show B7 (N8 gs bo bu T) w y1.w from by obtain⟨y,e⟩:=Hup.out y1;rw[e];exact B7.of y);have hbv:C4 y1.w bx v.cs:=qE (by have h1:=Hbx.out;have h2:=y1.b.size;omega) (D9 (A7.self _)) (E7 (A7.self _)) (F9 (A7.self _)) (G0 (A7.self _)) (fun o=>hf0 (A7.self _) o);have Hbv:=A3 hbv;have Hbw:=A3 (show w.heap.size≤bx from Hbx.out.1);clear hbv D9 E7 F9 G0 hf0 I9;by_cases h3:u.w=3
 ·have HE:=A3 (AW4 (v:=v) HU.out h3)
  rw[h3]at E6;have hx0:y1.w.cell? ⟨g,0,none⟩=some (.int .i64 3):=E6 (A7.self _);clear h3;have hs2:∀w',A8 y1.w w'→w'.cell? ⟨p,6,none⟩=some (.map (some bo)):=fun w' h=>by obtain⟨y,rfl⟩:=h;exact(Hh.out.st.since y).c 6 _ rfl
  have hx2:=fun(w':World) (h:A8 y1.w w')=>A8.cell K1 h;go_upto_region 3 with fail;clear hx0;refine R7 (fun w'=>A8 y1.w w') 6 (by kernel_rfl) (A8.drew' (A8.self _)) (fun hS=>?_);iterate 6
   refine J4 0 ?_ rfl rfl (by kernel_rfl) hS (fun _ _ _ h=>h) ?_ ?_
   rotate_left
   ·(intro w h;(try dsimp only at h);go_split_ands;go_simp;try with_reducible rfl)
   (try simp only[Act.put,B9])
  refine I0 6 (by kernel_rfl) rfl fun K hK=>?_;(refine AE6 (n:=n) gB rfl _ _ _ _ rfl Tryz.underlying278 rfl u.r rfl Hh.out.mo.drew ?_;intro w2 hm2 hg2)
  refine M9 hK (by kernel_rfl) ?_;clear hK K;(try clear hS)
  (try simp only[Act.put,B9])
  clear hs2 hx2 E6 G9 K1 J5 I3;obtain⟨hM,hK⟩:=(Hh.out.to (A8.drew' (A8.self _))).gone aW.out u.r hm2 hg2;have Ax4:C4 w2 bx v.cs:=(Hbv.out.drew).keepS hK (Hh0.out.notS Hbw.out);have hK2:=HK.out.step ((B7.to (B7.refl (N8 gs bo bu T) y1.w) (A8.drew' (A8.self _))).step hK);have hM0:=hM;have HM:=A3 hM;have HK3:=A3 hK2;have HB2:=A3 Ax4;have HS2:=A3 (show∀g∈(T.filter fun x=>decide (x.i≠u.r)).map (·.g),g∈T.map (·.g)from fun g hg=>by
   obtain⟨x,hx,rfl⟩:=List.mem_map.1 hg;exact List.mem_map.2 ⟨x,(List.mem_filter.1 hx).1,rfl⟩)
  clear hM hK Ax4 hK2 hm2 hg2 hM0 Hbv HK;generalize T.filter (fun x=>decide (x.i≠u.r))=T2 at *;have HB3:=A3 (show b<({c with op:=c.op.filter fun y=>decide (y.1≠u.r)}:C5).sp.length from HB.out);have HL:=A3 (show({c with op:=c.op.filter fun y=>decide (y.1≠u.r)}:C5).sp.length=c.sp.length from rfl);generalize({c with op:=c.op.filter fun y=>decide (y.1≠u.r)}:C5)=c2 at *;have hs1:∀w',A8 w2 w'→w'.cell? ⟨p,5,none⟩=some (.slice (some ⟨gs,0,none⟩) c.sp.length c.sp.length):=fun w' h=>by obtain⟨y,rfl⟩:=h;have h1:=(HM.out.st.since y).c 5 _ rfl;rw[HL.out]at h1;exact h1
  have hv0:=fun(w':World) (h:A8 w2 w')=>((HB2.out.to h).c 0 _ rfl)
  have hv1:=fun(w':World) (h:A8 w2 w')=>((HB2.out.to h).c 1 _ rfl)
  have hv2:=fun(w':World) (h:A8 w2 w')=>((HB2.out.to h).c 2 _ rfl)
  have hv3:=fun(w':World) (h:A8 w2 w')=>((HB2.out.to h).c 3 _ rfl)
  obtain⟨u3,hu3⟩:∃u,c2.sp[b]? =some u:=⟨_,A4 HB3.out⟩
  have hq:=fun(j:Nat) (v:Value) (hj:u3.cs[j]? =some v)=>show w2.cell? ⟨gs,b*4+j,none⟩=some v from HM.out.sp.c _ _ (H7 D8.len c2.sp b u3 j v hu3 hj);have hq0:=hq 0 _ rfl;have hq1:=hq 1 _ rfl;have hq2:=hq 2 _ rfl;have hq3:=hq 3 _ rfl;have hqf:∀o,w2.frozen? ⟨gs,o,none⟩=false:=fun o=>HM.out.sp.f o;simp only[Nat.add_zero]at hq0;clear hq hu3;go_upto_region 4 with fail;refine R7 (fun w'=>A8 w2 w') 7 (by kernel_rfl) (A8.drew' (A8.self _)) (fun hS=>?_);iterate 7
   refine J4 0 ?_ rfl rfl (by kernel_rfl) hS (fun _ _ _ h=>h) ?_ ?_
   rotate_left
   ·(intro w h;(try dsimp only at h);go_split_ands;go_simp;try with_reducible rfl)
   (try simp only[Act.put,B9])
  refine I0 7 (by kernel_rfl) rfl fun K hK=>?_;go_simp;refine M9 hK (by kernel_rfl) ?_;clear hK K;(try clear hS)
  (try simp only[Act.put,B9])
  clear hs1 hv0 hv1 hv2 hv3 hq0 hq1 hq2 hq3 hqf;have hM:=HM.out.to (A8.drew' (A8.self _));obtain⟨hP,hK⟩:=hM.put HB3.out v;have hk1:B7 (N8 gs bo bu T2) w2 w2.drew:=B7.to (B7.refl _ _) (A8.drew' (A8.self _));have hk2:=HK3.out.trans (hk1.step hK) (fun g hg=>.inl (vI HS2.out hg));refine M7 (v:=.tuple #[]) (by simp[results,Tryz.results187,go_sem]) rfl ?_;exact HP.out _ T2 hk2 (by rw[HE.out];exact hP) HS2.out
 ·have HE:=A3 (AW5 (v:=v) HU.out h3)
  have e3:(u.w == 3)=false:=by simpa using h3
  have hx0:y1.w.cell? ⟨g,0,none⟩=some (.int .i64 u.w):=E6 (A7.self _);clear h3;go_upto_region 4 with fail;clear hx0 e3 E6 G9 K1 J5 I3;have HM:=Hh;have HK3:=HK;have HB2:=Hbv;have HB3:=HB;have HL:=A3 (show c.sp.length=c.sp.length from rfl);have HS2:=A3 (show∀g∈T.map (·.g),g∈T.map (·.g)from fun g hg=>hg);clear Hbv HK;have hs1:∀w',A8 y1.w w'→w'.cell? ⟨p,5,none⟩=some (.slice (some ⟨gs,0,none⟩) c.sp.length c.sp.length):=fun w' h=>by obtain⟨y,rfl⟩:=h;have h1:=(HM.out.st.since y).c 5 _ rfl;rw[HL.out]at h1;exact h1
  have hv0:=fun(w':World) (h:A8 y1.w w')=>((HB2.out.to h).c 0 _ rfl)
  have hv1:=fun(w':World) (h:A8 y1.w w')=>((HB2.out.to h).c 1 _ rfl)
  have hv2:=fun(w':World) (h:A8 y1.w w')=>((HB2.out.to h).c 2 _ rfl)
  have hv3:=fun(w':World) (h:A8 y1.w w')=>((HB2.out.to h).c 3 _ rfl)
  obtain⟨u3,hu3⟩:∃u,c.sp[b]? =some u:=⟨_,A4 HB3.out⟩
  have hq:=fun(j:Nat) (v:Value) (hj:u3.cs[j]? =some v)=>show y1.w.cell? ⟨gs,b*4+j,none⟩=some v from HM.out.sp.c _ _ (H7 D8.len c.sp b u3 j v hu3 hj);have hq0:=hq 0 _ rfl;have hq1:=hq 1 _ rfl;have hq2:=hq 2 _ rfl;have hq3:=hq 3 _ rfl;have hqf:∀o,y1.w.frozen? ⟨gs,o,none⟩=false:=fun o=>HM.out.sp.f o;simp only[Nat.add_zero]at hq0;clear hq hu3;go_upto_region 4 with fail;refine R7 (fun w'=>A8 y1.w w') 7 (by kernel_rfl) (A8.drew' (A8.self _)) (fun hS=>?_);iterate 7
   refine J4 0 ?_ rfl rfl (by kernel_rfl) hS (fun _ _ _ h=>h) ?_ ?_
   rotate_left
   ·(intro w h;(try dsimp only at h);go_split_ands;go_simp;try with_reducible rfl)
   (try simp only[Act.put,B9])
  refine I0 7 (by kernel_rfl) rfl fun K hK=>?_;go_simp;refine M9 hK (by kernel_rfl) ?_;clear hK K;(try clear hS)
  (try simp only[Act.put,B9])
  clear hs1 hv0 hv1 hv2 hv3 hq0 hq1 hq2 hq3 hqf;have hM:=HM.out.to (A8.drew' (A8.self _));obtain⟨hP,hK⟩:=hM.put HB3.out v;have hk1:B7 (N8 gs bo bu T) y1.w y1.w.drew:=B7.to (B7.refl _ _) (A8.drew' (A8.self _));have hk2:=HK3.out.trans (hk1.step hK) (fun g hg=>.inl (vI HS2.out hg));refine M7 (v:=.tuple #[]) (by simp[results,Tryz.results187,go_sem]) rfl ?_;exact HP.out _ T hk2 (by rw[HE.out];exact hP) HS2.out
theorem Ak1 (w:World) (f:G4) (da ta:Option Addr) (dc tc p gs bo bu n:Nat) (T:List F0) (c:C5) (h:K0 w [.int .i64 f.bk,.int .i64 f.rd,.int .i64 f.dv,.slice da f.dk.length dc,.slice ta f.tk.length tc] p gs bo bu n T c) (hkeys:(c.op.map (·.1)).Nodup)
 (b:Nat) (u:D8) (hu:c.sp[b]? =some u) (hx:∃x∈T,x.i=u.r) (z:Bool):
 Calls Tryz.prog 188 #[.pointer (some ⟨p,0,none⟩),.int .i64 (b:Int),.bool z] w (kS w [.int .i64 f.bk,.int .i64 f.rd,.int .i64 f.dv,.slice da f.dk.length dc,.slice ta f.tk.length tc] p gs bo bu n T ((c.put (b:Int) {c.spt (b:Int)with z:=z}).setT (c.spt (b:Int)).r fun t=>{t with z:=z})):=by
 have hU:c.spt (b:Int)=u:=by unfold C5.spt;rw[Int.toNat_natCast,A6,hu];rfl
 rw[hU];have HP:=A3 (fun(w':World) (T':List F0) (k1:B7 (N8 gs bo bu T) w w') (k2:K0 w' [.int .i64 f.bk,.int .i64 f.rd,.int .i64 f.dv,.slice da f.dk.length dc,.slice ta f.tk.length tc] p gs bo bu n T' ((c.put (b:Int) {u with z:=z}).setT u.r fun t=>{t with z:=z})) (k3:∀g∈T'.map (·.g),g∈T.map (·.g))=>show kS w [.int .i64 f.bk,.int .i64 f.rd,.int .i64 f.dv,.slice da f.dk.length dc,.slice ta f.tk.length tc] p gs bo bu n T ((c.put (b:Int) {u with z:=z}).setT u.r fun t=>{t with z:=z}) (.returned (.tuple #[])) w' from⟨rfl,k1,T',k2,k3⟩);generalize kS w [.int .i64 f.bk,.int .i64 f.rd,.int .i64 f.dv,.slice da f.dk.length dc,.slice ta f.tk.length tc] p gs bo bu n T ((c.put (b:Int) {u with z:=z}).setT u.r fun t=>{t with z:=z})=PO at *;obtain⟨xt,hxt,hxi⟩:=hx;have hlo:=qD h hkeys u.r;have hlv:Q4 u.r (P1 (T.map F0.ent)) (.pointer none)= .pointer (some ⟨xt.g,0,none⟩):=by
  rcases hlo with⟨x,hx,hi,_,hv⟩|⟨_,hno,_⟩
  ·have:x=xt:=vH (h.keys hkeys) hx hxt (hi.trans hxi.symm)
   rw[hv,this]
  ·have hmem:=AW3 hno
   exact absurd hxi (hmem xt hxt)
 have aW:=A3 hkeys;have Hh:=A3 h;have Hxt:=A3 hxt;have Hxi:=A3 hxi;have Hu:=A3 hu;have hb:b<c.sp.length:=(A5 hu).1;have hb0:(0:Int)≤(b:Int):=by omega
 have hbl:(b:Int)<(c.sp.length:Int):=by omega
 have hs1:∀w',A8 w w'→w'.cell? ⟨p,5,none⟩=some (.slice (some ⟨gs,0,none⟩) c.sp.length c.sp.length):=fun w' h=>by obtain⟨y,rfl⟩:=h;exact(Hh.out.st.since y).c 5 _ rfl
 have hs2:∀w',A8 w w'→w'.cell? ⟨p,6,none⟩=some (.map (some bo)):=fun w' h=>by obtain⟨y,rfl⟩:=h;exact(Hh.out.st.since y).c 6 _ rfl
 have hq2:∀w',A8 w w'→w'.cell? ⟨gs,b*4+2,none⟩=some (.int .i64 u.r):=fun w' h=>by obtain⟨y,rfl⟩:=h;exact(Hh.out.sp.since y).c _ _ (H7 D8.len c.sp b u 2 _ Hu.out rfl)
 have hlk:∀w',A8 w w'→(Instr.lookup 278 (.map (some bo)) (.int .i64 u.r) false).run Tryz.prog w'= .ok (.pointer (some ⟨xt.g,0,none⟩)) w':=fun w' h=>by obtain⟨y,rfl⟩:=h;have h1:=sS gB (Hh.out.mo.since y) Tryz.underlying278 (Ak0 _) u.r false;rw[if_neg (by decide),hlv]at h1;exact h1
 have hk2:w.cell? ⟨xt.g,2,none⟩=some (.bool xt.t.z):=(Hh.out.tr xt Hxt.out).c 2 _ rfl;have hkf:∀o,w.frozen? ⟨xt.g,o,none⟩=false:=fun o=>(Hh.out.tr xt Hxt.out).f o;clear h hkeys hxt hxi hu hlo hlv hU;go_enter Tryz.func188,Tryz.ntmps188;go_upto_region 0 with fail;refine R7 (fun w'=>A8 w w') 16 (by kernel_rfl) (A8.drew' (A8.self _)) (fun hS=>?_);iterate 16
  refine J4 0 ?_ rfl rfl (by kernel_rfl) hS (fun _ _ _ h=>h) ?_ ?_
  rotate_left
  ·(intro w h;(try dsimp only at h);go_split_ands;go_simp;try with_reducible rfl)
  (try simp only[Act.put,B9])
 refine I0 16 (by kernel_rfl) rfl fun K hK=>?_;go_simp;refine M9 hK (by kernel_rfl) ?_;clear hK K;(try clear hS)
 (try simp only[Act.put,B9])
 clear hs1 hs2 hq2 hlk hk2 hkf;obtain⟨hM,hK⟩:=(Hh.out.to (A8.drew' (A8.self _))).trip1 aW.out Hxt.out (fun t=>{t with z:=z}) 2 (.bool z) (by decide) rfl;rw[show(w.drew.setCell ⟨xt.g,2,none⟩ (.bool z))=(w.setCell ⟨xt.g,2,none⟩ (.bool z)).drew from rfl]at hM hK;rw[Hxi.out]at hM;have HM:=A3 hM;have HK:=A3 ((B7.to (B7.refl (N8 gs bo bu T) w) (A8.drew' (A8.self _))).step hK);clear hM hK;generalize(w.setCell ⟨xt.g,2,none⟩ (.bool z)).drew=w2 at *;have hs1:w2.cell? ⟨p,5,none⟩=some (.slice (some ⟨gs,0,none⟩) c.sp.length c.sp.length):=HM.out.st.c 5 _ rfl;have hq3:w2.cell? ⟨gs,b*4+3,none⟩=some (.bool u.z):=HM.out.sp.c _ _ (H7 D8.len c.sp b u 3 _ Hu.out rfl);have hqf:∀o,w2.frozen? ⟨gs,o,none⟩=false:=fun o=>HM.out.sp.f o;go_wp2_with fail;clear hs1 hq3 hqf;obtain⟨hP,hK⟩:=HM.out.put3 Hu.out z;refine M7 (v:=.tuple #[]) (by simp[results,Tryz.results188,go_sem]) rfl ?_;refine HP.out _ _ (HK.out.trans hK (fun g hg=>.inl (vI (fun g hg=>by rw[qC]at hg;exact hg) hg))) hP (fun g hg=>by rw[qC]at hg;exact hg)
end
end Go.Proofs.YtmmlmhnjjfnpnaaGreat
