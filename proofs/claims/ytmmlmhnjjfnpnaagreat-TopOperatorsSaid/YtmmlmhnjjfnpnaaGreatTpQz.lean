/- Texts that belong together. -/
import Derived.Test.YtmmlmhnjjfnpnaaGreatTpQy
import Derived.BigQuiet
set_option linter.all false
namespace Go.Proofs.YtmmlmhnjjfnpnaaGreat
open Go.RowKit Go.ChangeMaps
def aK (w:World) (B p bi gg gs:Nat) (vr vp:Value) (R:List A9) (s':D7) (o:Ending) (w':World):Prop:=
 o= .returned (.tuple #[])∧∃(vr' vp':Value) (R':List A9),I8 w' B p bi gg gs vr' vp' R' s'∧B7 (K9 p bi gg gs vr vp R) w w'∧∀b,K9 p bi gg gs vr' vp' R' b→K9 p bi gg gs vr vp R b∨w.heap.size≤b
theorem K9.set {p bi gg gs:Nat} {vr vp:Value} {R:List A9} {k:Nat} {r r':A9} (hr:R[k]? =some r) (he:K3 r'=K3 r) {b:Nat} (h:K9 p bi gg gs vr vp (R.set k r') b):K9 p bi gg gs vr vp R b:=by
 rcases h with h|⟨x,hx,hb⟩
 ·exact .inl h
 ·rcases List.mem_or_eq_of_mem_set hx with hx|rfl
  ·exact .inr ⟨x,hx,hb⟩
  ·exact .inr ⟨r,A0 hr,by rw[←he];exact hb⟩
theorem kV {s:D7} {R:List A9} (hb:R.map A9.br=s.rs) {k:Nat} {r:A9} (hr:R[k]? =some r):s.rat k=r.br:=by
 unfold D7.rat;rw[←hb,A6,List.getElem?_map,hr];rfl
theorem AX0 {α:Type} (g:α→α):aI ([]:List α) g=[]:=rfl
theorem Ak4 {α:Type} {l:List α} (h:0<l.length):∃(i:List α) (x:α),l=i ++ [x]:=by
 rcases List.eq_nil_or_concat l with rfl|⟨i,x,rfl⟩
 ·simp at h
 ·exact⟨i,x,by simp⟩
theorem AX1 {s:D7} {R:List A9} (hb:R.map A9.br=s.rs) {k:Nat} {r:A9} (hr:R[k]? =some r):s.rs.set k r.br=s.rs:=by
 rw[←hb];have:(R.map A9.br)[k]? =some r.br:=by rw[List.getElem?_map,hr];rfl
 refine List.ext_getElem? fun i=>?_;rw[List.getElem?_set];by_cases e:k=i
 ·subst e;rw[if_pos rfl,if_pos (A5 this).1,this]
 ·rw[if_neg e]
theorem AX2 {s:D7} {R:List A9} (hb:R.map A9.br=s.rs) {k:Nat} {r:A9} (hr:R[k]? =some r) (hz:s.pz.getD k false=true) (a t:Int):V2 s k a t={s with rs:=s.rs.set k {r with pauses:=aI r.pauses fun p=>p.to a t}.br,pz:=s.pz.set k false}:=by
 unfold V2;rw[if_pos hz];unfold D7.setR;rw[kV hb hr];rfl
theorem AX3 {s:D7} {k:Nat} (hz:s.pz.getD k false=false) (a t:Int):V2 s k a t={s with pz:=s.pz.set k false}:=by
 unfold V2;rw[if_neg (by rw[hz];decide)]
set_option maxRecDepth 100000 in
set_option maxHeartbeats 8000000 in
theorem Ak5 (w:World) (B p bi gg gs:Nat) (vr vp:Value) (R:List A9) (s:D7) (h:I8 w B p bi gg gs vr vp R s) (k:Nat) (hk:k<R.length) (hpz:s.pz.length=R.length) (a t:Int):
 Calls Tryz.prog 78 #[.pointer (some ⟨p,0,none⟩),.int .i64 (k:Int),.agg #[.int .i64 a,.int .i64 t]] w (aK w B p bi gg gs vr vp R (V2 s k a t)):=by
 have HP:=A3 (fun(w':World) (vr' vp':Value) (R':List A9) (h1:I8 w' B p bi gg gs vr' vp' R' (V2 s k a t)) (h2:B7 (K9 p bi gg gs vr vp R) w w') (h3:∀b,K9 p bi gg gs vr' vp' R' b→K9 p bi gg gs vr vp R b∨w.heap.size≤b)=>show aK w B p bi gg gs vr vp R (V2 s k a t) (.returned (.tuple #[])) w' from⟨rfl,vr',vp',R',h1,h2,h3⟩);generalize aK w B p bi gg gs vr vp R (V2 s k a t)=PO at *;obtain⟨r,hr⟩:∃r,R[k]? =some r:=⟨_,A4 hk⟩
 obtain⟨gr,cr,rfl,_,_⟩:=eQ h.rr (by omega);obtain⟨gp,cp,rfl,_,_⟩:=eQ h.pz (by omega);obtain⟨z,hz⟩:∃z,s.pz[k]? =some z:=⟨_,A4 (by omega)⟩
 have hzd:s.pz.getD k false=z:=by rw[A6,hz];rfl
 have Hh:=A3 h;have Hr:=A3 hr;have Hz:=A3 hz;have Hpz:=A3 hpz;have hk0:(0:Int)≤(k:Int):=by omega
 have hkl:(k:Int)<(R.length:Int):=by omega
 have hkp:(k:Int)<(s.pz.length:Int):=by omega
 have Hk:=A3 hk;obtain⟨x,hx⟩:=A7.refl w;rw[hx];clear hx h hr hz hpz hk;go_enter Tryz.func78,Tryz.ntmps78;go_upto_region 1 with fail;obtain⟨W,bx,y0,hW,hbx,-,B8,Hup,Hbx,HB0⟩:=K7 x [.int .i64 a,.int .i64 t] 36;rw[hW,hbx];clear hW hbx;obtain⟨D9,E7,hf0⟩:=p8 HB0;clear HB0;have HK:=A3 (show B7 (K9 p bi gg gs (.slice (some ⟨gr,0,none⟩) R.length cr) (.slice (some ⟨gp,0,none⟩) s.pz.length cp) R) w y0.w from by obtain⟨y,e⟩:=Hup.out y0;rw[e];exact B7.of y);replace Hh:=A3 ((Hh.out.to B8).to ⟨y0,rfl⟩);have c0:y0.w.cell? ⟨bx,0,none⟩=some (.int .i64 a):=D9 y0;have c1:y0.w.cell? ⟨bx,1,none⟩=some (.int .i64 t):=E7 y0;have HS:=A3 (show w.heap.size≤y0.w.heap.size from HK.out.size);clear B8 D9 E7 hf0 Hbx Hup;generalize y0.w=w1 at *;have k0:w1.cell? ⟨p,0,none⟩=some (.slice (some ⟨gr,0,none⟩) R.length cr):=Hh.out.st.c 0 _ rfl;have k3:w1.cell? ⟨p,3,none⟩=some (.slice (some ⟨gp,0,none⟩) s.pz.length cp):=Hh.out.st.c 3 _ rfl;have r8:w1.cell? ⟨gr,k*13+8,none⟩=some (.slice r.pa r.pauses.length r.pc):=(P6 Hh.out.rr (H7 A9.len R k r 8 _ Hr.out rfl)).1 (A7.self w1);have hzc:(s.pz.map Value.bool)[k]? =some (.bool z):=by rw[List.getElem?_map,Hz.out];rfl
 have z0:w1.cell? ⟨gp,k,none⟩=some (.bool z):=(P6 Hh.out.pz hzc).1 (A7.self w1);have zf:w1.frozen? ⟨gp,k,none⟩=false:=(P6 Hh.out.pz hzc).2.1 (A7.self w1);clear hzc
 cases z with
 |false=>
  have HE:=A3 (AX3 hzd a t)
  clear hzd
  obtain⟨hM,hK⟩:=Hh.out.setPz rfl (k:=k) (by rw[Hpz.out];exact Hk.out) false
  have HR:=A3 (HP.out _ _ _ _ (by rw[HE.out];exact hM) (HK.out.trans hK (fun b e=>.inl (.inl (by have e2:b=gp:=e;rw[e2];simp[D6,V3])))) (fun b hb=>.inl hb))
  clear hM hK
  go_wp2_with fail
  refine M7 (v:=.tuple #[]) (by simp[results,Tryz.results78,go_sem]) rfl ?_
  exact HR.out
 |true=>
  have HE:=A3 (AX2 Hh.out.br Hr.out hzd a t)
  clear hzd
  by_cases hn:r.pauses.length=0
  ·have hn0:r.pauses=[]:=List.eq_nil_of_length_eq_zero hn
   have hni:¬(0:Int)<(r.pauses.length:Int):=by omega
   obtain⟨hM,hK⟩:=Hh.out.setPz rfl (k:=k) (by rw[Hpz.out];exact Hk.out) false;have HE2:=A3 (show V2 s k a t={s with pz:=s.pz.set k false}from by
    rw[HE.out,hn0,AX0];have:({r with pauses:=[]}:A9)=r:=by cases r;simp at hn0;subst hn0;rfl
    rw[this,AX1 Hh.out.br Hr.out])
   have HR:=A3 (HP.out _ _ _ _ (by rw[HE2.out];exact hM) (HK.out.trans hK (fun b e=>.inl (.inl (by have e2:b=gp:=e;rw[e2];simp[D6,V3])))) (fun b hb=>.inl hb));rw[hn]at r8;clear hM hK hn hn0 hni;go_wp2_with fail;refine M7 (v:=.tuple #[]) (by simp[results,Tryz.results78,go_sem]) rfl ?_;exact HR.out
  ·obtain⟨init,q,hpq⟩:=Ak4 (l:=r.pauses) (by omega)
   obtain⟨gq,hga,hgc,_⟩:=(Hh.out.rm r (A0 Hr.out)).pse_at (by omega);obtain⟨N,hN⟩:∃N,r.pauses.length=N:=⟨_,rfl⟩
   have hNi:N=init.length+1:=by rw[←hN,hpq,List.length_append];rfl
   have hNq:r.pauses[N-1]? =some q:=by rw[hNi,hpq,Nat.add_sub_cancel,List.getElem?_append_right (Nat.le_refl _),Nat.sub_self];rfl
   have hrow:=(Hh.out.rm r (A0 Hr.out)).p;unfold A9.pv at hrow;rw[hga,hN]at hrow r8;have q2:w1.cell? ⟨gq,(N-1)*4+2,none⟩=some (.int .i64 q.t0):=(P6 hrow (H7 I2.len r.pauses (N-1) q 2 _ hNq rfl)).1 (A7.self w1);have q3:w1.cell? ⟨gq,(N-1)*4+3,none⟩=some (.int .i64 q.t1):=(P6 hrow (H7 I2.len r.pauses (N-1) q 3 _ hNq rfl)).1 (A7.self w1);have f2:w1.frozen? ⟨gq,(N-1)*4+2,none⟩=false:=(P6 hrow (H7 I2.len r.pauses (N-1) q 2 _ hNq rfl)).2.1 (A7.self w1);have f3:w1.frozen? ⟨gq,(N-1)*4+3,none⟩=false:=(P6 hrow (H7 I2.len r.pauses (N-1) q 3 _ hNq rfl)).2.1 (A7.self w1);have hlast:aI r.pauses (fun p=>p.to a t)=init ++ [q.to a t]:=by rw[hpq,hZ]
   rw[hlast]at HE;obtain⟨hM,hK⟩:=Hh.out.endP Hr.out hpq hga a t;have e1:init.length=N-1:=by omega
   rw[e1]at hM hK;have HM:=A3 hM;have HK2:=A3 (HK.out.step hK);have hN0:1≤N:=by omega
   have hN1:(0:Int)<(N:Int):=by omega
   have hN2:(0:Int)≤(N:Int)-1:=by omega
   have hN3:(N:Int)-1<(N:Int):=by omega
   have hNb:N≤9223372036854775807:=by
    have h1:=hrow;obtain⟨_,⟨hbad,_⟩|⟨_,_,_,_,_,_,h2,h3,_⟩⟩:=h1
    ·cases hbad
    ·unfold maxLen at h3;omega
   have hw1:wrap64 ((N:Int)-1)=(N:Int)-1:=IntWalk.wrap64_in _ ⟨by omega,by omega⟩;clear hN hNi hNq hrow hlast hM hK e1 hpq hga hgc hn hNb;go_upto_region 4 with fail;refine Eq.mp (congrArg (Code.wp _ _ _ _) (show(w1.setCell ⟨gq,(N-1)*4+2,none⟩ (.int .i64 a)).setCell ⟨gq,(N-1)*4+2+1,none⟩ (.int .i64 t)= _ from rfl)) ?_;have HS2:=A3 (show w.heap.size≤((w1.setCell ⟨gq,(N-1)*4+2,none⟩ (.int .i64 a)).setCell ⟨gq,(N-1)*4+2+1,none⟩ (.int .i64 t)).heap.size from HK2.out.size);clear r8 q2 q3 f2 f3 k0 k3 z0 zf c0 c1 hw1;generalize(w1.setCell ⟨gq,(N-1)*4+2,none⟩ (.int .i64 a)).setCell ⟨gq,(N-1)*4+2+1,none⟩ (.int .i64 t)=w2 at *;have k3:w2.cell? ⟨p,3,none⟩=some (.slice (some ⟨gp,0,none⟩) s.pz.length cp):=HM.out.st.c 3 _ rfl;have hzc:(s.pz.map Value.bool)[k]? =some (.bool true):=by rw[List.getElem?_map,Hz.out];rfl
   have z0:w2.cell? ⟨gp,k,none⟩=some (.bool true):=(P6 HM.out.pz hzc).1 (A7.self w2);have zf:w2.frozen? ⟨gp,k,none⟩=false:=(P6 HM.out.pz hzc).2.1 (A7.self w2);obtain⟨hM,hK⟩:=HM.out.setPz rfl (k:=k) (by rw[show(_:D7).pz.length=s.pz.length from rfl,Hpz.out];exact Hk.out) false;have HR:=A3 (HP.out _ _ _ _ (by rw[HE.out];exact hM) (HK2.out.trans hK (fun b e=>.inl (.inl (by have e2:b=gp:=e;rw[e2];simp[D6,V3])))) (fun b hb=>.inl (hb.set Hr.out (vK _ _))));clear hM hK hzc;go_wp2_with fail;refine M7 (v:=.tuple #[]) (by simp[results,Tryz.results78,go_sem]) rfl ?_;exact HR.out
end Go.Proofs.YtmmlmhnjjfnpnaaGreat
