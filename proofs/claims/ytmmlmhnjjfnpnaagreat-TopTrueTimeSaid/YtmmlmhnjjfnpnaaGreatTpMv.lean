/- Texts that belong together. -/
import Derived.Test.YtmmlmhnjjfnpnaaGreatTpMu
import Derived.BigQuiet
set_option linter.all false
namespace Go.Proofs.YtmmlmhnjjfnpnaaGreat
open Go.RowKit Go.ChangeMaps
def StoPost (w:World) (B p bi gg gs:Nat) (vr vp:Value) (R:List Ride) (s':Sto) (o:Ending) (w':World):Prop:=
 o= .returned (.tuple #[])∧∃(vr' vp':Value) (R':List Ride),StoM w' B p bi gg gs vr' vp' R' s'∧KpS (StoS p bi gg gs vr vp R) w w'∧∀b,StoS p bi gg gs vr' vp' R' b→StoS p bi gg gs vr vp R b∨w.heap.size≤b
theorem StoS.set {p bi gg gs:Nat} {vr vp:Value} {R:List Ride} {k:Nat} {r r':Ride} (hr:R[k]? =some r) (he:rblk r'=rblk r) {b:Nat} (h:StoS p bi gg gs vr vp (R.set k r') b):StoS p bi gg gs vr vp R b:=by
 rcases h with h|⟨x,hx,hb⟩
 ·exact .inl h
 ·rcases List.mem_or_eq_of_mem_set hx with hx|rfl
  ·exact .inr ⟨x,hx,hb⟩
  ·exact .inr ⟨r,List.mem_of_getElem? hr,by rw[←he];exact hb⟩
theorem rat_at {s:Sto} {R:List Ride} (hb:R.map Ride.br=s.rs) {k:Nat} {r:Ride} (hr:R[k]? =some r):s.rat k=r.br:=by
 unfold Sto.rat;rw[←hb,List.getD_eq_getElem?_getD,List.getElem?_map,hr];rfl
theorem lastSet_nil {α:Type} (g:α→α):lastSet ([]:List α) g=[]:=rfl
theorem snocT_of {α:Type} {l:List α} (h:0<l.length):∃(i:List α) (x:α),l=i ++ [x]:=by
 rcases List.eq_nil_or_concat l with rfl|⟨i,x,rfl⟩
 ·simp at h
 ·exact⟨i,x,by simp⟩
theorem rs_same {s:Sto} {R:List Ride} (hb:R.map Ride.br=s.rs) {k:Nat} {r:Ride} (hr:R[k]? =some r):s.rs.set k r.br=s.rs:=by
 rw[←hb];have:(R.map Ride.br)[k]? =some r.br:=by rw[List.getElem?_map,hr];rfl
 refine List.ext_getElem? fun i=>?_;rw[List.getElem?_set];by_cases e:k=i
 ·subst e;rw[if_pos rfl,if_pos (List.getElem?_eq_some_iff.1 this).1,this]
 ·rw[if_neg e]
theorem resume_yes {s:Sto} {R:List Ride} (hb:R.map Ride.br=s.rs) {k:Nat} {r:Ride} (hr:R[k]? =some r) (hz:s.pz.getD k false=true) (a t:Int):resumeS s k a t={s with rs:=s.rs.set k {r with pauses:=lastSet r.pauses fun p=>p.to a t}.br,pz:=s.pz.set k false}:=by
 unfold resumeS;rw[if_pos hz];unfold Sto.setR;rw[rat_at hb hr];rfl
theorem resume_no {s:Sto} {k:Nat} (hz:s.pz.getD k false=false) (a t:Int):resumeS s k a t={s with pz:=s.pz.set k false}:=by
 unfold resumeS;rw[if_neg (by rw[hz];decide)]
set_option maxRecDepth 100000 in
set_option maxHeartbeats 8000000 in
theorem resume_calls (w:World) (B p bi gg gs:Nat) (vr vp:Value) (R:List Ride) (s:Sto) (h:StoM w B p bi gg gs vr vp R s) (k:Nat) (hk:k<R.length) (hpz:s.pz.length=R.length) (a t:Int):
 Calls Tryz.prog 78 #[.pointer (some ⟨p,0,none⟩),.int .i64 (k:Int),.agg #[.int .i64 a,.int .i64 t]] w (StoPost w B p bi gg gs vr vp R (resumeS s k a t)):=by
 have HP:=Lib.hid (fun(w':World) (vr' vp':Value) (R':List Ride) (h1:StoM w' B p bi gg gs vr' vp' R' (resumeS s k a t)) (h2:KpS (StoS p bi gg gs vr vp R) w w') (h3:∀b,StoS p bi gg gs vr' vp' R' b→StoS p bi gg gs vr vp R b∨w.heap.size≤b)=>show StoPost w B p bi gg gs vr vp R (resumeS s k a t) (.returned (.tuple #[])) w' from⟨rfl,vr',vp',R',h1,h2,h3⟩);generalize StoPost w B p bi gg gs vr vp R (resumeS s k a t)=PO at *;obtain⟨r,hr⟩:∃r,R[k]? =some r:=⟨_,List.getElem?_eq_getElem hk⟩
 obtain⟨gr,cr,rfl,_,_⟩:=own_some h.rr (by omega);obtain⟨gp,cp,rfl,_,_⟩:=own_some h.pz (by omega);obtain⟨z,hz⟩:∃z,s.pz[k]? =some z:=⟨_,List.getElem?_eq_getElem (by omega)⟩
 have hzd:s.pz.getD k false=z:=by rw[List.getD_eq_getElem?_getD,hz];rfl
 have Hh:=Lib.hid h;have Hr:=Lib.hid hr;have Hz:=Lib.hid hz;have Hpz:=Lib.hid hpz;have hk0:(0:Int)≤(k:Int):=by omega
 have hkl:(k:Int)<(R.length:Int):=by omega
 have hkp:(k:Int)<(s.pz.length:Int):=by omega
 have Hk:=Lib.hid hk;obtain⟨x,hx⟩:=Since.refl w;rw[hx];clear hx h hr hz hpz hk;go_enter Tryz.func78,Tryz.ntmps78;go_upto_region 1 with fail;obtain⟨W,bx,y0,hW,hbx,-,hWup,Hup,Hbx,HB0⟩:=heads1 x [.int .i64 a,.int .i64 t] 36;rw[hW,hbx];clear hW hbx;obtain⟨hb0_0,hb0_1,hf0⟩:=bx2 HB0;clear HB0;have HK:=Lib.hid (show KpS (StoS p bi gg gs (.slice (some ⟨gr,0,none⟩) R.length cr) (.slice (some ⟨gp,0,none⟩) s.pz.length cp) R) w y0.w from by obtain⟨y,e⟩:=Hup.out y0;rw[e];exact KpS.of y);replace Hh:=Lib.hid ((Hh.out.to hWup).to ⟨y0,rfl⟩);have c0:y0.w.cell? ⟨bx,0,none⟩=some (.int .i64 a):=hb0_0 y0;have c1:y0.w.cell? ⟨bx,1,none⟩=some (.int .i64 t):=hb0_1 y0;have HS:=Lib.hid (show w.heap.size≤y0.w.heap.size from HK.out.size);clear hWup hb0_0 hb0_1 hf0 Hbx Hup;generalize y0.w=w1 at *;have k0:w1.cell? ⟨p,0,none⟩=some (.slice (some ⟨gr,0,none⟩) R.length cr):=Hh.out.st.c 0 _ rfl;have k3:w1.cell? ⟨p,3,none⟩=some (.slice (some ⟨gp,0,none⟩) s.pz.length cp):=Hh.out.st.c 3 _ rfl;have r8:w1.cell? ⟨gr,k*13+8,none⟩=some (.slice r.pa r.pauses.length r.pc):=(own_cell Hh.out.rr (flat_at Ride.len R k r 8 _ Hr.out rfl)).1 (Since.self w1);have hzc:(s.pz.map Value.bool)[k]? =some (.bool z):=by rw[List.getElem?_map,Hz.out];rfl
 have z0:w1.cell? ⟨gp,k,none⟩=some (.bool z):=(own_cell Hh.out.pz hzc).1 (Since.self w1);have zf:w1.frozen? ⟨gp,k,none⟩=false:=(own_cell Hh.out.pz hzc).2.1 (Since.self w1);clear hzc
 cases z with
 |false=>
  have HE:=Lib.hid (resume_no hzd a t)
  clear hzd
  obtain⟨hM,hK⟩:=Hh.out.setPz rfl (k:=k) (by rw[Hpz.out];exact Hk.out) false
  have HR:=Lib.hid (HP.out _ _ _ _ (by rw[HE.out];exact hM) (HK.out.trans hK (fun b e=>.inl (.inl (by have e2:b=gp:=e;rw[e2];simp[sblk,ob_slice])))) (fun b hb=>.inl hb))
  clear hM hK
  go_wp2_with fail
  refine body_end (v:=.tuple #[]) (by simp[results,Tryz.results78,go_sem]) rfl ?_
  exact HR.out
 |true=>
  have HE:=Lib.hid (resume_yes Hh.out.br Hr.out hzd a t)
  clear hzd
  by_cases hn:r.pauses.length=0
  ·have hn0:r.pauses=[]:=List.eq_nil_of_length_eq_zero hn
   have hni:¬(0:Int)<(r.pauses.length:Int):=by omega
   obtain⟨hM,hK⟩:=Hh.out.setPz rfl (k:=k) (by rw[Hpz.out];exact Hk.out) false;have HE2:=Lib.hid (show resumeS s k a t={s with pz:=s.pz.set k false}from by
    rw[HE.out,hn0,lastSet_nil];have:({r with pauses:=[]}:Ride)=r:=by cases r;simp at hn0;subst hn0;rfl
    rw[this,rs_same Hh.out.br Hr.out])
   have HR:=Lib.hid (HP.out _ _ _ _ (by rw[HE2.out];exact hM) (HK.out.trans hK (fun b e=>.inl (.inl (by have e2:b=gp:=e;rw[e2];simp[sblk,ob_slice])))) (fun b hb=>.inl hb));rw[hn]at r8;clear hM hK hn hn0 hni;go_wp2_with fail;refine body_end (v:=.tuple #[]) (by simp[results,Tryz.results78,go_sem]) rfl ?_;exact HR.out
  ·obtain⟨init,q,hpq⟩:=snocT_of (l:=r.pauses) (by omega)
   obtain⟨gq,hga,hgc,_⟩:=(Hh.out.rm r (List.mem_of_getElem? Hr.out)).pse_at (by omega);obtain⟨N,hN⟩:∃N,r.pauses.length=N:=⟨_,rfl⟩
   have hNi:N=init.length+1:=by rw[←hN,hpq,List.length_append];rfl
   have hNq:r.pauses[N-1]? =some q:=by rw[hNi,hpq,Nat.add_sub_cancel,List.getElem?_append_right (Nat.le_refl _),Nat.sub_self];rfl
   have hrow:=(Hh.out.rm r (List.mem_of_getElem? Hr.out)).p;unfold Ride.pv at hrow;rw[hga,hN]at hrow r8;have q2:w1.cell? ⟨gq,(N-1)*4+2,none⟩=some (.int .i64 q.t0):=(own_cell hrow (flat_at Pse.len r.pauses (N-1) q 2 _ hNq rfl)).1 (Since.self w1);have q3:w1.cell? ⟨gq,(N-1)*4+3,none⟩=some (.int .i64 q.t1):=(own_cell hrow (flat_at Pse.len r.pauses (N-1) q 3 _ hNq rfl)).1 (Since.self w1);have f2:w1.frozen? ⟨gq,(N-1)*4+2,none⟩=false:=(own_cell hrow (flat_at Pse.len r.pauses (N-1) q 2 _ hNq rfl)).2.1 (Since.self w1);have f3:w1.frozen? ⟨gq,(N-1)*4+3,none⟩=false:=(own_cell hrow (flat_at Pse.len r.pauses (N-1) q 3 _ hNq rfl)).2.1 (Since.self w1);have hlast:lastSet r.pauses (fun p=>p.to a t)=init ++ [q.to a t]:=by rw[hpq,lastSet_snoc]
   rw[hlast]at HE;obtain⟨hM,hK⟩:=Hh.out.endP Hr.out hpq hga a t;have e1:init.length=N-1:=by omega
   rw[e1]at hM hK;have HM:=Lib.hid hM;have HK2:=Lib.hid (HK.out.step hK);have hN0:1≤N:=by omega
   have hN1:(0:Int)<(N:Int):=by omega
   have hN2:(0:Int)≤(N:Int)-1:=by omega
   have hN3:(N:Int)-1<(N:Int):=by omega
   have hNb:N≤9223372036854775807:=by
    have h1:=hrow;obtain⟨_,⟨hbad,_⟩|⟨_,_,_,_,_,_,h2,h3,_⟩⟩:=h1
    ·cases hbad
    ·unfold maxLen at h3;omega
   have hw1:wrap64 ((N:Int)-1)=(N:Int)-1:=IntWalk.wrap64_in _ ⟨by omega,by omega⟩;clear hN hNi hNq hrow hlast hM hK e1 hpq hga hgc hn hNb;go_upto_region 4 with fail;refine Eq.mp (congrArg (Code.wp _ _ _ _) (show(w1.setCell ⟨gq,(N-1)*4+2,none⟩ (.int .i64 a)).setCell ⟨gq,(N-1)*4+2+1,none⟩ (.int .i64 t)= _ from rfl)) ?_;have HS2:=Lib.hid (show w.heap.size≤((w1.setCell ⟨gq,(N-1)*4+2,none⟩ (.int .i64 a)).setCell ⟨gq,(N-1)*4+2+1,none⟩ (.int .i64 t)).heap.size from HK2.out.size);clear r8 q2 q3 f2 f3 k0 k3 z0 zf c0 c1 hw1;generalize(w1.setCell ⟨gq,(N-1)*4+2,none⟩ (.int .i64 a)).setCell ⟨gq,(N-1)*4+2+1,none⟩ (.int .i64 t)=w2 at *;have k3:w2.cell? ⟨p,3,none⟩=some (.slice (some ⟨gp,0,none⟩) s.pz.length cp):=HM.out.st.c 3 _ rfl;have hzc:(s.pz.map Value.bool)[k]? =some (.bool true):=by rw[List.getElem?_map,Hz.out];rfl
   have z0:w2.cell? ⟨gp,k,none⟩=some (.bool true):=(own_cell HM.out.pz hzc).1 (Since.self w2);have zf:w2.frozen? ⟨gp,k,none⟩=false:=(own_cell HM.out.pz hzc).2.1 (Since.self w2);obtain⟨hM,hK⟩:=HM.out.setPz rfl (k:=k) (by rw[show(_:Sto).pz.length=s.pz.length from rfl,Hpz.out];exact Hk.out) false;have HR:=Lib.hid (HP.out _ _ _ _ (by rw[HE.out];exact hM) (HK2.out.trans hK (fun b e=>.inl (.inl (by have e2:b=gp:=e;rw[e2];simp[sblk,ob_slice])))) (fun b hb=>.inl (hb.set Hr.out (rblk_pauses _ _))));clear hM hK hzc;go_wp2_with fail;refine body_end (v:=.tuple #[]) (by simp[results,Tryz.results78,go_sem]) rfl ?_;exact HR.out
end Go.Proofs.YtmmlmhnjjfnpnaaGreat
