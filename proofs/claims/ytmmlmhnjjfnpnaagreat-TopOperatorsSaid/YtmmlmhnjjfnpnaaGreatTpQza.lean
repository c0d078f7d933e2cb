/- Texts that belong together. -/
import Derived.Test.YtmmlmhnjjfnpnaaGreatTpQz
import Derived.Laws.StructEq
import Derived.BigQuiet
set_option linter.all false
namespace Go.Proofs.YtmmlmhnjjfnpnaaGreat
set_option maxRecDepth 200000
set_option maxHeartbeats 64000000
section
open Go.RowKit Go.ChangeMaps
theorem AX4 {α:Type} {enc:α→List Value} {k:Nat} (hk:∀x,(enc x).length=k) {L:List α} {b j:Nat} {u y:α} {v:Value} (hu:L[b]? =some u) (hj:j<k) (hy:enc y=(enc u).set j v):(B4 enc L).set (b*k+j) v=B4 enc (L.set b y):=by
 have hb:b<L.length:=(A5 hu).1;have hm:(b+1)*k≤L.length*k:=Nat.mul_le_mul_right k hb;rw[Nat.succ_mul]at hm;refine List.ext_getElem? fun i=>?_;rw[qB hk y L b hb];by_cases hi:b*k≤i∧i<b*k+k
 ·rw[if_pos hi,hy]
  obtain⟨m,rfl⟩:∃m,i=b*k+m:=⟨i-b*k,by omega⟩
  rw[show b*k+m-b*k=m by omega,List.getElem?_set,List.getElem?_set];obtain⟨v',hv'⟩:∃v',(enc u)[m]? =some v':=⟨_,A4 (by rw[hk];omega)⟩
  have:=H7 hk L b u m v' hu hv';by_cases hjm:j=m
  ·subst hjm;rw[if_pos rfl,if_pos (by rw[U7 hk];omega),if_pos rfl,if_pos (by rw[hk];exact hj)]
  ·rw[if_neg (by omega),if_neg hjm,this,hv']
 ·rw[if_neg hi,List.getElem?_set,if_neg (by omega)]
theorem jG {α:Type} {enc:α→List Value} {k:Nat} (hk:∀x,(enc x).length=k) {w:World} {B:Nat} {T:TypeId} {g n c:Nat} {L:List α} (h:w.ownsRow B T k (.slice (some ⟨g,0,none⟩) n c) n (B4 enc L)) {b j:Nat} {u y:α} {v:Value} (hu:L[b]? =some u) (hj:j<k) (hy:enc y=(enc u).set j v):(w.setCell ⟨g,b*k+j,none⟩ v).ownsRow B T k (.slice (some ⟨g,0,none⟩) n c) n (B4 enc (L.set b y)):=by
 have hb:b<L.length:=(A5 hu).1;have hm:(b+1)*k≤L.length*k:=Nat.mul_le_mul_right k hb;rw[Nat.succ_mul]at hm;have:=iR h (j:=b*k+j) (by rw[U7 hk];omega) v;rwa[AX4 hk hu hj hy]at this
theorem kW {α:Type} {L:List α} {k:Nat} {x y:α} (h:L[k]? =some x):(L.set k y)[k]? =some y:=by
 rw[List.getElem?_set,if_pos rfl,if_pos (A5 h).1]
def gC (w:World) (g k:Nat) (a t:Int) (wh pl:Int):World:=((((w.setCell ⟨g,k*13+4,none⟩ (.int .i64 a)).setCell ⟨g,k*13+5,none⟩ (.int .i64 t)).setCell ⟨g,k*13+6,none⟩ (.bool false)).setCell ⟨g,k*13+11,none⟩ (.int .i64 wh)).setCell ⟨g,k*13+12,none⟩ (.int .i64 pl)
def A9.ended (r:A9) (a t wh pl:Int):A9:={r with e0:=a,e1:=t,op:=false,wh:=wh,pl:=pl}
theorem vL {S:Nat→Prop} (w:World) {g:Nat} (k:Nat) (a t wh pl:Int) (h:S g):B7 S w (gC w g k a t wh pl):=
 ((((B7.set w _ _ h).step (B7.set _ _ _ h)).step (B7.set _ _ _ h)).step (B7.set _ _ _ h)).step (B7.set _ _ _ h)
theorem AX5 {w:World} {B:Nat} {T:TypeId} {g n c:Nat} {R:List A9} (h:w.ownsRow B T 13 (.slice (some ⟨g,0,none⟩) n c) n (B4 A9.cs R)) {k:Nat} {r:A9} (hr:R[k]? =some r) (a t wh pl:Int):(gC w g k a t wh pl).ownsRow B T 13 (.slice (some ⟨g,0,none⟩) n c) n (B4 A9.cs (R.set k (r.ended a t wh pl))):=by
 have h1:=jG A9.len h (j:=4) (v:=.int .i64 a) (y:={r with e0:=a}) hr (by decide) rfl;have h2:=jG A9.len h1 (j:=5) (v:=.int .i64 t) (y:={r with e0:=a,e1:=t}) (kW hr) (by decide) rfl;rw[List.set_set]at h2;have h3:=jG A9.len h2 (j:=6) (v:=.bool false) (y:={r with e0:=a,e1:=t,op:=false}) (kW hr) (by decide) rfl;rw[List.set_set]at h3;have h4:=jG A9.len h3 (j:=11) (v:=.int .i64 wh) (y:={r with e0:=a,e1:=t,op:=false,wh:=wh}) (kW hr) (by decide) rfl;rw[List.set_set]at h4;have h5:=jG A9.len h4 (j:=12) (v:=.int .i64 pl) (y:=r.ended a t wh pl) (kW hr) (by decide) rfl;rw[List.set_set]at h5;exact h5
section
variable {w:World} {B p bi gg gs:Nat} {vp:Value} {R:List A9} {s:D7}
theorem I8.setEnd {gr c:Nat} (h:I8 w B p bi gg gs (.slice (some ⟨gr,0,none⟩) R.length c) vp R s) {k:Nat} {r:A9} (hr:R[k]? =some r) (a t wh pl:Int):
 I8 (gC w gr k a t wh pl) B p bi gg gs (.slice (some ⟨gr,0,none⟩) R.length c) vp (R.set k (r.ended a t wh pl)) {s with rs:=s.rs.set k (r.ended a t wh pl).br}∧B7 (K9 p bi gg gs (.slice (some ⟨gr,0,none⟩) R.length c) vp R) w (gC w gr k a t wh pl):=by
 have hrR:r∈R:=A0 hr;have hgr:gr∈ob (.slice (some ⟨gr,0,none⟩) R.length c):=by rw[V3];simp
 have hnd:=h.ap.r k r hr;have hno:gr∉K3 r:=fun hb=>hnd.2 gr hb (by simp[D6,hgr]);have hm:=(h.rm r hrR).keepS (vL (S:=fun b=>b=gr) w k a t wh pl rfl) (fun b hb e=>hno (e ▸ hb));exact⟨h.setRide hr (vL w k a t wh pl (List.mem_append_left _ hgr)) (AX5 h.rr hr a t wh pl) ⟨hm.l,hm.p⟩ (fun b hb=>.inl hb) hnd.1 rfl rfl rfl rfl rfl,vL w k a t wh pl (.inl (by simp[D6,hgr]))⟩
end
def A9.fin (r:A9) (x:D8) (a t:Int):A9:={r with legs:=aI r.legs fun x=>x.to a t,e0:=a,e1:=t,op:=false,wh:=x.w,pl:=x.p}
theorem AX6 {s:D7} {b:Nat} {x:D8} {a t:Int} (hk:B0 s.rg b<0):Y8 s (b:Int) x a t={s with sp:=s.sp.set b x}:=by
 unfold Y8;simp only[Int.toNat_natCast];rw[if_pos hk]
theorem AX7 {s:D7} {b k:Nat} {x:D8} {a t:Int} (hk:B0 s.rg b=(k:Int)) {s2:D7} (h2:V2 {s with sp:=s.sp.set b x} k a t=s2) {r:A9} (hr:s2.rat k=r.br):Y8 s (b:Int) x a t={s2 with rs:=s2.rs.set k (r.fin x a t).br,rg:=s2.rg.set b (-1)}:=by
 unfold Y8;simp only[Int.toNat_natCast];rw[hk,if_neg (by omega),Int.toNat_natCast,h2];unfold D7.setR;rw[hr];rfl
theorem AX8 (s:D7) (k:Nat) (a t:Int):(V2 s k a t).rg=s.rg∧(V2 s k a t).rs.length=s.rs.length∧(V2 s k a t).pz.length=s.pz.length∧((V2 s k a t).rat k).legs=(s.rat k).legs:=by
 unfold V2;by_cases hz:s.pz.getD k false=true
 ·rw[if_pos hz]
  refine⟨rfl,by simp[D7.setR],by simp[D7.setR],?_⟩;show(List.getD (s.rs.set k _) k default).legs= _;by_cases hk:k<s.rs.length
  ·rw[j5 _ _ _ _ _ hk,if_pos rfl]
  ·rw[List.set_eq_of_length_le (by omega)];rfl
 ·rw[if_neg hz]
  exact⟨rfl,rfl,by simp,rfl⟩
end
section
structure vM (n:Nat) (s:D7) (N:Nat) (e:Ev) (b:Nat):Prop where
 hb:e.b=(b:Int)
 hbn:b<n
 n1:s.rg.length=n
 n2:s.sp.length=n
 n3:s.pz.length=s.rs.length
 k0:B0 s.rg b<(s.rs.length:Int)
 k1:0≤B0 s.rg b→0<(s.rat (B0 s.rg b).toNat).legs.length∧(s.rat (B0 s.rg b).toNat).pauses.length≤N
 s3:e.k=3→s.idx e.i=none
 s4:e.k=4→∃(k:Nat) (init:List E0) (lg:E0) (fo:Nat),s.idx e.i=some k∧k<s.rs.length∧(s.rat k).legs=init ++ [lg]∧lg.b=(fo:Int)∧fo<n∧init.length≤N
 kk:1≤e.k∧e.k≤9
theorem AX9 {n:Nat} {c:C5} {s:D7} {T:Int} {N:Nat} (J:JI n c s T N) {f:G4} {e:Ev} (hn:n=f.bk.toNat) (ho:V1 f c e=true):∃b,vM n s N e b:=by
 have ho':=ho;unfold V1 at ho';simp only[Bool.and_eq_true,decide_eq_true_eq]at ho';obtain⟨⟨hev,hk10⟩,G6⟩:=ho';obtain⟨⟨hb0,hb1⟩,hv,⟨hk1,hk2⟩,hpl,hnm,hfl⟩:=jD hev;obtain⟨b,hb⟩:∃b:Nat,e.b=(b:Int):=⟨e.b.toNat,by omega⟩
 have hbn:b<n:=by omega
 refine⟨b,hb,hbn,J.n2,J.n3,J.n4,(J.rg b hbn).1,fun h0=>?_,fun h3=>?_,fun h4=>?_,by omega⟩
 ·obtain⟨k,hk⟩:∃k:Nat,B0 s.rg b=(k:Int):=⟨(B0 s.rg b).toNat,by omega⟩
  obtain⟨hop,_,_⟩:=J.on b k hbn hk;rw[hk,Int.toNat_natCast];obtain⟨li,f0,f1,q1,_⟩:=hop.lg;have:=hop.ln;refine⟨by rw[q1];simp,by omega⟩
 ·unfold I6 at G6
  simp only[h3,Int.reduceEq,reduceIte]at G6;split at G6
  ·cases G6
  ·split at G6
   ·cases G6
   ·rename_i h2
    exact J.us2 _ (by simpa using h2)
 ·unfold I6 at G6
  simp only[h4,Int.reduceEq,reduceIte]at G6
  cases htr:c.trip e.i with
  |none=>rw[htr]at G6;cases G6
  |some t0=>
   obtain⟨b',h1,h2,h3,h5,_⟩:=J.trip _ _ htr
   have hr:=(J.rg b' h2).2.1 h3
   obtain⟨k,hk⟩:∃k:Nat,B0 s.rg b'=(k:Int):=⟨(B0 s.rg b').toNat,by omega⟩
   obtain⟨hop,hid,_⟩:=J.on b' k h2 hk
   have hkl:=J.k_lt h2 hk
   obtain⟨li,f0,f1,q1,_⟩:=hop.lg
   have Ay0:=J.ids k hkl
   rw[hid,h5]at Ay0
   refine⟨k,li,_,b',Ay0,hkl,q1,rfl,h2,?_⟩
   have:=hop.ln
   rw[q1,List.length_append,List.length_singleton]at this
   omega
end
section
def Ev.ns (x:Ev):List Int:=x.d :: x.q :: x.ks
theorem Ev.ns_inj {x y:Ev} (h:x.ns=y.ns):x=y:=by
 unfold Ev.ns at h;exact Ev.ks_inj (List.cons.inj (List.cons.inj h).2).2
def aM (x y:Ev):Bool:=lexB x.ns y.ns
theorem AY0 (x:Ev):aM x x=false:=tY _
theorem Ak6 {x y z:Ev} (h1:aM x y=true) (h2:aM y z=true):aM x z=true:=tZ _ _ _ h1 h2
theorem Ak7 {x y:Ev} (h1:aM x y=false) (h2:aM y x=false):x=y:=Ev.ns_inj (uA _ _ rfl h1 h2)
theorem AY1 {x y z:Ev} (h1:aM x y=false) (h2:aM y z=false):aM x z=false:=by
 cases e:aM x z
 ·rfl
 ·cases e2:aM y x
  ·have:=Ak7 h1 e2;subst this;rw[e]at h2;cases h2
  ·have:=Ak6 e2 e;rw[h2]at this;cases this
def eE (l:List Ev):List Ev:=l.mergeSort fun x y=>!aM y x
theorem Ak8 (l:List Ev):(eE l).Perm l:=List.mergeSort_perm _ _
theorem vN (l:List Ev):(eE l).length=l.length:=(Ak8 l).length_eq
def aN (l:List Ev) (k:Nat):Bool:=decide (k=0) || !sk (l.getD k default) (l.getD (k-1) default)
def P8 (l:List Ev) (n:Nat):List Ev:=((List.range n).filter (aN l)).map fun k=>l.getD k default
theorem vO {l:List Ev} {n:Nat} (h:aN l n=true):P8 l (n+1)=P8 l n ++ [l.getD n default]:=by
 simp[P8,List.range_succ,List.filter_append,h]
theorem vQ {l:List Ev} {n:Nat} (h:aN l n=false):P8 l (n+1)=P8 l n:=by
 simp[P8,List.range_succ,List.filter_append,h]
theorem qJ (l:List Ev) (n:Nat):(P8 l n).length≤n:=by
 unfold P8;rw[List.length_map];exact Nat.le_trans (List.length_filter_le _ _) (by simp)
theorem qK {l:List Ev}:∀{n:Nat},n≤l.length→(∀k,k<n→aN l k=true)→P8 l n=l.take n
 |0,_,_ =>by simp[P8]
 |n+1,hn,h=>by
  rw[vO (h n (by omega)),qK (by omega) (fun k hk=>h k (by omega))];rw[List.take_add_one,A6,A4 (by omega)];rfl
def P9 (l:List Ev):List Ev:=fV (P8 (eE l) l.length)
theorem vR (l:List Ev):(P9 l).length≤l.length:=by
 unfold P9;rw[Ad3];exact qJ _ _
theorem AY2 {x y:Ev} (h:T4 y x=false):x.a≤y.a:=by
 unfold T4 Ev.ks at h;unfold lexB at h;by_cases e:y.a=x.a
 ·omega
 ·rw[if_neg e]at h;simp at h;exact h
theorem AY3 (l:List Ev):(P9 l).Pairwise fun x y=>x.a≤y.a:=(AK6 _).imp fun h=>AY2 h
end
section
open Go.RowKit Go.ChangeMaps
theorem AY4 {fn:Func} {p:Tmp} {ty:TypeId} (h:fn.results=#[.cell p ty]) (tmps:Array Value) (P:Program) (w:World):
 (results fn tmps).run P w=((asAddr (tmps.getD p undef)).run P w).andThen fun a w₁=>(loadVar ty a).run P w₁:=by
 simp only[results,h];simp[Sem.run_bind,Result.andThen]
theorem AY5 (w:World) (x:A7 w) (d q a t k b p r i:Int):
 Calls Tryz.prog 180 #[.agg #[.int .i64 d,.int .i64 q,.int .i64 a,.int .i64 t,.int .i64 k,.int .i64 b,.int .i64 p,.int .i64 r,.int .i64 i]] x.w fun o w'=>o= .returned (.agg #[.int .i64 d,.int .i64 q])∧∃y:A7 w,w'=y.w:=by
 go_enter Tryz.func180,Tryz.ntmps180;go_wp2_with fail;refine bodyPost_ret (v:=.agg #[.int .i64 d,.int .i64 q]) ?_ rfl ⟨rfl,?_⟩
 ·rw[AY4 rfl]
  have u3:=Tryz.underlying3;have u4:=Tryz.underlying283;have a3:=Tryz.isAgg3;have a4:=Tryz.isAgg283;have z3:=Tryz.sizeOf3;have z4:=Tryz.sizeOf283;simp[asAddr,Result.andThen,go_sem,loadVar,u3,u4,a3,a4,z3,z4]
 exact A7.allocs x [.cells #[.int .i64 d,.int .i64 q,.int .i64 a,.int .i64 t,.int .i64 k,.int .i64 b,.int .i64 p,.int .i64 r,.int .i64 i] 63,.cells #[.int .i64 d,.int .i64 q] 283]
theorem AY6 (a b c d:Int) (w:World):(Op.equalIn 10000 283 (.agg #[.int .i64 a,.int .i64 b]) (.agg #[.int .i64 c,.int .i64 d])).run Tryz.prog w= .ok (decide (a=c) && decide (b=d)) w:=by
 have hS:Tryz.prog.underlying 283=some (.struct (Tryz.prog.fieldsOf 283)):=by kernel_rfl
 have hp:Tryz.prog.stoodInHeld 283=false:=by kernel_rfl
 have u3:=Tryz.underlying3;have a3:=Tryz.isAgg3;have z3:=Tryz.sizeOf3;rw[show(10000:Nat)=9999+1 from rfl,run_equalIn_struct w 9999 283 _ _ hS hp];simp only[Program.fieldsOf,Tryz.underlying283];go_simp;by_cases h1:a=c
 ·by_cases h2:b=d<;>simp[h1,h2]
 ·simp[h1]
theorem AY7 (op:BinOp) (a b:Operand) (xs ys:Array Value) (w:World):(eqGuard op 283 a b (.agg xs) (.agg ys)).run Tryz.prog w= .ok () w:=run_eqGuard_agg w op 283 a b xs ys (by kernel_rfl)
theorem Ak9 (w:World) (x:A7 w) (u v:Ev):
 Calls Tryz.prog 179 #[u.ag,v.ag] x.w fun o w'=>o= .returned (.bool (sk u v))∧∃y:A7 w,w'=y.w:=by
 unfold Ev.ag;go_enter Tryz.func179,Tryz.ntmps179;go_upto_region 1 with fail;obtain⟨W,bx,y0,hW,hbx,-,B8,Hup,Hbx,HB0,HB1⟩:=Z7 x [.int .i64 u.d,.int .i64 u.q,.int .i64 u.a,.int .i64 u.t,.int .i64 u.k,.int .i64 u.b,.int .i64 u.p,.int .i64 u.r,.int .i64 u.i] 63 [.int .i64 v.d,.int .i64 v.q,.int .i64 v.a,.int .i64 v.t,.int .i64 v.k,.int .i64 v.b,.int .i64 v.p,.int .i64 v.r,.int .i64 v.i] 63;rw[hW,hbx];clear hW hbx;obtain⟨D9,E7,F9,G0,G8,K4,O0,Q6,R0,hf0⟩:=eT HB0;obtain⟨T9,V9,i7,j7,j8,p7,i8,x9,aA,hf1⟩:=eT HB1;clear HB0 HB1;clear B8;have sG:=AY6 u.d u.q v.d v.q;have BC4:=AY7;rw[show(decide (u.d=v.d) && decide (u.q=v.q))=sk u v from rfl]at sG;refine L5 (by kernel_rfl) (by kernel_rfl) ?_;repeat(go_big_quiet_step((go_at_call 180;exact AY5 W _ _ _ _ _ _ _ _ _ _)))
 refine wpQuiet_nil ?_;rintro _ ⟨z,rfl⟩;go_wp2_with fail;go_ret;exact⟨rfl,Hup.out _⟩
end
section
open Go.RowKit
def Z1 (l:List Ev) (p:Nat):List Ev:=P8 l p ++ l.drop (P8 l p).length
theorem vS {l:List Ev} {p:Nat} (hp:p≤l.length):(Z1 l p).length=l.length:=by
 have:=qJ l p;simp[Z1];omega
theorem Al0 {l:List Ev} {p i:Nat} (h:(P8 l p).length≤i):(Z1 l p)[i]? =l[i]? :=by
 unfold Z1;rw[List.getElem?_append_right h,List.getElem?_drop];congr 1;omega
theorem AY8 {l:List Ev} {p:Nat} {x:Ev} (h:aN l p=true) (hp:l[p]? =some x):(Z1 l p).set (P8 l p).length x=Z1 l (p+1):=by
 have hl:p<l.length:=(A5 hp).1;have hk:=qJ l p;have hx:l.getD p default=x:=by rw[A6,hp];rfl
 unfold Z1;rw[vO h,hx,List.set_append_right _ _ (Nat.le_refl _),Nat.sub_self,List.length_append,List.length_singleton];rw[List.drop_eq_getElem_cons (show(P8 l p).length<l.length by omega),List.set_cons_zero];simp
theorem Al1 {l:List Ev} {p:Nat} (h:aN l p=false):Z1 l (p+1)=Z1 l p:=by unfold Z1;rw[vQ h]
theorem AY9 {l:List Ev} {k:Nat} (hk:k≤l.length) (h:∀j,j<k→aN l j=true):Z1 l k=l∧(P8 l k).length=k:=by
 have:=qK hk h;unfold Z1;rw[this];simp[Nat.min_eq_left hk]
theorem AZ0 (l:List Ev) (p:Nat):(Z1 l p).take (P8 l p).length=P8 l p:=by
 unfold Z1;rw[List.take_append_of_le_length (Nat.le_refl _),List.take_length]
theorem Al2 {l:List Ev} {p:Nat} {x y:Ev} (hx:l[p+1]? =some x) (hy:l[p]? =some y):aN l (p+1)= !sk x y:=by
 unfold aN;rw[Nat.add_sub_cancel,A6,A6,hx,hy];simp
theorem AZ1 (w:World):(zeroValue 63).run Tryz.prog w= .ok (⟨0,0,0,0,0,0,0,0,0⟩:Ev).ag w:=by kernel_rfl
theorem AZ2 (n:Nat):∀v∈(Builtin.zeroCells (⟨0,0,0,0,0,0,0,0,0⟩:Ev).ag.cells n).toList,v.oneCell'=true:=by
 intro v hv;simp only[Builtin.zeroCells,Array.toList_map,List.mem_map]at hv;obtain⟨i,_,rfl⟩:=hv;have hz:(⟨0,0,0,0,0,0,0,0,0⟩:Ev).ag.cells=#[.int .i64 0,.int .i64 0,.int .i64 0,.int .i64 0,.int .i64 0,.int .i64 0,.int .i64 0,.int .i64 0,.int .i64 0]:=by kernel_rfl
 rw[hz];have:∀j,j<9→(#[Value.int .i64 0,.int .i64 0,.int .i64 0,.int .i64 0,.int .i64 0,.int .i64 0,.int .i64 0,.int .i64 0,.int .i64 0]:Array Value)[j]!.oneCell'=true:=by decide
 exact this _ (Nat.mod_lt _ (by decide))
structure AZ3 (w:World) (g o:Nat) (e:Ev):Prop where
 c:∀j v,e.cs[j]? =some v→∀y:A7 w,y.w.cell? ⟨g,o+j,none⟩=some v
 f:∀j,j<9→∀y:A7 w,y.w.frozen? ⟨g,o+j,none⟩=false
theorem mW {w:World} {base g n cap:Nat} {T:TypeId} {l:List Ev} (h:w.ownsRow base T 9 (.slice (some ⟨g,0,none⟩) n cap) n (B4 Ev.cs l)) {i:Nat} {e:Ev} (hi:l[i]? =some e):AZ3 w g (i*9) e:=by
 refine⟨fun j v hv y=>(P6 h (H7 b9 l i e j v hi hv)).1 y,fun j hj y=>?_⟩;obtain⟨v,hv⟩:∃v,e.cs[j]? =some v:=⟨_,A4 (by rw[b9];exact hj)⟩
 exact(P6 h (H7 b9 l i e j v hi hv)).2.1 y
def iF (w:World) (T:TypeId) (k:Nat) (xs:List Value) (o:Ending) (w':World):Prop:=
 ∃(a:Option Addr) (n c:Nat) (y:A7 w),o= .returned (.slice a n c)∧w'=y.w∧y.w.ownsRow w.heap.size T k (.slice a n c) n xs
theorem AZ4 (w:World) (x:A7 w) (v:Value) (n:Nat) (l:List Ev) (hown:x.w.ownsRow w.heap.size 63 9 v n (B4 Ev.cs l)) (hl:l.length≤100000):
 Calls Tryz.prog 178 #[v,.func (.func 179) #[] #[]] x.w (iF w 63 9 (B4 Ev.cs (P8 l l.length))):=by
 obtain⟨rfl,a,c,rfl,hc,hels,hba,_⟩:=O9 b9 (by decide) hown;have Hc:=A3 hc;by_cases h2:l.length<2
 ·have hk:P8 l l.length=l:=by
   rw[qK (Nat.le_refl _) (fun j hj=>?_),List.take_length];have:j=0:=by omega
   subst this;rfl
  have HR:=A3 (show iF w 63 9 (B4 Ev.cs (P8 l l.length)) (.returned (.slice a l.length c)) x.w from⟨a,_,c,x,rfl,rfl,by rw[hk];exact hown⟩);have h2':(l.length:Int)<2:=by omega
  generalize iF w 63 9 (B4 Ev.cs (P8 l l.length))=PO at *;clear hown hels hc h2 hk hba;go_enter Tryz.func178,Tryz.ntmps178;go_wp2_with fail;exact HR.out
 ·obtain⟨g,cap,hg,hbg,_⟩:=eQ hown (by omega)
  simp only[Value.slice.injEq]at hg;obtain⟨rfl,_,rfl⟩:=hg;have I5:=A3 hown;have Hbg:=A3 hbg;have HP:=A3 (fun(a:Option Addr) (n c:Nat) (y:A7 w) (h:y.w.ownsRow w.heap.size 63 9 (.slice a n c) n (B4 Ev.cs (P8 l l.length)))=>show iF w 63 9 (B4 Ev.cs (P8 l l.length)) (.returned (.slice a n c)) y.w from⟨a,n,c,y,rfl,rfl,h⟩);have hlc:l.length≤c:=hc;have h2':(2:Int)≤(l.length:Int):=by omega
  generalize iF w 63 9 (B4 Ev.cs (P8 l l.length))=PO at *;clear hown hels hc h2 hba hbg;go_enter Tryz.func178,Tryz.ntmps178;go_wp2_with fail;go_loopw [5] (fun sk wr=>∃(m:Nat) (y:A7 w),1≤m∧m≤l.length∧sk= .int .i64 m∧wr=y.w∧y.w.ownsRow w.heap.size 63 9 (.slice (some ⟨g,0,none⟩) l.length c) l.length (B4 Ev.cs l)∧∀j,j<m→aN l j=true) (fun sk _ =>l.length-(intOf sk).toNat)
  case atStart=>exact⟨1,x,by omega,by omega,rfl,rfl,I5.out,fun j hj=>by obtain rfl:j=0:=(by omega);rfl⟩
  case round=>
   clear I5;obtain⟨m,y,hm1,hml,rfl,rfl,hown,Ax6⟩:=hrel;have xJ:=A3 Ax6;clear Ax6;by_cases hlt:m<l.length
   ·obtain⟨p,hp⟩:∃p,m=p+1:=⟨m-1,by omega⟩
    obtain⟨u,hu⟩:∃u,l[m]? =some u:=⟨_,A4 hlt⟩
    obtain⟨v,hv⟩:∃v,l[m-1]? =some v:=⟨_,A4 (by omega)⟩
    have HF:=A3 (show aN l m= !sk u v from by subst hp;exact Al2 hu hv);have hm1':(1:Int)≤(m:Int):=by omega
    have hU:=mW hown hu;have hV:=mW hown hv;have I5:=A3 hown;have hw1:wrap64 ((m:Int)-1)=(m:Int)-1:=IntWalk.wrap64_in _ ⟨by omega,by omega⟩;have hp0:(0:Int)≤(m:Int)-1:=by omega
    have hpl:(m:Int)-1<(l.length:Int):=by omega
    have hm0:(0:Int)≤(m:Int):=by omega
    have hml':(m:Int)<(l.length:Int):=by omega
    have Hpm:=A3 hp;clear hown hu hv hp;have a0:=hU.c 0 _ rfl;have a1:=hU.c 1 _ rfl;have a2:=hU.c 2 _ rfl;have a3:=hU.c 3 _ rfl;have a4:=hU.c 4 _ rfl;have a5:=hU.c 5 _ rfl;have a6:=hU.c 6 _ rfl;have a7:=hU.c 7 _ rfl;have a8:=hU.c 8 _ rfl;have b0:=hV.c 0 _ rfl;have b1:=hV.c 1 _ rfl;have b2:=hV.c 2 _ rfl;have b3:=hV.c 3 _ rfl;have b4:=hV.c 4 _ rfl;have b5:=hV.c 5 _ rfl;have b6:=hV.c 6 _ rfl;have b7:=hV.c 7 _ rfl;have b8:=hV.c 8 _ rfl;simp only[Nat.add_zero]at a0 b0;clear hU hV;have HO:=fun(x:A7 y.w)=>Ak9 y.w x u v;unfold Ev.ag at HO;obtain⟨q0,hq0⟩:=A7.refl y.w;rw[hq0];clear hq0
    cases hsk:sk u v with
    |false=>
     rw[hsk]at HF HO
     go_upto_region 6 with fail
     refine L5 (by kernel_rfl) (by kernel_rfl) ?_
     repeat(go_big_quiet_step((go_at_call 179;exact HO _)))
     refine wpQuiet_nil ?_
     rintro _ ⟨z,rfl⟩
     have Hf2:=A3 (show∀j,j<m+1→aN l j=true from fun j hj=>by
      rcases(by omega:j<m∨j=m)with h|rfl
      ·exact xJ.out j h
      ·rw[HF.out];rfl)
     clear HF
     go_wp2_with fail
     have hown2:=J8 I5.out (⟨z,rfl⟩:∃zz:A7 y.w,z.w=zz.w)
     obtain⟨y3,e3⟩:=y.trans z
     rw[e3]at hown2
     have W6:=A3 hown2
     have HE:=A3 e3
     clear hown2 e3
     go_roundw
     case rel=>exact⟨m+1,y3,by omega,by omega,by go_num,HE.out,W6.out,Hf2.out⟩
     case measure=>simp[intOf];omega
    |true=>
     rw[hsk]at HF HO
     have Hs:=A3 (show Z1 l (m+1)=l∧(P8 l (m+1)).length=m from by
      have h1:=AY9 (l:=l) (k:=m) hml xJ.out;have h2:aN l m=false:=by rw[HF.out];rfl
      rw[Al1 h2,vQ h2];exact h1)
     clear HF
     go_upto_region 6 with fail
     refine L5 (by kernel_rfl) (by kernel_rfl) ?_
     repeat(go_big_quiet_step((go_at_call 179;exact HO _)))
     refine wpQuiet_nil ?_
     rintro _ ⟨z,rfl⟩
     clear a0 a1 a2 a3 a4 a5 a6 a7 a8 b0 b1 b2 b3 b4 b5 b6 b7 b8
     have hown2:=J8 I5.out (⟨z,rfl⟩:∃zz:A7 y.w,z.w=zz.w)
     obtain⟨y3,e3⟩:=y.trans z
     rw[e3]at hown2⊢
     have W6:=A3 hown2
     clear hown2 e3 HO hw1 hp0 hpl
     have hcut:aY (some ⟨g,0,none⟩) m c 9=some ⟨g,m*9,none⟩:=by
      unfold aY;rw[if_neg (by omega),Option.map_some,Addr.add_lit,Nat.zero_add]
     have hmc:(m:Int)≤(c:Int):=by omega
     go_wp2_with fail
     obtain⟨N,hN⟩:∃N,l.length-m=N:=⟨_,rfl⟩
     rw[hN]
     generalize c-m=C2
     have hN1:m+N≤l.length:=by omega
     have hN2:l.length≤m+N:=by omega
     clear hN hsk
     go_loopw [5,7] (fun sk s2 wr=>∃(kk j:Nat) (y:A7 w),1≤j∧j≤N∧sk= .int .i64 kk∧s2= .int .i64 j∧wr=y.w∧y.w.ownsRow w.heap.size 63 9 (.slice (some ⟨g,0,none⟩) l.length c) l.length (B4 Ev.cs (Z1 l (m+j)))∧(P8 l (m+j)).length=kk∧kk<m+j) (fun _ s2 _ =>N-(intOf s2).toNat)
     case atStart=>exact⟨m,1,y3,by omega,by omega,rfl,rfl,rfl,by rw[Hs.out.1];exact W6.out,Hs.out.2,by omega⟩
     case round=>
      clear W6 Hs;obtain⟨kk,j,y5,hj1,hjN,rfl,rfl,rfl,hown,hkl,hkm⟩:=hrel;have Hkl:=A3 hkl;clear hkl;by_cases hlt2:j<N
      ·obtain⟨u2,hu⟩:∃u,l[m+j]? =some u:=⟨_,A4 (by omega)⟩
       obtain⟨v2,hv⟩:∃v,l[m+j-1]? =some v:=⟨_,A4 (by omega)⟩
       have HF:=A3 (show aN l (m+j)= !sk u2 v2 from by
        have e:m+j=(m+j-1)+1:=by omega
        rw[e];refine Al2 (by rw[←e];exact hu) hv)
       have hU:=mW hown (i:=m+j) (e:=u2) (by rw[Al0 (by have:=Hkl.out;omega)];exact hu);have hV:=mW hown (i:=m+j-1) (e:=v2) (by rw[Al0 (by have:=Hkl.out;omega)];exact hv);have Hu:=A3 hu;have I5:=A3 hown;have ej:(m+j)*9=m*9+j*9:=Nat.add_mul _ _ _;have ej1:(m+j-1)*9=m*9+(j-1)*9:=by rw[show m+j-1=m+(j-1) by omega];exact Nat.add_mul _ _ _
       rw[ej]at hU;rw[ej1]at hV;have hj1':(1:Int)≤(j:Int):=by omega
       have hw1:wrap64 ((j:Int)-1)=(j:Int)-1:=IntWalk.wrap64_in _ ⟨by omega,by omega⟩;have hp0:(0:Int)≤(j:Int)-1:=by omega
       have hpl:(j:Int)-1<(N:Int):=by omega
       have hj0:(0:Int)≤(j:Int):=by omega
       have hjl':(j:Int)<(N:Int):=by omega
       clear hown hu hv ej ej1;have a0:=hU.c 0 _ rfl;have a1:=hU.c 1 _ rfl;have a2:=hU.c 2 _ rfl;have a3:=hU.c 3 _ rfl;have a4:=hU.c 4 _ rfl;have a5:=hU.c 5 _ rfl;have a6:=hU.c 6 _ rfl;have a7:=hU.c 7 _ rfl;have a8:=hU.c 8 _ rfl;have b0:=hV.c 0 _ rfl;have b1:=hV.c 1 _ rfl;have b2:=hV.c 2 _ rfl;have b3:=hV.c 3 _ rfl;have b4:=hV.c 4 _ rfl;have b5:=hV.c 5 _ rfl;have b6:=hV.c 6 _ rfl;have b7:=hV.c 7 _ rfl;have b8:=hV.c 8 _ rfl;simp only[Nat.add_zero]at a0 b0;clear hU hV;have HO2:=fun(x:A7 y5.w)=>Ak9 y5.w x u2 v2;unfold Ev.ag at HO2;obtain⟨q0,hq0⟩:=A7.refl y5.w;rw[hq0];clear hq0
       cases Az1:sk u2 v2 with
       |true=>
        rw[Az1]at HF HO2
        have Hf:=A3 (show Z1 l (m+(j+1))=Z1 l (m+j)∧P8 l (m+(j+1))=P8 l (m+j)from by
         have h2:aN l (m+j)=false:=by rw[HF.out];rfl
         exact⟨Al1 h2,vQ h2⟩)
        clear HF
        go_upto_region 11 with fail
        refine L5 (by kernel_rfl) (by kernel_rfl) ?_
        repeat(go_big_quiet_step((go_at_call 179;exact HO2 _)))
        refine wpQuiet_nil ?_
        rintro _ ⟨z,rfl⟩
        go_wp2_with fail
        have hown2:=J8 I5.out (⟨z,rfl⟩:∃zz:A7 y5.w,z.w=zz.w)
        obtain⟨y6,e6⟩:=y5.trans z
        rw[e6]at hown2
        have W6:=A3 hown2
        have HE:=A3 e6
        clear hown2 e6
        go_roundw
        case rel=>exact⟨kk,j+1,y6,by omega,by omega,rfl,by go_num,HE.out,by rw[Hf.out.1];exact W6.out,by rw[Hf.out.2];exact Hkl.out,by omega⟩
        case measure=>simp[intOf];omega
       |false=>
        rw[Az1]at HF HO2
        have Hf:=A3 (show aN l (m+j)=true from by rw[HF.out];rfl)
        clear HF
        go_upto_region 11 with fail
        refine L5 (by kernel_rfl) (by kernel_rfl) ?_
        repeat(go_big_quiet_step((go_at_call 179;exact HO2 _)))
        refine wpQuiet_nil ?_
        rintro _ ⟨z,rfl⟩
        obtain⟨x3,hx3⟩:∃x,(Z1 l (m+j))[kk]? =some x:=⟨_,A4 (by rw[vS (by omega)];omega)⟩
        have hK:=mW I5.out hx3
        clear hx3
        have s0:=fun y:A7 y5.w=>hK.c 0 _ rfl y
        have s1:=fun y:A7 y5.w=>hK.c 1 _ rfl y
        have s2:=fun y:A7 y5.w=>hK.c 2 _ rfl y
        have s3:=fun y:A7 y5.w=>hK.c 3 _ rfl y
        have s4:=fun y:A7 y5.w=>hK.c 4 _ rfl y
        have s5:=fun y:A7 y5.w=>hK.c 5 _ rfl y
        have s6:=fun y:A7 y5.w=>hK.c 6 _ rfl y
        have s7:=fun y:A7 y5.w=>hK.c 7 _ rfl y
        have s8:=fun y:A7 y5.w=>hK.c 8 _ rfl y
        have f0:=fun y:A7 y5.w=>hK.f 0 (by decide) y
        have f1:=fun y:A7 y5.w=>hK.f 1 (by decide) y
        have f2:=fun y:A7 y5.w=>hK.f 2 (by decide) y
        have f3:=fun y:A7 y5.w=>hK.f 3 (by decide) y
        have f4:=fun y:A7 y5.w=>hK.f 4 (by decide) y
        have f5:=fun y:A7 y5.w=>hK.f 5 (by decide) y
        have f6:=fun y:A7 y5.w=>hK.f 6 (by decide) y
        have f7:=fun y:A7 y5.w=>hK.f 7 (by decide) y
        have f8:=fun y:A7 y5.w=>hK.f 8 (by decide) y
        simp only[Nat.add_zero]at s0 f0
        clear hK
        have hk0:(0:Int)≤(kk:Int):=by omega
        have hkl2:(kk:Int)<(l.length:Int):=by omega
        go_upto_region 13 with fail
        have hz:=AB3 b9 (J8 I5.out (⟨z,rfl⟩:∃zz:A7 y5.w,z.w=zz.w)) (i:=kk) (by rw[vS (by omega)];omega) u2
        rw[←Hkl.out,AY8 Hf.out Hu.out,Hkl.out]at hz
        obtain⟨y6,e6⟩:=y5.trans z
        obtain⟨y7,e7⟩:=y6.sets g Hbg.out u2.cs (kk*9)
        rw[←e6]at e7
        rw[e7]at hz
        have W6:=A3 hz
        refine Eq.mp (congrArg (Code.wp _ _ _ _) (show y7.w= _ from e7.symm)) ?_
        clear hz e6 e7 s0 s1 s2 s3 s4 s5 s6 s7 s8 f0 f1 f2 f3 f4 f5 f6 f7 f8 a0 a1 a2 a3 a4 a5 a6 a7 a8 b0 b1 b2 b3 b4 b5 b6 b7 b8 HO2
        have hkw:wrap64 ((kk:Int)+1)=(kk:Int)+1:=IntWalk.wrap64_in _ ⟨by omega,by omega⟩
        have Hk2:=A3 (show(P8 l (m+(j+1))).length=kk+1 from by
         rw[show m+(j+1)=m+j+1 by omega,vO Hf.out,List.length_append,Hkl.out];rfl)
        go_wp2_with fail
        go_roundw
        case rel=>exact⟨kk+1,j+1,y7,by omega,by omega,by go_num,by go_num,rfl,W6.out,Hk2.out,by omega⟩
        case measure=>simp[intOf];omega
      ·obtain rfl:j=N:=by omega
       have e:m+j=l.length:=by omega
       rw[e]at Hkl hown;have hkk:kk<l.length:=by omega
       have hlen:(Z1 l l.length).length=l.length:=vS (Nat.le_refl _);have BC2:aY (some ⟨g,0,none⟩) kk c 9=some ⟨g,kk*9,none⟩:=by
        unfold aY;rw[if_neg (by omega),Option.map_some,Addr.add_lit,Nat.zero_add]
       have hz9:(⟨0,0,0,0,0,0,0,0,0⟩:Ev).ag.cells.size=9:=by kernel_rfl
       have hcell:∀i,i<(l.length-kk)*9→∃v,(B4 Ev.cs (Z1 l l.length))[kk*9+i]? =some v:=fun i hi=>⟨_,A4 (by rw[U7 b9,hlen];omega)⟩
       have hcl:=fun(ty:TypeId)=>AB5 (P:=Tryz.prog) y5.w 25 ty 63 _ Tryz.underlying25 (AZ1 y5.w) g (kk*9) (l.length-kk) (c-kk) (by omega)
        (fun i hi=>by rw[hz9]at hi;obtain⟨v,hv⟩:=hcell i hi;have h:=(P6 hown hv).1 (A7.self _);simp only[A7.self]at h;rw[h];rfl)
        (fun i hi=>by rw[hz9]at hi;obtain⟨v,hv⟩:=hcell i hi;exact(P6 hown hv).2.1 (A7.self _)) (AZ2 _)
       have hh:=AB4 b9 hown hlen.symm (m:=kk) (by omega) (Builtin.zeroCells (⟨0,0,0,0,0,0,0,0,0⟩:Ev).ag.cells (l.length-kk)).toList (by rw[Array.length_toList,size_zeroCells,hz9,hlen]);rw[←Hkl.out,AZ0,Hkl.out]at hh;obtain⟨y6,e6⟩:=y5.sets g Hbg.out (Builtin.zeroCells (⟨0,0,0,0,0,0,0,0,0⟩:Ev).ag.cells (l.length-kk)).toList (kk*9);rw[e6]at hh hcl;have HR:=A3 (HP.out _ _ _ y6 hh);have hkc:(kk:Int)≤(c:Int):=by omega
       have hkl2:(kk:Int)≤(l.length:Int):=by omega
       have hk0:(0:Int)≤(kk:Int):=by omega
       clear hh e6 hcell hown hlen hz9 e Hkl;go_wp2_with fail;exact HR.out
   ·obtain rfl:m=l.length:=by omega
    have hk:P8 l l.length=l:=by rw[qK (Nat.le_refl _) xJ.out,List.take_length]
    have HR:=A3 (HP.out _ _ _ y (by rw[hk];exact hown));clear hown hk;go_wp2_with fail;exact HR.out
end
end Go.Proofs.YtmmlmhnjjfnpnaaGreat
