/- Texts that belong together. -/
import Derived.Test.YtmmlmhnjjfnpnaaGreatTpNv
import Derived.Laws.StructEq
import Derived.BigQuiet
set_option linter.all false
namespace Go.Proofs.YtmmlmhnjjfnpnaaGreat
set_option maxRecDepth 200000
set_option maxHeartbeats 64000000
section
open Go.RowKit Go.ChangeMaps
theorem AZ0 {α:Type} {enc:α→List Value} {k:Nat} (hk:∀x,(enc x).length=k) {L:List α} {b j:Nat} {u y:α} {v:Value} (hu:L[b]? =some u) (hj:j<k) (hy:enc y=(enc u).set j v):(B6 enc L).set (b*k+j) v=B6 enc (L.set b y):=by
 have hb:b<L.length:=(A4 hu).1;have hm:(b+1)*k≤L.length*k:=Nat.mul_le_mul_right k hb;rw[Nat.succ_mul]at hm;refine List.ext_getElem? fun i=>?_;rw[qT hk y L b hb];by_cases hi:b*k≤i∧i<b*k+k
 ·rw[if_pos hi,hy]
  obtain⟨m,rfl⟩:∃m,i=b*k+m:=⟨i-b*k,by omega⟩
  rw[show b*k+m-b*k=m by omega,List.getElem?_set,List.getElem?_set];obtain⟨v',hv'⟩:∃v',(enc u)[m]? =some v':=⟨_,A3 (by rw[hk];omega)⟩
  have:=G0 hk L b u m v' hu hv';by_cases hjm:j=m
  ·subst hjm;rw[if_pos rfl,if_pos (by rw[b9 hk];omega),if_pos rfl,if_pos (by rw[hk];exact hj)]
  ·rw[if_neg (by omega),if_neg hjm,this,hv']
 ·rw[if_neg hi,List.getElem?_set,if_neg (by omega)]
theorem jC {α:Type} {enc:α→List Value} {k:Nat} (hk:∀x,(enc x).length=k) {w:World} {B:Nat} {T:TypeId} {g n c:Nat} {L:List α} (h:w.ownsRow B T k (.slice (some ⟨g,0,none⟩) n c) n (B6 enc L)) {b j:Nat} {u y:α} {v:Value} (hu:L[b]? =some u) (hj:j<k) (hy:enc y=(enc u).set j v):(w.setCell ⟨g,b*k+j,none⟩ v).ownsRow B T k (.slice (some ⟨g,0,none⟩) n c) n (B6 enc (L.set b y)):=by
 have hb:b<L.length:=(A4 hu).1;have hm:(b+1)*k≤L.length*k:=Nat.mul_le_mul_right k hb;rw[Nat.succ_mul]at hm;have:=kD h (j:=b*k+j) (by rw[b9 hk];omega) v;rwa[AZ0 hk hu hj hy]at this
theorem kZ {α:Type} {L:List α} {k:Nat} {x y:α} (h:L[k]? =some x):(L.set k y)[k]? =some y:=by
 rw[List.getElem?_set,if_pos rfl,if_pos (A4 h).1]
def fM (w:World) (g k:Nat) (a t:Int) (wh pl:Int):World:=((((w.setCell ⟨g,k*13+4,none⟩ (.int .i64 a)).setCell ⟨g,k*13+5,none⟩ (.int .i64 t)).setCell ⟨g,k*13+6,none⟩ (.bool false)).setCell ⟨g,k*13+11,none⟩ (.int .i64 wh)).setCell ⟨g,k*13+12,none⟩ (.int .i64 pl)
def A8.ended (r:A8) (a t wh pl:Int):A8:={r with e0:=a,e1:=t,op:=false,wh:=wh,pl:=pl}
theorem wQ {S:Nat→Prop} (w:World) {g:Nat} (k:Nat) (a t wh pl:Int) (h:S g):B7 S w (fM w g k a t wh pl):=
 ((((B7.set w _ _ h).step (B7.set _ _ _ h)).step (B7.set _ _ _ h)).step (B7.set _ _ _ h)).step (B7.set _ _ _ h)
theorem AZ1 {w:World} {B:Nat} {T:TypeId} {g n c:Nat} {R:List A8} (h:w.ownsRow B T 13 (.slice (some ⟨g,0,none⟩) n c) n (B6 A8.cs R)) {k:Nat} {r:A8} (hr:R[k]? =some r) (a t wh pl:Int):(fM w g k a t wh pl).ownsRow B T 13 (.slice (some ⟨g,0,none⟩) n c) n (B6 A8.cs (R.set k (r.ended a t wh pl))):=by
 have h1:=jC A8.len h (j:=4) (v:=.int .i64 a) (y:={r with e0:=a}) hr (by decide) rfl;have h2:=jC A8.len h1 (j:=5) (v:=.int .i64 t) (y:={r with e0:=a,e1:=t}) (kZ hr) (by decide) rfl;rw[List.set_set]at h2;have h3:=jC A8.len h2 (j:=6) (v:=.bool false) (y:={r with e0:=a,e1:=t,op:=false}) (kZ hr) (by decide) rfl;rw[List.set_set]at h3;have h4:=jC A8.len h3 (j:=11) (v:=.int .i64 wh) (y:={r with e0:=a,e1:=t,op:=false,wh:=wh}) (kZ hr) (by decide) rfl;rw[List.set_set]at h4;have h5:=jC A8.len h4 (j:=12) (v:=.int .i64 pl) (y:=r.ended a t wh pl) (kZ hr) (by decide) rfl;rw[List.set_set]at h5;exact h5
section
variable {w:World} {B p bi gg gs:Nat} {vp:Value} {R:List A8} {s:C7}
theorem G7.setEnd {gr c:Nat} (h:G7 w B p bi gg gs (.slice (some ⟨gr,0,none⟩) R.length c) vp R s) {k:Nat} {r:A8} (hr:R[k]? =some r) (a t wh pl:Int):
 G7 (fM w gr k a t wh pl) B p bi gg gs (.slice (some ⟨gr,0,none⟩) R.length c) vp (R.set k (r.ended a t wh pl)) {s with rs:=s.rs.set k (r.ended a t wh pl).br}∧B7 (J7 p bi gg gs (.slice (some ⟨gr,0,none⟩) R.length c) vp R) w (fM w gr k a t wh pl):=by
 have hrR:r∈R:=A0 hr;have hgr:gr∈ob (.slice (some ⟨gr,0,none⟩) R.length c):=by rw[T7];simp
 have hnd:=h.ap.r k r hr;have hno:gr∉J2 r:=fun hb=>hnd.2 gr hb (by simp[D2,hgr]);have hm:=(h.rm r hrR).keepS (wQ (S:=fun b=>b=gr) w k a t wh pl rfl) (fun b hb e=>hno (e ▸ hb));exact⟨h.setRide hr (wQ w k a t wh pl (List.mem_append_left _ hgr)) (AZ1 h.rr hr a t wh pl) ⟨hm.l,hm.p⟩ (fun b hb=>.inl hb) hnd.1 rfl rfl rfl rfl rfl,wQ w k a t wh pl (.inl (by simp[D2,hgr]))⟩
end
def A8.fin (r:A8) (x:D3) (a t:Int):A8:={r with legs:=p9 r.legs fun x=>x.to a t,e0:=a,e1:=t,op:=false,wh:=x.w,pl:=x.p}
theorem AZ2 {s:C7} {b:Nat} {x:D3} {a t:Int} (hk:B2 s.rg b<0):V8 s (b:Int) x a t={s with sp:=s.sp.set b x}:=by
 unfold V8;simp only[Int.toNat_natCast];rw[if_pos hk]
theorem AZ3 {s:C7} {b k:Nat} {x:D3} {a t:Int} (hk:B2 s.rg b=(k:Int)) {s2:C7} (h2:S6 {s with sp:=s.sp.set b x} k a t=s2) {r:A8} (hr:s2.rat k=r.br):V8 s (b:Int) x a t={s2 with rs:=s2.rs.set k (r.fin x a t).br,rg:=s2.rg.set b (-1)}:=by
 unfold V8;simp only[Int.toNat_natCast];rw[hk,if_neg (by omega),Int.toNat_natCast,h2];unfold C7.setR;rw[hr];rfl
theorem AZ4 (s:C7) (k:Nat) (a t:Int):(S6 s k a t).rg=s.rg∧(S6 s k a t).rs.length=s.rs.length∧(S6 s k a t).pz.length=s.pz.length∧((S6 s k a t).rat k).legs=(s.rat k).legs:=by
 unfold S6;by_cases hz:s.pz.getD k false=true
 ·rw[if_pos hz]
  refine⟨rfl,by simp[C7.setR],by simp[C7.setR],?_⟩;show(List.getD (s.rs.set k _) k default).legs= _;by_cases hk:k<s.rs.length
  ·rw[i5 _ _ _ _ _ hk,if_pos rfl]
  ·rw[List.set_eq_of_length_le (by omega)];rfl
 ·rw[if_neg hz]
  exact⟨rfl,rfl,by simp,rfl⟩
end
section
structure wR (n:Nat) (s:C7) (N:Nat) (e:Ev) (b:Nat):Prop where
 hb:e.b=(b:Int)
 hbn:b<n
 n1:s.rg.length=n
 n2:s.sp.length=n
 n3:s.pz.length=s.rs.length
 k0:B2 s.rg b<(s.rs.length:Int)
 k1:0≤B2 s.rg b→0<(s.rat (B2 s.rg b).toNat).legs.length∧(s.rat (B2 s.rg b).toNat).pauses.length≤N
 s3:e.k=3→s.idx e.i=none
 s4:e.k=4→∃(k:Nat) (init:List F0) (lg:F0) (fo:Nat),s.idx e.i=some k∧k<s.rs.length∧(s.rat k).legs=init ++ [lg]∧lg.b=(fo:Int)∧fo<n∧init.length≤N
 kk:1≤e.k∧e.k≤9
theorem AZ5 {n:Nat} {c:B9} {s:C7} {T:Int} {N:Nat} (J:JI n c s T N) {f:D5} {e:Ev} (hn:n=f.bk.toNat) (ho:Q1 f c e=true):∃b,wR n s N e b:=by
 have ho':=ho;unfold Q1 at ho';simp only[Bool.and_eq_true,decide_eq_true_eq]at ho';obtain⟨⟨hev,hk10⟩,D4⟩:=ho';obtain⟨⟨hb0,hb1⟩,hv,⟨hk1,hk2⟩,hpl,hnm,hfl⟩:=gR hev;obtain⟨b,hb⟩:∃b:Nat,e.b=(b:Int):=⟨e.b.toNat,by omega⟩
 have hbn:b<n:=by omega
 refine⟨b,hb,hbn,J.n2,J.n3,J.n4,(J.rg b hbn).1,fun h0=>?_,fun h3=>?_,fun h4=>?_,by omega⟩
 ·obtain⟨k,hk⟩:∃k:Nat,B2 s.rg b=(k:Int):=⟨(B2 s.rg b).toNat,by omega⟩
  obtain⟨hop,_,_⟩:=J.on b k hbn hk;rw[hk,Int.toNat_natCast];obtain⟨li,f0,f1,q1,_⟩:=hop.lg;have:=hop.ln;refine⟨by rw[q1];simp,by omega⟩
 ·unfold G2 at D4
  simp only[h3,Int.reduceEq,reduceIte]at D4;split at D4
  ·cases D4
  ·split at D4
   ·cases D4
   ·rename_i h2
    exact J.us2 _ (by simpa using h2)
 ·unfold G2 at D4
  simp only[h4,Int.reduceEq,reduceIte]at D4
  cases htr:c.trip e.i with
  |none=>rw[htr]at D4;cases D4
  |some t0=>
   obtain⟨b',h1,h2,h3,h5,_⟩:=J.trip _ _ htr
   have hr:=(J.rg b' h2).2.1 h3
   obtain⟨k,hk⟩:∃k:Nat,B2 s.rg b'=(k:Int):=⟨(B2 s.rg b').toNat,by omega⟩
   obtain⟨hop,hid,_⟩:=J.on b' k h2 hk
   have hkl:=J.k_lt h2 hk
   obtain⟨li,f0,f1,q1,_⟩:=hop.lg
   have AC7:=J.ids k hkl
   rw[hid,h5]at AC7
   refine⟨k,li,_,b',AC7,hkl,q1,rfl,h2,?_⟩
   have:=hop.ln
   rw[q1,List.length_append,List.length_singleton]at this
   omega
end
section
def Ev.ns (x:Ev):List Int:=x.d :: x.q :: x.ks
theorem Ev.ns_inj {x y:Ev} (h:x.ns=y.ns):x=y:=by
 unfold Ev.ns at h;exact Ev.ks_inj (List.cons.inj (List.cons.inj h).2).2
def u6 (x y:Ev):Bool:=lexB x.ns y.ns
theorem AZ6 (x:Ev):u6 x x=false:=uZ _
theorem Am5 {x y z:Ev} (h1:u6 x y=true) (h2:u6 y z=true):u6 x z=true:=vA _ _ _ h1 h2
theorem Am6 {x y:Ev} (h1:u6 x y=false) (h2:u6 y x=false):x=y:=Ev.ns_inj (vB _ _ rfl h1 h2)
theorem AZ7 {x y z:Ev} (h1:u6 x y=false) (h2:u6 y z=false):u6 x z=false:=by
 cases e:u6 x z
 ·rfl
 ·cases e2:u6 y x
  ·have:=Am6 h1 e2;subst this;rw[e]at h2;cases h2
  ·have:=Am5 e2 e;rw[h2]at this;cases this
def bN (l:List Ev):List Ev:=l.mergeSort fun x y=>!u6 y x
theorem rC (l:List Ev):(bN l).Perm l:=List.mergeSort_perm _ _
theorem rD (l:List Ev):(bN l).length=l.length:=(rC l).length_eq
def r7 (l:List Ev) (k:Nat):Bool:=decide (k=0) || !sk (l.getD k default) (l.getD (k-1) default)
def O4 (l:List Ev) (n:Nat):List Ev:=((List.range n).filter (r7 l)).map fun k=>l.getD k default
theorem wS {l:List Ev} {n:Nat} (h:r7 l n=true):O4 l (n+1)=O4 l n ++ [l.getD n default]:=by
 simp[O4,List.range_succ,List.filter_append,h]
theorem wT {l:List Ev} {n:Nat} (h:r7 l n=false):O4 l (n+1)=O4 l n:=by
 simp[O4,List.range_succ,List.filter_append,h]
theorem rE (l:List Ev) (n:Nat):(O4 l n).length≤n:=by
 unfold O4;rw[List.length_map];exact Nat.le_trans (List.length_filter_le _ _) (by simp)
theorem nG {l:List Ev}:∀{n:Nat},n≤l.length→(∀k,k<n→r7 l k=true)→O4 l n=l.take n
 |0,_,_ =>by simp[O4]
 |n+1,hn,h=>by
  rw[wS (h n (by omega)),nG (by omega) (fun k hk=>h k (by omega))];rw[List.take_add_one,A5,A3 (by omega)];rfl
def G9 (l:List Ev):List Ev:=J3 (O4 (bN l) l.length)
theorem gV (l:List Ev):(G9 l).length≤l.length:=by
 unfold G9;rw[fI];exact rE _ _
theorem Am7 {x y:Ev} (h:O2 y x=false):x.a≤y.a:=by
 unfold O2 Ev.ks at h;unfold lexB at h;by_cases e:y.a=x.a
 ·omega
 ·rw[if_neg e]at h;simp at h;exact h
theorem rF (l:List Ev):(G9 l).Pairwise fun x y=>x.a≤y.a:=(kN _).imp fun h=>Am7 h
theorem Am8 {l:List Ev} (h1:l.Pairwise fun x y=>O2 y x=false) (h2:l.Pairwise fun x y=>sk y x=false):G9 l=l:=by
 have hs:(bN l).Pairwise fun x y=>sk y x=false:=
  (rC l).symm.pairwise h2 (fun{x y} h=>by
   cases e:sk x y
   ·rfl
   ·rw[gM]at e
    have:sk y x=true:=(gM _ _).2 ⟨e.1.symm,e.2.symm⟩;rw[h]at this;cases this)
 have hk:O4 (bN l) l.length=bN l:=by
  rw[←rD l];rw[nG (Nat.le_refl _) (fun k hk=>?_),List.take_length];unfold r7
  cases k with
  |zero=>rfl
  |succ k=>
   have:=List.pairwise_iff_getElem.1 hs k (k+1) (by omega) hk (by omega)
   simp only[Nat.add_sub_cancel,A5]
   rw[A3 hk,A3 (by omega)]
   simp[this]
 unfold G9;rw[hk];exact(vE (rC l).symm h1).symm
end
section
open Go.RowKit Go.ChangeMaps
theorem AZ8 {fn:Func} {p:Tmp} {ty:TypeId} (h:fn.results=#[.cell p ty]) (tmps:Array Value) (P:Program) (w:World):
 (results fn tmps).run P w=((asAddr (tmps.getD p undef)).run P w).andThen fun a w₁=>(loadVar ty a).run P w₁:=by
 simp only[results,h];simp[Sem.run_bind,Result.andThen]
theorem AZ9 (w:World) (x:A6 w) (d q a t k b p r i:Int):
 Calls Tryz.prog 180 #[.agg #[.int .i64 d,.int .i64 q,.int .i64 a,.int .i64 t,.int .i64 k,.int .i64 b,.int .i64 p,.int .i64 r,.int .i64 i]] x.w fun o w'=>o= .returned (.agg #[.int .i64 d,.int .i64 q])∧∃y:A6 w,w'=y.w:=by
 go_enter Tryz.func180,Tryz.ntmps180;go_wp2_with fail;refine bodyPost_ret (v:=.agg #[.int .i64 d,.int .i64 q]) ?_ rfl ⟨rfl,?_⟩
 ·rw[AZ8 rfl]
  have u3:=Tryz.underlying3;have u4:=Tryz.underlying283;have a3:=Tryz.isAgg3;have a4:=Tryz.isAgg283;have z3:=Tryz.sizeOf3;have z4:=Tryz.sizeOf283;simp[asAddr,Result.andThen,go_sem,loadVar,u3,u4,a3,a4,z3,z4]
 exact A6.allocs x [.cells #[.int .i64 d,.int .i64 q,.int .i64 a,.int .i64 t,.int .i64 k,.int .i64 b,.int .i64 p,.int .i64 r,.int .i64 i] 63,.cells #[.int .i64 d,.int .i64 q] 283]
theorem Ba0 (a b c d:Int) (w:World):(Op.equalIn 10000 283 (.agg #[.int .i64 a,.int .i64 b]) (.agg #[.int .i64 c,.int .i64 d])).run Tryz.prog w= .ok (decide (a=c) && decide (b=d)) w:=by
 have hS:Tryz.prog.underlying 283=some (.struct (Tryz.prog.fieldsOf 283)):=by kernel_rfl
 have hp:Tryz.prog.stoodInHeld 283=false:=by kernel_rfl
 have u3:=Tryz.underlying3;have a3:=Tryz.isAgg3;have z3:=Tryz.sizeOf3;rw[show(10000:Nat)=9999+1 from rfl,run_equalIn_struct w 9999 283 _ _ hS hp];simp only[Program.fieldsOf,Tryz.underlying283];go_simp;by_cases h1:a=c
 ·by_cases h2:b=d<;>simp[h1,h2]
 ·simp[h1]
theorem Ba1 (op:BinOp) (a b:Operand) (xs ys:Array Value) (w:World):(eqGuard op 283 a b (.agg xs) (.agg ys)).run Tryz.prog w= .ok () w:=run_eqGuard_agg w op 283 a b xs ys (by kernel_rfl)
theorem Am9 (w:World) (x:A6 w) (u v:Ev):
 Calls Tryz.prog 179 #[u.ag,v.ag] x.w fun o w'=>o= .returned (.bool (sk u v))∧∃y:A6 w,w'=y.w:=by
 unfold Ev.ag;go_enter Tryz.func179,Tryz.ntmps179;go_upto_region 1 with fail;obtain⟨W,bx,y0,hW,hbx,-,B8,Hup,Hbx,HB0,HB1⟩:=W5 x [.int .i64 u.d,.int .i64 u.q,.int .i64 u.a,.int .i64 u.t,.int .i64 u.k,.int .i64 u.b,.int .i64 u.p,.int .i64 u.r,.int .i64 u.i] 63 [.int .i64 v.d,.int .i64 v.q,.int .i64 v.a,.int .i64 v.t,.int .i64 v.k,.int .i64 v.b,.int .i64 v.p,.int .i64 v.r,.int .i64 v.i] 63;rw[hW,hbx];clear hW hbx;obtain⟨D7,D9,E3,E5,F3,I0,K9,O5,O6,hf0⟩:=j2 HB0;obtain⟨P3,Q8,V5,W0,X6,Z0,W2,Z7,Z8,hf1⟩:=j2 HB1;clear HB0 HB1;clear B8;have tE:=Ba0 u.d u.q v.d v.q;have BJ3:=Ba1;rw[show(decide (u.d=v.d) && decide (u.q=v.q))=sk u v from rfl]at tE;refine K6 (by kernel_rfl) (by kernel_rfl) ?_;repeat(go_big_quiet_step((go_at_call 180;exact AZ9 W _ _ _ _ _ _ _ _ _ _)))
 refine wpQuiet_nil ?_;rintro _ ⟨z,rfl⟩;go_wp2_with fail;go_ret;exact⟨rfl,Hup.out _⟩
end
section
open Go.RowKit
def Y7 (l:List Ev) (p:Nat):List Ev:=O4 l p ++ l.drop (O4 l p).length
theorem wU {l:List Ev} {p:Nat} (hp:p≤l.length):(Y7 l p).length=l.length:=by
 have:=rE l p;simp[Y7];omega
theorem An0 {l:List Ev} {p i:Nat} (h:(O4 l p).length≤i):(Y7 l p)[i]? =l[i]? :=by
 unfold Y7;rw[List.getElem?_append_right h,List.getElem?_drop];congr 1;omega
theorem Ba2 {l:List Ev} {p:Nat} {x:Ev} (h:r7 l p=true) (hp:l[p]? =some x):(Y7 l p).set (O4 l p).length x=Y7 l (p+1):=by
 have hl:p<l.length:=(A4 hp).1;have hk:=rE l p;have hx:l.getD p default=x:=by rw[A5,hp];rfl
 unfold Y7;rw[wS h,hx,List.set_append_right _ _ (Nat.le_refl _),Nat.sub_self,List.length_append,List.length_singleton];rw[List.drop_eq_getElem_cons (show(O4 l p).length<l.length by omega),List.set_cons_zero];simp
theorem An1 {l:List Ev} {p:Nat} (h:r7 l p=false):Y7 l (p+1)=Y7 l p:=by unfold Y7;rw[wT h]
theorem Ba3 {l:List Ev} {k:Nat} (hk:k≤l.length) (h:∀j,j<k→r7 l j=true):Y7 l k=l∧(O4 l k).length=k:=by
 have:=nG hk h;unfold Y7;rw[this];simp[Nat.min_eq_left hk]
theorem Ba4 (l:List Ev) (p:Nat):(Y7 l p).take (O4 l p).length=O4 l p:=by
 unfold Y7;rw[List.take_append_of_le_length (Nat.le_refl _),List.take_length]
theorem An2 {l:List Ev} {p:Nat} {x y:Ev} (hx:l[p+1]? =some x) (hy:l[p]? =some y):r7 l (p+1)= !sk x y:=by
 unfold r7;rw[Nat.add_sub_cancel,A5,A5,hx,hy];simp
theorem Ba5 (w:World):(zeroValue 63).run Tryz.prog w= .ok (⟨0,0,0,0,0,0,0,0,0⟩:Ev).ag w:=by kernel_rfl
theorem Ba6 (n:Nat):∀v∈(Builtin.zeroCells (⟨0,0,0,0,0,0,0,0,0⟩:Ev).ag.cells n).toList,v.oneCell'=true:=by
 intro v hv;simp only[Builtin.zeroCells,Array.toList_map,List.mem_map]at hv;obtain⟨i,_,rfl⟩:=hv;have hz:(⟨0,0,0,0,0,0,0,0,0⟩:Ev).ag.cells=#[.int .i64 0,.int .i64 0,.int .i64 0,.int .i64 0,.int .i64 0,.int .i64 0,.int .i64 0,.int .i64 0,.int .i64 0]:=by kernel_rfl
 rw[hz];have:∀j,j<9→(#[Value.int .i64 0,.int .i64 0,.int .i64 0,.int .i64 0,.int .i64 0,.int .i64 0,.int .i64 0,.int .i64 0,.int .i64 0]:Array Value)[j]!.oneCell'=true:=by decide
 exact this _ (Nat.mod_lt _ (by decide))
structure Ba7 (w:World) (g o:Nat) (e:Ev):Prop where
 c:∀j v,e.cs[j]? =some v→∀y:A6 w,y.w.cell? ⟨g,o+j,none⟩=some v
 f:∀j,j<9→∀y:A6 w,y.w.frozen? ⟨g,o+j,none⟩=false
theorem nH {w:World} {base g n cap:Nat} {T:TypeId} {l:List Ev} (h:w.ownsRow base T 9 (.slice (some ⟨g,0,none⟩) n cap) n (B6 Ev.cs l)) {i:Nat} {e:Ev} (hi:l[i]? =some e):Ba7 w g (i*9) e:=by
 refine⟨fun j v hv y=>(O8 h (G0 U5 l i e j v hi hv)).1 y,fun j hj y=>?_⟩;obtain⟨v,hv⟩:∃v,e.cs[j]? =some v:=⟨_,A3 (by rw[U5];exact hj)⟩
 exact(O8 h (G0 U5 l i e j v hi hv)).2.1 y
def gW (w:World) (T:TypeId) (k:Nat) (xs:List Value) (o:Ending) (w':World):Prop:=
 ∃(a:Option Addr) (n c:Nat) (y:A6 w),o= .returned (.slice a n c)∧w'=y.w∧y.w.ownsRow w.heap.size T k (.slice a n c) n xs
theorem Ba8 (w:World) (x:A6 w) (v:Value) (n:Nat) (l:List Ev) (hown:x.w.ownsRow w.heap.size 63 9 v n (B6 Ev.cs l)) (hl:l.length≤100000):
 Calls Tryz.prog 178 #[v,.func (.func 179) #[] #[]] x.w (gW w 63 9 (B6 Ev.cs (O4 l l.length))):=by
 obtain⟨rfl,a,c,rfl,hc,hels,hba,_⟩:=P2 U5 (by decide) hown;have Hc:=A2 hc;by_cases h2:l.length<2
 ·have hk:O4 l l.length=l:=by
   rw[nG (Nat.le_refl _) (fun j hj=>?_),List.take_length];have:j=0:=by omega
   subst this;rfl
  have HR:=A2 (show gW w 63 9 (B6 Ev.cs (O4 l l.length)) (.returned (.slice a l.length c)) x.w from⟨a,_,c,x,rfl,rfl,by rw[hk];exact hown⟩);have h2':(l.length:Int)<2:=by omega
  generalize gW w 63 9 (B6 Ev.cs (O4 l l.length))=PO at *;clear hown hels hc h2 hk hba;go_enter Tryz.func178,Tryz.ntmps178;go_wp2_with fail;exact HR.out
 ·obtain⟨g,cap,hg,hbg,_⟩:=dJ hown (by omega)
  simp only[Value.slice.injEq]at hg;obtain⟨rfl,_,rfl⟩:=hg;have F5:=A2 hown;have Hbg:=A2 hbg;have HP:=A2 (fun(a:Option Addr) (n c:Nat) (y:A6 w) (h:y.w.ownsRow w.heap.size 63 9 (.slice a n c) n (B6 Ev.cs (O4 l l.length)))=>show gW w 63 9 (B6 Ev.cs (O4 l l.length)) (.returned (.slice a n c)) y.w from⟨a,n,c,y,rfl,rfl,h⟩);have hlc:l.length≤c:=hc;have h2':(2:Int)≤(l.length:Int):=by omega
  generalize gW w 63 9 (B6 Ev.cs (O4 l l.length))=PO at *;clear hown hels hc h2 hba hbg;go_enter Tryz.func178,Tryz.ntmps178;go_wp2_with fail;go_loopw [5] (fun sk wr=>∃(m:Nat) (y:A6 w),1≤m∧m≤l.length∧sk= .int .i64 m∧wr=y.w∧y.w.ownsRow w.heap.size 63 9 (.slice (some ⟨g,0,none⟩) l.length c) l.length (B6 Ev.cs l)∧∀j,j<m→r7 l j=true) (fun sk _ =>l.length-(intOf sk).toNat)
  case atStart=>exact⟨1,x,by omega,by omega,rfl,rfl,F5.out,fun j hj=>by obtain rfl:j=0:=(by omega);rfl⟩
  case round=>
   clear F5;obtain⟨m,y,hm1,hml,rfl,rfl,hown,AC4⟩:=hrel;have yM:=A2 AC4;clear AC4;by_cases hlt:m<l.length
   ·obtain⟨p,hp⟩:∃p,m=p+1:=⟨m-1,by omega⟩
    obtain⟨u,hu⟩:∃u,l[m]? =some u:=⟨_,A3 hlt⟩
    obtain⟨v,hv⟩:∃v,l[m-1]? =some v:=⟨_,A3 (by omega)⟩
    have HF:=A2 (show r7 l m= !sk u v from by subst hp;exact An2 hu hv);have hm1':(1:Int)≤(m:Int):=by omega
    have hU:=nH hown hu;have hV:=nH hown hv;have F5:=A2 hown;have hw1:wrap64 ((m:Int)-1)=(m:Int)-1:=IntWalk.wrap64_in _ ⟨by omega,by omega⟩;have hp0:(0:Int)≤(m:Int)-1:=by omega
    have hpl:(m:Int)-1<(l.length:Int):=by omega
    have hm0:(0:Int)≤(m:Int):=by omega
    have hml':(m:Int)<(l.length:Int):=by omega
    have Hpm:=A2 hp;clear hown hu hv hp;have a0:=hU.c 0 _ rfl;have a1:=hU.c 1 _ rfl;have a2:=hU.c 2 _ rfl;have a3:=hU.c 3 _ rfl;have a4:=hU.c 4 _ rfl;have a5:=hU.c 5 _ rfl;have a6:=hU.c 6 _ rfl;have a7:=hU.c 7 _ rfl;have a8:=hU.c 8 _ rfl;have b0:=hV.c 0 _ rfl;have b1:=hV.c 1 _ rfl;have b2:=hV.c 2 _ rfl;have b3:=hV.c 3 _ rfl;have b4:=hV.c 4 _ rfl;have b5:=hV.c 5 _ rfl;have b6:=hV.c 6 _ rfl;have b7:=hV.c 7 _ rfl;have b8:=hV.c 8 _ rfl;simp only[Nat.add_zero]at a0 b0;clear hU hV;have HO:=fun(x:A6 y.w)=>Am9 y.w x u v;unfold Ev.ag at HO;obtain⟨q0,hq0⟩:=A6.refl y.w;rw[hq0];clear hq0
    cases hsk:sk u v with
    |false=>
     rw[hsk]at HF HO
     go_upto_region 6 with fail
     refine K6 (by kernel_rfl) (by kernel_rfl) ?_
     repeat(go_big_quiet_step((go_at_call 179;exact HO _)))
     refine wpQuiet_nil ?_
     rintro _ ⟨z,rfl⟩
     have Hf2:=A2 (show∀j,j<m+1→r7 l j=true from fun j hj=>by
      rcases(by omega:j<m∨j=m)with h|rfl
      ·exact yM.out j h
      ·rw[HF.out];rfl)
     clear HF
     go_wp2_with fail
     have hown2:=I6 F5.out (⟨z,rfl⟩:∃zz:A6 y.w,z.w=zz.w)
     obtain⟨y3,e3⟩:=y.trans z
     rw[e3]at hown2
     have o6:=A2 hown2
     have HE:=A2 e3
     clear hown2 e3
     go_roundw
     case rel=>exact⟨m+1,y3,by omega,by omega,by go_num,HE.out,o6.out,Hf2.out⟩
     case measure=>simp[intOf];omega
    |true=>
     rw[hsk]at HF HO
     have Hs:=A2 (show Y7 l (m+1)=l∧(O4 l (m+1)).length=m from by
      have h1:=Ba3 (l:=l) (k:=m) hml yM.out;have h2:r7 l m=false:=by rw[HF.out];rfl
      rw[An1 h2,wT h2];exact h1)
     clear HF
     go_upto_region 6 with fail
     refine K6 (by kernel_rfl) (by kernel_rfl) ?_
     repeat(go_big_quiet_step((go_at_call 179;exact HO _)))
     refine wpQuiet_nil ?_
     rintro _ ⟨z,rfl⟩
     clear a0 a1 a2 a3 a4 a5 a6 a7 a8 b0 b1 b2 b3 b4 b5 b6 b7 b8
     have hown2:=I6 F5.out (⟨z,rfl⟩:∃zz:A6 y.w,z.w=zz.w)
     obtain⟨y3,e3⟩:=y.trans z
     rw[e3]at hown2⊢
     have o6:=A2 hown2
     clear hown2 e3 HO hw1 hp0 hpl
     have hcut:cO (some ⟨g,0,none⟩) m c 9=some ⟨g,m*9,none⟩:=by
      unfold cO;rw[if_neg (by omega),Option.map_some,Addr.add_lit,Nat.zero_add]
     have hmc:(m:Int)≤(c:Int):=by omega
     go_wp2_with fail
     obtain⟨N,hN⟩:∃N,l.length-m=N:=⟨_,rfl⟩
     rw[hN]
     generalize c-m=C2
     have hN1:m+N≤l.length:=by omega
     have hN2:l.length≤m+N:=by omega
     clear hN hsk
     go_loopw [5,7] (fun sk s2 wr=>∃(kk j:Nat) (y:A6 w),1≤j∧j≤N∧sk= .int .i64 kk∧s2= .int .i64 j∧wr=y.w∧y.w.ownsRow w.heap.size 63 9 (.slice (some ⟨g,0,none⟩) l.length c) l.length (B6 Ev.cs (Y7 l (m+j)))∧(O4 l (m+j)).length=kk∧kk<m+j) (fun _ s2 _ =>N-(intOf s2).toNat)
     case atStart=>exact⟨m,1,y3,by omega,by omega,rfl,rfl,rfl,by rw[Hs.out.1];exact o6.out,Hs.out.2,by omega⟩
     case round=>
      clear o6 Hs;obtain⟨kk,j,y5,hj1,hjN,rfl,rfl,rfl,hown,hkl,hkm⟩:=hrel;have Hkl:=A2 hkl;clear hkl;by_cases hlt2:j<N
      ·obtain⟨u2,hu⟩:∃u,l[m+j]? =some u:=⟨_,A3 (by omega)⟩
       obtain⟨v2,hv⟩:∃v,l[m+j-1]? =some v:=⟨_,A3 (by omega)⟩
       have HF:=A2 (show r7 l (m+j)= !sk u2 v2 from by
        have e:m+j=(m+j-1)+1:=by omega
        rw[e];refine An2 (by rw[←e];exact hu) hv)
       have hU:=nH hown (i:=m+j) (e:=u2) (by rw[An0 (by have:=Hkl.out;omega)];exact hu);have hV:=nH hown (i:=m+j-1) (e:=v2) (by rw[An0 (by have:=Hkl.out;omega)];exact hv);have Hu:=A2 hu;have F5:=A2 hown;have ej:(m+j)*9=m*9+j*9:=Nat.add_mul _ _ _;have ej1:(m+j-1)*9=m*9+(j-1)*9:=by rw[show m+j-1=m+(j-1) by omega];exact Nat.add_mul _ _ _
       rw[ej]at hU;rw[ej1]at hV;have hj1':(1:Int)≤(j:Int):=by omega
       have hw1:wrap64 ((j:Int)-1)=(j:Int)-1:=IntWalk.wrap64_in _ ⟨by omega,by omega⟩;have hp0:(0:Int)≤(j:Int)-1:=by omega
       have hpl:(j:Int)-1<(N:Int):=by omega
       have hj0:(0:Int)≤(j:Int):=by omega
       have hjl':(j:Int)<(N:Int):=by omega
       clear hown hu hv ej ej1;have a0:=hU.c 0 _ rfl;have a1:=hU.c 1 _ rfl;have a2:=hU.c 2 _ rfl;have a3:=hU.c 3 _ rfl;have a4:=hU.c 4 _ rfl;have a5:=hU.c 5 _ rfl;have a6:=hU.c 6 _ rfl;have a7:=hU.c 7 _ rfl;have a8:=hU.c 8 _ rfl;have b0:=hV.c 0 _ rfl;have b1:=hV.c 1 _ rfl;have b2:=hV.c 2 _ rfl;have b3:=hV.c 3 _ rfl;have b4:=hV.c 4 _ rfl;have b5:=hV.c 5 _ rfl;have b6:=hV.c 6 _ rfl;have b7:=hV.c 7 _ rfl;have b8:=hV.c 8 _ rfl;simp only[Nat.add_zero]at a0 b0;clear hU hV;have HO2:=fun(x:A6 y5.w)=>Am9 y5.w x u2 v2;unfold Ev.ag at HO2;obtain⟨q0,hq0⟩:=A6.refl y5.w;rw[hq0];clear hq0
       cases AD9:sk u2 v2 with
       |true=>
        rw[AD9]at HF HO2
        have Hf:=A2 (show Y7 l (m+(j+1))=Y7 l (m+j)∧O4 l (m+(j+1))=O4 l (m+j)from by
         have h2:r7 l (m+j)=false:=by rw[HF.out];rfl
         exact⟨An1 h2,wT h2⟩)
        clear HF
        go_upto_region 11 with fail
        refine K6 (by kernel_rfl) (by kernel_rfl) ?_
        repeat(go_big_quiet_step((go_at_call 179;exact HO2 _)))
        refine wpQuiet_nil ?_
        rintro _ ⟨z,rfl⟩
        go_wp2_with fail
        have hown2:=I6 F5.out (⟨z,rfl⟩:∃zz:A6 y5.w,z.w=zz.w)
        obtain⟨y6,e6⟩:=y5.trans z
        rw[e6]at hown2
        have o6:=A2 hown2
        have HE:=A2 e6
        clear hown2 e6
        go_roundw
        case rel=>exact⟨kk,j+1,y6,by omega,by omega,rfl,by go_num,HE.out,by rw[Hf.out.1];exact o6.out,by rw[Hf.out.2];exact Hkl.out,by omega⟩
        case measure=>simp[intOf];omega
       |false=>
        rw[AD9]at HF HO2
        have Hf:=A2 (show r7 l (m+j)=true from by rw[HF.out];rfl)
        clear HF
        go_upto_region 11 with fail
        refine K6 (by kernel_rfl) (by kernel_rfl) ?_
        repeat(go_big_quiet_step((go_at_call 179;exact HO2 _)))
        refine wpQuiet_nil ?_
        rintro _ ⟨z,rfl⟩
        obtain⟨x3,hx3⟩:∃x,(Y7 l (m+j))[kk]? =some x:=⟨_,A3 (by rw[wU (by omega)];omega)⟩
        have hK:=nH F5.out hx3
        clear hx3
        have s0:=fun y:A6 y5.w=>hK.c 0 _ rfl y
        have s1:=fun y:A6 y5.w=>hK.c 1 _ rfl y
        have s2:=fun y:A6 y5.w=>hK.c 2 _ rfl y
        have s3:=fun y:A6 y5.w=>hK.c 3 _ rfl y
        have s4:=fun y:A6 y5.w=>hK.c 4 _ rfl y
        have s5:=fun y:A6 y5.w=>hK.c 5 _ rfl y
        have s6:=fun y:A6 y5.w=>hK.c 6 _ rfl y
        have s7:=fun y:A6 y5.w=>hK.c 7 _ rfl y
        have s8:=fun y:A6 y5.w=>hK.c 8 _ rfl y
        have f0:=fun y:A6 y5.w=>hK.f 0 (by decide) y
        have f1:=fun y:A6 y5.w=>hK.f 1 (by decide) y
        have f2:=fun y:A6 y5.w=>hK.f 2 (by decide) y
        have f3:=fun y:A6 y5.w=>hK.f 3 (by decide) y
        have f4:=fun y:A6 y5.w=>hK.f 4 (by decide) y
        have f5:=fun y:A6 y5.w=>hK.f 5 (by decide) y
        have f6:=fun y:A6 y5.w=>hK.f 6 (by decide) y
        have f7:=fun y:A6 y5.w=>hK.f 7 (by decide) y
        have f8:=fun y:A6 y5.w=>hK.f 8 (by decide) y
        simp only[Nat.add_zero]at s0 f0
        clear hK
        have hk0:(0:Int)≤(kk:Int):=by omega
        have hkl2:(kk:Int)<(l.length:Int):=by omega
        go_upto_region 13 with fail
        have hz:=AG3 U5 (I6 F5.out (⟨z,rfl⟩:∃zz:A6 y5.w,z.w=zz.w)) (i:=kk) (by rw[wU (by omega)];omega) u2
        rw[←Hkl.out,Ba2 Hf.out Hu.out,Hkl.out]at hz
        obtain⟨y6,e6⟩:=y5.trans z
        obtain⟨y7,e7⟩:=y6.sets g Hbg.out u2.cs (kk*9)
        rw[←e6]at e7
        rw[e7]at hz
        have o6:=A2 hz
        refine Eq.mp (congrArg (Code.wp _ _ _ _) (show y7.w= _ from e7.symm)) ?_
        clear hz e6 e7 s0 s1 s2 s3 s4 s5 s6 s7 s8 f0 f1 f2 f3 f4 f5 f6 f7 f8 a0 a1 a2 a3 a4 a5 a6 a7 a8 b0 b1 b2 b3 b4 b5 b6 b7 b8 HO2
        have hkw:wrap64 ((kk:Int)+1)=(kk:Int)+1:=IntWalk.wrap64_in _ ⟨by omega,by omega⟩
        have Hk2:=A2 (show(O4 l (m+(j+1))).length=kk+1 from by
         rw[show m+(j+1)=m+j+1 by omega,wS Hf.out,List.length_append,Hkl.out];rfl)
        go_wp2_with fail
        go_roundw
        case rel=>exact⟨kk+1,j+1,y7,by omega,by omega,by go_num,by go_num,rfl,o6.out,Hk2.out,by omega⟩
        case measure=>simp[intOf];omega
      ·obtain rfl:j=N:=by omega
       have e:m+j=l.length:=by omega
       rw[e]at Hkl hown;have hkk:kk<l.length:=by omega
       have hlen:(Y7 l l.length).length=l.length:=wU (Nat.le_refl _);have BJ0:cO (some ⟨g,0,none⟩) kk c 9=some ⟨g,kk*9,none⟩:=by
        unfold cO;rw[if_neg (by omega),Option.map_some,Addr.add_lit,Nat.zero_add]
       have hz9:(⟨0,0,0,0,0,0,0,0,0⟩:Ev).ag.cells.size=9:=by kernel_rfl
       have hcell:∀i,i<(l.length-kk)*9→∃v,(B6 Ev.cs (Y7 l l.length))[kk*9+i]? =some v:=fun i hi=>⟨_,A3 (by rw[b9 U5,hlen];omega)⟩
       have hcl:=fun(ty:TypeId)=>AG5 (P:=Tryz.prog) y5.w 25 ty 63 _ Tryz.underlying25 (Ba5 y5.w) g (kk*9) (l.length-kk) (c-kk) (by omega)
        (fun i hi=>by rw[hz9]at hi;obtain⟨v,hv⟩:=hcell i hi;have h:=(O8 hown hv).1 (A6.self _);simp only[A6.self]at h;rw[h];rfl)
        (fun i hi=>by rw[hz9]at hi;obtain⟨v,hv⟩:=hcell i hi;exact(O8 hown hv).2.1 (A6.self _)) (Ba6 _)
       have hh:=AG4 U5 hown hlen.symm (m:=kk) (by omega) (Builtin.zeroCells (⟨0,0,0,0,0,0,0,0,0⟩:Ev).ag.cells (l.length-kk)).toList (by rw[Array.length_toList,size_zeroCells,hz9,hlen]);rw[←Hkl.out,Ba4,Hkl.out]at hh;obtain⟨y6,e6⟩:=y5.sets g Hbg.out (Builtin.zeroCells (⟨0,0,0,0,0,0,0,0,0⟩:Ev).ag.cells (l.length-kk)).toList (kk*9);rw[e6]at hh hcl;have HR:=A2 (HP.out _ _ _ y6 hh);have hkc:(kk:Int)≤(c:Int):=by omega
       have hkl2:(kk:Int)≤(l.length:Int):=by omega
       have hk0:(0:Int)≤(kk:Int):=by omega
       clear hh e6 hcell hown hlen hz9 e Hkl;go_wp2_with fail;exact HR.out
   ·obtain rfl:m=l.length:=by omega
    have hk:O4 l l.length=l:=by rw[nG (Nat.le_refl _) yM.out,List.take_length]
    have HR:=A2 (HP.out _ _ _ y (by rw[hk];exact hown));clear hown hk;go_wp2_with fail;exact HR.out
end
end Go.Proofs.YtmmlmhnjjfnpnaaGreat
