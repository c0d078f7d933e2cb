/- Texts that belong together. -/
import Derived.Test.YtmmlmhnjjfnpnaaGreatTpNe
import Derived.Test.YtmmlmhnjjfnpnaaGreatTpNf
set_option linter.all false
namespace Go.Proofs.YtmmlmhnjjfnpnaaGreat
section
open Go.RowKit
def G4 (r:A8):Int:=if I7 r=0 then(if r.op then 26 else 0)else I7 r
theorem AS5 (r:A8):I7 r=0↔o9 r=true∧j4 r=true∧W7 r=true∧gB r=false:=by
 unfold I7
 cases o9 r<;>cases j4 r<;>cases W7 r<;>cases gB r<;>simp
theorem vQ (r:A8):G4 r=0↔I7 r=0∧r.op=false:=by
 unfold G4;split
 ·rename_i h;cases r.op<;>simp[h]
 ·rename_i h;simp[h]
structure Ai3 (last e:Int) (l:List F4):Prop where
 le:last≤e
 p:∀p∈l,last≤p.f0∧p.f0≤p.t0∧p.t0≤e
 s:l.Pairwise fun p q=>p.t0≤q.f0
theorem Ai4:∀(l:List F4) (last e:Int),j5 false e last l=true→Ai3 last e l
 |[],last,e,h=>⟨by simpa[j5]using h,fun p hp=>(by cases hp),List.Pairwise.nil⟩
 |x :: l,last,e,h=>by
  simp only[j5,Bool.false_and,Bool.false_or,Bool.and_eq_true,decide_eq_true_eq]at h;obtain⟨h1,h2,h3⟩:=h;have ih:=Ai4 l x.t0 e h3;refine⟨by have:=ih.le;omega,fun p hp=>?_,List.pairwise_cons.2 ⟨fun q hq=>(ih.p q hq).1,ih.s⟩⟩;rcases List.mem_cons.1 hp with rfl|hp
  ·exact⟨h1,h2,ih.le⟩
  ·have:=ih.p p hp;omega
theorem Ai5:∀(l:List F0) (a0 a1 e0 e1:Int),W6 a0 a1 l e0 e1=true→p4 false l=true→a0≤e0
 |[],a0,a1,e0,e1,h,_ =>by simp[W6]at h;omega
 |x :: l,a0,a1,e0,e1,h,ho=>by
  simp only[W6,Bool.and_eq_true,decide_eq_true_eq]at h;simp only[p4,Bool.false_and,Bool.or_false,Bool.and_eq_true,decide_eq_true_eq]at ho;have:=Ai5 l x.t0 x.t1 e0 e1 h.2 ho.2;omega
structure qI (r:A8):Prop where
 s:0≤r.s0∧r.s0≤r.s1∧r.s1≤4294943999
 e:0≤r.e0∧r.e0≤r.e1∧r.e1≤4294943999
 se:r.s0≤r.e0
 p:∀p∈r.pauses,0≤p.f0∧p.f0≤p.f1∧p.f1≤4294943999∧0≤p.t0∧p.t0≤p.t1∧p.t1≤4294943999∧r.s0≤p.f0∧p.f0≤p.t0∧p.t0≤r.e0
 o:r.pauses.Pairwise fun p q=>p.t0≤q.f0
 pn:r.pauses.length≤512
 ln:1≤r.legs.length∧r.legs.length≤512
theorem fJ {r:A8} (h:G4 r=0):qI r:=by
 obtain⟨h,hop⟩:=(vQ r).1 h;obtain⟨h1,h2,h3,h4⟩:=(AS5 r).1 h;simp only[o9,dN,Bool.and_eq_true,decide_eq_true_eq,List.all_eq_true]at h1;obtain⟨⟨⟨⟨_,hs⟩,he⟩,hl⟩,hp⟩:=h1;simp only[j4,Bool.and_eq_true,decide_eq_true_eq]at h2;simp only[W7,hop,Bool.and_eq_true,Bool.or_eq_true]at h3;have hs':=(gA _ _).1 hs;have he':=(gA _ _).1 he;have hse:=Ai5 _ _ _ _ _ h2.2 h3.1;have hpo:Ai3 r.s0 r.e0 r.pauses:=by
  rcases h3.2 with h5|h5
  ·have:r.pauses=[]:=by simpa using h5
   rw[this];exact⟨hse,fun p hp=>(by cases hp),List.Pairwise.nil⟩
  ·exact Ai4 _ _ _ h5
 refine⟨hs',he',hse,fun p hpp=>?_,hpo.s,h2.1.2,⟨h2.1.1.1,h2.1.1.2⟩⟩;have h6:=hp p hpp;simp only[bV,Bool.and_eq_true]at h6;have h7:=(gA _ _).1 h6.1;have h8:=(gA _ _).1 h6.2;have h9:=hpo.p p hpp;omega
def X0 (r:A8):B3:=if G4 r=0 then⟨r.s1,max r.s1 r.e0⟩else⟨0,0⟩
def Y1 (p:F4):B3:=⟨p.f1,max p.f1 p.t0⟩
def Y2 (p:F4):B3:=⟨p.f0,max p.f0 p.t1⟩
theorem qJ {r:A8} (h:qI r):V7 (⟨r.s1,max r.s1 r.e0⟩:B3)=true:=(gE _).2 (by
 have:=h.s;have:=h.e;show 0≤r.s1∧r.s1≤max r.s1 r.e0∧max r.s1 r.e0≤_;omega)
theorem qK {x:B3} (h:V7 x=true):J0 [x]=false:=iQ.2 fun y hy=>by simp at hy;subst hy;exact h
theorem Ai6 {r:A8} (h:qI r):J0 (r.pauses.map Y1)=false:=iQ.2 fun x hx=>by
 obtain⟨p,hp,rfl⟩:=List.mem_map.1 hx;have:=h.p p hp;refine(gE _).2 ?_;show 0≤p.f1∧p.f1≤max p.f1 p.t0∧max p.f1 p.t0≤_;omega
theorem Ai7 {r:A8} (h:qI r):J0 (r.pauses.map Y2)=false:=iQ.2 fun x hx=>by
 obtain⟨p,hp,rfl⟩:=List.mem_map.1 hx;have:=h.p p hp;refine(gE _).2 ?_;show 0≤p.f0∧p.f0≤max p.f0 p.t1∧max p.f0 p.t1≤_;omega
def aU (r:A8) (t:Int):Bool:=O0 t (X0 r) && C9 (r.pauses.map Y1) t
def t7 (r:A8) (t:Int):Bool:=O0 t (X0 r) && !C9 (r.pauses.map Y2) t
structure V2 (e:Int) (S:Int→Bool) (n:Nat) (c:List B3):Prop where
 ok:e=0→U3 c S
 no:e≠0→c=[]
 n:c.length≤n
theorem V2.unique {e:Int} {S:Int→Bool} {n m:Nat} {u v:List B3} (h:V2 e S n u) (k:V2 e S m v):u=v:=by
 by_cases he:e=0
 ·exact(h.ok he).unique (k.ok he)
 ·rw[h.no he,k.no he]
def cnt (S:Int→Bool):Nat→Int
 |0=>0
 |n+1=>cnt S n+if S n then 1 else 0
theorem vR {S T:Int→Bool}:∀n:Nat,(∀t:Int,0≤t→t<n→S t=T t)→cnt S n=cnt T n
 |0,_ =>rfl
 |n+1,h=>by
  have h1:=vR n fun t h0 h1=>h t h0 (by omega);have h2:=h n (by omega) (by omega);simp only[cnt,h1,h2]
theorem vS {S A B:Int→Bool}:∀n:Nat,(∀t:Int,0≤t→t<n→(S t=(A t || B t))∧(A t && B t)=false)→cnt S n=cnt A n+cnt B n
 |0,_ =>rfl
 |n+1,h=>by
  have h1:=vS (S:=S) (A:=A) (B:=B) n fun t h0 h1=>h t h0 (by omega);obtain⟨h2,h3⟩:=h n (by omega) (by omega);simp only[cnt,h1,h2];revert h3
  cases A n<;>cases B n<;>simp<;>omega
theorem vT {S:Int→Bool}:∀n:Nat,(∀t:Int,0≤t→t<n→S t=false)→cnt S n=0
 |0,_ =>rfl
 |n+1,h=>by
  have h1:=vT (S:=S) n fun t h0 h1=>h t h0 (by omega);have h2:=h n (by omega) (by omega);simp only[cnt,h1,h2];simp
theorem qL (x:B3) (h0:0≤x.f) (h1:x.f≤x.t):∀n:Nat,cnt (fun t=>O0 t x) n=min x.t n-min x.f n
 |0=>by simp[cnt];omega
 |n+1=>by
  have ih:=qL x h0 h1 n;simp only[cnt,ih];by_cases hi:O0 n x=true
  ·rw[if_pos hi]
   have:=(j6 _ _).1 hi;omega
  ·rw[if_neg hi]
   have:¬(x.f≤(n:Int)∧(n:Int)<x.t):=fun h=>hi ((j6 _ _).2 h);omega
theorem Ai8:∀{u:List B3},K7 u→T9 u=cnt (C9 u) 4294944000
 |[],_ =>(vT _ fun t _ _ =>rfl).symm
 |x :: u,hn=>by
  have hx:=hn.v x (by simp);have e1:T9 (x :: u)=(x.t-x.f)+T9 u:=by simp[T9]
  have h1:=qL x hx.1 (by omega) 4294944000;rw[e1,Ai8 hn.tail,vS (S:=C9 (x :: u)) (A:=fun t=>O0 t x) (B:=C9 u) _ fun t _ _ =>⟨rfl,by
   cases hi:O0 t x
   ·rfl
   ·have:=(j6 _ _).1 hi
    rw[uH hn (show t≤x.t by omega)];rfl⟩,h1]
  omega
theorem U3.len {u:List B3} {S:Int→Bool} (h:U3 u S):T9 u=cnt S 4294944000:=by
 rw[Ai8 h.n];exact vR _ fun t _ _ =>h.h t
end
section
theorem Ai9 (S:Int→Bool):∃n:Int,n=cnt S 4294944000:=⟨_,rfl⟩
noncomputable def lenS (S:Int→Bool):Int:=Classical.choose (Ai9 S)
theorem qM (S:Int→Bool):lenS S=cnt S 4294944000:=Classical.choose_spec (Ai9 S)
noncomputable def Q0 (r:A8):Int:=if G4 r=0 then lenS (t7 r)else 0
noncomputable def X1 (r:A8):Int:=if G4 r=0 then lenS (aU r)else 0
theorem Aj0 (S:Int→Bool):∀n:Nat,0≤cnt S n∧cnt S n≤n
 |0=>⟨Int.le_refl _,Int.le_refl _⟩
 |n+1=>by
  have:=Aj0 S n;simp only[cnt];split<;>omega
theorem Aj1 (S:Int→Bool):0≤lenS S∧lenS S≤4294944000:=by
 rw[qM];exact Aj0 S 4294944000
theorem AS6 (r:A8):0≤Q0 r∧Q0 r≤4294944000:=by
 unfold Q0;split
 ·exact Aj1 _
 ·omega
theorem AS7 (r:A8):0≤X1 r∧X1 r≤4294944000:=by
 unfold X1;split
 ·exact Aj1 _
 ·omega
end
section
open Go.RowKit
structure mZ (f:Int) (ps:List F4) (T:List B3) (last:Int):Prop where
 len:T.length=ps.length
 p:∀(i:Nat) (p:F4) (x:B3),ps[i]? =some p→T[i]? =some x→p.f0≤x.f∧x.f≤p.f1∧p.t0≤x.t∧x.t≤p.t1∧x.f≤x.t
 lo:f≤last
 lx:∀x∈T,f≤x.f∧x.t≤last
theorem mZ.step {f:Int} {ps:List F4} {T:List B3} {last:Int} (h:mZ f ps T last) {p:F4} {x:B3} (h0:p.f0≤x.f∧x.f≤p.f1∧p.t0≤x.t∧x.t≤p.t1) (h1:last≤x.f) (h2:x.f≤x.t):mZ f (ps ++ [p]) (T ++ [x]) x.t:=by
 have hl:=h.lo;refine⟨by simp[h.len],fun i q y hq hy=>?_,by omega,fun y hy=>?_⟩
 ·by_cases hi:i<ps.length
  ·rw[List.getElem?_append_left hi]at hq
   rw[List.getElem?_append_left (by rw[h.len];exact hi)]at hy;exact h.p i q y hq hy
  ·rw[List.getElem?_append_right (by omega)]at hq
   rw[List.getElem?_append_right (by rw[h.len];omega)]at hy;have hj:=(A4 hq).1;simp at hj;obtain rfl:i=ps.length:=by omega
   rw[h.len]at hy;simp at hq hy;subst hq;subst hy;exact⟨h0.1,h0.2.1,h0.2.2.1,h0.2.2.2,h2⟩
 ·rcases List.mem_append.1 hy with hy|hy
  ·have:=h.lx y hy;omega
  ·simp at hy;subst hy;omega
structure kP (r:A8) (V:B3) (T:List B3):Prop where
 a:r.s0≤V.f∧V.f≤r.s1
 b:r.e0≤V.t∧V.t≤r.e1
 t:∃last,mZ V.f r.pauses T last∧last≤V.t
section
variable {r:A8} {V:B3} {T:List B3}
theorem kP.at (h:kP r V T) {x:B3} (hx:x∈T):∃p∈r.pauses,p.f0≤x.f∧x.f≤p.f1∧p.t0≤x.t∧x.t≤p.t1∧x.f≤x.t∧V.f≤x.f∧x.t≤V.t:=by
 obtain⟨last,hT,hl⟩:=h.t;obtain⟨i,hi⟩:=List.mem_iff_getElem?.1 hx;obtain⟨p,hp⟩:∃p,r.pauses[i]? =some p:=⟨_,A3 (by rw[←hT.len];exact(A4 hi).1)⟩
 obtain⟨h1,h2,h3,h4,h5⟩:=hT.p i p x hp hi;have:=hT.lx x hx;exact⟨p,A0 hp,h1,h2,h3,h4,h5,by omega,by omega⟩
theorem kP.of (h:kP r V T) {p:F4} (hp:p∈r.pauses):∃x∈T,p.f0≤x.f∧x.f≤p.f1∧p.t0≤x.t∧x.t≤p.t1:=by
 obtain⟨last,hT,hl⟩:=h.t;obtain⟨i,hi⟩:=List.mem_iff_getElem?.1 hp;obtain⟨x,hx⟩:∃x,T[i]? =some x:=⟨_,A3 (by rw[hT.len];exact(A4 hi).1)⟩
 obtain⟨h1,h2,h3,h4,h5⟩:=hT.p i p x hi hx;exact⟨x,A0 hx,h1,h2,h3,h4⟩
theorem kP.le (h:kP r V T):V.f≤V.t:=by
 obtain⟨last,hT,hl⟩:=h.t;have:=hT.lo;omega
end
end
end Go.Proofs.YtmmlmhnjjfnpnaaGreat
