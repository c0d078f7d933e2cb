/- Texts that belong together. -/
import Derived.Test.YtmmlmhnjjfnpnaaGreatTpMe
import Derived.Test.YtmmlmhnjjfnpnaaGreatTpMf
set_option linter.all false
namespace Go.Proofs.YtmmlmhnjjfnpnaaGreat
open Go.RowKit
def ivE (r:Ride):Int:=if rideE r=0 then(if r.op then 26 else 0)else rideE r
theorem rideE_zero (r:Ride):rideE r=0↔rangedB r=true∧joinedB r=true∧orderedB r=true∧stateB r=false:=by
 unfold rideE
 cases rangedB r<;>cases joinedB r<;>cases orderedB r<;>cases stateB r<;>simp
theorem ivE_zero (r:Ride):ivE r=0↔rideE r=0∧r.op=false:=by
 unfold ivE;split
 ·rename_i h;cases r.op<;>simp[h]
 ·rename_i h;simp[h]
structure PseOk (last e:Int) (l:List Pse):Prop where
 le:last≤e
 p:∀p∈l,last≤p.f0∧p.f0≤p.t0∧p.t0≤e
 s:l.Pairwise fun p q=>p.t0≤q.f0
theorem pseOk_of:∀(l:List Pse) (last e:Int),psesO false e last l=true→PseOk last e l
 |[],last,e,h=>⟨by simpa[psesO]using h,fun p hp=>(by cases hp),List.Pairwise.nil⟩
 |x :: l,last,e,h=>by
  simp only[psesO,Bool.false_and,Bool.false_or,Bool.and_eq_true,decide_eq_true_eq]at h;obtain⟨h1,h2,h3⟩:=h;have ih:=pseOk_of l x.t0 e h3;refine⟨by have:=ih.le;omega,fun p hp=>?_,List.pairwise_cons.2 ⟨fun q hq=>(ih.p q hq).1,ih.s⟩⟩;rcases List.mem_cons.1 hp with rfl|hp
  ·exact⟨h1,h2,ih.le⟩
  ·have:=ih.p p hp;omega
theorem chain_le:∀(l:List Leg) (a0 a1 e0 e1:Int),chainL a0 a1 l e0 e1=true→legsO false l=true→a0≤e0
 |[],a0,a1,e0,e1,h,_ =>by simp[chainL]at h;omega
 |x :: l,a0,a1,e0,e1,h,ho=>by
  simp only[chainL,Bool.and_eq_true,decide_eq_true_eq]at h;simp only[legsO,Bool.false_and,Bool.or_false,Bool.and_eq_true,decide_eq_true_eq]at ho;have:=chain_le l x.t0 x.t1 e0 e1 h.2 ho.2;omega
structure RideOk (r:Ride):Prop where
 s:0≤r.s0∧r.s0≤r.s1∧r.s1≤4294943999
 e:0≤r.e0∧r.e0≤r.e1∧r.e1≤4294943999
 se:r.s0≤r.e0
 p:∀p∈r.pauses,0≤p.f0∧p.f0≤p.f1∧p.f1≤4294943999∧0≤p.t0∧p.t0≤p.t1∧p.t1≤4294943999∧r.s0≤p.f0∧p.f0≤p.t0∧p.t0≤r.e0
 o:r.pauses.Pairwise fun p q=>p.t0≤q.f0
 pn:r.pauses.length≤512
 ln:1≤r.legs.length∧r.legs.length≤512
theorem rideOk_of {r:Ride} (h:ivE r=0):RideOk r:=by
 obtain⟨h,hop⟩:=(ivE_zero r).1 h;obtain⟨h1,h2,h3,h4⟩:=(rideE_zero r).1 h;simp only[rangedB,headV,Bool.and_eq_true,decide_eq_true_eq,List.all_eq_true]at h1;obtain⟨⟨⟨⟨_,hs⟩,he⟩,hl⟩,hp⟩:=h1;simp only[joinedB,Bool.and_eq_true,decide_eq_true_eq]at h2;simp only[orderedB,hop,Bool.and_eq_true,Bool.or_eq_true]at h3;have hs':=(vldS_iff _ _).1 hs;have he':=(vldS_iff _ _).1 he;have hse:=chain_le _ _ _ _ _ h2.2 h3.1;have hpo:PseOk r.s0 r.e0 r.pauses:=by
  rcases h3.2 with h5|h5
  ·have:r.pauses=[]:=by simpa using h5
   rw[this];exact⟨hse,fun p hp=>(by cases hp),List.Pairwise.nil⟩
  ·exact pseOk_of _ _ _ h5
 refine⟨hs',he',hse,fun p hpp=>?_,hpo.s,h2.1.2,⟨h2.1.1.1,h2.1.1.2⟩⟩;have h6:=hp p hpp;simp only[pseV,Bool.and_eq_true]at h6;have h7:=(vldS_iff _ _).1 h6.1;have h8:=(vldS_iff _ _).1 h6.2;have h9:=hpo.p p hpp;omega
def sureW (r:Ride):Win:=if ivE r=0 then⟨r.s1,max r.s1 r.e0⟩else⟨0,0⟩
def sureP (p:Pse):Win:=⟨p.f1,max p.f1 p.t0⟩
def possP (p:Pse):Win:=⟨p.f0,max p.f0 p.t1⟩
theorem sureW_vld {r:Ride} (h:RideOk r):vldW (⟨r.s1,max r.s1 r.e0⟩:Win)=true:=(vldW_iff _).2 (by
 have:=h.s;have:=h.e;show 0≤r.s1∧r.s1≤max r.s1 r.e0∧max r.s1 r.e0≤_;omega)
theorem badW_one {x:Win} (h:vldW x=true):badW [x]=false:=badW_false.2 fun y hy=>by simp at hy;subst hy;exact h
theorem sureP_good {r:Ride} (h:RideOk r):badW (r.pauses.map sureP)=false:=badW_false.2 fun x hx=>by
 obtain⟨p,hp,rfl⟩:=List.mem_map.1 hx;have:=h.p p hp;refine(vldW_iff _).2 ?_;show 0≤p.f1∧p.f1≤max p.f1 p.t0∧max p.f1 p.t0≤_;omega
theorem possP_good {r:Ride} (h:RideOk r):badW (r.pauses.map possP)=false:=badW_false.2 fun x hx=>by
 obtain⟨p,hp,rfl⟩:=List.mem_map.1 hx;have:=h.p p hp;refine(vldW_iff _).2 ?_;show 0≤p.f0∧p.f0≤max p.f0 p.t1∧max p.f0 p.t1≤_;omega
def pauS (r:Ride) (t:Int):Bool:=inW t (sureW r) && hasW (r.pauses.map sureP) t
def ridS (r:Ride) (t:Int):Bool:=inW t (sureW r) && !hasW (r.pauses.map possP) t
structure SetOk (e:Int) (S:Int→Bool) (n:Nat) (c:List Win):Prop where
 ok:e=0→IsSet c S
 no:e≠0→c=[]
 n:c.length≤n
theorem SetOk.unique {e:Int} {S:Int→Bool} {n m:Nat} {u v:List Win} (h:SetOk e S n u) (k:SetOk e S m v):u=v:=by
 by_cases he:e=0
 ·exact(h.ok he).unique (k.ok he)
 ·rw[h.no he,k.no he]
def cnt (S:Int→Bool):Nat→Int
 |0=>0
 |n+1=>cnt S n+if S n then 1 else 0
theorem cnt_congr {S T:Int→Bool}:∀n:Nat,(∀t:Int,0≤t→t<n→S t=T t)→cnt S n=cnt T n
 |0,_ =>rfl
 |n+1,h=>by
  have h1:=cnt_congr n fun t h0 h1=>h t h0 (by omega);have h2:=h n (by omega) (by omega);simp only[cnt,h1,h2]
theorem cnt_add {S A B:Int→Bool}:∀n:Nat,(∀t:Int,0≤t→t<n→(S t=(A t || B t))∧(A t && B t)=false)→cnt S n=cnt A n+cnt B n
 |0,_ =>rfl
 |n+1,h=>by
  have h1:=cnt_add (S:=S) (A:=A) (B:=B) n fun t h0 h1=>h t h0 (by omega);obtain⟨h2,h3⟩:=h n (by omega) (by omega);simp only[cnt,h1,h2];revert h3
  cases A n<;>cases B n<;>simp<;>omega
theorem cnt_le {S T:Int→Bool}:∀n:Nat,(∀t:Int,0≤t→t<n→S t=true→T t=true)→cnt S n≤cnt T n
 |0,_ =>by simp[cnt]
 |n+1,h=>by
  have h1:=cnt_le (S:=S) (T:=T) n fun t h0 h1=>h t h0 (by omega);have h2:=h n (by omega) (by omega);simp only[cnt];revert h2
  cases S n<;>cases T n<;>simp<;>omega
theorem cnt_none {S:Int→Bool}:∀n:Nat,(∀t:Int,0≤t→t<n→S t=false)→cnt S n=0
 |0,_ =>rfl
 |n+1,h=>by
  have h1:=cnt_none (S:=S) n fun t h0 h1=>h t h0 (by omega);have h2:=h n (by omega) (by omega);simp only[cnt,h1,h2];simp
theorem cnt_win (x:Win) (h0:0≤x.f) (h1:x.f≤x.t):∀n:Nat,cnt (fun t=>inW t x) n=min x.t n-min x.f n
 |0=>by simp[cnt];omega
 |n+1=>by
  have ih:=cnt_win x h0 h1 n;simp only[cnt,ih];by_cases hi:inW n x=true
  ·rw[if_pos hi]
   have:=(inW_iff _ _).1 hi;omega
  ·rw[if_neg hi]
   have:¬(x.f≤(n:Int)∧(n:Int)<x.t):=fun h=>hi ((inW_iff _ _).2 h);omega
theorem lenW_cnt:∀{u:List Win},Norm u→lenW u=cnt (hasW u) 4294944000
 |[],_ =>(cnt_none _ fun t _ _ =>rfl).symm
 |x :: u,hn=>by
  have hx:=hn.v x (by simp);have e1:lenW (x :: u)=(x.t-x.f)+lenW u:=by simp[lenW]
  have h1:=cnt_win x hx.1 (by omega) 4294944000;rw[e1,lenW_cnt hn.tail,cnt_add (S:=hasW (x :: u)) (A:=fun t=>inW t x) (B:=hasW u) _ fun t _ _ =>⟨rfl,by
   cases hi:inW t x
   ·rfl
   ·have:=(inW_iff _ _).1 hi
    rw[norm_before hn (show t≤x.t by omega)];rfl⟩,h1]
  omega
theorem IsSet.len {u:List Win} {S:Int→Bool} (h:IsSet u S):lenW u=cnt S 4294944000:=by
 rw[lenW_cnt h.n];exact cnt_congr _ fun t _ _ =>h.h t
end Go.Proofs.YtmmlmhnjjfnpnaaGreat
namespace Go.Proofs.YtmmlmhnjjfnpnaaGreat
theorem lenS_is (S:Int→Bool):∃n:Int,n=cnt S 4294944000:=⟨_,rfl⟩
noncomputable def lenS (S:Int→Bool):Int:=Classical.choose (lenS_is S)
theorem lenS_eq (S:Int→Bool):lenS S=cnt S 4294944000:=Classical.choose_spec (lenS_is S)
noncomputable def secR (r:Ride):Int:=if ivE r=0 then lenS (ridS r)else 0
noncomputable def secP (r:Ride):Int:=if ivE r=0 then lenS (pauS r)else 0
theorem cnt_range (S:Int→Bool):∀n:Nat,0≤cnt S n∧cnt S n≤n
 |0=>⟨Int.le_refl _,Int.le_refl _⟩
 |n+1=>by
  have:=cnt_range S n;simp only[cnt];split<;>omega
theorem lenS_bd (S:Int→Bool):0≤lenS S∧lenS S≤4294944000:=by
 rw[lenS_eq];exact cnt_range S 4294944000
theorem secR_bd (r:Ride):0≤secR r∧secR r≤4294944000:=by
 unfold secR;split
 ·exact lenS_bd _
 ·omega
theorem secP_bd (r:Ride):0≤secP r∧secP r≤4294944000:=by
 unfold secP;split
 ·exact lenS_bd _
 ·omega
end Go.Proofs.YtmmlmhnjjfnpnaaGreat
namespace Go.Proofs.YtmmlmhnjjfnpnaaGreat
open Go.RowKit
structure Tru (f:Int) (ps:List Pse) (T:List Win) (last:Int):Prop where
 len:T.length=ps.length
 p:∀(i:Nat) (p:Pse) (x:Win),ps[i]? =some p→T[i]? =some x→p.f0≤x.f∧x.f≤p.f1∧p.t0≤x.t∧x.t≤p.t1∧x.f≤x.t
 lo:f≤last
 lx:∀x∈T,f≤x.f∧x.t≤last
theorem tru_start (f:Int):Tru f [] [] f:=⟨rfl,fun i p x h=>by simp at h,Int.le_refl _,fun x h=>by cases h⟩
theorem Tru.step {f:Int} {ps:List Pse} {T:List Win} {last:Int} (h:Tru f ps T last) {p:Pse} {x:Win} (h0:p.f0≤x.f∧x.f≤p.f1∧p.t0≤x.t∧x.t≤p.t1) (h1:last≤x.f) (h2:x.f≤x.t):Tru f (ps ++ [p]) (T ++ [x]) x.t:=by
 have hl:=h.lo;refine⟨by simp[h.len],fun i q y hq hy=>?_,by omega,fun y hy=>?_⟩
 ·by_cases hi:i<ps.length
  ·rw[List.getElem?_append_left hi]at hq
   rw[List.getElem?_append_left (by rw[h.len];exact hi)]at hy;exact h.p i q y hq hy
  ·rw[List.getElem?_append_right (by omega)]at hq
   rw[List.getElem?_append_right (by rw[h.len];omega)]at hy;have hj:=(List.getElem?_eq_some_iff.1 hq).1;simp at hj;obtain rfl:i=ps.length:=by omega
   rw[h.len]at hy;simp at hq hy;subst hq;subst hy;exact⟨h0.1,h0.2.1,h0.2.2.1,h0.2.2.2,h2⟩
 ·rcases List.mem_append.1 hy with hy|hy
  ·have:=h.lx y hy;omega
  ·simp at hy;subst hy;omega
structure TruOk (r:Ride) (V:Win) (T:List Win):Prop where
 a:r.s0≤V.f∧V.f≤r.s1
 b:r.e0≤V.t∧V.t≤r.e1
 t:∃last,Tru V.f r.pauses T last∧last≤V.t
section
variable {r:Ride} {V:Win} {T:List Win}
theorem TruOk.at (h:TruOk r V T) {x:Win} (hx:x∈T):∃p∈r.pauses,p.f0≤x.f∧x.f≤p.f1∧p.t0≤x.t∧x.t≤p.t1∧x.f≤x.t∧V.f≤x.f∧x.t≤V.t:=by
 obtain⟨last,hT,hl⟩:=h.t;obtain⟨i,hi⟩:=List.mem_iff_getElem?.1 hx;obtain⟨p,hp⟩:∃p,r.pauses[i]? =some p:=⟨_,List.getElem?_eq_getElem (by rw[←hT.len];exact(List.getElem?_eq_some_iff.1 hi).1)⟩
 obtain⟨h1,h2,h3,h4,h5⟩:=hT.p i p x hp hi;have:=hT.lx x hx;exact⟨p,List.mem_of_getElem? hp,h1,h2,h3,h4,h5,by omega,by omega⟩
theorem TruOk.of (h:TruOk r V T) {p:Pse} (hp:p∈r.pauses):∃x∈T,p.f0≤x.f∧x.f≤p.f1∧p.t0≤x.t∧x.t≤p.t1:=by
 obtain⟨last,hT,hl⟩:=h.t;obtain⟨i,hi⟩:=List.mem_iff_getElem?.1 hp;obtain⟨x,hx⟩:∃x,T[i]? =some x:=⟨_,List.getElem?_eq_getElem (by rw[hT.len];exact(List.getElem?_eq_some_iff.1 hi).1)⟩
 obtain⟨h1,h2,h3,h4,h5⟩:=hT.p i p x hi hx;exact⟨x,List.mem_of_getElem? hx,h1,h2,h3,h4⟩
theorem TruOk.le (h:TruOk r V T):V.f≤V.t:=by
 obtain⟨last,hT,hl⟩:=h.t;have:=hT.lo;omega
theorem TruOk.vld (h:TruOk r V T) (he:ivE r=0):vldW V=true:=by
 have hr:=rideOk_of he;have:=hr.s;have:=hr.e;have:=h.a;have:=h.b;have:=h.le;rw[vldW_iff];omega
theorem TruOk.sure (h:TruOk r V T) (he:ivE r=0) (t:Int) (ht:inW t (sureW r)=true):inW t V=true:=by
 rw[show sureW r=⟨r.s1,max r.s1 r.e0⟩from if_pos he,inW_iff]at ht;have h1:r.s1≤t:=ht.1;have h2:t<max r.s1 r.e0:=ht.2;have:=h.a;have:=h.b;rw[inW_iff];omega
theorem TruOk.pau (h:TruOk r V T) (t:Int) (ht:pauS r t=true):hasW T t=true:=by
 unfold pauS at ht;rw[Bool.and_eq_true,hasW_iff]at ht;obtain⟨_,x,hx,h1,h2⟩:=ht;obtain⟨p,hp,rfl⟩:=List.mem_map.1 hx;obtain⟨y,hy,k⟩:=h.of hp;have h1':p.f1≤t:=h1;have h2':t<max p.f1 p.t0:=h2;exact hasW_iff.2 ⟨y,hy,by omega,by omega⟩
theorem TruOk.rid (h:TruOk r V T) (t:Int) (ht:ridS r t=true):hasW T t=false:=by
 cases hh:hasW T t
 ·rfl
 ·obtain⟨x,hx,h1,h2⟩:=hasW_iff.1 hh
  obtain⟨p,hp,k⟩:=h.at hx;unfold ridS at ht;rw[Bool.and_eq_true,Bool.not_eq_true']at ht;have:hasW (r.pauses.map possP) t=true:=hasW_iff.2 ⟨possP p,List.mem_map.2 ⟨p,hp,rfl⟩,by show p.f0≤t;omega,by show t<max p.f0 p.t1;omega⟩;rw[this]at ht
  cases ht.2
theorem TruOk.inV (h:TruOk r V T) (t:Int) (ht:hasW T t=true):inW t V=true:=by
 obtain⟨x,hx,h1,h2⟩:=hasW_iff.1 ht;obtain⟨p,hp,k⟩:=h.at hx;rw[inW_iff];omega
theorem TruOk.secs (h:TruOk r V T) (he:ivE r=0):cnt (ridS r) 4294944000≤V.t-V.f-cnt (hasW T) 4294944000∧cnt (pauS r) 4294944000≤cnt (hasW T) 4294944000:=by
 have hv:=(vldW_iff V).1 (h.vld he);have h1:=cnt_win V hv.1 hv.2.1 4294944000;refine⟨?_,cnt_le _ fun t _ _ =>h.pau t⟩;have h2:=cnt_add (S:=fun t=>ridS r t || hasW T t) (A:=ridS r) (B:=hasW T) 4294944000 fun t _ _ =>⟨rfl,by
  cases hr:ridS r t
  ·rfl
  ·rw[h.rid t hr];rfl⟩
 have h3:=cnt_le (S:=fun t=>ridS r t || hasW T t) (T:=fun t=>inW t V) 4294944000 fun t _ _ ht=>by
  rw[Bool.or_eq_true]at ht;rcases ht with ht|ht
  ·refine h.sure he t ?_
   unfold ridS at ht;rw[Bool.and_eq_true]at ht;exact ht.1
  ·exact h.inV t ht
 omega
end
end Go.Proofs.YtmmlmhnjjfnpnaaGreat
