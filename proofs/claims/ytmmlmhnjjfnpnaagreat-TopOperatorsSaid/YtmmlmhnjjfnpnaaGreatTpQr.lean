/- Texts that belong together. -/
import Derived.Test.YtmmlmhnjjfnpnaaGreatTpQc
import Derived.Test.YtmmlmhnjjfnpnaaGreatTpQe
import Derived.Test.YtmmlmhnjjfnpnaaGreatProg
set_option linter.all false
namespace Go.Proofs.YtmmlmhnjjfnpnaaGreat
set_option maxRecDepth 200000
set_option maxHeartbeats 64000000
section
def P7 (T S w:Nat):Nat:=T*w/S
def S5 (T S:Nat) (ws:List Nat):Nat:=(ws.map (P7 T S)).sum
theorem uK (T S w:Nat) (ws:List Nat):S5 T S (w :: ws)=P7 T S w+S5 T S ws:=by simp[S5]
theorem Af8 {T S:Nat} (hS:0<S):∀ws:List Nat,S*S5 T S ws≤T*ws.sum∧T*ws.sum≤S*(S5 T S ws+ws.length)
 |[]=>by simp[S5]
 |w :: ws=>by
  obtain⟨h1,h2⟩:=Af8 (T:=T) hS ws;have h3:=Nat.div_add_mod (T*w) S;have h4:=Nat.mod_lt (T*w) hS;rw[uK,List.sum_cons,List.length_cons];unfold P7;rw[Nat.mul_add]at h2;rw[Nat.mul_add,Nat.mul_add,Nat.mul_add,Nat.mul_add,Nat.mul_add,Nat.mul_one];generalize S*(T*w/S)=q at *;generalize T*w=t at *;omega
theorem uL {T:Nat} {ws:List Nat} (hS:0<ws.sum):S5 T ws.sum ws≤T∧T≤S5 T ws.sum ws+ws.length:=by
 obtain⟨h1,h2⟩:=Af8 (T:=T) hS ws;rw[Nat.mul_comm T]at h1 h2;exact⟨Nat.le_of_mul_le_mul_left h1 hS,Nat.le_of_mul_le_mul_left h2 hS⟩
theorem AO9 (T S:Nat) (ws:List Nat) (w:Nat):S5 T S (ws ++ [w])=S5 T S ws+P7 T S w:=by simp[S5]
theorem gY {α:Type} {l:List α} {k:Nat} {a:α} (h:l[k]? =some a):l.take (k+1)=l.take k ++ [a]:=by
 rw[List.take_add_one,h];rfl
theorem AP0 {T S:Nat} {ws:List Nat} {k w:Nat} (h:ws[k]? =some w):S5 T S (ws.take (k+1))=S5 T S (ws.take k)+P7 T S w:=by
 rw[gY h,AO9]
theorem Af9 (T S:Nat):∀(ws:List Nat) (k:Nat),S5 T S (ws.take k)≤S5 T S ws
 |[],k=>by simp[S5]
 |w :: ws,0=>by simp[S5]
 |w :: ws,k+1=>by rw[List.take_succ_cons,uK,uK];exact Nat.add_le_add_left (Af9 T S ws k) _
theorem mL:∀{l:List Nat} {i p:Nat} (d:Nat),l[i]? =some p→(l.set i (p+d)).sum=l.sum+d
 |[],i,p,d,h=>by simp at h
 |a :: l,0,p,d,h=>by
  obtain rfl:a=p:=by simpa using h
  rw[List.set_cons_zero,List.sum_cons,List.sum_cons];omega
 |a :: l,i+1,p,d,h=>by
  rw[List.set_cons_succ,List.sum_cons,List.sum_cons,mL d (by simpa using h)];omega
theorem kM:∀(l:List Nat) (k:Nat),(l.take k).sum≤l.sum
 |[],k=>by simp
 |a :: l,0=>by simp
 |a :: l,k+1=>by rw[List.take_succ_cons,List.sum_cons,List.sum_cons];exact Nat.add_le_add_left (kM l k) _
theorem jB {l:List Nat} {i a:Nat} (h:l[i]? =some a):a≤l.sum:=by
 have h1:=kM l (i+1);rw[gY h,List.sum_append]at h1;simp at h1;omega
structure gZ (T:Nat) (ws P:List Nat):Prop where
 n:P.length=ws.length
 s:P.sum=T
 f:∀i p w:Nat,P[i]? =some p→ws[i]? =some w→P7 T ws.sum w≤p
structure eX (T:Nat) (ws P:List Nat) (m:Nat):Prop where
 n:P.length=ws.length
 s:P.sum+m=T
 f:∀i p w:Nat,P[i]? =some p→ws[i]? =some w→P7 T ws.sum w≤p
theorem eX.give {T:Nat} {ws P:List Nat} {m i p:Nat} (h:eX T ws P (m+1)) (hi:P[i]? =some p):eX T ws (P.set i (p+1)) m:=by
 refine⟨by rw[List.length_set];exact h.n,by rw[mL 1 hi];have:=h.s;omega,fun j q w hj hw=>?_⟩;rw[List.getElem?_set]at hj;by_cases hij:i=j
 ·subst hij
  rw[if_pos rfl,if_pos (A5 hi).1]at hj;obtain rfl:p+1=q:=by simpa using hj
  exact Nat.le_succ_of_le (h.f i p w hi hw)
 ·rw[if_neg hij]at hj
  exact h.f j q w hj hw
theorem eX.done {T:Nat} {ws P:List Nat} (h:eX T ws P 0):gZ T ws P:=⟨h.n,h.s,h.f⟩
theorem AP1 {T:Nat} {ws:List Nat} (hS:0<ws.sum):eX T ws (ws.map (P7 T ws.sum)) (T-S5 T ws.sum ws):=by
 refine⟨by simp,by have:=(uL (T:=T) hS).1;unfold S5 at this⊢;omega,fun i p w hi hw=>?_⟩;rw[List.getElem?_map,hw]at hi;obtain rfl:P7 T ws.sum w=p:=by simpa using hi
 exact Nat.le_refl _
theorem AP2 {ws:List Nat}:eX 0 ws (List.replicate ws.length 0) 0:=
 ⟨by simp,by simp,fun i p w _ _ =>by simp[P7]⟩
theorem AP3 {T a b:Nat} {P:List Nat} (h:gZ T [a,b] P):∃x y,P=[x,y]∧x+y=T∧P7 T (a+b) a≤x∧P7 T (a+b) b≤y:=by
 obtain⟨h1,h2,h3⟩:=h;match P,h1 with
 |[x,y],_ =>exact⟨x,y,rfl,by simpa using h2,by simpa using h3 0 x a rfl rfl,by simpa using h3 1 y b rfl rfl⟩
theorem AP4 {T a:Nat} {P:List Nat} (h:gZ T [a] P):P=[T]:=by
 obtain⟨h1,h2,_⟩:=h;match P,h1 with
 |[x],_ =>rw[show x=T from by simpa using h2]
end
section
open Go.RowKit
structure C7 where
 o:Int
 b:Int
 f:Int
 t:Int
 s:Int
def C7.cs (c:C7):List Value:=[.int .i64 c.o,.int .i64 c.b,.int .i64 c.f,.int .i64 c.t,.int .i64 c.s]
theorem C7.len (c:C7):c.cs.length=5:=rfl
structure bX where
 b:Int
 t:Int
 o:Int
 s:Int
def bX.cs (c:bX):List Value:=[.int .i64 c.b,.int .i64 c.t,.int .i64 c.o,.int .i64 c.s]
theorem bX.len (c:bX):c.cs.length=4:=rfl
def bX.In (c:bX):Prop:=U0 c.b∧U0 c.t∧U0 c.o∧U0 c.s
def C7.inB (c:C7):Bool:=decide (0≤c.o) && decide (c.o<8) && decide (0≤c.b) && decide (c.b<128) && decide (0≤c.f) && decide (c.f<c.t) && decide (c.t≤4294944000) && decide (0≤c.s) && decide (c.s≤1000)
theorem C7.inB_iff (c:C7):c.inB=true↔(0≤c.o∧c.o<8)∧(0≤c.b∧c.b<128)∧0≤c.f∧c.f<c.t∧c.t≤4294944000∧0≤c.s∧c.s≤1000:=by
 unfold C7.inB;simp only[Bool.and_eq_true,decide_eq_true_eq];omega
def cS (x c:C7):Bool:=decide (x.b=c.b) && decide (x.f<c.t) && decide (c.f<x.t)
theorem eY (x c:C7):cS x c=false↔(x.b=c.b→x.f<c.t→x.t≤c.f):=by
 unfold cS;rw[←Bool.not_eq_true,Bool.and_eq_true,Bool.and_eq_true,decide_eq_true_eq,decide_eq_true_eq,decide_eq_true_eq];omega
structure o4 (l:List C7):Prop where
 n:l.length≤512
 i:∀(k:Nat) (c:C7),l[k]? =some c→c.inB=true
 p:∀(j k:Nat) (x c:C7),j<k→l[j]? =some x→l[k]? =some c→cS x c=false
def eA (b t:Int) (c:C7):Bool:=decide (c.b=b) && decide (c.f≤t) && decide (t<c.t)
theorem Ag0 (b t:Int) (c:C7):eA b t c=true↔c.b=b∧c.f≤t∧t<c.t:=by
 unfold eA;rw[Bool.and_eq_true,Bool.and_eq_true,decide_eq_true_eq,decide_eq_true_eq,decide_eq_true_eq,and_assoc]
def pN (l:List C7) (b t:Int) (v:Int):Prop:=
 (v= -1∧∀c∈l,eA b t c=false)∨∃(k:Nat) (c:C7),v=k∧l[k]? =some c∧eA b t c=true∧∀(j:Nat) (x:C7),j<k→l[j]? =some x→eA b t x=false
def mM (l:List C7) (k:Nat) (c:C7) (b t o s:Int):List C7:=(if c.f=t then l.eraseIdx k else l.set k {c with t:=t}) ++ [⟨o,b,t,c.t,s⟩]
theorem o4.pair {l:List C7} (h:o4 l):l.Pairwise fun x c=>cS x c=false:=by
 rw[List.pairwise_iff_getElem];intro i j hi hj hij;exact h.p i j _ _ hij (A4 hi) (A4 hj)
theorem Ag1 {l:List C7} (hn:l.length≤512) (hi:∀c∈l,c.inB=true) (hp:l.Pairwise fun x c=>cS x c=false):o4 l:=by
 refine⟨hn,fun k c hk=>hi c (A0 hk),fun j k x c hjk hj hk=>?_⟩;rw[List.pairwise_iff_getElem]at hp;obtain⟨h1,rfl⟩:=A5 hj;obtain⟨h2,rfl⟩:=A5 hk;exact hp j k h1 h2 hjk
theorem AP5 {x c:C7} (h:cS x c=false) (hx:x.f<x.t) (hc:c.f<c.t):cS c x=false:=by
 rw[eY]at *;intro h1 h2;have:=h h1.symm;omega
theorem o4.other {l:List C7} (h:o4 l) {j k:Nat} {x c:C7} (hj:l[j]? =some x) (hk:l[k]? =some c) (hne:j≠k):cS x c=false:=by
 rcases Nat.lt_or_gt_of_ne hne with h1|h1
 ·exact h.p j k x c h1 hj hk
 ·have h2:=(C7.inB_iff _).1 (h.i j x hj)
  have h3:=(C7.inB_iff _).1 (h.i k c hk);exact AP5 (h.p k j c x h1 hk hj) (by omega) (by omega)
theorem uM {α:Type}:∀{l:List α} {k:Nat} {x:α},x∈l.eraseIdx k→∃j,j≠k∧l[j]? =some x
 |[],k,x,h=>by simp at h
 |a :: l,0,x,h=>by
  rw[List.eraseIdx_cons_zero]at h;obtain⟨j,hj,rfl⟩:=List.mem_iff_getElem.1 h;exact⟨j+1,by omega,by rw[List.getElem?_cons_succ];exact A4 hj⟩
 |a :: l,k+1,x,h=>by
  rw[List.eraseIdx_cons_succ,List.mem_cons]at h;rcases h with rfl|h
  ·exact⟨0,by omega,rfl⟩
  ·obtain⟨j,hj,he⟩:=uM h
   exact⟨j+1,by omega,by rw[List.getElem?_cons_succ];exact he⟩
theorem AP6 {l:List C7} (h:o4 l) {k:Nat} {c:C7} (hk:l[k]? =some c) {b t o s:Int} (hc:eA b t c=true) (ho:0≤o∧o<8) (hs:0≤s∧s≤1000) (ht:0≤t∧t≤4294943999) (hn:(mM l k c b t o s).length≤512):o4 (mM l k c b t o s):=by
 obtain⟨hb,h1,h2⟩:=(Ag0 _ _ _).1 hc;have hci:=(C7.inB_iff _).1 (h.i k c hk);have hni:(C7.mk o b t c.t s).inB=true:=(C7.inB_iff _).2 ⟨ho,by subst hb;exact hci.2.1,ht.1,h2,hci.2.2.2.2.1,hs⟩;have hnew:∀(j:Nat) (x:C7),j≠k→l[j]? =some x→cS x ⟨o,b,t,c.t,s⟩=false:=fun j x hne hj=>by
  have h3:=(eY _ _).1 (h.other hj hk hne);rw[eY];intro h4 h5;have h6:=h3 (by rw[h4,hb]) h5;show x.t≤t;omega
 unfold mM at hn⊢;refine Ag1 hn (fun x hx=>?_) ?_
 ·rw[List.mem_append,List.mem_singleton]at hx
  rcases hx with hx|rfl
  ·split at hx
   ·obtain⟨j,_,hj⟩:=uM hx
    exact h.i j x hj
   ·rename_i hft
    rcases List.mem_or_eq_of_mem_set hx with hx|rfl
    ·obtain⟨j,hj,rfl⟩:=List.mem_iff_getElem.1 hx
     exact h.i j _ (A4 hj)
    ·exact(C7.inB_iff _).2 ⟨hci.1,hci.2.1,hci.2.2.1,by show c.f<t;omega,by show t≤4294944000;omega,hci.2.2.2.2.2⟩
  ·exact hni
 ·rw[List.pairwise_append]
  refine⟨?_,List.pairwise_singleton _ _,fun x hx y hy=>?_⟩
  ·split
   ·exact h.pair.sublist (List.eraseIdx_sublist _ _)
   ·rename_i hft
    rw[List.pairwise_iff_getElem];intro i j hi hj hij;rw[List.length_set]at hi hj;rw[List.getElem_set,List.getElem_set];by_cases e1:k=i
    ·rw[if_pos e1,if_neg (by omega)]
     have h3:=(eY _ _).1 (h.other hk (A4 hj) (by omega));rw[eY];intro h4 h5;have:=h3 h4 h5;show t≤l[j].f;omega
    ·rw[if_neg e1]
     by_cases e2:k=j
     ·rw[if_pos e2]
      have h3:=(eY _ _).1 (h.other (A4 hi) hk (by omega));rw[eY];intro h4 (h5:l[i].f<t);have:=h3 h4 (by omega);show l[i].t≤c.f;omega
     ·rw[if_neg e2]
      exact h.p i j _ _ hij (A4 hi) (A4 hj)
  ·obtain rfl:=List.mem_singleton.1 hy
   split at hx
   ·obtain⟨j,hne,hj⟩:=uM hx
    exact hnew j x hne hj
   ·obtain⟨j,hj,rfl⟩:=List.mem_iff_getElem.1 hx
    rw[List.length_set]at hj;rw[List.getElem_set];by_cases e1:k=j
    ·rw[if_pos e1,eY]
     intro _ (h5:c.f<c.t);show t≤t;omega
    ·rw[if_neg e1]
     exact hnew j _ (by omega) (A4 hj)
end
section
open Go.RowKit
structure E9 where
 a:Int
 n:Int
def E9.cs (x:E9):List Value:=[.int .i64 x.a,.int .i64 x.n]
theorem E9.len (x:E9):x.cs.length=2:=rfl
inductive eB (l:List C7) (L:List E0) (P:List Nat):Nat→List Nat→Prop
 |zero:eB l L P 0 (List.replicate 9 0)
 |city (k:Nat) (S:List Nat) (g:E0) (p:Nat) (s:Nat):eB l L P k S→L[k]? =some g→P[k]? =some p→(∀c∈l,eA g.b g.f0 c=false)→S[0]? =some s→eB l L P (k+1) (S.set 0 (s+p))
 |both (k:Nat) (S:List Nat) (g:E0) (p:Nat) (s r i:Nat) (c:C7) (x y j:Nat):eB l L P k S→L[k]? =some g→P[k]? =some p→l[j]? =some c→eA g.b g.f0 c=true→c.o=(i:Int)→x+y=p→P7 p 1000 c.s.toNat≤x→P7 p 1000 (1000-c.s).toNat≤y→S[1+i]? =some r→(S.set (1+i) (r+x))[0]? =some s→eB l L P (k+1) ((S.set (1+i) (r+x)).set 0 (s+y))
theorem eB.facts {l:List C7} {L:List E0} {P:List Nat} {k:Nat} {S:List Nat} (h:eB l L P k S):S.length=9∧S.sum=(P.take k).sum:=by
 induction h with
 |zero=>exact⟨rfl,rfl⟩
 |city k S g p s _ _ hp _ hs ih=>
  refine⟨by rw[List.length_set];exact ih.1,?_⟩
  rw[mL p hs,ih.2,gY hp,List.sum_append];simp
 |both k S g p s r i c x y j _ _ hp _ _ _ hxy _ _ hr hs ih=>
  refine⟨by rw[List.length_set,List.length_set];exact ih.1,?_⟩
  rw[mL y hs,mL x hr,ih.2,gY hp,List.sum_append];simp;omega
def L9:Nat→List Nat→List E9
 | _,[]=>[]
 |k,s :: S=>if s=0 then L9 (k+1) S else⟨k,s⟩ :: L9 (k+1) S
def V0 (a:Int):List E9→Int
 |[]=>0
 |x :: l=>(if x.a=a then x.n else 0)+V0 a l
def dI:List E9→Int
 |[]=>0
 |x :: l=>x.n+dI l
theorem uN (a:Int):∀l m:List E9,V0 a (l ++ m)=V0 a l+V0 a m
 |[],m=>by simp[V0]
 |x :: l,m=>by rw[List.cons_append,V0,V0,uN a l m];omega
theorem Ag2:∀l m:List E9,dI (l ++ m)=dI l+dI m
 |[],m=>by simp[dI]
 |x :: l,m=>by rw[List.cons_append,dI,dI,Ag2 l m];omega
theorem uO:∀(S:List Nat) (k:Nat),dI (L9 k S)=(S.sum:Int)
 |[],k=>rfl
 |s :: S,k=>by
  rw[L9,List.sum_cons];split
  ·rename_i h;rw[uO S (k+1),h];simp
  ·rw[dI,uO S (k+1)];show(s:Int) + _ = _;omega
theorem pO:∀(S:List Nat) (k:Nat),(L9 k S).length≤S.length
 |[],k=>by simp[L9]
 |s :: S,k=>by
  have:=pO S (k+1);rw[L9];split<;>simp<;>omega
theorem pP:∀(S:List Nat) (k:Nat) (x:E9),x∈L9 k S→(k:Int)≤x.a∧x.a<k+S.length∧1≤x.n∧x.n≤(S.sum:Int)
 |[],k,x,h=>by simp[L9]at h
 |s :: S,k,x,h=>by
  rw[L9]at h;rw[List.length_cons,List.sum_cons];split at h
  ·have:=pP S (k+1) x h;omega
  ·rw[List.mem_cons]at h
   rcases h with rfl|h
   ·refine⟨Int.le_refl _,?_,?_,?_⟩
    ·show(k:Int) < _;omega
    ·show 1≤(s:Int);omega
    ·show(s:Int)≤_;omega
   ·have:=pP S (k+1) x h;omega
theorem Ag3:∀(S R:List Nat) (k:Nat),L9 k (S ++ R)=L9 k S ++ L9 (k+S.length) R
 |[],R,k=>by simp[L9]
 |s :: S,R,k=>by
  rw[List.cons_append,L9,L9,Ag3 S R (k+1),List.length_cons,show k+1+S.length=k+(S.length+1)from by omega];split<;>rfl
theorem AP7 {S:List Nat} {k s:Nat} (h:S[k]? =some s):L9 0 (S.take (k+1))=if s=0 then L9 0 (S.take k)else L9 0 (S.take k) ++ [⟨k,s⟩]:=by
 have hk:=(A5 h).1;rw[gY h,Ag3,List.length_take,Nat.min_eq_left (by omega),Nat.zero_add,L9,L9];split
 ·rw[List.append_nil]
 ·rfl
theorem Ag4:∀(S:List Nat) (k j:Nat),V0 (j:Int) (L9 k S)=if k≤j then((S.getD (j-k) 0:Nat):Int)else 0
 |[],k,j=>by simp[L9,V0]
 |s :: S,k,j=>by
  have ih:=Ag4 S (k+1) j;have hs:V0 (j:Int) (L9 k (s :: S))=(if k=j then(s:Int)else 0)+V0 (j:Int) (L9 (k+1) S):=by
   rw[L9];by_cases h:s=0
   ·rw[if_pos h,h];split<;>simp
   ·rw[if_neg h]
    show(if(k:Int)=(j:Int)then(s:Int)else 0) + _ = _;by_cases e:k=j
    ·rw[if_pos e,if_pos (by omega)]
    ·rw[if_neg e,if_neg (by omega)]
  rw[hs,ih];by_cases h1:k+1≤j
  ·rw[if_pos h1,if_neg (show¬k=j by omega),if_pos (show k≤j by omega),show j-k=(j-(k+1))+1 from by omega,List.getD_cons_succ,Int.zero_add]
  ·rw[if_neg h1]
   by_cases h2:k=j
   ·subst h2
    rw[if_pos rfl,if_pos (Nat.le_refl _),Nat.sub_self,List.getD_cons_zero];exact Int.add_zero _
   ·rw[if_neg h2,if_neg (show¬k≤j by omega)];rfl
def S1 (a:Int):List (List E9)→Int
 |[]=>0
 |e :: es=>V0 a e+S1 a es
theorem mN (a:Int):∀l m:List (List E9),S1 a (l ++ m)=S1 a l+S1 a m
 |[],m=>by simp[S1]
 |x :: l,m=>by rw[List.cons_append,S1,S1,mN a l m];omega
def aD:Nat→List (List E9)→Int
 |0,_ =>0
 |k+1,es=>aD k es+S1 (k:Int) es
inductive kN:List (List E9)→Int→Prop
 |nil:kN [] 0
 |snoc (es:List (List E9)) (paid:Int) (S:List Nat) (T:Nat):kN es paid→S.length=9→S.sum=T→0<T→kN (es ++ [L9 0 S ++ [⟨9,-(T:Int)⟩]]) (paid+T)
theorem Ag5 {S:List Nat} (h:S.length=9):∃a b c d e f g i j,S=[a,b,c,d,e,f,g,i,j]:=by
 match S,h with
 |[a,b,c,d,e,f,g,i,j],_ =>exact⟨a,b,c,d,e,f,g,i,j,rfl⟩
theorem uP (S:List Nat) (T:Int) (j:Nat):S1 (j:Int) [L9 0 S ++ [⟨9,T⟩]]=((S.getD j 0:Nat):Int)+if j=9 then T else 0:=by
 rw[S1,S1,uN,Ag4,if_pos (Nat.zero_le _),Nat.sub_zero,V0,V0];by_cases h:j=9
 ·subst h;simp
 ·rw[if_neg h,if_neg (by show¬(9:Int)=(j:Int);omega)];omega
theorem AP8 {S:List Nat} {T:Nat} (h:S.length=9) (hs:S.sum=T):aD 9 [L9 0 S ++ [⟨9,-(T:Int)⟩]]=T∧S1 9 [L9 0 S ++ [⟨9,-(T:Int)⟩]]= -(T:Int)∧∀j:Nat,j<9→0≤S1 (j:Int) [L9 0 S ++ [⟨9,-(T:Int)⟩]]:=by
 refine⟨?_,?_,fun j hj=>?_⟩
 ·obtain⟨a,b,c,d,e,f,g,i,j,rfl⟩:=Ag5 h
  have hb:=uP [a,b,c,d,e,f,g,i,j] (-(T:Int));simp only[aD,hb];simp at hs⊢;omega
 ·have:=uP S (-(T:Int)) 9
  rw[show((9:Nat):Int)=9 from rfl]at this;rw[this,A6,List.getElem?_eq_none (by omega)];simp
 ·rw[uP,if_neg (by omega)];omega
theorem kN.facts {es:List (List E9)} {paid:Int} (h:kN es paid):aD 9 es=paid∧S1 9 es= -paid∧∀j:Nat,j<9→0≤S1 (j:Int) es:=by
 induction h with
 |nil=>exact⟨rfl,rfl,fun j _ =>Int.le_refl _⟩
 |snoc es paid S T _ h1 h2 _ ih=>
  obtain⟨k1,k2,k3⟩:=AP8 h1 h2
  obtain⟨i1,i2,i3⟩:=ih
  refine⟨?_,by rw[mN,i2,k2];omega,fun j hj=>by rw[mN];have:=i3 j hj;have:=k3 j hj;omega⟩
  have ha:∀(k:Nat) (l m:List (List E9)),aD k (l ++ m)=aD k l+aD k m:=by
   intro k l m;induction k with
   |zero=>rfl
   |succ k ih=>rw[aD,aD,aD,ih,mN];omega
  rw[ha,i1,k1]
end
section
open Go.RowKit
structure N5 (n g:Nat) (w w':World):Prop where
 k:B7 (fun b=>b=g) w w'
 v:∃o:Nat→Nat,(∀j,j<n→o j<n)∧K6 w' g n (fun j=>.int .i64 (o j))
theorem N5.put {n g:Nat} {w w':World} (h:N5 n g w w') {i m:Nat} (hi:i<n) (hm:m<n):N5 n g w (w'.setCell ⟨g,i,none⟩ (.int .i64 m)):=by
 obtain⟨o,ho,hV⟩:=h.v;have h1:=hV.set (f':=fun k=>.int .i64 ((if k=i then m else o k:Nat):Int)) hi (.int .i64 m) (by simp) (fun k _ hk=>by simp[hk]);refine⟨h.k.step (B7.set _ _ _ rfl),_,fun k hk=>?_,h1⟩;split
 ·exact hm
 ·exact ho k hk
theorem N5.to {n g:Nat} {w w' W:World} (h:N5 n g w w') (hW:∃z:A7 w',W=z.w):N5 n g w W:=
 ⟨h.k.to hW,h.v.imp fun _ ho=>⟨ho.1,ho.2.to hW⟩⟩
theorem N5.at {n g:Nat} {w w':World} (h:N5 n g w w') {i:Nat} (hi:i<n):∃m:Nat,m<n∧w'.cell? ⟨g,i,none⟩=some (.int .i64 m):=by
 obtain⟨o,ho,hV⟩:=h.v;exact⟨o i,ho i hi,hV.c i hi⟩
theorem N5.free {n g:Nat} {w w':World} (h:N5 n g w w') {i:Nat} (hi:i<n):w'.frozen? ⟨g,i,none⟩=false:=by
 obtain⟨o,ho,hV⟩:=h.v;exact hV.f i hi
structure fY (n bx gr c:Nat) (r:Nat→Nat) (w:World):Prop where
 lt:bx<w.heap.size
 b:w.cell? ⟨bx,0,none⟩=some (.slice (some ⟨gr,0,none⟩) n c)
 v:K6 w gr n (fun j=>.int .i64 (r j))
theorem fY.keep {n bx gr c g:Nat} {r:Nat→Nat} {w w':World} (h:fY n bx gr c r w) (k:B7 (fun b=>b=g) w w') (h1:bx≠g) (h2:gr≠g):fY n bx gr c r w':=by
 refine⟨Nat.lt_of_lt_of_le h.lt k.size,?_,h.v.keep k.size (k.block gr h.v.lt h2)⟩;rw[World.cell?_of_block (w:=w) (a:=⟨bx,0,none⟩) (k.block bx h.lt h1)];exact h.b
end
section
open Go.RowKit
theorem AP9 (n g cap a b k:Nat) (hn:n≤1000) (ha:a+k≤b) (hb:b+k≤n) (f:Value) (w w1:World) (h:N5 n g w w1):
 Calls Tryz.prog 243 #[.slice (some ⟨g,0,none⟩) n cap,.int .i64 (a:Int),.int .i64 (b:Int),.int .i64 (k:Int),f] w1 fun o w'=>o= .returned (.tuple #[])∧N5 n g w w':=by
 have H:=A3 h;clear h;go_enter Tryz.func243,Tryz.ntmps243;go_wp2_with fail;go_loopw [10] (fun t wr=>∃i:Nat,i≤k∧t= .int .i64 (i:Int)∧N5 n g w wr) (fun t _ =>k-(intOf t).toNat)
 case atStart=>exact⟨0,by omega,rfl,H.out⟩
 case round=>
  obtain⟨i,hi,rfl,h⟩:=hrel;have H:=A3 h;by_cases hlt:i<k
  ·obtain⟨p,hp⟩:∃p,a+i=p:=⟨_,rfl⟩
   obtain⟨q,hq⟩:∃q,b+i=q:=⟨_,rfl⟩
   obtain⟨u,hu,hu1⟩:=H.out.at (i:=p) (by omega);obtain⟨v,hv,hv1⟩:=H.out.at (i:=q) (by omega);have hik:(i:Int)<(k:Int):=by omega
   have ep:IntKind.i64.wrap ((a:Int)+(i:Int))=(p:Int):=by rw[←hp];exact IntWalk.i64_in _ ⟨by omega,by omega⟩
   have eq:IntKind.i64.wrap ((b:Int)+(i:Int))=(q:Int):=by rw[←hq];exact IntWalk.i64_in _ ⟨by omega,by omega⟩
   have hpn:(p:Int)<(n:Int):=by omega
   have hqn:(q:Int)<(n:Int):=by omega
   clear h;go_upto_region 3 with fail;have f1:=H.out.free (i:=p) (by omega);have f2:=H.out.free (i:=q) (by omega);have hne:¬p=q:=by omega
   have hne2:¬q=p:=by omega
   have HS:=A3 (((H.out.put (i:=p) (m:=v) (by omega) hv).put (i:=q) (m:=u) (by omega) hu).to (A8.drew' (A8.self _)));go_region
   clear f1 f2 hne hne2 hu1 hv1 ep eq hpn hqn hp hq hu hv;go_wp2_with fail;go_roundw
   case rel=>exact⟨i+1,by omega,by go_num,HS.out⟩
   case measure=>simp[intOf];omega
  ·have hik:¬(i:Int)<(k:Int):=by omega
   go_wp2_with fail;exact M7 (v:=.tuple #[]) (by simp[results,Tryz.results243,go_sem]) rfl ⟨rfl,H.out⟩
theorem Ag6 (n bx gr c:Nat) (hn:n≤1000) (r:Nat→Nat) (w:World) (x:A7 w) (hr:fY n bx gr c r w) (a b:Nat) (ha:a<n) (hb:b<n):
 Calls Tryz.prog 116 #[.int .i64 (a:Int),.int .i64 (b:Int),.pointer (some ⟨bx,0,none⟩)] x.w fun o w'=>o= .returned (.int .i64 (wrap64 ((r b:Int)-(r a:Int))))∧∃y:A7 w,w'=y.w:=by
 have h0:∀y:A7 w,y.w.cell? ⟨bx,0,none⟩=some (.slice (some ⟨gr,0,none⟩) n c):=A7.cell hr.b hr.lt;have h1:∀y:A7 w,y.w.cell? ⟨gr,a,none⟩=some (.int .i64 (r a)):=A7.cell (hr.v.c a ha) hr.v.lt;have h2:∀y:A7 w,y.w.cell? ⟨gr,b,none⟩=some (.int .i64 (r b)):=A7.cell (hr.v.c b hb) hr.v.lt;have ha1:(a:Int)<(n:Int):=by omega
 have hb1:(b:Int)<(n:Int):=by omega
 clear hr;go_enter Tryz.func116,Tryz.ntmps116;go_upto_region 1 with fail;refine L5 (by kernel_rfl) (by kernel_rfl) ?_;repeat(go_big_quiet_step(fail))
 refine wpQuiet_nil ?_;rintro _ ⟨y,rfl⟩;go_wp2_with fail;go_ret;exact⟨rfl,y,rfl⟩
theorem AQ0 (n g cap a m b:Nat) (hn:n≤1000) (h1:a<m) (h2:m<b) (hb:b≤n) (f:Value) (w w1:World) (h:N5 n g w w1):
 Calls Tryz.prog 235 #[.slice (some ⟨g,0,none⟩) n cap,.int .i64 (a:Int),.int .i64 (m:Int),.int .i64 (b:Int),f] w1 fun o w'=>o= .returned (.tuple #[])∧N5 n g w w':=by
 have H:=A3 h;clear h;have HS:=A3 (fun(s t k:Nat) (e1:s+k≤t) (e2:t+k≤n) (w1:World) (h:N5 n g w w1)=>AP9 n g cap s t k hn e1 e2 f w w1 h);go_enter Tryz.func235,Tryz.ntmps235;go_wp2_with fail;go_loopw [10,11] (fun t u wr=>∃i j:Nat,0<i∧0<j∧i≤m∧m+j≤n∧t= .int .i64 (i:Int)∧u= .int .i64 (j:Int)∧N5 n g w wr) (fun t u _ =>(intOf t).toNat+(intOf u).toNat)
 case atStart=>exact⟨m-a,b-m,by omega,by omega,by omega,by omega,by go_num,by go_num,H.out⟩
 case round=>
  obtain⟨i,j,hi,hj,him,hjn,rfl,rfl,h⟩:=hrel;have H:=A3 h;clear h;obtain⟨s,hs⟩:∃s,m-i=s:=⟨_,rfl⟩
  have es:IntKind.i64.wrap ((m:Int)-(i:Int))=(s:Int):=by rw[show(m:Int)-(i:Int)=(s:Int)from by omega];exact IntWalk.i64_in _ ⟨by omega,by omega⟩
  by_cases hij:i=j
  ·subst hij
   have HC:=A3 (HS.out s m i (by omega) (by omega) wr H.out);go_wp2_with(go_at_call 243;(with_reducible refine HC.out.mono ?_);rintro _ w2 ⟨rfl,h⟩);exact M7 (v:=.tuple #[]) (by simp[results,Tryz.results235,go_sem]) rfl ⟨rfl,h⟩
  ·have hij1:¬(i:Int)=(j:Int):=by omega
   by_cases hlt:j<i
   ·have hlt1:(j:Int)<(i:Int):=by omega
    have HC:=A3 (HS.out s m j (by omega) (by omega) wr H.out);go_wp2_with(go_at_call 243;(with_reducible refine HC.out.mono ?_);rintro _ w2 ⟨rfl,h⟩);go_roundw
    case rel=>exact⟨i-j,j,by omega,by omega,by omega,by omega,by go_num,rfl,h⟩
    case measure=>simp[intOf];omega
   ·have hlt1:¬(j:Int)<(i:Int):=by omega
    obtain⟨t,ht⟩:∃t,m+j-i=t:=⟨_,rfl⟩
    have hc:=HS.out s t i (by omega) (by omega) wr H.out;rw[show(t:Int)=(m:Int)+(j:Int)-(i:Int)from by omega]at hc;have HC:=A3 hc;clear hc;go_wp2_with(go_at_call 243;(with_reducible refine HC.out.mono ?_);rintro _ w2 ⟨rfl,h⟩);go_roundw
    case rel=>exact⟨i,j-i,by omega,by omega,by omega,by omega,rfl,by go_num,h⟩
    case measure=>simp[intOf];omega
end
section
open Go.RowKit
theorem AQ1 (n g cap a b bx gr c:Nat) (hn:n≤1000) (hab:a≤b) (hb:b≤n) (r:Nat→Nat) (w w1:World) (hR:fY n bx gr c r w) (e1:bx≠g) (e2:gr≠g) (h:N5 n g w w1):
 Calls Tryz.prog 212 #[.slice (some ⟨g,0,none⟩) n cap,.int .i64 (a:Int),.int .i64 (b:Int),.func (.func 116) #[] #[.pointer (some ⟨bx,0,none⟩)]] w1 fun o w'=>o= .returned (.tuple #[])∧N5 n g w w':=by
 have H:=A3 h;have HK:=A3 (fun(W:World) (h:N5 n g w W) (u v:Nat) (hu:u<n) (hv:v<n) (x:A7 W)=>Ag6 n bx gr c hn r W x (hR.keep h.k e1 e2) u v hu hv);clear h hR e1 e2;go_enter Tryz.func212,Tryz.ntmps212;go_wp2_with fail;go_loopw [8] (fun t wr=>∃i:Nat,a+1≤i∧i≤n+1∧t= .int .i64 (i:Int)∧N5 n g w wr) (fun t _ =>b-(intOf t).toNat)
 case atStart=>exact⟨a+1,by omega,by omega,by go_num,H.out⟩
 case round=>
  clear H;obtain⟨i,hai,hin,rfl,h⟩:=hrel;have H:=A3 h;clear h;by_cases hib:i<b
  ·have Bx6:(i:Int)<(b:Int):=by omega
   go_wp2_with fail;go_loopw [9] (fun t wr=>∃j:Nat,a≤j∧j≤i∧t= .int .i64 (j:Int)∧N5 n g w wr) (fun t _ =>(intOf t).toNat)
   case atStart=>exact⟨i,by omega,by omega,rfl,H.out⟩
   case round=>
    clear H;obtain⟨j,haj,hji,rfl,h⟩:=hrel;have H:=A3 h;clear h;rename World=>wr
    obtain⟨y0,hy0⟩:=A7.refl wr;by_cases hja:a<j
    ·have Bx8:(a:Int)<(j:Int):=by omega
     have Bx9:decide (a<j)=true:=decide_eq_true hja;obtain⟨p,hp⟩:∃p,j=p+1:=⟨j-1,by omega⟩
     have ep:IntKind.i64.wrap ((j:Int)-1)=(p:Int):=by rw[show(j:Int)-1=(p:Int)from by omega];exact IntWalk.i64_in _ ⟨by omega,by omega⟩
     obtain⟨u,hu,hu1⟩:=H.out.at (i:=j) (by omega);obtain⟨v,hv,hv1⟩:=H.out.at (i:=p) (by omega);have c1:∀y:A7 wr,y.w.cell? ⟨g,j,none⟩=some (.int .i64 (u:Int)):=A7.cell hu1 (by obtain⟨o,_,hV⟩:=H.out.v;exact hV.lt);have c2:∀y:A7 wr,y.w.cell? ⟨g,p,none⟩=some (.int .i64 (v:Int)):=A7.cell hv1 (by obtain⟨o,_,hV⟩:=H.out.v;exact hV.lt);have hjn:(j:Int)<(n:Int):=by omega
     have hpn:(p:Int)<(n:Int):=by omega
     have HC:=HK.out wr H.out u v hu hv;obtain⟨z,hz⟩:∃z,wrap64 ((r v:Int)-(r u:Int))=z:=⟨_,rfl⟩
     rw[hz]at HC;replace HC:=A3 HC;have Hp:=A3 hp;have Hu1:=A3 hu1;have Hv1:=A3 hv1;clear hz hu1 hv1 hp;go_upto_region 4 with fail;rw[hy0];clear hy0;by_cases hz0:z<0
     ·have hz1:decide (z<0)=true:=decide_eq_true hz0
      refine L5 (by kernel_rfl) (by kernel_rfl) ?_;repeat(go_big_quiet_step((go_at_call 116;exact HC.out _)))
      refine wpQuiet_nil ?_;rintro _ ⟨y,rfl⟩;go_upto_region 6 with fail;have d1:=c1 y;have d2:=c2 y;have H2:=A3 (H.out.to ⟨y,rfl⟩);have f1:=H2.out.free (i:=j) (by omega);have f2:=H2.out.free (i:=p) (by have:=Hp.out;omega);have hne:¬j=p:=by have:=Hp.out;omega
      have hne2:¬p=j:=by have:=Hp.out;omega
      have HS:=A3 (((H2.out.put (i:=j) (m:=v) (by omega) hv).put (i:=p) (m:=u) (by have:=Hp.out;omega) hu).to (A8.drew' (A8.self _)));clear c1 c2;go_region
      clear f1 f2 hne hne2 d1 d2;go_wp2_with fail;go_roundw
      case rel=>exact⟨p,by have:=Hp.out;omega,by have:=Hp.out;omega,rfl,HS.out⟩
      case measure=>have:=Hp.out;simp[intOf];omega
     ·have hz1:decide (z<0)=false:=decide_eq_false hz0
      refine L5 (by kernel_rfl) (by kernel_rfl) ?_;repeat(go_big_quiet_step((go_at_call 116;exact HC.out _)))
      refine wpQuiet_nil ?_;rintro _ ⟨y,rfl⟩;go_wp2_with fail;exact⟨⟨i+1,by omega,by omega,by go_num,H.out.to ⟨y,rfl⟩⟩,by simp[intOf];omega⟩
    ·have Bx8:¬(a:Int)<(j:Int):=by omega
     have Bx9:decide (a<j)=false:=decide_eq_false hja;go_upto_region 4 with fail;rw[hy0];clear hy0;refine L5 (by kernel_rfl) (by kernel_rfl) ?_;repeat(go_big_quiet_step(fail))
     refine wpQuiet_nil ?_;rintro _ ⟨y,rfl⟩;go_wp2_with fail;exact⟨⟨i+1,by omega,by omega,by go_num,H.out.to ⟨y,rfl⟩⟩,by simp[intOf];omega⟩
  ·have Bx6:¬(i:Int)<(b:Int):=by omega
   go_wp2_with fail;exact M7 (v:=.tuple #[]) (by simp[results,Tryz.results212,go_sem]) rfl ⟨rfl,H.out⟩
end
section
open Go.RowKit
theorem AQ2 (n g cap bx gr c:Nat) (hn:n≤1000) (r:Nat→Nat) (w:World) (hR:fY n bx gr c r w) (e1:bx≠g) (e2:gr≠g):∀(k a m b:Nat),b-a≤k→a<m→m<b→b≤n→∀w1:World,N5 n g w w1→
 Calls Tryz.prog 213 #[.slice (some ⟨g,0,none⟩) n cap,.int .i64 (a:Int),.int .i64 (m:Int),.int .i64 (b:Int),.func (.func 116) #[] #[.pointer (some ⟨bx,0,none⟩)]] w1 fun o w'=>o= .returned (.tuple #[])∧N5 n g w w':=by
 have HK:=A3 (fun(W:World) (h:N5 n g w W) (u v:Nat) (hu:u<n) (hv:v<n) (x:A7 W)=>Ag6 n bx gr c hn r W x (hR.keep h.k e1 e2) u v hu hv);clear hR e1 e2;intro k;induction k with
 |zero=>intro a m b h0 h1 h2 h3;omega
 |succ k ih=>
  intro a m b h0 h1 h2 hb w1 h
  have H:=A3 h
  have IH:=A3 ih
  clear h ih
  go_enter Tryz.func213,Tryz.ntmps213
  by_cases hm1:m=a+1
  ·have em:(m:Int)-(a:Int)=1:=by omega
   have Hm1:=A3 hm1;clear hm1;go_wp2_with fail;go_loopw [10,11] (fun t u wr=>∃i j:Nat,m≤i∧i≤j∧j≤b∧t= .int .i64 (i:Int)∧u= .int .i64 (j:Int)∧N5 n g w wr) (fun t u _ =>(intOf u).toNat-(intOf t).toNat)
   case atStart=>exact⟨m,b,by omega,by omega,by omega,rfl,rfl,H.out⟩
   case round=>
    clear H;obtain⟨i,j,hi,hij,hjb,rfl,rfl,h⟩:=hrel;have H:=A3 h;clear h;rename World=>wr
    by_cases hlt:i<j
    ·have hlt1:(i:Int)<(j:Int):=by omega
     go_upto_region 5 with fail;obtain⟨h,hh⟩:∃h,(i+j)/2=h:=⟨_,rfl⟩
     have eh:((i:Int)+(j:Int))/2=(h:Int):=by omega
     have hh1:i≤h:=by omega
     have hh2:h<j:=by omega
     rw[eh];obtain⟨u,hu,hu1⟩:=H.out.at (i:=h) (by omega);obtain⟨v,hv,hv1⟩:=H.out.at (i:=a) (by omega);have c1:∀y:A7 wr,y.w.cell? ⟨g,h,none⟩=some (.int .i64 (u:Int)):=A7.cell hu1 (by obtain⟨o,_,hV⟩:=H.out.v;exact hV.lt);have c2:∀y:A7 wr,y.w.cell? ⟨g,a,none⟩=some (.int .i64 (v:Int)):=A7.cell hv1 (by obtain⟨o,_,hV⟩:=H.out.v;exact hV.lt);have b1:(h:Int)<(n:Int):=by omega
     have b2:(a:Int)<(n:Int):=by omega
     have HC:=HK.out wr H.out u v hu hv;obtain⟨z,hz⟩:∃z,wrap64 ((r v:Int)-(r u:Int))=z:=⟨_,rfl⟩
     rw[hz]at HC;replace HC:=A3 HC;clear hz hu1 hv1 hu hv;obtain⟨y0,hy0⟩:=A7.refl wr;rw[hy0];clear hy0;refine L5 (by kernel_rfl) (by kernel_rfl) ?_;repeat(go_big_quiet_step((go_at_call 116;exact HC.out _)))
     refine wpQuiet_nil ?_;rintro _ ⟨y,rfl⟩;clear c1 c2 b1 b2 HC;replace H:=A3 (H.out.to ⟨y,rfl⟩);generalize y.w=wz at *;clear y;by_cases hz0:z<0
     ·go_wp2_with fail
      go_roundw
      case rel=>exact⟨h+1,j,by omega,by omega,by omega,by go_num,rfl,H.out⟩
      case measure=>simp[intOf];omega
     ·go_wp2_with fail
      go_roundw
      case rel=>exact⟨i,h,by omega,by omega,by omega,rfl,rfl,H.out⟩
      case measure=>simp[intOf];omega
    ·have hlt1:¬(i:Int)<(j:Int):=by omega
     have ei:IntKind.i64.wrap ((i:Int)-1)=(i:Int)-1:=IntWalk.i64_in _ ⟨by omega,by omega⟩;go_wp2_with fail;go_loopw [13] (fun t wr=>∃q:Nat,a≤q∧t= .int .i64 (q:Int)∧N5 n g w wr) (fun t _ =>i-(intOf t).toNat)
     case atStart=>exact⟨a,by omega,rfl,H.out⟩
     case round=>
      clear H;obtain⟨q,hq,rfl,h⟩:=hrel;have H:=A3 h;clear h;by_cases hqi:q+1<i
      ·have yK:(q:Int)<(i:Int)-1:=by omega
       have eq1:IntKind.i64.wrap ((q:Int)+1)=((q+1:Nat):Int):=by rw[show(q:Int)+1=((q+1:Nat):Int)from by omega];exact IntWalk.i64_in _ ⟨by omega,by omega⟩
       obtain⟨s,hs⟩:∃s,q+1=s:=⟨_,rfl⟩
       rw[hs]at eq1;have Hs:=A3 hs;clear hs;obtain⟨u,hu,hu1⟩:=H.out.at (i:=q) (by have:=Hs.out;omega);obtain⟨v,hv,hv1⟩:=H.out.at (i:=s) (by have:=Hs.out;omega);have f1:=H.out.free (i:=q) (by have:=Hs.out;omega);have f2:=H.out.free (i:=s) (by have:=Hs.out;omega);have hne:¬q=s:=by have:=Hs.out;omega
       have hne2:¬s=q:=by have:=Hs.out;omega
       have b1:(q:Int)<(n:Int):=by have:=Hs.out;omega
       have b2:(s:Int)<(n:Int):=by have:=Hs.out;omega
       have HS:=A3 (((H.out.put (i:=q) (m:=v) (by have:=Hs.out;omega) hv).put (i:=s) (m:=u) (by have:=Hs.out;omega) hu).to (A8.drew' (A8.self _)));go_upto_region 11 with fail;go_region
       clear f1 f2 hne hne2 hu1 hv1 b1 b2 hu hv;go_wp2_with fail;go_roundw
       case rel=>exact⟨s,by have:=Hs.out;omega,by go_num,HS.out⟩
       case measure=>have:=Hs.out;simp[intOf];omega
      ·have yK:¬(q:Int)<(i:Int)-1:=by omega
       go_wp2_with fail;exact bodyPost_ret (v:=.tuple #[]) (by simp[results,Tryz.results213,go_sem]) rfl ⟨rfl,H.out⟩
  ·have em:¬(m:Int)-(a:Int)=1:=by omega
   by_cases hbm:b=m+1
   ·have eb:(b:Int)-(m:Int)=1:=by omega
    have Hbm:=A3 hbm;clear hm1 hbm;go_wp2_with fail;go_loopw [14,15] (fun t u wr=>∃i j:Nat,a≤i∧i≤j∧j≤m∧t= .int .i64 (i:Int)∧u= .int .i64 (j:Int)∧N5 n g w wr) (fun t u _ =>(intOf u).toNat-(intOf t).toNat)
    case atStart=>exact⟨a,m,by omega,by omega,by omega,rfl,rfl,H.out⟩
    case round=>
     clear H;obtain⟨i,j,hi,hij,hjb,rfl,rfl,h⟩:=hrel;have H:=A3 h;clear h;rename World=>wr
     by_cases hlt:i<j
     ·have hlt1:(i:Int)<(j:Int):=by omega
      go_upto_region 17 with fail;obtain⟨h,hh⟩:∃h,(i+j)/2=h:=⟨_,rfl⟩
      have eh:((i:Int)+(j:Int))/2=(h:Int):=by omega
      have hh1:i≤h:=by omega
      have hh2:h<j:=by omega
      rw[eh];obtain⟨u,hu,hu1⟩:=H.out.at (i:=m) (by omega);obtain⟨v,hv,hv1⟩:=H.out.at (i:=h) (by omega);have c1:∀y:A7 wr,y.w.cell? ⟨g,m,none⟩=some (.int .i64 (u:Int)):=A7.cell hu1 (by obtain⟨o,_,hV⟩:=H.out.v;exact hV.lt);have c2:∀y:A7 wr,y.w.cell? ⟨g,h,none⟩=some (.int .i64 (v:Int)):=A7.cell hv1 (by obtain⟨o,_,hV⟩:=H.out.v;exact hV.lt);have b1:(m:Int)<(n:Int):=by omega
      have b2:(h:Int)<(n:Int):=by omega
      have HC:=HK.out wr H.out u v hu hv;obtain⟨z,hz⟩:∃z,wrap64 ((r v:Int)-(r u:Int))=z:=⟨_,rfl⟩
      rw[hz]at HC;replace HC:=A3 HC;clear hz hu1 hv1 hu hv;obtain⟨y0,hy0⟩:=A7.refl wr;rw[hy0];clear hy0;refine L5 (by kernel_rfl) (by kernel_rfl) ?_;repeat(go_big_quiet_step((go_at_call 116;exact HC.out _)))
      refine wpQuiet_nil ?_;rintro _ ⟨y,rfl⟩;clear c1 c2 b1 b2 HC;replace H:=A3 (H.out.to ⟨y,rfl⟩);generalize y.w=wz at *;clear y;generalize(!decide (z<0))=bb
      cases bb
      ·go_wp2_with fail
       go_roundw
       case rel=>exact⟨i,h,by omega,by omega,by omega,rfl,rfl,H.out⟩
       case measure=>simp[intOf];omega
      ·go_wp2_with fail
       go_roundw
       case rel=>exact⟨h+1,j,by omega,by omega,by omega,by go_num,rfl,H.out⟩
       case measure=>simp[intOf];omega
     ·have hlt1:¬(i:Int)<(j:Int):=by omega
      go_wp2_with fail;go_loopw [17] (fun t wr=>∃q:Nat,q≤m∧t= .int .i64 (q:Int)∧N5 n g w wr) (fun t _ =>(intOf t).toNat)
      case atStart=>exact⟨m,by omega,rfl,H.out⟩
      case round=>
       clear H;obtain⟨q,hq,rfl,h⟩:=hrel;have H:=A3 h;clear h;by_cases hqi:i<q
       ·have yK:(i:Int)<(q:Int):=by omega
        obtain⟨s,hs⟩:∃s,q=s+1:=⟨q-1,by omega⟩
        have eq1:IntKind.i64.wrap ((q:Int)-1)=(s:Int):=by rw[show(q:Int)-1=(s:Int)from by omega];exact IntWalk.i64_in _ ⟨by omega,by omega⟩
        have Hs:=A3 hs;clear hs;obtain⟨u,hu,hu1⟩:=H.out.at (i:=q) (by have:=Hs.out;omega);obtain⟨v,hv,hv1⟩:=H.out.at (i:=s) (by have:=Hs.out;omega);have f1:=H.out.free (i:=q) (by have:=Hs.out;omega);have f2:=H.out.free (i:=s) (by have:=Hs.out;omega);have hne:¬q=s:=by have:=Hs.out;omega
        have hne2:¬s=q:=by have:=Hs.out;omega
        have b1:(q:Int)<(n:Int):=by have:=Hs.out;omega
        have b2:(s:Int)<(n:Int):=by have:=Hs.out;omega
        have HS:=A3 (((H.out.put (i:=q) (m:=v) (by have:=Hs.out;omega) hv).put (i:=s) (m:=u) (by have:=Hs.out;omega) hu).to (A8.drew' (A8.self _)));go_upto_region 23 with fail;go_region
        clear f1 f2 hne hne2 hu1 hv1 b1 b2 hu hv;go_wp2_with fail;go_roundw
        case rel=>exact⟨s,by have:=Hs.out;omega,by first|rfl|go_num,HS.out⟩
        case measure=>have:=Hs.out;simp[intOf];omega
       ·have yK:¬(i:Int)<(q:Int):=by omega
        go_wp2_with fail;exact bodyPost_ret (v:=.tuple #[]) (by simp[results,Tryz.results213,go_sem]) rfl ⟨rfl,H.out⟩
   ·have eb:¬(b:Int)-(m:Int)=1:=by omega
    have Hbm:=A3 hbm;have Hm1:=A3 hm1;clear hm1 hbm;obtain⟨d,hd⟩:∃d,(a+b)/2=d:=⟨_,rfl⟩
    have ed:((a:Int)+(b:Int))/2=(d:Int):=by omega
    have Hd:=A3 (show d=(a+b)/2 from hd.symm);have hd1:a<d:=by have:=Hbm.out;have:=Hm1.out;omega
    have hd2:d<b:=by have:=Hbm.out;have:=Hm1.out;omega
    clear hd;go_upto_region 25 with fail;clear ed;go_upto_if 140 with(fail)
    go_cut [20,21] (fun s t wr=>∃s0 r0:Nat,a≤s0∧s0≤r0∧r0<b∧r0≤d+m-1∧d+m-s0≤b∧r0≤d∧(r0≤m)∧s= .int .i64 (s0:Int)∧t= .int .i64 (r0:Int)∧wr=w1)
    case first=>
     clear IH HK;by_cases hmd:d<m
     ·go_wp2_with fail
      go_meet;have hq:=Hd.out;exact⟨d+m-b,d,by omega,by omega,by omega,by omega,by omega,by omega,by omega,by go_num,rfl,rfl⟩
     ·go_wp2_with fail
      go_meet;have hq:=Hd.out;exact⟨a,m,by omega,by omega,by omega,by omega,by omega,by omega,by omega,rfl,rfl,rfl⟩
    case rest=>
     obtain⟨s0,r0,g1,g2,g3,g4,g5,g6,g7,rfl,rfl,rfl⟩:=hcut;go_wp2_with fail;go_loopw [20,21] (fun t u wr=>∃s e:Nat,s0≤s∧s≤e∧e≤r0∧t= .int .i64 (s:Int)∧u= .int .i64 (e:Int)∧N5 n g w wr) (fun t u _ =>(intOf u).toNat-(intOf t).toNat)
     case atStart=>exact⟨s0,r0,by omega,by omega,by omega,rfl,rfl,H.out⟩
     case round=>
      clear H;obtain⟨s,e,hs,hse,her,rfl,rfl,h⟩:=hrel;have H:=A3 h;clear h;rename World=>wr
      by_cases hlt:s<e
      ·have hlt1:(s:Int)<(e:Int):=by omega
       obtain⟨x,hh⟩:∃x,(s+e)/2=x:=⟨_,rfl⟩
       have eh:((s:Int)+(e:Int))/2=(x:Int):=by omega
       have hh1:s≤x:=by omega
       have hh2:x<e:=by omega
       obtain⟨x2,hx2⟩:∃x2,d+m-1-x=x2:=⟨_,rfl⟩
       have ex2:(d:Int)+(m:Int)-1-(x:Int)=(x2:Int):=by omega
       have ex:IntKind.i64.wrap ((d:Int)+(m:Int)-1-(x:Int))=(x2:Int):=by rw[ex2];exact IntWalk.i64_in _ ⟨by omega,by omega⟩
       have Ex2:=A3 ex2;clear ex2;have hx3:x2<n:=by omega
       have Hh:=A3 hh;clear hh;have Hx2:=A3 hx2;clear hx2;go_upto_region 35 with fail;obtain⟨u,hu,hu1⟩:=H.out.at (i:=x2) (by omega);obtain⟨v,hv,hv1⟩:=H.out.at (i:=x) (by omega);have c1:∀y:A7 wr,y.w.cell? ⟨g,x2,none⟩=some (.int .i64 (u:Int)):=A7.cell hu1 (by obtain⟨o,_,hV⟩:=H.out.v;exact hV.lt);have c2:∀y:A7 wr,y.w.cell? ⟨g,x,none⟩=some (.int .i64 (v:Int)):=A7.cell hv1 (by obtain⟨o,_,hV⟩:=H.out.v;exact hV.lt);have b1:(x2:Int)<(n:Int):=by omega
       have b2:(x:Int)<(n:Int):=by omega
       have HC:=HK.out wr H.out u v hu hv;obtain⟨z,hz⟩:∃z,wrap64 ((r v:Int)-(r u:Int))=z:=⟨_,rfl⟩
       rw[hz]at HC;replace HC:=A3 HC;clear hz hu1 hv1 hu hv;obtain⟨y0,hy0⟩:=A7.refl wr;rw[hy0];clear hy0;refine L5 (by kernel_rfl) (by kernel_rfl) ?_;repeat(go_big_quiet_step((go_at_call 116;exact HC.out _)))
       refine wpQuiet_nil ?_;rintro _ ⟨y,rfl⟩;clear c1 c2 b1 b2 HC;replace H:=A3 (H.out.to ⟨y,rfl⟩);generalize y.w=wz at *;clear y;generalize(!decide (z<0))=bb
       cases bb
       ·go_wp2_with fail
        go_roundw
        case rel=>exact⟨s,x,by omega,by omega,by omega,rfl,rfl,H.out⟩
        case measure=>simp[intOf];omega
       ·go_wp2_with fail
        go_roundw
        case rel=>exact⟨x+1,e,by omega,by omega,by omega,by go_num,rfl,H.out⟩
        case measure=>simp[intOf];omega
      ·have hlt1:¬(s:Int)<(e:Int):=by omega
       obtain⟨t,ht⟩:∃t,d+m-s=t:=⟨_,rfl⟩
       have et:(d:Int)+(m:Int)-(s:Int)=(t:Int):=by omega
       have ht1:s+t=d+m:=by omega
       clear ht;have htb:t≤b:=by omega
       have RC:=A3 (fun(p1:s<m) (p2:m<t) (W:World) (h:N5 n g w W)=>AQ0 n g cap s m t hn p1 p2 (by omega) (.func (.func 116) #[] #[.pointer (some ⟨bx,0,none⟩)]) w W h);have SA:=A3 (fun(p1:a<s) (p2:s<d) (W:World) (h:N5 n g w W)=>IH.out a s d (by omega) p1 p2 (by omega) W h);have SB:=A3 (fun(p1:d<t) (p2:t<b) (W:World) (h:N5 n g w W)=>IH.out d t b (by omega) p1 p2 (by omega) W h);have hO:=H.out;clear HK H IH;rcases(by omega:(s<m∧d<t)∨(¬s<m∧¬d<t))with⟨p1,q1⟩|⟨p1,q1⟩<;>rcases(by omega:(s<d∧m<t)∨(¬s<d∧¬m<t))with⟨p2,q2⟩|⟨p2,q2⟩<;>by_cases p3:a<s<;>by_cases p4:t<b;all_goals
        clear ht1 htb;go_wp2_with(first|(go_at_call 235;(with_reducible refine(RC.out (by assumption) (by assumption) _ (by assumption)).mono ?_);rintro _ w2 ⟨rfl,h2⟩)|(go_at_call 213;(with_reducible refine(SA.out (by assumption) (by assumption) _ (by assumption)).mono ?_);rintro _ w3 ⟨rfl,h3⟩)|(go_at_call 213;(with_reducible refine(SB.out (by assumption) (by assumption) _ (by assumption)).mono ?_);rintro _ w4 ⟨rfl,h4⟩));exact M7 (v:=.tuple #[]) (by simp[results,Tryz.results213,go_sem]) rfl ⟨rfl,by assumption⟩
end
section
open Go.RowKit
theorem AQ3 (n g cap bx gr c:Nat) (hn:n≤512) (r:Nat→Nat) (w w1:World) (hR:fY n bx gr c r w) (e1:bx≠g) (e2:gr≠g) (h:N5 n g w w1):
 Calls Tryz.prog 171 #[.slice (some ⟨g,0,none⟩) n cap,.int .i64 (n:Int),.func (.func 116) #[] #[.pointer (some ⟨bx,0,none⟩)]] w1 fun o w'=>o= .returned (.tuple #[])∧N5 n g w w':=by
 have HI:=A3 (fun(a b:Nat) (hab:a≤b) (hb:b≤n) (W:World) (h:N5 n g w W)=>AQ1 n g cap a b bx gr c (by omega) hab hb r w W hR e1 e2 h);have HM:=A3 (fun(a m b:Nat) (h1:a<m) (h2:m<b) (hb:b≤n) (W:World) (h:N5 n g w W)=>AQ2 n g cap bx gr c (by omega) r w hR e1 e2 (b-a) a m b (Nat.le_refl _) h1 h2 hb W h);clear hR e1 e2;go_enter Tryz.func171,Tryz.ntmps171;go_wp2_with fail;go_loopw [7,8] (fun t u wr=>∃a b:Nat,b=a+20∧a≤n∧t= .int .i64 (a:Int)∧u= .int .i64 (b:Int)∧N5 n g w wr) (fun t _ _ =>n-(intOf t).toNat)
 case atStart=>exact⟨0,20,by omega,by omega,rfl,rfl,h⟩
 case round=>
  clear h;obtain⟨a,b,hb,han,rfl,rfl,h⟩:=hrel;have Hb:=A3 hb;clear hb;by_cases hbn:b≤n
  ·have sF:(b:Int)≤(n:Int):=by omega
   have HC:=A3 (HI.out a b (by have:=Hb.out;omega) hbn _ h);go_wp2_with(go_at_call 212;(with_reducible refine HC.out.mono ?_);rintro _ w2 ⟨rfl,h2⟩);go_roundw
   case rel=>exact⟨b,b+20,by omega,by omega,rfl,by go_num,h2⟩
   case measure=>have:=Hb.out;simp[intOf];omega
  ·have sF:¬(b:Int)≤(n:Int):=by omega
   have HC:=A3 (HI.out a n han (Nat.le_refl _) _ h);go_wp2_with(go_at_call 212;(with_reducible refine HC.out.mono ?_);rintro _ w2 ⟨rfl,h2⟩);clear h HC HI hbn sF Hb;go_loopw [6,7,8,9] (fun s t u v wr=>∃z:Nat,20≤z∧z≤1024∧s= .int .i64 (z:Int)∧N5 n g w wr) (fun s _ _ _ _ =>n-(intOf s).toNat)
   case atStart=>exact⟨20,by omega,by omega,rfl,h2⟩
   case round=>
    clear h2;obtain⟨z,hz,hz2,rfl,h⟩:=hrel;by_cases hzn:z<n
    ·have BA8:(z:Int)<(n:Int):=by omega
     go_wp2_with fail;go_loopw [7,8] (fun t u wr=>∃a b:Nat,b=a+2*z∧a≤n∧t= .int .i64 (a:Int)∧u= .int .i64 (b:Int)∧N5 n g w wr) (fun t _ _ =>n-(intOf t).toNat)
     case atStart=>exact⟨0,2*z,by omega,by omega,rfl,by go_num,h⟩
     case round=>
      clear h;obtain⟨a,b,hb,han,rfl,rfl,h⟩:=hrel;have Hb:=A3 hb;clear hb;obtain⟨m,hm⟩:∃m,a+z=m:=⟨_,rfl⟩
      have em:(a:Int)+(z:Int)=(m:Int):=by omega
      have Hm:=A3 hm;clear hm;by_cases hbn:b≤n
      ·have sF:(b:Int)≤(n:Int):=by omega
       have HC:=A3 (HM.out a m b (by have:=Hm.out;omega) (by have:=Hm.out;have:=Hb.out;omega) hbn _ h);go_wp2_with(go_at_call 213;(with_reducible refine HC.out.mono ?_);rintro _ w2 ⟨rfl,h2⟩);go_roundw
       case rel=>exact⟨b,b+2*z,by omega,by omega,rfl,by go_num,h2⟩
       case measure=>have:=Hb.out;simp[intOf];omega
      ·have sF:¬(b:Int)≤(n:Int):=by omega
       by_cases hmn:m<n
       ·have By0:(m:Int)<(n:Int):=by omega
        have HC:=A3 (HM.out a m n (by have:=Hm.out;omega) hmn (Nat.le_refl _) _ h);go_wp2_with(go_at_call 213;(with_reducible refine HC.out.mono ?_);rintro _ w2 ⟨rfl,h2⟩);first
         |(go_roundw;(case rel=>exact⟨z*2,by omega,by omega,by go_num,h2⟩);(case measure=>simp[intOf];omega))
         |exact⟨⟨z*2,by omega,by omega,by go_num,h2⟩,by simp[intOf];omega⟩
       ·have By0:¬(m:Int)<(n:Int):=by omega
        go_wp2_with fail;first
         |(go_roundw;(case rel=>exact⟨z*2,by omega,by omega,by go_num,h⟩);(case measure=>simp[intOf];omega))
         |exact⟨⟨z*2,by omega,by omega,by go_num,h⟩,by simp[intOf];omega⟩
    ·have BA8:¬(z:Int)<(n:Int):=by omega
     go_wp2_with fail;exact M7 (v:=.tuple #[]) (by simp[results,Tryz.results171,go_sem]) rfl ⟨rfl,h⟩
theorem AQ4 (n g cap bx gr c:Nat) (hn:n≤512) (r:Nat→Nat) (w w1:World) (hR:fY n bx gr c r w) (e1:bx≠g) (e2:gr≠g) (h:N5 n g w w1):
 Calls Tryz.prog 115 #[.slice (some ⟨g,0,none⟩) n cap,.func (.func 116) #[] #[.pointer (some ⟨bx,0,none⟩)]] w1 fun o w'=>o= .returned (.tuple #[])∧N5 n g w w':=by
 have HC:=A3 (AQ3 n g cap bx gr c hn r w w1 hR e1 e2 h);clear hR e1 e2 h;go_enter Tryz.func115,Tryz.ntmps115;go_wp2_with(go_at_call 171;(with_reducible refine HC.out.mono ?_);rintro _ w2 ⟨rfl,h2⟩);exact M7 (v:=.tuple #[]) (by simp[results,Tryz.results115,go_sem]) rfl ⟨rfl,h2⟩
end
section
open Go.RowKit
theorem AQ5 (w:World) (x:A7 w) (c:C7):
 Calls Tryz.prog 66 #[.agg #[.int .i64 c.o,.int .i64 c.b,.int .i64 c.f,.int .i64 c.t,.int .i64 c.s]] x.w fun o w'=>o= .returned (.bool c.inB)∧∃y:A7 w,w'=y.w:=by
 obtain⟨v,hv⟩:∃v,c.inB=v:=⟨_,rfl⟩
 have hh:=C7.inB_iff c;rw[hv]at hh⊢;have HV:=A3 hh;clear hv hh;go_enter Tryz.func66,Tryz.ntmps66;go_upto_region 1 with fail;obtain⟨W,bx,y0,hW,hbx,-,B8,Hup,Hbx,HB0⟩:=K7 x [.int .i64 c.o,.int .i64 c.b,.int .i64 c.f,.int .i64 c.t,.int .i64 c.s] 158;rw[hW,hbx];clear hW hbx;obtain⟨D9,E7,F9,G0,G8,hf0⟩:=V5 HB0;clear HB0;by_cases d0:0≤c.o;by_cases d1:c.o<8;by_cases d2:0≤c.b;by_cases d3:c.b<128;by_cases d4:0≤c.f;by_cases d5:c.f<c.t;by_cases d6:c.t≤4294944000;by_cases d7:0≤c.s;by_cases d8:c.s≤1000;all_goals
  go_wp2_with fail;go_ret;refine⟨I1 ?_,Hup.out y0⟩;have h:=HV.out
  cases v
  ·first|rfl|exact(h.2 (by omega)).symm
  ·first|rfl|(exfalso;have:=h.1 rfl;omega)
theorem Ag7 (w:World) (x:A7 w) (a:Option Addr) (l:List C7) (c:Nat) (h:D0 C7.cs 5 w a l) (hl:l.length≤9223372036854775807) (b t:Int):
 Calls Tryz.prog 67 #[.slice a l.length c,.int .i64 b,.int .i64 t] x.w fun o w'=>∃v:Int,pN l b t v∧o= .returned (.int .i64 v)∧∃y:A7 w,w'=y.w:=by
 have HL:=A3 h;clear h;go_enter Tryz.func67,Tryz.ntmps67;go_wp2_with fail;go_loopw [11] (fun t' wr=>∃(k:Nat) (y:A7 w),k≤l.length∧t'= .int .i64 k∧wr=y.w∧∀(j:Nat) (c:C7),j<k→l[j]? =some c→eA b t c=false) (fun t' _ =>l.length-(intOf t').toNat)
 case atStart=>exact⟨0,x,by omega,rfl,rfl,fun j c hj=>by omega⟩
 case round=>
  obtain⟨k,y,hk,rfl,rfl,hn⟩:=hrel;have Hn:=A3 hn;clear hn;by_cases hlt:k<l.length
  ·obtain⟨e,he⟩:∃e,l[k]? =some e:=⟨_,A4 hlt⟩
   obtain⟨b1,off1,rfl,hb1,hc1⟩:=HL.out k e he;have ra0:∀y:A7 w,y.w.cell? ⟨b1,off1+k*5,none⟩=some (.int .i64 e.o):=A7.cell (hc1 0 _ rfl) hb1;have ra1:∀y:A7 w,y.w.cell? ⟨b1,off1+k*5+1,none⟩=some (.int .i64 e.b):=A7.cell (hc1 1 _ rfl) hb1;have ra2:∀y:A7 w,y.w.cell? ⟨b1,off1+k*5+2,none⟩=some (.int .i64 e.f):=A7.cell (hc1 2 _ rfl) hb1;have ra3:∀y:A7 w,y.w.cell? ⟨b1,off1+k*5+3,none⟩=some (.int .i64 e.t):=A7.cell (hc1 3 _ rfl) hb1;have ra4:∀y:A7 w,y.w.cell? ⟨b1,off1+k*5+4,none⟩=some (.int .i64 e.s):=A7.cell (hc1 4 _ rfl) hb1;have hk0:(0:Int)≤(k:Int):=by omega
   have hkl:(k:Int)<(l.length:Int):=by omega
   have He:=A3 he;clear hc1 hb1 he;go_upto_region 4 with fail;obtain⟨y2,e2,C9,hsz0,hlt0,HX0⟩:=L8 y [.int .i64 e.o,.int .i64 e.b,.int .i64 e.f,.int .i64 e.t,.int .i64 e.s] 158;rw[e2];obtain⟨hx0,hx1,hx2,hx3,hx4,hxf⟩:=fO HX0;skip;clear e2 C9;generalize y.w.heap.size=g at *;obtain⟨E6,G9,K1,J5,O8,I3⟩:=V5 HX0;have I9:=A3 (And.intro hsz0 hlt0);clear hlt0 hsz0 HX0;clear E6 G9 K1 J5 O8 I3 ra0 ra1 ra2 ra3 ra4;obtain⟨v,hv⟩:∃v,eA b t e=v:=⟨_,rfl⟩
   have Hv:=A3 hv;have hi:=Ag0 b t e;rw[hv]at hi;clear hv;rcases(by omega:¬e.b=b∨(e.b=b∧¬e.f≤t)∨(e.b=b∧e.f≤t∧¬t<e.t)∨(e.b=b∧e.f≤t∧t<e.t))with d0|⟨d0,d1⟩|⟨d0,d1,d2⟩|⟨d0,d1,d2⟩
   iterate 3
    ·obtain rfl:v=false:=by cases v;rfl;exact absurd (hi.1 rfl) (by omega)
     clear hi;go_wp2_with fail;go_roundw
     case rel=>exact⟨k+1,y2,by omega,by go_num,rfl,fun j c hj hc=>by
      by_cases hjk:j=k
      ·subst hjk;cases He.out.symm.trans hc;exact Hv.out
      ·exact Hn.out j c (by omega) hc⟩
     case measure=>simp[intOf];omega
   ·obtain rfl:v=true:=hi.2 (by omega)
    clear hi;go_wp2_with fail;go_ret;exact⟨k,.inr ⟨k,e,rfl,He.out,Hv.out,Hn.out⟩,rfl,y2,rfl⟩
  ·obtain rfl:k=l.length:=by omega
   have hkk:¬(l.length:Int)<(l.length:Int):=by omega
   go_wp2_with fail;go_ret;refine⟨-1,.inl ⟨rfl,fun c hc=>?_⟩,rfl,y,rfl⟩;obtain⟨j,hj,rfl⟩:=List.mem_iff_getElem.1 hc;exact Hn.out j _ hj (A4 hj)
end
section
open Go.RowKit
structure pQ (l:List C7) (k:Nat):Prop where
 i:∀(j:Nat) (c:C7),j<k→l[j]? =some c→c.inB=true
 p:∀(i j:Nat) (x c:C7),i<j→j<k→l[i]? =some x→l[j]? =some c→cS x c=false
theorem pQ.next {l:List C7} {k:Nat} {c:C7} (h:pQ l k) (hk:l[k]? =some c) (h1:c.inB=true) (h2:∀(j:Nat) (x:C7),j<k→l[j]? =some x→cS x c=false):pQ l (k+1):=by
 refine⟨fun j x hj hx=>?_,fun i j x y hij hj hx hy=>?_⟩
 ·by_cases e:j=k
  ·subst e;cases hk.symm.trans hx;exact h1
  ·exact h.i j x (by omega) hx
 ·by_cases e:j=k
  ·subst e;cases hk.symm.trans hy;exact h2 i x hij hx
  ·exact h.p i j x y hij (by omega) hx hy
theorem pR {w:World} {a:Option Addr} {l:List C7} (h:D0 C7.cs 5 w a l) {k:Nat} {e:C7} (he:l[k]? =some e):∃b off,a=some ⟨b,off,none⟩∧(∀y:A7 w,y.w.cell? ⟨b,off+k*5,none⟩=some (.int .i64 e.o))∧(∀y:A7 w,y.w.cell? ⟨b,off+k*5+1,none⟩=some (.int .i64 e.b))∧(∀y:A7 w,y.w.cell? ⟨b,off+k*5+2,none⟩=some (.int .i64 e.f))∧(∀y:A7 w,y.w.cell? ⟨b,off+k*5+3,none⟩=some (.int .i64 e.t))∧(∀y:A7 w,y.w.cell? ⟨b,off+k*5+4,none⟩=some (.int .i64 e.s)):=by
 obtain⟨b1,off1,ha,hb1,hc1⟩:=h k e he;exact⟨b1,off1,ha,A7.cell (hc1 0 _ rfl) hb1,A7.cell (hc1 1 _ rfl) hb1,A7.cell (hc1 2 _ rfl) hb1,A7.cell (hc1 3 _ rfl) hb1,A7.cell (hc1 4 _ rfl) hb1⟩
def uQ (w:World) (l:List C7) (o:Ending) (w':World):Prop:=∃v:Int,(v=0↔o4 l)∧o= .returned (.int .i64 v)∧∃y:A7 w,w'=y.w
theorem pS (w:World) (x:A7 w) (a:Option Addr) (l:List C7) (c:Nat) (h:D0 C7.cs 5 w a l) (hl:l.length≤9223372036854775807) (hc:l.length≤c):
 Calls Tryz.prog 24 #[.slice a l.length c] x.w (uQ w l):=by
 have HP:=A3 (fun(v:Int) (y:A7 w) (h:v=0↔o4 l)=>show uQ w l (.returned (.int .i64 v)) y.w from⟨v,h,rfl,y,rfl⟩);generalize uQ w l=PO at *;have HL:=A3 h;clear h;go_enter Tryz.func24,Tryz.ntmps24;by_cases Bw4:512<l.length
 ·have Bw5:(512:Int)<(l.length:Int):=by omega
  go_wp2_with fail;exact HP.out 8 x ⟨fun h=>by omega,fun h=>by have:=h.n;omega⟩
 have Bw5:¬(512:Int)<(l.length:Int):=by omega
 go_wp2_with fail;go_loopw [12] (fun t' wr=>∃(k:Nat) (y:A7 w),k≤l.length∧t'= .int .i64 k∧wr=y.w∧pQ l k) (fun t' _ =>l.length-(intOf t').toNat)
 case atStart=>exact⟨0,x,by omega,rfl,rfl,⟨fun j c hj=>by omega,fun i j x c h1 hj=>by omega⟩⟩
 case round=>
  obtain⟨k,y,hk,rfl,rfl,hn⟩:=hrel;have Hn:=A3 hn;clear hn;by_cases hlt:k<l.length
  ·obtain⟨e,he⟩:∃e,l[k]? =some e:=⟨_,A4 hlt⟩
   obtain⟨b1,off1,rfl,ra0,ra1,ra2,ra3,ra4⟩:=pR HL.out he;have hk0:(0:Int)≤(k:Int):=by omega
   have hkl:(k:Int)<(l.length:Int):=by omega
   have hkc:(k:Int)≤(c:Int):=by omega
   have He:=A3 he;clear he;go_upto_region 6 with fail;obtain⟨y2,e2,C9,hsz0,hlt0,HX0⟩:=L8 y [.int .i64 e.o,.int .i64 e.b,.int .i64 e.f,.int .i64 e.t,.int .i64 e.s] 158;rw[e2];obtain⟨hx0,hx1,hx2,hx3,hx4,hxf⟩:=fO HX0;skip;clear e2 C9;generalize y.w.heap.size=g at *;obtain⟨E6,G9,K1,J5,O8,I3⟩:=V5 HX0;have I9:=A3 (And.intro hsz0 hlt0);clear hlt0 hsz0 HX0;clear E6 O8 I3 ra0 ra1 ra2 ra3 ra4;have G1:=A3 G9;have G2:=A3 K1;have G3:=A3 J5;clear G9 K1 J5;obtain⟨v,hv⟩:∃v,e.inB=v:=⟨_,rfl⟩
   have Hv:=A3 hv;have hcall:=AQ5 y2.w (A7.self y2.w) e;rw[show(A7.self y2.w).w=y2.w from rfl,hv]at hcall;have HC:=A3 hcall;clear hv hcall;by_cases hv0:v=false
   ·subst hv0
    go_wp2_with(go_at_call 66;(with_reducible refine HC.out.mono ?_);rintro _ _ ⟨rfl,z,rfl⟩);obtain⟨y3,e3⟩:=y2.trans z;rw[e3];exact HP.out 1 y3 ⟨fun h=>by omega,fun h=>by have:=h.i k e He.out;rw[Hv.out]at this;cases this⟩
   obtain rfl:v=true:=by simpa using hv0
   clear hv0;go_upto_region 9 with(go_at_call 66;(with_reducible refine HC.out.mono ?_);rintro _ _ ⟨rfl,z,rfl⟩)
   clear HC;go_wp2_with fail;go_loopw [24] (fun t' wr=>∃(j:Nat) (q:A7 y2.w),j≤k∧t'= .int .i64 j∧wr=q.w∧∀(i:Nat) (x:C7),i<j→l[i]? =some x→cS x e=false) (fun t' _ =>k-(intOf t').toNat)
   case atStart=>exact⟨0,z,by omega,rfl,rfl,fun i x hi=>by omega⟩
   case round=>
    clear z;obtain⟨j,q,hj,rfl,rfl,hm⟩:=hrel;have Hm:=A3 hm;clear hm;by_cases hjk:j<k
    ·obtain⟨u,hu⟩:∃u,l[j]? =some u:=⟨_,A4 (by omega)⟩
     obtain⟨b2,off2,hx1,rb0,rb1,rb2,rb3,rb4⟩:=pR (HL.out.to ⟨y2,rfl⟩) hu;obtain⟨rfl,rfl⟩:b1=b2∧off1=off2:=by simpa using hx1
     have hj0:(0:Int)≤(j:Int):=by omega
     have hjl:(j:Int)<(k:Int):=by omega
     have Hu:=A3 hu;clear hu hx1;go_upto_region 11 with fail;obtain⟨q2,e2,C9,hsz0,hlt0,HX0⟩:=L8 q [.int .i64 u.o,.int .i64 u.b,.int .i64 u.f,.int .i64 u.t,.int .i64 u.s] 158;rw[e2];obtain⟨hz0,hz1,hz2,hz3,hz4,hzf⟩:=fO HX0;skip;clear e2 C9;generalize q.w.heap.size=g2 at *;obtain⟨nW,nX,xN,xO,xP,nY⟩:=V5 HX0;have rX:=A3 (And.intro hsz0 hlt0);clear hlt0 hsz0 HX0;clear nW nX xN xO xP nY rb0 rb1 rb2 rb3 rb4;obtain⟨v,hv⟩:∃v,cS u e=v:=⟨_,rfl⟩
     have Hv:=A3 hv;have hi:=eY u e;rw[hv]at hi;have Hi:=A3 hi;clear hv hi;have d1:=G1.out q2;have d2:=G2.out q2;have d3:=G3.out q2;by_cases p1:u.b=e.b;rotate_left
     ·go_wp2_with fail
      go_roundw
      case rel=>exact⟨j+1,q2,by omega,by go_num,rfl,fun i x hi hx=>by
       by_cases hij:i=j
       ·subst hij;cases Hu.out.symm.trans hx;rw[Hv.out];exact Hi.out.2 (by omega)
       ·exact Hm.out i x (by omega) hx⟩
      case measure=>simp[intOf];omega
     by_cases p2:u.f<e.t;rotate_left
     ·go_wp2_with fail
      go_roundw
      case rel=>exact⟨j+1,q2,by omega,by go_num,rfl,fun i x hi hx=>by
       by_cases hij:i=j
       ·subst hij;cases Hu.out.symm.trans hx;rw[Hv.out];exact Hi.out.2 (by omega)
       ·exact Hm.out i x (by omega) hx⟩
      case measure=>simp[intOf];omega
     by_cases p3:e.f<u.t;rotate_left
     ·go_wp2_with fail
      go_roundw
      case rel=>exact⟨j+1,q2,by omega,by go_num,rfl,fun i x hi hx=>by
       by_cases hij:i=j
       ·subst hij;cases Hu.out.symm.trans hx;rw[Hv.out];exact Hi.out.2 (by omega)
       ·exact Hm.out i x (by omega) hx⟩
      case measure=>simp[intOf];omega
     obtain⟨y3,e3⟩:=y2.trans q2;have Hy3:=A3 e3;clear e3;go_wp2_with fail;rw[Hy3.out];refine HP.out 22 y3 ⟨fun h=>by omega,fun h=>?_⟩;have h1:=(eY _ _).1 (h.p j k u e hjk Hu.out He.out) p1 p2;omega
    ·obtain rfl:j=k:=by omega
     have hjj:¬(j:Int)<(j:Int):=by omega
     obtain⟨y3,e3⟩:=y2.trans q;have Hy3:=A3 e3;clear e3;go_wp2_with fail;exact⟨⟨j+1,y3,by omega,by go_num,Hy3.out,Hn.out.next He.out Hv.out Hm.out⟩,by simp[intOf];omega⟩
  ·obtain rfl:k=l.length:=by omega
   have hkk:¬(l.length:Int)<(l.length:Int):=by omega
   go_wp2_with fail;exact HP.out 0 y ⟨fun _ =>⟨by omega,fun j c hj=>Hn.out.i j c (A5 hj).1 hj,fun i j x c hij hi hj=>Hn.out.p i j x c hij (A5 hj).1 hi hj⟩,fun _ =>rfl⟩
end
section
open Go.RowKit
theorem uR (c:C7):∀v∈c.cs,v.oneCell'=true:=by
 intro v hv;simp only[C7.cs,List.mem_cons,List.not_mem_nil,or_false]at hv;rcases hv with rfl|rfl|rfl|rfl|rfl<;>rfl
theorem pT:M6 Tryz.prog 78 158 (.agg #[.int .i64 0,.int .i64 0,.int .i64 0,.int .i64 0,.int .i64 0]) 5 40:=M6.mk' Tryz.underlying78 (by kernel_rfl) rfl (by decide)
theorem AQ6 {l:List C7} {k j:Nat} {e f:C7} {u:Value} (hk:l[k]? =some e) (hj:j<5) (h:e.cs.set j u=f.cs):(B4 C7.cs l).set (k*5+j) u=B4 C7.cs (l.set k f):=by
 induction l generalizing k with
 |nil=>simp at hk
 |cons a l ih=>
  cases k with
  |zero=>
   obtain rfl:a=e:=by simpa using hk
   show(a.cs ++ B4 C7.cs l).set (0*5+j) u=f.cs ++ B4 C7.cs l
   rw[List.set_append_left _ _ (by rw[C7.len];omega),Nat.zero_mul,Nat.zero_add,h]
  |succ k=>
   show(a.cs ++ B4 C7.cs l).set ((k+1)*5+j) u=a.cs ++ B4 C7.cs (l.set k f)
   rw[List.set_append_right _ _ (by rw[C7.len];omega),C7.len,show(k+1)*5+j-5=k*5+j from by omega,ih (by simpa using hk)]
theorem AQ7 {P:Program} {w0:World} (y:A7 w0) (t ty e:TypeId) (z:Value) (bytes:Nat) (ht:M6 P t e z 5 bytes) (base:Nat) (hbase:w0.heap.size≤base) (g:Nat) (l:List C7) (hown:y.w.ownsRow base e 5 (.slice (some ⟨g,0,none⟩) l.length l.length) l.length (B4 C7.cs l)) (k:Nat) (hk:k<l.length) (d s:Option Addr) (hd:k+1<l.length→d=some ⟨g,k*5,none⟩∧s=some ⟨g,(k+1)*5,none⟩) (c1 c2:Nat):
 ∃q:A7 w0,(Builtin.copy_ #[t,t] ty #[.slice d (l.length-k) c1,.slice s (l.length-(k+1)) c2]).run P y.w= .ok (goInt ((l.length-(k+1):Nat))) q.w∧q.w.ownsRow base e 5 (.slice (some ⟨g,0,none⟩) (l.length-1) l.length) (l.length-1) (B4 C7.cs (l.eraseIdx k))∧y.w.grownBy q.w (some g):=by
 obtain⟨i,hi,hz,hsize,hby⟩:=ht.e;have hsz:(P.info? e).map (·.size)=some 5:=by rw[hi];simp[hsize]
 have hmin:Nat.min (l.length-(k+1)) (l.length-k)=l.length-(k+1):=by show min _ _ = _;omega
 have her:l.eraseIdx k=l.take k ++ l.drop (k+1):=List.eraseIdx_eq_take_drop_succ l k;by_cases hlt:k+1<l.length
 ·obtain⟨rfl,rfl⟩:=hd hlt
  have hfl:(B4 C7.cs (l.drop (k+1))).length=(l.length-(k+1))*5:=by rw[U7 C7.len,List.length_drop]
  have hcell:∀(m:Nat),m<l.length*5→(y.w.cell? ⟨g,m,none⟩).isSome=true∧y.w.frozen? ⟨g,m,none⟩=false:=fun m hm=>by
   have hm2:m<(B4 C7.cs l).length:=by rw[U7 C7.len];exact hm
   have hc:=P6 hown (A4 hm2);exact⟨by rw[show y.w.cell? ⟨g,m,none⟩= _ from hc.1 (A7.self y.w)];rfl,hc.2.1 (A7.self y.w)⟩
  have hrun:=yN (P:=P) y.w t t ty e 5 g (k*5) (l.length-k) c1 ⟨g,(k+1)*5,none⟩ (l.length-(k+1)) c2 (B4 C7.cs (l.drop (k+1))) ht.t hsz (by rw[hfl,hmin]) (fun j u hu=>by
   obtain⟨a,ha,hr⟩:=oK C7.len (by decide) _ j u hu;rw[List.getElem?_drop]at ha;have h1:=H7 C7.len l _ a (j % 5) u ha hr;rw[Addr.add_lit,show(k+1)*5+j=(k+1+j/5)*5+j % 5 from by omega];exact(P6 hown h1).1 (A7.self y.w)) (fun j hj=>(hcell _ (by omega)).1) (fun j hj=>(hcell _ (by omega)).2) (fun u hu=>by
   obtain⟨a,_,ha⟩:=List.mem_flatMap.1 hu;exact uR a u ha)
  rw[hmin]at hrun;have hgr:=yQ g (B4 C7.cs (l.drop (k+1))) (k*5) y.w;have ho:=oL (k:=5) (B4 C7.cs (l.drop (k+1))) (B4 C7.cs l) (k*5) y.w hown (by rw[hfl,U7 C7.len];omega);have hxs:(B4 C7.cs l).take (k*5) ++ B4 C7.cs (l.drop (k+1)) ++ (B4 C7.cs l).drop (k*5+(B4 C7.cs (l.drop (k+1))).length)=B4 C7.cs ((l.take k ++ l.drop (k+1)) ++ l.drop (l.length-1)):=by
   have hdr:∀m,(B4 C7.cs l).drop (m*5)=B4 C7.cs (l.drop m):=fun m=>by
    have h1:=U6 (enc:=C7.cs) (l.take m) (l.drop m);rw[List.take_append_drop]at h1;by_cases hm:m≤l.length
    ·have h2:(B4 C7.cs (l.take m)).length=m*5:=by rw[U7 C7.len,List.length_take,Nat.min_eq_left hm]
     rw[h1,←h2,List.drop_left]
    ·rw[List.drop_eq_nil_of_le (by rw[U7 C7.len];omega),List.drop_eq_nil_of_le (by omega)];rfl
   rw[U6,U6,oI C7.len,hfl,show k*5+(l.length-(k+1))*5=(l.length-1)*5 from by omega,hdr]
  rw[hxs]at ho;have hlen:((l.take k ++ l.drop (k+1)) ++ l.drop (l.length-1)).length=l.length:=by simp;omega
  have ho2:=yT C7.len ho hlen.symm (m:=l.length-1) (by rw[hlen];omega);rw[List.take_left' (by simp;omega),←her]at ho2;obtain⟨q,hq⟩:=y.grown hgr (fun b hb=>by cases hb;exact Nat.le_trans hbase (aZ hown _ rfl));rw[hq]at ho2 hgr hrun;exact⟨q,hrun,ho2,hgr⟩
 ·have hrun:=yO (P:=P) y.w t t ty e 5 d s (l.length-k) c1 (l.length-(k+1)) c2 ht.t hsz (by rw[hmin];omega)
  have ho2:=yT C7.len hown rfl (m:=l.length-1) (by omega);rw[show l.take (l.length-1)=l.eraseIdx k from by rw[her,List.drop_eq_nil_of_le (by omega),List.append_nil,show k=l.length-1 from by omega]]at ho2;rw[show l.length-(k+1)=0 from by omega]at hrun⊢;exact⟨y,hrun,ho2,World.grownBy.refl _ _⟩
def mO (w:World) (o:Ending) (w':World):Prop:=
 (∃(v:Int) (y:A7 w),v≠0∧o= .returned (.tuple #[.slice none 0 0,.int .i64 v])∧w'=y.w)∨∃(a:Option Addr) (l:List C7) (c:Nat) (y:A7 w),o= .returned (.tuple #[.slice a l.length c,.int .i64 0])∧w'=y.w∧D0 C7.cs 5 y.w a l∧l.length≤c∧o4 l
theorem AQ8 (w:World) (x:A7 w) (a:Option Addr) (l:List C7) (c:Nat) (h:D0 C7.cs 5 w a l) (hl:l.length≤9223372036854775807) (hc:l.length≤c) (b t o s:Int):
 Calls Tryz.prog 25 #[.slice a l.length c,.int .i64 b,.int .i64 t,.int .i64 o,.int .i64 s] x.w (mO w):=by
 have HP:=A3 (fun(v:Int) (y:A7 w) (h:v≠0)=>show mO w (.returned (.tuple #[.slice none 0 0,.int .i64 v])) y.w from .inl ⟨v,y,h,rfl,rfl⟩);have HR:=A3 (fun(a:Option Addr) (l:List C7) (c:Nat) (y:A7 w) (h1:D0 C7.cs 5 y.w a l) (h2:l.length≤c) (h3:o4 l)=>show mO w (.returned (.tuple #[.slice a l.length c,.int .i64 0])) y.w from .inr ⟨a,l,c,y,rfl,rfl,h1,h2,h3⟩);generalize mO w=PO at *;have HL:=A3 h;have HC:=A3 (show Calls Tryz.prog 24 #[.slice a l.length c] x.w (fun o w'=>∃v:Int,(v=0↔o4 l)∧o= .returned (.int .i64 v)∧∃y:A7 w,w'=y.w)from pS w x a l c h hl hc);have HF:=A3 (fun y:A7 w=>Ag7 w y a l c h hl b t);clear h;go_enter Tryz.func25,Tryz.ntmps25;go_upto_region 2 with(go_at_call 24;(with_reducible refine HC.out.mono ?_);rintro _ _ ⟨v,hv,rfl,y,rfl⟩)
 clear HC;by_cases hv0:v=0;rotate_left
 ·go_wp2_with fail
  exact HP.out v y hv0
 subst hv0;have Hok:=A3 (hv.1 rfl);clear hv;by_cases q0:o<0
 ·go_wp2_with fail
  exact HP.out 1 y (by decide)
 by_cases q1:8≤o
 ·go_wp2_with fail
  exact HP.out 1 y (by decide)
 by_cases q2:s<0
 ·go_wp2_with fail
  exact HP.out 1 y (by decide)
 by_cases q3:1000<s
 ·go_wp2_with fail
  exact HP.out 1 y (by decide)
 by_cases q4:t<0
 ·go_wp2_with fail
  exact HP.out 1 y (by decide)
 by_cases q5:4294943999<t
 ·go_wp2_with fail
  exact HP.out 1 y (by decide)
 go_upto_region 7 with(go_at_call 67;(with_reducible refine(HF.out y).mono ?_);rintro _ _ ⟨v,hv,rfl,y2,rfl⟩)
 clear HF y;rcases hv with⟨rfl,_⟩|⟨k,e,rfl,he,hct,_⟩
 ·go_wp2_with fail
  exact HP.out 7 y2 (by decide)
 have hkn:=(A5 he).1;have Bw4:=Hok.out.n;obtain⟨b1,off1,rfl,ra0,ra1,ra2,ra3,ra4⟩:=pR HL.out he;have He:=A3 he;have Hct:=A3 hct;have hk0:(0:Int)≤(k:Int):=by omega
 have hkl:(k:Int)<(l.length:Int):=by omega
 clear he hct;go_upto_region 10 with fail;obtain⟨y3,e2,C9,hsz0,hlt0,HX0⟩:=L8 y2 [.int .i64 o,.int .i64 b,.int .i64 t,.int .i64 e.t,.int .i64 s] 158;rw[e2];obtain⟨hx0,hx1,hx2,hx3,hx4,hxf⟩:=fO HX0;(have HX:=A3 HX0)
 clear e2 C9;generalize y2.w.heap.size=g at *;obtain⟨E6,G9,K1,J5,O8,I3⟩:=V5 HX0;have I9:=A3 (And.intro hsz0 hlt0);clear hlt0 hsz0 HX0;have Ra2:=A3 ra2;clear E6 G9 K1 J5 O8 I3 hx0 hx1 hx2 hx3 hx4 hxf ra0 ra1 ra2 ra3 ra4;obtain⟨i0,hi0,hz0,hsz0,gK⟩:=pT.e;go_upto_region 11 with(at_make;refine wpList_make_full _ rfl _ _ 78 rfl w.heap.size 158 i0 (.agg #[.int .i64 0,.int .i64 0,.int .i64 0,.int .i64 0,.int .i64 0]) 5 Tryz.underlying78 hi0 hz0 hsz0 .i64 .i64 (l.length:Int) (l.length:Int) l.length rfl rfl rfl rfl (by rw[gK];omega) (by unfold maxLen;omega) y3.b.size ?_;intro w1 hown hg1)
 have HX1:=A3 (HX.out.grown hg1 (by simp));have Hgx:=A3 (show g≠y3.w.heap.size from by have:=HX.out.lt;omega);obtain⟨y4,hy4⟩:=y3.grown hg1 (fun k hk=>by cases hk);subst hy4;have I5:=A3 hown;have Hgs:=A3 (show w.heap.size≤y3.w.heap.size from y3.b.size);clear hown hg1 HX y2;generalize y3.w.heap.size=g0 at *;clear y3;obtain⟨q1,hcp,hown2,hg2⟩:=yR (P:=Tryz.prog) y4 C7.len (by decide) uR 78 3 w.heap.size (Nat.le_refl _) 158 (.agg #[.int .i64 0,.int .i64 0,.int .i64 0,.int .i64 0,.int .i64 0]) 40 pT (.slice (some ⟨g0,0,none⟩) l.length l.length) l.length _ I5.out (some ⟨b1,off1,none⟩) l c (A7.els HL.out y4) rfl;have W6:=A3 hown2;have HX2:=A3 (HX1.out.grown hg2 (by intro h;exact Hgx.out (by simpa[Value.ownBlock]using h)));clear I5 hown2 hg2 HX1;go_upto_region 12 with fail;clear hcp hi0 hz0 hsz0 gK i0 y4;have r2:=Ra2.out q1;have hll:0<l.length:=by omega
 go_upto_if 74 with(fail)
 go_cut [15] (fun s15 wr=>∃(L:List C7) (q:A7 w),s15= .slice (some ⟨g0,0,none⟩) L.length l.length∧wr=q.w∧q.w.ownsRow w.heap.size 158 5 (.slice (some ⟨g0,0,none⟩) L.length l.length) L.length (B4 C7.cs L)∧C4 q.w g [.int .i64 o,.int .i64 b,.int .i64 t,.int .i64 e.t,.int .i64 s]∧L=if e.f=t then l.eraseIdx k else l.set k {e with t:=t})
 case first=>
  clear HL HP HR Ra2 r2;by_cases hft:e.f=t
  ·have Hft:=A3 hft
   have hfb:(e.f == t)=true:=by simp[hft]
   obtain⟨q1d,hqd⟩:=q1.drew;have hod:=J8 W6.out (A8.drew' (A8.self _));rw[hqd]at hod;have hxd:=HX2.out.drew;rw[hqd]at hxd;obtain⟨q2,hcp,hown3,hg3⟩:=AQ7 (P:=Tryz.prog) q1d 78 3 158 (.agg #[.int .i64 0,.int .i64 0,.int .i64 0,.int .i64 0,.int .i64 0]) 40 pT w.heap.size (Nat.le_refl _) g0 l hod k hkn (aY (some ⟨g0,0,none⟩) k l.length 5) (aY (some ⟨g0,0,none⟩) (k+1) l.length 5) (fun h=>by
    unfold aY;rw[if_neg (by omega),if_neg (by omega)];constructor<;>(simp only[Option.map_some,Addr.add_lit,Nat.zero_add])) (l.length-k) (l.length-(k+1))
   rw[←hqd]at hcp;have aX:=A3 hown3;have HX3:=A3 (hxd.grown hg3 (by intro h;exact Hgx.out (by simpa using h)));clear hown3 hg3 W6 HX2 hft hod hxd hqd q1d;have hk1:(k:Int)+1≤(l.length:Int):=by omega
   have ek:IntKind.i64.wrap ((k:Int)+1)=(k:Int)+1:=IntWalk.i64_in _ ⟨by omega,by omega⟩;have hk4:(0:Int)≤(k:Int)+1:=by omega
   have ek2:((k:Int)+1).toNat=k+1:=by omega
   have hk2:k≤l.length:=by omega
   have hk3:k+1≤l.length:=by omega
   go_upto_region 13 with fail;refine R7 (fun w'=>w'=q1.w.drew) 7 (by kernel_rfl) rfl (fun hS=>?_);iterate 7
    refine J4 0 ?_ rfl rfl (by kernel_rfl) hS (fun _ _ _ h=>h) ?_ ?_
    rotate_left
    ·(intro w h;(try dsimp only at h);go_split_ands;go_simp;try with_reducible rfl)
    (try simp only[Act.put,B9])
   refine I0 7 (by kernel_rfl) rfl fun K hK=>?_;go_simp;refine M9 hK (by kernel_rfl) ?_;clear hK K;(try clear hS)
   (try simp only[Act.put,B9])
   clear hcp;go_wp2_with fail;go_meet;have hlE:l.length-1=(l.eraseIdx k).length:=by rw[List.length_eraseIdx_of_lt hkn]
   have ho3:=aX.out;rw[hlE]at ho3;exact⟨l.eraseIdx k,q2,by rw[←hlE],rfl,ho3,HX3.out,by rw[if_pos Hft.out]⟩
  ·have Hft:=A3 hft
   have hfb:(e.f == t)=false:=by simp[hft]
   clear hft;have ef:=P6 W6.out (j:=k*5+3) (u:=.int .i64 e.t) (H7 C7.len l k e 3 _ He.out rfl);have r3:q1.w.cell? ⟨g0,k*5+2+1,none⟩=some (.int .i64 e.t):=ef.1 (A7.self q1.w);have f3:q1.w.frozen? ⟨g0,k*5+2+1,none⟩=false:=ef.2.1 (A7.self q1.w);clear ef;have ho:=iR W6.out (j:=k*5+3) (by rw[U7 C7.len];omega) (.int .i64 t);rw[AQ6 (f:={e with t:=t}) He.out (by decide) rfl]at ho;obtain⟨q2,hq2⟩:=q1.set ⟨g0,k*5+3,none⟩ Hgs.out (.int .i64 t);have hX3:=HX2.out.far ⟨g0,k*5+3,none⟩ (.int .i64 t) Hgx.out;rw[hq2]at ho hX3;have HO:=A3 ho;have HX3:=A3 hX3;have Hq2:=A3 hq2;clear ho hX3 hq2 W6 HX2;go_wp2_with fail;go_meet;refine⟨l.set k {e with t:=t},q2,by rw[List.length_set],Hq2.out,by rw[List.length_set];exact HO.out,HX3.out,by rw[if_neg Hft.out]⟩
 case rest=>
  clear W6 HX2 Ra2 r2 HL;obtain⟨L,q2,rfl,rfl,hO,hX,hL⟩:=hcut;have HO:=A3 hO;have HX:=A3 hX;have HL:=A3 hL;have hLl:L.length≤l.length∧l.length≤L.length+1:=by
   rw[hL];split
   ·rw[List.length_eraseIdx_of_lt hkn];omega
   ·rw[List.length_set];omega
  clear hO hX hL q1;by_cases hL5:512≤L.length
  ·have hL6:(512:Int)≤(L.length:Int):=by omega
   go_wp2_with fail;exact HP.out 8 q2 (by decide)
  have hL6:¬(512:Int)≤(L.length:Int):=by omega
  have g0c:=HX.out.c 0 _ rfl;have g1c:=HX.out.c 1 _ rfl;have g2c:=HX.out.c 2 _ rfl;have g3c:=HX.out.c 3 _ rfl;have g4c:=HX.out.c 4 _ rfl;go_upto_region 18 with fail;have hzero:L.length+1≤600:=by omega
  have HLE:=A3 (show o4 (L ++ [⟨o,b,t,e.t,s⟩])from by
   have h1:L ++ [⟨o,b,t,e.t,s⟩]=mM l k e b t o s:=by unfold mM;rw[HL.out]
   have h2:(L ++ [(⟨o,b,t,e.t,s⟩:C7)]).length≤512:=by rw[List.length_append];show L.length+1≤512;omega
   rw[h1]at h2⊢;exact AP6 Hok.out He.out Hct.out ⟨by omega,by omega⟩ ⟨by omega,by omega⟩ ⟨by omega,by omega⟩ h2)
  go_wp2_with(at_builtin;(refine cY (w0:=w) (enc:=C7.cs) (k:=5) C7.len (by decide) uR ?hw rfl _ _ 78 rfl w.heap.size (Nat.le_refl _) ?hb 158 (.agg #[.int .i64 0,.int .i64 0,.int .i64 0,.int .i64 0,.int .i64 0]) 40 pT (.slice (some ⟨g0,0,none⟩) L.length l.length) L.length (B4 C7.cs L) rfl ?hown (some ⟨q2.w.heap.size,0,none⟩) [⟨o,b,t,e.t,s⟩] 1 rfl ?hels (fun h=>by cases h) ?h63 ?hbytes ?_;rotate_right 1;intro v2 q3 hown3 _ hg3;refine Hid.out ?_))
  case hw=>exact q2.alloc _
  case hb=>have:=q2.b.size;(try simp);omega
  case hown=>exact J8 HO.out (A8.alloc (A8.self _) _)
  case hels=>exact sL C7.len q2.w [⟨o,b,t,e.t,s⟩] _
  case h63=>show L.length+1≤maxLen;unfold maxLen;omega
  case hbytes=>show(L.length+1)*40≤_;omega
  refine A3 ?_;have hown4:q3.w.ownsRow w.heap.size 158 5 v2 (L.length+1) (B4 C7.cs (L ++ [⟨o,b,t,e.t,s⟩])):=by rw[U6];exact hown3
  obtain⟨hln,a4,c4,rfl,hc4,he4,_,_⟩:=O9 C7.len (by decide) hown4;have HE:=A3 he4;have Hc4:=A3 hc4;have Hln:=A3 hln;clear hown3 hown4 hg3 he4 hc4 hln;go_wp2_with fail;have hr:=HR.out a4 (L ++ [⟨o,b,t,e.t,s⟩]) c4 q3 HE.out (by have h1:=Hc4.out;have h2:=Hln.out;omega) HLE.out;exact hr
end
end Go.Proofs.YtmmlmhnjjfnpnaaGreat
