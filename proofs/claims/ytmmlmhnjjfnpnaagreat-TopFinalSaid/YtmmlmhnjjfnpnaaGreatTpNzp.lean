/- Texts that belong together. -/
import Derived.Test.YtmmlmhnjjfnpnaaGreatTpNw
import Derived.Test.YtmmlmhnjjfnpnaaGreatTpNze
import Derived.Test.YtmmlmhnjjfnpnaaGreatTpNzo
set_option linter.all false
namespace Go.Proofs.YtmmlmhnjjfnpnaaGreat
section
theorem Au3:∀(l:List F0) (a0 a1 e0 e1:Int),W6 a0 a1 l e0 e1=true→p4 false l=true→a0≤e0
 |[],a0,a1,e0,e1,h,_ =>by unfold W6 at h;simp at h;omega
 |x :: l,a0,a1,e0,e1,h,h2=>by
  unfold W6 at h;unfold p4 at h2;simp only[Bool.and_eq_true,decide_eq_true_eq,Bool.false_and,Bool.or_false]at h h2;have:=Au3 l _ _ _ _ h.2 h2.2;omega
theorem Bs5 {r:A8} (h:I7 r=0) (ho:r.op=false):r.s0≤r.e0:=by
 unfold I7 at h;split at h
 ·omega
 ·split at h
  ·omega
  ·rename_i h1
   split at h
   ·omega
   ·rename_i h2
    unfold j4 at h1;unfold W7 at h2;rw[ho]at h2;simp only[Bool.and_eq_false_iff,not_or,Bool.not_eq_false,Bool.and_eq_true]at h1 h2;exact Au3 _ _ _ _ _ h1.2 h2.1
structure nY (Ra Rb:List A8) (h:Int):Prop where
 same:∀r:A8,r.op=false→r.e0<h→(r∈Ra↔r∈Rb)
 bef:∀r r':A8,r∈Rb→r'∈Rb→r.op=false→r'.op=false→r'.rd=r.rd→r.e0<h→h≤r'.e0→bef r r'=true
theorem xX {s:C7} {r:A8} (h:r∈s.rs):∃k,k<s.rs.length∧s.rat k=r:=by
 obtain⟨k,hk,rfl⟩:=List.mem_iff_getElem.1 h;exact⟨k,hk,by unfold C7.rat;rw[A5,A3 hk];rfl⟩
theorem xY {s:C7} {k:Nat} (h:k<s.rs.length):s.rat k∈s.rs:=by
 unfold C7.rat;rw[A5,A3 h];exact List.getElem_mem h
theorem Au4 {s s1 s2:C7} {h:Int} (E1:hZ s s1 h) (E2:hZ s s2 h) {r:A8} (ho:r.op=false) (hh:r.e0<h) (hr:r∈s1.rs):r∈s2.rs:=by
 obtain⟨k,hk,rfl⟩:=xX hr;rcases E1.nw k hk ho with⟨h1,h2⟩|h1
 ·rw[E1.cl k h1 h2,←E2.cl k h1 h2]
  exact xY (by have:=E2.le;omega)
 ·omega
theorem Au5:∀P:List Ev,∃m:Int,∀e∈P,m≤e.a
 |[]=>⟨0,by simp⟩
 |e :: P=>by
  obtain⟨m,hm⟩:=Au5 P;refine⟨min m e.a,fun x hx=>?_⟩;rcases List.mem_cons.1 hx with rfl|hx
  ·exact Int.min_le_right _ _
  ·exact Int.le_trans (Int.min_le_left _ _) (hm x hx)
theorem Bs6 {f:D5} {P A B:List Ev} {h:Int} (hA:(P ++ A).Pairwise fun x y=>x.a≤y.a) (hB:(P ++ B).Pairwise fun x y=>x.a≤y.a) (lA:(P ++ A).length≤512) (lB:(P ++ B).length≤512)
 (h0:∀e∈P ++ A,0≤e.a) (h1:∀e∈P ++ B,0≤e.a) (hhA:∀e∈A,h≤e.a) (hhB:∀e∈B,h≤e.a):nY (P1 f (P ++ A)) (P1 f (P ++ B)) h:=by
 rw[List.length_append]at lA lB;obtain⟨p1,p2,p3⟩:=List.pairwise_append.1 hA;obtain⟨q1,q2,q3⟩:=List.pairwise_append.1 hB;have hm:∀{L:List Ev} (e:Ev),e∈L→e∈P ++ L:=fun e he=>List.mem_append_right _ he;obtain⟨m,hm2⟩:=Au5 P;have S0:=nX (f:=f) (h:=m) (s0:=L3 f.bk.toNat) rfl P (M1 f.bk.toNat) (L3 f.bk.toNat) 0 0 (qO _ _) (Bs4 _ _) (xV _ _) (fun e he=>⟨h0 e (List.mem_append_left _ he),hm2 e he⟩) p1 (by omega);obtain⟨c1,T1,N1,n1,J1,R1,_,t1,hc1⟩:=S0;have T1A:∀(L:List Ev),(∀a∈P,∀b∈L,a.a≤b.a)→(∀e∈L,0≤e.a)→∀e∈L,T1≤e.a:=fun L hp h0 e he=>by
  rcases t1 with rfl|⟨x,hx,rfl⟩
  ·exact h0 e he
  ·exact hp x hx e he
 have eq:∀L:List Ev,P1 f (P ++ L)=((J6 f c1 L).foldl O3 ((J6 f (M1 f.bk.toNat) P).foldl O3 (L3 f.bk.toNat))).rs:=fun L=>by
  unfold P1;rw[xW,List.foldl_append,hc1]
 rw[eq A,eq B];generalize(J6 f (M1 f.bk.toNat) P).foldl O3 (L3 f.bk.toNat)=s1 at *;obtain⟨cA,TA,NA,nA,JA,RA,EA,_,_⟩:=nX (f:=f) (h:=h) (s0:=s1) rfl A c1 s1 T1 N1 J1 R1 (xV _ _) (fun e he=>⟨T1A A p3 (fun e he=>h0 e (hm e he)) e he,hhA e he⟩) p2 (by omega);obtain⟨cB,TB,NB,nB,JB,RB,EB,_,_⟩:=nX (f:=f) (h:=h) (s0:=s1) rfl B c1 s1 T1 N1 J1 R1 (xV _ _) (fun e he=>⟨T1A B q3 (fun e he=>h1 e (hm e he)) e he,hhB e he⟩) q2 (by omega);refine⟨fun r ho hh=>⟨Au4 EA EB ho hh,Au4 EB EA ho hh⟩,fun r r' hr hr' ho ho' hrd hh hh'=>?_⟩;obtain⟨i,hi,rfl⟩:=xX hr;obtain⟨j,hj,rfl⟩:=xX hr';have hle:=Bs5 (JB.cl i hi ho) ho;rw[iS];rcases Nat.lt_trichotomy i j with h3|h3|h3
 ·have:=(RB.fo i j h3 hj hrd.symm).2
  omega
 ·subst h3;omega
 ·have:=(RB.fo j i h3 hi hrd).2
  omega
theorem xZ {h:Int}:∀{l:List Ev},(l.Pairwise fun x y=>x.a≤y.a)→l=l.filter (fun x=>decide (x.a<h)) ++ l.filter (fun x=>!decide (x.a<h))
 |[],_ =>rfl
 |x :: l,hp=>by
  rw[List.pairwise_cons]at hp;by_cases hx:x.a<h
  ·have:=xZ (h:=h) hp.2
   simp only[List.filter_cons,hx,decide_true,if_true,Bool.not_true,Bool.false_eq_true,if_false,List.cons_append];rw[←this]
  ·have h1:l.filter (fun x=>decide (x.a<h))=[]:=by
    rw[List.filter_eq_nil_iff];intro y hy;have:=hp.1 y hy;simp;omega
   have h2:l.filter (fun x=>!decide (x.a<h))=l:=by
    rw[List.filter_eq_self];intro y hy;have:=hp.1 y hy;simp;omega
   simp only[List.filter_cons,hx,decide_false,if_false,Bool.not_false,if_true,h1,h2];rfl
theorem Au6 (p:Ev→Bool) (l:List Ev):(J3 l).filter p=J3 (l.filter p):=vE ((iW l).filter p) ((kN l).filter p)
theorem Au7 {N:Int} {l:List Ev} (h:W9 N l):G9 (J3 l)=J3 l:=by
 refine Am8 (kN l) ?_;have hn:(J3 l).Nodup:=(iW l).nodup_iff.2 h.nodup;refine List.Pairwise.imp_of_mem (fun{x y} hx hy hne=>?_) hn;apply Classical.byContradiction;intro hs;rw[Bool.not_eq_false]at hs;exact hne (h.keys y ((mU l y).1 hy) x ((mU l x).1 hx) hs).symm
theorem Bs7 {f:D5} {N:Int} {n:Nat} (hN:N=n) {la nw:List Ev} (hb:W9 N (la ++ nw)):nY (P1 f (G9 (J3 la))) (P1 f (G9 (J3 (la ++ nw)))) (hor n la)∧hor n la≤hor n (la ++ nw):=by
 have hs:qF (la ++ nw) la:=⟨fun x hx=>List.mem_append_left _ hx,(List.nodup_append.1 hb.nodup).1⟩
 have ha:=vK hb hs;have hd:=(List.nodup_append.1 hb.nodup).2.2;refine⟨?_,AQ7 ha hb hs.sub⟩;rw[Au7 ha,Au7 hb];have hnw:∀x∈nw,hor n la≤x.a:=fun x hx=>AQ9 hN hb hs (List.mem_append_right _ hx) (fun h=>hd x h x hx rfl);have hat:∀l:List Ev,(J3 l).Pairwise fun x y=>x.a≤y.a:=fun l=>(kN l).imp fun h=>Am7 h;have eP:(J3 la).filter (fun x=>decide (x.a<hor n la))=(J3 (la ++ nw)).filter (fun x=>decide (x.a<hor n la)):=by
  rw[Au6,Au6,List.filter_append];have:nw.filter (fun x=>decide (x.a<hor n la))=[]:=by
   rw[List.filter_eq_nil_iff];intro y hy;have:=hnw y hy;simp;omega
  rw[this,List.append_nil]
 have s1:=xZ (h:=hor n la) (hat la);have s2:=xZ (h:=hor n la) (hat (la ++ nw));rw[←eP]at s2;have pos:∀(l:List Ev),W9 N l→∀e∈J3 l,0≤e.a:=fun l hl e he=>by
  have:=(iX e).1 (hl.rng e ((mU l e).1 he)).2.2;omega
 have pa:=pos la ha;have pb:=pos (la ++ nw) hb;have la1:(J3 la).length≤512:=by rw[fI];exact ha.len
 have lb1:(J3 (la ++ nw)).length≤512:=by rw[fI];exact hb.len
 have ht1:=hat la;have ht2:=hat (la ++ nw);rw[s1]at pa la1 ht1;rw[s2]at pb lb1 ht2;rw[s1,s2];have hge:∀(l:List Ev),∀e∈l.filter (fun x=>!decide (x.a<hor n la)),hor n la≤e.a:=fun l e he=>by
  have:=(List.mem_filter.1 he).2;simp at this;exact this
 exact Bs6 ht1 ht2 la1 lb1 pa pb (hge _) (hge _)
end
section
def Q3 (l:List A8):Prop:=l.Pairwise fun x y=>x.id≠y.id
theorem Q3.same {l:List A8} (h:Q3 l) {x y:A8} (hx:x∈l) (hy:y∈l) (e:x.id=y.id):x=y:=by
 obtain⟨i,hi,rfl⟩:=List.mem_iff_getElem.1 hx;obtain⟨j,hj,rfl⟩:=List.mem_iff_getElem.1 hy;unfold Q3 at h;rw[List.pairwise_iff_getElem]at h;rcases Nat.lt_trichotomy i j with h1|h1|h1
 ·exact absurd e (h i j hi hj h1)
 ·subst h1;rfl
 ·exact absurd e.symm (h j i hj hi h1)
theorem Q3.nodup {l:List A8} (h:Q3 l):l.Nodup:=h.imp fun hne e=>hne (by rw[e])
theorem eR {l:List A8} {i:Nat} (hi:i<l.length):C1 l i=l[i]:=uL (A3 hi)
theorem lI {l:List A8} {i:Nat} (hi:i<l.length):C1 l i∈l:=by rw[eR hi];exact List.getElem_mem hi
theorem Q3.inj {l:List A8} (h:Q3 l) {i j:Nat} (hi:i<l.length) (hj:j<l.length) (e:(C1 l i).id=(C1 l j).id):i=j:=by
 rw[eR hi,eR hj]at e;unfold Q3 at h;rw[List.pairwise_iff_getElem]at h;rcases Nat.lt_trichotomy i j with h1|h1|h1
 ·exact absurd e (h i j hi hj h1)
 ·exact h1
 ·exact absurd e.symm (h j i hj hi h1)
theorem sI {l:List A8} {x:A8} (hx:x∈l):∃i,i<l.length∧C1 l i=x:=by
 obtain⟨i,hi,rfl⟩:=List.mem_iff_getElem.1 hx;exact⟨i,hi,eR hi⟩
structure nZ (C D:List A8):Prop where
 c:Q3 C
 d:Q3 D
 sub:∀x∈C,x∈D
 bef:∀r∈C,∀x∈D,x∉C→x.rd=r.rd→bef r x=true
theorem nZ.in {C D:List A8} (h:nZ C D) {r x:A8} (hr:r∈C) (hx:x∈D) (he:x.rd=r.rd) (hb:Go.Proofs.YtmmlmhnjjfnpnaaGreat.bef x r=true):x∈C:=by
 apply Classical.byContradiction;intro hn;have:=h.bef r hr x hx hn he;rw[Ae1 hb]at this;cases this
theorem Bs8 {lp:List G3} {r:A8} {c d:Int→Nat} (h:∀k,k<lp.length→vP (K1 lp k) r=true→c (k:Int)=d (k:Int)):W8 lp r c=W8 lp r d:=by
 rcases uN lp r c with⟨k,hk,e,h1,h2⟩|⟨e,h1⟩
 ·rw[e];symm
  refine Ae2 hk ?_ fun j hj=>?_
  ·rw[Bool.and_eq_true]at h1⊢
   rw[←h k hk h1.1];exact h1
  ·have:=h2 j hj
   cases hv:vP (K1 lp j) r
   ·rfl
   ·rw[←h j (by omega) hv,←hv];exact this
 ·rw[e];symm
  refine uM fun j hj=>?_;have:=h1 j hj
  cases hv:vP (K1 lp j) r
  ·rfl
  ·rw[←h j hj hv,←hv];exact this
theorem Au8 {p:G3} {r:A8} (h:vP p r=true):p.rd=r.rd:=by
 unfold vP at h;simp at h;exact h.1
theorem Bs9 {lp:List G3} {r:A8} {c:Int→Nat} {k:Nat} (h:W8 lp r c=(k:Int)):vP (K1 lp k) r=true:=by
 rcases uN lp r c with⟨j,hj,e,h1,h2⟩|⟨e,_⟩
 ·obtain rfl:j=k:=by omega
  rw[Bool.and_eq_true]at h1;exact h1.1
 ·omega
theorem Au9 {C D:List A8} (hC:Q3 C) {u v:Nat→Int} {r:A8} {k:Int} (h:∀i,i<C.length→bef (C1 C i) r=true→u i=k→F8 (C1 C i)=F8 r→∃j,j<D.length∧C1 D j=C1 C i∧v j=k):Z3 C u r k≤Z3 D v r k:=by
 unfold Z3;have h1:=vI (((List.range C.length).filter fun j=>bef (C1 C j) r && decide (u j=k) && decide (F8 (C1 C j)=F8 r)).map fun j=>(C1 C j).id) (((List.range D.length).filter fun j=>bef (C1 D j) r && decide (v j=k) && decide (F8 (C1 D j)=F8 r)).map fun j=>(C1 D j).id) ?_ ?_
 ·simpa using h1
 ·refine List.pairwise_map.2 (List.Pairwise.imp_of_mem (fun{i j} hi hj hne e=>?_) (List.Pairwise.filter _ (List.nodup_range (n:=C.length))))
  exact hne (hC.inj (by simpa using(List.mem_filter.1 hi).1) (by simpa using(List.mem_filter.1 hj).1) e)
 ·intro x hx
  obtain⟨i,hi,rfl⟩:=List.mem_map.1 hx;obtain⟨hi,hq⟩:=List.mem_filter.1 hi;simp only[Bool.and_eq_true,decide_eq_true_eq]at hq;obtain⟨j,hj,e,hv⟩:=h i (by simpa using hi) hq.1.1 hq.1.2 hq.2;refine List.mem_map.2 ⟨j,List.mem_filter.2 ⟨by simpa using hj,?_⟩,by rw[e]⟩;simp only[Bool.and_eq_true,decide_eq_true_eq];rw[e];exact⟨⟨hq.1.1,hv⟩,hq.2⟩
theorem Av0 {lp:List G3} {C D:List A8} {u v:Nat→Int} (hu:S5 lp C u) (hv:S5 lp D v) (h:nZ C D):∀i j,i<C.length→j<D.length→C1 C i=C1 D j→u i=v j:=by
 have:∀n i j,i<C.length→j<D.length→C1 C i=C1 D j→pQ D (C1 D j)=n→u i=v j:=by
  intro n;induction n using Nat.strongRecOn with
  | _ n ih=>
   intro i j hi hj e hn
   have hrC:C1 D j∈C:=e ▸ lI hi
   rw[hu i hi,hv j hj,e]
   refine Bs8 fun k hk hvk=>Nat.le_antisymm ?_ ?_
   ·refine Au9 h.c fun a ha hb hua _ =>?_
    obtain⟨b,hb1,hb2⟩:=sI (h.sub _ (lI ha));refine⟨b,hb1,hb2,?_⟩;rw[←hb2]at hb;rw[←ih _ (by rw[←hn];exact uO hb1 hb) a b ha hb1 hb2.symm rfl];exact hua
   ·refine Au9 h.d fun b hb1 hb hvb _ =>?_
    have hvv:vP (K1 lp k) (C1 D b)=true:=by
     rw[hv b hb1]at hvb;exact Bs9 hvb
    have hmem:=h.in hrC (lI hb1) ((Au8 hvv).symm.trans (Au8 hvk)) hb
    obtain⟨a,ha1,ha2⟩:=sI hmem;refine⟨a,ha1,ha2,?_⟩;rw[ih _ (by rw[←hn];exact uO hb1 hb) a b ha1 hb1 ha2 rfl];exact hvb
 exact fun i j hi hj e=>this _ i j hi hj e rfl
def pm1 (cap s n:Int):Int:=if 0<cap then min n (cap-s)else n
def Bt0 (cap s n:Int):Int:=s+pm1 cap s n
def jP (r d:Int) (x:Int×Int×Int):Bool:=decide (x.1=r) && decide (x.2.1=d)
theorem yA (cap:Int):∀(G done:List (Int×Int×Int)) (k:Nat) (r d n:Int),G[k]? =some (r,d,n)→
 B2 (fO cap done G) k=pm1 cap ((((G.take k).filter (jP r d)).map fun x=>x.2.2).foldl (Bt0 cap) (aW done r d)) n
 |[],_,k,_,_,_,h=>by simp at h
 |(r',d',n') :: G,done,0,r,d,n,h=>by
  simp at h;obtain⟨rfl,rfl,rfl⟩:=h;rfl
 |(r',d',n') :: G,done,k+1,r,d,n,h=>by
  rw[rL];have ih:=yA cap G (done ++ [(r',d',l9 cap done r' d' n')]) k r d n (by simpa using h);rw[show B2 (l9 cap done r' d' n' :: fO cap (done ++ [(r',d',l9 cap done r' d' n')]) G) (k+1)=B2 (fO cap (done ++ [(r',d',l9 cap done r' d' n')]) G) k from rfl,ih,rK,List.take_succ_cons,List.filter_cons];by_cases e:(r,d)=(r',d')
  ·obtain⟨rfl,rfl⟩:=Prod.mk.inj e
   rw[if_pos rfl,if_pos (by simp[jP]),List.map_cons,List.foldl_cons];rfl
  ·rw[if_neg e,if_neg]
   intro h2;unfold jP at h2;simp at h2;exact e (by rw[h2.1,h2.2])
theorem Bt1 {D:List A8} (hD:Q3 D) (v:Nat→Int):∃U:A8→Int,∀j,j<D.length→v j=U (C1 D j):=by
 classical
 refine⟨fun x=>if h:∃j,j<D.length∧C1 D j=x then v h.choose else 0,fun j hj=>?_⟩;have he:∃i,i<D.length∧C1 D i=C1 D j:=⟨j,hj,rfl⟩
 simp only[dif_pos he];have:=he.choose_spec;rw[hD.inj this.1 hj (by rw[this.2])]
noncomputable def jQ (p:E4) (U:A8→Int) (x:A8):Int×Int×Int:=(x.rd,F8 x,(L8 p x (U x)).tt)
theorem Av2 {p:E4} {C:List A8} {u:Nat→Int} {U:A8→Int} (h:∀i,i<C.length→u i=U (C1 C i)):U2 p C u=C.map (jQ p U):=by
 refine List.ext_getElem (by simp[U2]) fun i h1 h2=>?_;have hi:i<C.length:=by simpa using h2
 simp only[U2,List.getElem_map,List.getElem_range];rw[h i hi,eR hi];rfl
theorem Bt2 {l m:List A8} (hl:l.Pairwise fun x y=>bef y x=false) (hm:m.Pairwise fun x y=>bef y x=false) (il:Q3 l) (im:Q3 m) (h:∀x,x∈l↔x∈m):l=m:=by
 refine List.Perm.eq_of_pairwise (le:=fun x y:A8=>bef y x=false) (fun x y hx hy h1 h2=>?_) hl hm ((List.perm_ext_iff_of_nodup il.nodup im.nodup).2 h);exact il.same hx ((h y).2 hy) (mQ h2 h1)
theorem Av3 {C:List A8} (hC:Q3 C) (hs:C.Pairwise fun x y=>bef y x=false) {i:Nat} (hi:i<C.length) (x:A8):x∈C.take i↔x∈C∧bef x (C1 C i)=true:=by
 rw[eR hi];have hp:=List.pairwise_iff_getElem.1 hs;constructor
 ·intro hx
  obtain⟨j,hj,rfl⟩:=List.mem_iff_getElem.1 hx;rw[List.length_take]at hj;rw[List.getElem_take];refine⟨List.getElem_mem _,?_⟩
  cases hb:bef C[j] C[i]
  ·have h2:=hp j i (by omega) hi (by omega)
   have:=mQ hb h2;exact absurd this (List.pairwise_iff_getElem.1 hC j i (by omega) hi (by omega))
  ·rfl
 ·rintro⟨hx,hb⟩
  obtain⟨j,hj,rfl⟩:=List.mem_iff_getElem.1 hx;rcases Nat.lt_or_ge j i with h1|h1
  ·exact List.mem_iff_getElem.2 ⟨j,by rw[List.length_take];omega,by rw[List.getElem_take]⟩
  ·rcases Nat.lt_or_ge i j with h2|h2
   ·rw[hp i j hi hj h2]at hb;cases hb
   ·obtain rfl:i=j:=by omega
    rw[iT]at hb;cases hb
theorem Bt3 {p:E4} {C D:List A8} {u v:Nat→Int} (hu:S5 p.ps C u) (hv:S5 p.ps D v) (h:nZ C D) (sC:C.Pairwise fun x y=>bef y x=false) (sD:D.Pairwise fun x y=>bef y x=false) {i:Nat} (hi:i<C.length):l8 p C u i∈cI p D v:=by
 obtain⟨U,hU⟩:=Bt1 h.d v;obtain⟨j,hj,hji⟩:=sI (h.sub _ (lI hi));have huU:∀a,a<C.length→u a=U (C1 C a):=fun a ha=>by
  obtain⟨b,hb,hba⟩:=sI (h.sub _ (lI ha));rw[Av0 hu hv h a b ha hb hba.symm,hU b hb,hba]
 refine List.mem_map.2 ⟨j,by simpa using hj,?_⟩;have e1:v j=u i:=(Av0 hu hv h i j hi hj hji.symm).symm;have e2:B2 (R9 p.cap (U2 p D v)) j=B2 (R9 p.cap (U2 p C u)) i:=by
  rw[Av2 huU,Av2 hU];have gC:(C.map (jQ p U))[i]? =some ((C1 C i).rd,F8 (C1 C i),(L8 p (C1 C i) (U (C1 C i))).tt):=by
   rw[List.getElem?_map,A3 hi,eR hi];rfl
  have gD:(D.map (jQ p U))[j]? =some ((C1 C i).rd,F8 (C1 C i),(L8 p (C1 C i) (U (C1 C i))).tt):=by
   rw[←hji,List.getElem?_map,A3 hj,eR hj];rfl
  unfold R9;rw[yA p.cap _ [] j _ _ _ gD,yA p.cap _ [] i _ _ _ gC];have hlist:((D.map (jQ p U)).take j).filter (jP (C1 C i).rd (F8 (C1 C i)))=((C.map (jQ p U)).take i).filter (jP (C1 C i).rd (F8 (C1 C i))):=by
   rw[←List.map_take,←List.map_take,List.filter_map,List.filter_map];congr 1;have pt:∀{l:List A8} {q:A8→Bool} (n:Nat),l.Pairwise (fun x y=>bef y x=false)→((l.take n).filter q).Pairwise fun x y=>bef y x=false:=fun n hl=>(hl.sublist (List.take_sublist _ _)).filter _;have pi:∀{l:List A8} {q:A8→Bool} (n:Nat),Q3 l→Q3 ((l.take n).filter q):=fun n hl=>List.Pairwise.filter _ (List.Pairwise.sublist (List.take_sublist _ _) hl);refine Bt2 (pt j sD) (pt i sC) (pi j h.d) (pi i h.c) fun x=>?_;rw[List.mem_filter,List.mem_filter,Av3 h.d sD hj,Av3 h.c sC hi,hji];constructor
   ·rintro⟨⟨hx,hb⟩,hq⟩
    have hrd:x.rd=(C1 C i).rd:=by
     have h1:jP (C1 C i).rd (F8 (C1 C i)) (jQ p U x)=true:=hq;unfold jP jQ at h1;simp at h1;exact h1.1
    exact⟨⟨h.in (lI hi) hx hrd hb,hb⟩,hq⟩
   ·rintro⟨⟨hx,hb⟩,hq⟩
    exact⟨⟨h.sub _ hx,hb⟩,hq⟩
  rw[hlist]
 unfold l8;rw[e2,hji,e1]
end
section
def i7 (hor:Int) (r:A8):Bool:=!r.op && decide (r.e0<hor)
theorem Bt4 {h:Int} {r:A8}:i7 h r=true↔r.op=false∧r.e0<h:=by simp[i7]
theorem Bt5 (h:Int) (R:List A8):(R.filter (i7 h)).map A8.br=(R.map A8.br).filter (i7 h):=by
 rw[List.filter_map];rfl
theorem Q3.br {l:List A8}:Q3 (l.map A8.br)↔Q3 l:=by unfold Q3;rw[List.pairwise_map];rfl
theorem Q3.perm {l m:List A8} (h:Q3 l) (p:l.Perm m):Q3 m:=(p.pairwise_iff (fun h e=>h e.symm)).1 h
theorem oA {R:List A8} {i:Nat} (hi:i<R.length):C1 (R.map A8.br) i=(C1 R i).br:=by
 rw[eR (by simpa using hi),eR hi,List.getElem_map]
theorem Av4 (R:List A8) (u:Nat→Int) (x:A8) (k:Int):Z3 (R.map A8.br) u x.br k=Z3 R u x k:=by
 unfold Z3;rw[List.length_map];congr 1;refine List.filter_congr fun j hj=>?_;rw[oA (List.mem_range.1 hj)];rfl
theorem Av5 {lp:List G3} {R:List A8} {u:Nat→Int}:S5 lp (R.map A8.br) u↔S5 lp R u:=by
 unfold S5;rw[List.length_map];have hf:∀(r:A8) (c:Int→Nat),W8 lp r.br c=W8 lp r c:=fun r c=>rfl;constructor
 ·intro h i hi
  have:=h i hi;rw[oA hi,hf]at this;rw[this];exact kK fun k _ =>Av4 R u _ _
 ·intro h i hi
  rw[oA hi,hf,h i hi];exact kK fun k _ =>(Av4 R u _ _).symm
theorem Av6 (p:E4) (r:A8) (u:Int):L8 p r.br u=L8 p r u:=rfl
theorem Bt6 (p:E4) (R:List A8) (u:Nat→Int):U2 p (R.map A8.br) u=U2 p R u:=by
 unfold U2;rw[List.length_map];refine List.map_congr_left fun i hi=>?_;rw[oA (List.mem_range.1 hi),Av6];rfl
theorem Av7 (p:E4) {R:List A8} (u:Nat→Int) {i:Nat} (hi:i<R.length):l8 p (R.map A8.br) u i=l8 p R u i:=by
 unfold l8;rw[oA hi,Av6,Bt6];rfl
theorem Bt7 (p:E4) (R:List A8) (u:Nat→Int):cI p (R.map A8.br) u=cI p R u:=by
 unfold cI;rw[List.length_map];exact List.map_congr_left fun i hi=>Av7 p u (List.mem_range.1 hi)
theorem Bt8 {f:D5} {l:List Ev} (hl:(G9 l).length≤512):Q3 (V3 (P1 f (G9 l))):=Q3.perm (Ak7 (rF l) hl) (eI _).symm
structure dC (f:D5) (L:List Ev) (h:Int) (M:List A8):Prop where
 eq:M.map A8.br=(V3 (P1 f L)).filter (i7 h)
theorem dC.mem {f:D5} {L:List Ev} {h:Int} {M:List A8} (H:dC f L h M) (q:A8):q∈M.map A8.br↔q∈P1 f L∧q.op=false∧q.e0<h:=by
 rw[H.eq,List.mem_filter,(eI _).mem_iff,Bt4]
theorem dC.ids {f:D5} {l:List Ev} {h:Int} {M:List A8} (H:dC f (G9 l) h M) (hl:(G9 l).length≤512):Q3 M:=by
 rw[←Q3.br,H.eq];exact List.Pairwise.filter _ (Bt8 hl)
theorem dC.ok {f:D5} {l:List Ev} {h:Int} {M:List A8} (H:dC f (G9 l) h M) (hl:(G9 l).length≤512) {r:A8} (hr:r∈M):r.op=false∧I7 r=0:=by
 obtain⟨h1,h2,_⟩:=(H.mem r.br).1 (List.mem_map_of_mem hr);exact⟨h2,Ak0 (r:=r.br) (rF l) hl h1 h2⟩
theorem Av8 {r:A8} (h:I7 r=0):r.legs.length≤100000∧r.pauses.length≤100000:=by
 unfold I7 at h;split at h
 ·omega
 ·split at h
  ·omega
  ·rename_i h1
   unfold j4 at h1;simp only[Bool.and_eq_false_iff,not_or,Bool.not_eq_false,decide_eq_true_eq]at h1;omega
theorem Av9 {f:D5} {L:List Ev} {h:Int} {R M:List A8} (hR:R.map A8.br=V3 (P1 f L)) (hM:M.map A8.br=(R.filter (i7 h)).map A8.br):dC f L h M:=⟨by rw[hM,Bt5,hR]⟩
section
variable {f:D5} {la lb:List Ev} {ha hb:Int} {M N:List A8} (HM:dC f (G9 la) ha M) (HN:dC f (G9 lb) hb N) (hab:ha≤hb) (hF:nY (P1 f (G9 la)) (P1 f (G9 lb)) ha) (l1:(G9 la).length≤512) (l2:(G9 lb).length≤512)
include HM HN hab hF
theorem Aw0 {q:A8} (h:q∈M.map A8.br):q∈N.map A8.br:=by
 obtain⟨h1,h2,h3⟩:=(HM.mem q).1 h;exact(HN.mem q).2 ⟨(hF.same q h2 h3).1 h1,h2,by omega⟩
include l2 in
theorem Bt9 {r:A8} (hr:r∈M):∃(j:Nat) (q:A8),N[j]? =some q∧q.br=r.br∧∀(i:Nat) (e:A8),i<j→N[i]? =some e→e.id≠r.id:=by
 obtain⟨q,hq,he⟩:=List.mem_map.1 (Aw0 HM HN hab hF (List.mem_map_of_mem hr));obtain⟨j,hj,rfl⟩:=List.mem_iff_getElem.1 hq;refine⟨j,_,A3 hj,he,fun i e hi hie hid=>?_⟩;obtain⟨h1,rfl⟩:=A4 hie;have hI:=HN.ids l2;unfold Q3 at hI;have:=List.pairwise_iff_getElem.1 hI i j h1 hj hi;exact this (hid.trans (congrArg A8.id he).symm)
include l1 l2 in
theorem Bu0:nZ ((M5 M).map A8.br) ((M5 N).map A8.br):=by
 have cm:∀{K:List A8},(∀r∈K,r.op=false)→(M5 K).Perm K:=fun{K} h=>by
  unfold M5;rw[List.filter_eq_self.2 (fun r hr=>by rw[h r hr];rfl)];exact jH K
 have pM:=cm fun r hr=>(HM.ok l1 hr).1;have pN:=cm fun r hr=>(HN.ok l2 hr).1;have mM:∀q,q∈(M5 M).map A8.br↔q∈M.map A8.br:=fun q=>(pM.map A8.br).mem_iff;have mN:∀q,q∈(M5 N).map A8.br↔q∈N.map A8.br:=fun q=>(pN.map A8.br).mem_iff;refine⟨Q3.br.2 ((HM.ids l1).perm pM.symm),Q3.br.2 ((HN.ids l2).perm pN.symm),fun x hx=>(mN x).2 (Aw0 HM HN hab hF ((mM x).1 hx)),fun r hr x hx hn hrd=>?_⟩;obtain⟨a1,a2,a3⟩:=(HM.mem r).1 ((mM r).1 hr);obtain⟨b1,b2,b3⟩:=(HN.mem x).1 ((mN x).1 hx);refine hF.bef r x ((hF.same r a2 a3).1 a1) b1 a2 b2 hrd a3 ?_;rcases Int.lt_or_le x.e0 ha with h|h
 ·exact absurd ((mM x).2 ((HM.mem x).2 ⟨(hF.same x b2 h).2 b1,b2,h⟩)) hn
 ·exact h
include l1 l2 in
theorem Bu1 {p:E4} {u v:Nat→Int} (hu:S5 p.ps (M5 M) u) (hv:S5 p.ps (M5 N) v) {x:eM} (hx:x∈cI p (M5 M) u):x∈cI p (M5 N) v:=by
 have hs:∀K:List A8,((M5 K).map A8.br).Pairwise fun x y=>bef y x=false:=fun K=>List.pairwise_map.2 (Ao6 (K.filter fun r=>!r.op));obtain⟨i,hi,rfl⟩:=List.mem_map.1 hx;have hi:=List.mem_range.1 hi;rw[←Bt7,←Av7 p u hi];exact Bt3 (Av5.2 hu) (Av5.2 hv) (Bu0 HM HN hab hF l1 l2) (hs M) (hs N) (by simpa using hi)
end
theorem Aw1 {P:Int→Prop} {s:C7} (h:∀r∈s.rs,P r.pl) (h0:P 0) (k:Nat) (a t:Int):∀r∈(S6 s k a t).rs,P r.pl:=by
 have hd:P (s.rat k).pl:=by
  by_cases hk:k<s.rs.length
  ·exact h _ (xY hk)
  ·unfold C7.rat;rw[A5,List.getElem?_eq_none (by omega)];exact h0
 unfold S6;intro r hr
 cases hz:s.pz.getD k false
 ·rw[hz]at hr;exact h r hr
 ·rw[hz]at hr
  rcases List.mem_or_eq_of_mem_set (show r∈s.rs.set k _ from hr)with hr|rfl
  ·exact h r hr
  ·exact hd
theorem Aw2 {P:Int→Prop} {s:C7} (h:∀r∈s.rs,P r.pl) (h0:P 0) (k:Nat):P (s.rat k).pl:=by
 by_cases hk:k<s.rs.length
 ·exact h _ (xY hk)
 ·unfold C7.rat;rw[A5,List.getElem?_eq_none (by omega)];exact h0
theorem yB {P:Int→Prop} {s:C7} (h:∀r∈s.rs,P r.pl) (h0:P 0) (b:Int) (x:D3) (hx:P x.p) (a t:Int):∀r∈(V8 s b x a t).rs,P r.pl:=by
 unfold V8;intro r hr;dsimp only at hr;split at hr
 ·exact h r hr
 ·rcases List.mem_or_eq_of_mem_set hr with hr|rfl
  ·exact Aw1 (s:={s with sp:=s.sp.set b.toNat x}) h h0 _ a t r hr
  ·exact hx
theorem Bu2 {P:Int→Prop} {s:C7} (h:∀r∈s.rs,P r.pl) (h0:P 0) {e:Ev} (he:P e.p):∀r∈(O3 s e).rs,P r.pl:=by
 unfold O3;intro r hr;dsimp only at hr;split at hr
 ·rcases List.mem_append.1 hr with hr|hr
  ·exact h r hr
  ·rw[List.mem_singleton]at hr;subst hr;exact h0
 ·split at hr
  ·unfold cD at hr
   split at hr
   ·exact h r hr
   ·rcases List.mem_or_eq_of_mem_set hr with hr|rfl
    ·exact h r hr
    ·exact Aw2 h h0 _
  ·split at hr
   ·split at hr
    ·exact h r hr
    ·rcases List.mem_or_eq_of_mem_set hr with hr|rfl
     ·exact h r hr
     ·exact Aw2 h h0 _
   ·split at hr
    ·split at hr
     ·exact h r hr
     ·exact Aw1 h h0 _ _ _ r hr
    ·split at hr
     ·exact yB h h0 _ _ he _ _ r hr
     ·split at hr
      ·exact yB h h0 _ _ he _ _ r hr
      ·split at hr
       ·exact yB h h0 _ _ h0 _ _ r hr
       ·exact h r hr
theorem Bu3 {f:D5} {e:Ev} (h:p8 f e=0) (hk:e.k≠10):0≤e.p∧e.p≤1024:=by
 obtain⟨_,_,_,hp,_,hf⟩:=gR h;have hd:f.dk.length≤32∧f.tk.length≤8:=by
  unfold H9 at hf;split at hf
  ·cases hf
  ·split at hf
   ·cases hf
   ·omega
 unfold bK at hp;split at hp
 ·simp only[Bool.and_eq_true,decide_eq_true_eq]at hp
  omega
 ·split at hp
  ·simp[C4]at hp;omega
  ·split at hp
   ·simp[C4]at hp;omega
   ·simp at hp;omega
theorem Bu4 {f:D5} {l:List Ev}:∀r∈P1 f l,0≤r.pl∧r.pl≤1024:=by
 have:∀(l:List Ev) (c:B9) (s:C7),(∀r∈s.rs,0≤r.pl∧r.pl≤1024)→∀r∈((J6 f c l).foldl O3 s).rs,0≤r.pl∧r.pl≤1024:=by
  intro l;induction l with
  |nil=>intro c s h;exact h
  |cons e l ih=>
   intro c s h
   unfold J6
   split
   ·rename_i ho
    unfold Q1 at ho;simp only[Bool.and_eq_true,decide_eq_true_eq]at ho;exact ih _ _ (Bu2 (P:=fun n=>0≤n∧n≤1024) h (by omega) (Bu3 ho.1.1 ho.1.2))
   ·exact ih _ _ h
 exact this l _ _ (fun r hr=>by simp[L3]at hr)
end
end Go.Proofs.YtmmlmhnjjfnpnaaGreat
