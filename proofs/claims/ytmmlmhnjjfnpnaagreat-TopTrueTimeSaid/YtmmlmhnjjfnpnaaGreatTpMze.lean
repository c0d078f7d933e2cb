/- Texts that belong together. -/
import Derived.Test.YtmmlmhnjjfnpnaaGreatTpMg
import Derived.Test.YtmmlmhnjjfnpnaaGreatTpMm
import Derived.Test.YtmmlmhnjjfnpnaaGreatTpMq
set_option linter.all false
namespace Go.Proofs.YtmmlmhnjjfnpnaaGreat
structure Prc where
 tr:List Tar
 ps:List Pass
 pl:List Int
 dk:List Int
 cap:Int
 fn:List Int
 fd:Int
def finE (p:Prc):Int:=
 if 512<p.fn.length then 8 else if !(p.fn.all fun n=>wthB n 0 1000000)then 1 else if !(wthB p.fd 0 49709)then 1 else 0
def prcsE (f:Flt) (p:Prc):Int:=
 if fltE f≠0 then fltE f
 else if tarE p.tr≠0 then tarE p.tr
 else if passE p.ps≠0 then passE p.ps
 else if p.dk.length≠f.dk.length∨64<p.pl.length then 3
 else if !((p.pl ++ p.dk).all fun n=>wthB n (-1000000) 1000000)then 1
 else if !(wthB p.cap 0 1000000000000)then 1
 else finE p
structure Itm where
 k:Int
 r:Int
 a:Int
def Itm.cs (x:Itm):List Value:=[.int .i64 x.k,.int .i64 x.r,.int .i64 x.a]
theorem Itm.len (x:Itm):x.cs.length=3:=rfl
instance:Inhabited Itm:=⟨⟨0,0,0⟩⟩
structure Bil where
 it:List Itm
 tt:Int
def Bil.add (b:Bil) (k r a:Int):Bil:=if a=0 then b else⟨b.it ++ [⟨k,r,a⟩],b.tt+a⟩
theorem Bil.add_tt (b:Bil) (k r a:Int):(b.add k r a).tt=b.tt+a:=by
 unfold Bil.add;split
 ·rename_i h;rw[h];omega
 ·rfl
theorem Bil.add_len (b:Bil) (k r a:Int):(b.add k r a).it.length≤b.it.length+1:=by
 unfold Bil.add;split
 ·omega
 ·simp
def verN (l:List Tar) (t:Int):Nat→Nat
 |0=>0
 |k+1=>if(l.getD k default).fr≤t then k else verN l t k
def plcF (p:Prc) (r:Ride):Int×Int:=
 if r.wh=2∧0≤r.pl∧r.pl<p.pl.length then(at0 p.pl r.pl.toNat,r.pl)
 else if r.wh=1∧0≤r.pl∧r.pl/32<p.dk.length then(at0 p.dk (r.pl/32).toNat,64+r.pl/32)
 else(0,0)
def Prc.ver (p:Prc) (r:Ride):Nat:=verN p.tr r.s0 p.tr.length
def Prc.tar (p:Prc) (r:Ride):Tar:=p.tr.getD (p.ver r) default
noncomputable def bil3 (p:Prc) (r:Ride):Bil:=
 (((⟨[],0⟩:Bil).add 1 (p.ver r) (p.tar r).un).add 2 (p.ver r) (rdP (p.tar r) (secR r))).add 3 (p.ver r) (paP (p.tar r) (secP r))
noncomputable def bil4 (p:Prc) (r:Ride):Bil:=(bil3 p r).add 4 (plcF p r).2 (max (plcF p r).1 (-(bil3 p r).tt))
noncomputable def bilL (p:Prc) (r:Ride) (u:Int):Bil:=
 if 0≤u then(bil4 p r).add 5 u (-(min (bil4 p r).tt ((p.tar r).un+rdP (p.tar r) (min (secR r) (p.ps.getD u.toNat default).s))))else bil4 p r
def ovE (n:Int):Int:=if 1000000000000<n then 2 else 0
noncomputable def bilE (p:Prc) (r:Ride) (u:Int):Int:=
 if 1000000000000<rdP (p.tar r) (secR r)then 2 else if 1000000000000<paP (p.tar r) (secP r)then 2 else if 1000000000000<(bilL p r u).tt then 2 else 0
def paidF (cap:Int):List (Int×Int×Int)→List (Int×Int×Int)→List Int
 | _,[]=>[]
 |done,(r,d,n) :: l=>
  let s:=((done.filter fun x=>decide (x.1=r) && decide (x.2.1=d)).map fun x=>x.2.2).sum
  let m:=if 0<cap then min n (cap-s)else n
  m :: paidF cap (done ++ [(r,d,m)]) l
def paidL (cap:Int) (l:List (Int×Int×Int)):List Int:=paidF cap [] l
def leB (x y:Ride):Bool:=!bef y x
def sortB (l:List Ride):List Ride:=l.mergeSort leB
def cntL (l:List Ride):List Ride:=sortB (l.filter fun r=>!r.op)
theorem leB_trans (x y z:Ride) (h1:leB x y=true) (h2:leB y z=true):leB x z=true:=by
 unfold leB at *;simp only[Bool.not_eq_true']at *;exact bef_ntrans h2 h1
theorem leB_total (x y:Ride):(leB x y || leB y x)=true:=by
 unfold leB
 cases h:bef y x
 ·rfl
 ·rw[bef_asymm h];rfl
theorem sortB_perm (l:List Ride):(sortB l).Perm l:=List.mergeSort_perm _ _
theorem sortB_sorted (l:List Ride):(sortB l).Pairwise fun x y=>bef y x=false:=by
 have:=List.pairwise_mergeSort (le:=leB) leB_trans leB_total l;exact this.imp fun h=>by unfold leB at h;simpa using h
theorem cntL_mem {l:List Ride} {r:Ride}:r∈cntL l↔r∈l∧r.op=false:=by
 unfold cntL;rw[(sortB_perm _).mem_iff,List.mem_filter];simp
structure Far where
 id:Int
 rd:Int
 b:Bil
instance:Inhabited Far:=⟨⟨0,0,⟨[],0⟩⟩⟩
noncomputable def bilsE (p:Prc) (C:List Ride) (u:Nat→Int):Nat→Int
 |0=>0
 |k+1=>if bilsE p C u k≠0 then bilsE p C u k else bilE p (rAt C k) (u k)
theorem bilsE_mono {p:Prc} {C:List Ride} {u:Nat→Int} {k:Nat} (h:bilsE p C u k≠0):∀n,k≤n→bilsE p C u n=bilsE p C u k
 |0,hn=>by
  obtain rfl:k=0:=by omega
  rfl
 |n+1,hn=>by
  by_cases e:k=n+1
  ·rw[e]
  ·have:=bilsE_mono h n (by omega)
   show(if bilsE p C u n≠0 then bilsE p C u n else bilE p (rAt C n) (u n))= _;rw[this,if_pos h]
theorem bilsE_at {p:Prc} {C:List Ride} {u:Nat→Int} {n:Nat} (h:bilsE p C u n=0):∀k,k<n→bilE p (rAt C k) (u k)=0:=fun k hk=>by
 have h1:bilsE p C u (k+1)=0:=by
  by_cases e:bilsE p C u (k+1)=0
  ·exact e
  ·have:=bilsE_mono e n (by omega)
   rw[h]at this;exact absurd this.symm e
 unfold bilsE at h1;split at h1
 ·rename_i h2;exact absurd h1 h2
 ·exact h1
noncomputable def grpL (p:Prc) (C:List Ride) (u:Nat→Int):List (Int×Int×Int):=(List.range C.length).map fun i=>((rAt C i).rd,day (rAt C i),(bilL p (rAt C i) (u i)).tt)
noncomputable def farI (p:Prc) (C:List Ride) (u:Nat→Int) (i:Nat):Far:=
 ⟨(rAt C i).id,(rAt C i).rd,(bilL p (rAt C i) (u i)).add 6 0 (at0 (paidL p.cap (grpL p C u)) i-(bilL p (rAt C i) (u i)).tt)⟩
noncomputable def farL (p:Prc) (C:List Ride) (u:Nat→Int):List Far:=(List.range C.length).map (farI p C u)
noncomputable def faresE (f:Flt) (p:Prc) (l:List Ride) (u:Nat→Int):Int:=
 if prcsE f p≠0 then prcsE f p else if ridesE l≠0 then ridesE l else bilsE p (cntL l) u (cntL l).length
end Go.Proofs.YtmmlmhnjjfnpnaaGreat
namespace Go.Proofs.YtmmlmhnjjfnpnaaGreat
def grpS (done:List (Int×Int×Int)) (r d:Int):Int:=((done.filter fun x=>decide (x.1=r) && decide (x.2.1=d)).map fun x=>x.2.2).sum
theorem grpS_snoc (done:List (Int×Int×Int)) (r d m r' d':Int):grpS (done ++ [(r,d,m)]) r' d'=if(r',d')=(r,d)then grpS done r' d'+m else grpS done r' d':=by
 unfold grpS;rw[List.filter_append,List.map_append,List.sum_append,List.filter_cons];by_cases h:(r',d')=(r,d)
 ·obtain⟨rfl,rfl⟩:=Prod.mk.inj h
  simp
 ·rw[if_neg h]
  have:(decide (r=r') && decide (d=d'))=false:=by
   by_cases h1:r=r'
   ·by_cases h2:d=d'
    ·exact absurd (by rw[h1,h2]) h
    ·simp[h2]
   ·simp[h1]
  simp only[this];simp
def payM (cap:Int) (done:List (Int×Int×Int)) (r d n:Int):Int:=if 0<cap then min n (cap-grpS done r d)else n
theorem paidF_cons (cap:Int) (done:List (Int×Int×Int)) (r d n:Int) (l:List (Int×Int×Int)):paidF cap done ((r,d,n) :: l)=payM cap done r d n :: paidF cap (done ++ [(r,d,payM cap done r d n)]) l:=rfl
theorem paidF_len (cap:Int):∀(l done:List (Int×Int×Int)),(paidF cap done l).length=l.length
 |[],_ =>rfl
 |(r,d,n) :: l,done=>by rw[paidF_cons,List.length_cons,List.length_cons,paidF_len cap l]
theorem paidL_len (cap:Int) (l:List (Int×Int×Int)):(paidL cap l).length=l.length:=paidF_len cap l []
structure PdS (cap:Int) (G:List (Int×Int×Int)) (k:Nat) (done:List (Int×Int×Int)) (outs:List Int):Prop where
 len:outs.length=k
 eq:paidL cap G=outs ++ paidF cap done (G.drop k)
 bd:∀r d,0≤grpS done r d∧grpS done r d≤(k:Int)*1000000000000∧(0<cap→grpS done r d≤cap)
theorem pdS_start (cap:Int) (hc:0≤cap) (G:List (Int×Int×Int)):PdS cap G 0 [] []:=⟨rfl,rfl,fun r d=>⟨Int.le_refl _,by simp[grpS],fun h=>by show(0:Int)≤cap;exact hc⟩⟩
theorem PdS.next {cap:Int} {G:List (Int×Int×Int)} {k:Nat} {done:List (Int×Int×Int)} {outs:List Int} (h:PdS cap G k done outs) {r d n:Int} (hg:G[k]? =some (r,d,n)) (hn:0≤n∧n≤1000000000000):
 PdS cap G (k+1) (done ++ [(r,d,payM cap done r d n)]) (outs ++ [payM cap done r d n])∧0≤payM cap done r d n∧payM cap done r d n≤n:=by
 have hb:=h.bd r d;have hm:0≤payM cap done r d n∧payM cap done r d n≤n∧(0<cap→grpS done r d+payM cap done r d n≤cap):=by
  unfold payM;split
  ·rename_i h0
   have:=hb.2.2 h0;refine⟨by omega,by omega,fun _ =>by omega⟩
  ·exact⟨hn.1,Int.le_refl _,fun h=>by omega⟩
 refine⟨⟨by simp[h.len],?_,fun r' d'=>?_⟩,hm.1,hm.2.1⟩
 ·rw[h.eq]
  have:G.drop k=(r,d,n) :: G.drop (k+1):=by
   rw[List.drop_eq_getElem_cons (List.getElem?_eq_some_iff.1 hg).1,(List.getElem?_eq_some_iff.1 hg).2]
  rw[this,paidF_cons];simp
 ·rw[grpS_snoc]
  have hb':=h.bd r' d';have e:((k+1:Nat):Int)*1000000000000=(k:Int)*1000000000000+1000000000000:=by omega
  rw[e];split
  ·rename_i h1
   obtain⟨rfl,rfl⟩:=Prod.mk.inj h1;exact⟨by omega,by omega,hm.2.2⟩
  ·exact⟨hb'.1,by omega,hb'.2.2⟩
theorem PdS.done {cap:Int} {G:List (Int×Int×Int)} {done:List (Int×Int×Int)} {outs:List Int} (h:PdS cap G G.length done outs):outs=paidL cap G:=by
 rw[h.eq,List.drop_length];show outs=outs ++ [];rw[List.append_nil]
theorem PdS.at {cap:Int} {G:List (Int×Int×Int)} {k:Nat} {done:List (Int×Int×Int)} {outs:List Int} (h:PdS cap G k done outs) {r d n:Int} (hg:G[k]? =some (r,d,n)):at0 (paidL cap G) k=payM cap done r d n:=by
 have hk:=(List.getElem?_eq_some_iff.1 hg).1;rw[h.eq,List.drop_eq_getElem_cons hk,(List.getElem?_eq_some_iff.1 hg).2,paidF_cons];unfold at0;rw[List.getD_eq_getElem?_getD,List.getElem?_append_right (by rw[h.len];exact Nat.le_refl _),h.len,Nat.sub_self];rfl
theorem paidL_at {cap:Int} (hc:0≤cap) {G:List (Int×Int×Int)} (hG:∀x∈G,0≤x.2.2∧x.2.2≤1000000000000):∀(k:Nat),k≤G.length→∃done outs,PdS cap G k done outs
 |0,_ =>⟨[],[],pdS_start cap hc G⟩
 |k+1,hk=>by
  obtain⟨done,outs,h⟩:=paidL_at hc hG k (by omega);obtain⟨x,hx⟩:∃x,G[k]? =some x:=⟨_,List.getElem?_eq_getElem (by omega)⟩
  obtain⟨r,d,n⟩:=x;exact⟨_,_,(h.next hx (hG _ (List.mem_of_getElem? hx))).1⟩
theorem paidL_le {cap:Int} (hc:0≤cap) {G:List (Int×Int×Int)} (hG:∀x∈G,0≤x.2.2∧x.2.2≤1000000000000) {k:Nat} {r d n:Int} (hg:G[k]? =some (r,d,n)):0≤at0 (paidL cap G) k∧at0 (paidL cap G) k≤n:=by
 obtain⟨done,outs,h⟩:=paidL_at hc hG k (by have:=(List.getElem?_eq_some_iff.1 hg).1;omega);rw[h.at hg];exact(h.next hg (hG _ (List.mem_of_getElem? hg))).2
end Go.Proofs.YtmmlmhnjjfnpnaaGreat
namespace Go.Proofs.YtmmlmhnjjfnpnaaGreat
open Go.RowKit
theorem tarL_v:∀(l:List Tar) (a:Int),tarL a l=0→∀t∈l,tarV t=true
 |[],_,_,t,ht=>by cases ht
 |x :: l,a,h,t,ht=>by
  unfold tarL at h
  cases hv:tarV x with
  |false=>rw[hv]at h;simp at h
  |true=>
   rw[hv]at h
   simp only[Bool.true_eq_false,if_false]at h
   split at h
   ·cases h
   ·rcases List.mem_cons.1 ht with rfl|ht
    ·exact hv
    ·exact tarL_v l _ h t ht
theorem tarE_zero {l:List Tar} (h:tarE l=0):0<l.length∧l.length≤8∧∀t∈l,tarV t=true:=by
 unfold tarE at h;split at h
 ·cases h
 ·split at h
  ·cases h
  ·exact⟨by omega,by omega,tarL_v l _ h⟩
theorem tarV_z {t:Tar} (h:tarV t=true):tarV t.z=true:=by
 obtain⟨fr,un,st,fe,pr,pa⟩:=t;have h':(wthB fr 0 4294943999 && wthB un 0 1000000 && wthB pr 0 1000000 && wthB pa 0 1000000 && wthB st 1 86400 && wthB fe 0 86400)=true:=h;show(wthB 0 0 4294943999 && wthB un 0 1000000 && wthB pr 0 1000000 && wthB pa 0 1000000 && wthB st 1 86400 && wthB fe 0 86400)=true;simp only[Bool.and_eq_true]at h'⊢;exact⟨⟨⟨⟨⟨by decide,h'.1.1.1.1.2⟩,h'.1.1.1.2⟩,h'.1.1.2⟩,h'.1.2⟩,h'.2⟩
theorem prcE_ov {t:Tar} {s n:Int} (h:tarV t=true) (hs:0≤s∧s≤4294944000):prcE t s n=ovE n:=by
 unfold prcE ovE;rw[tarV_z h];simp only[Bool.true_eq_false,if_false];rw[if_neg (by omega)]
theorem verN_lt (l:List Tar) (t:Int) (h:0<l.length):∀n,n≤l.length→verN l t n<l.length
 |0,_ =>h
 |n+1,hn=>by
  unfold verN;split
  ·omega
  ·exact verN_lt l t h n (by omega)
structure PrcOk (p:Prc):Prop where
 t:tarE p.tr=0
 s:passE p.ps=0
 dl:p.dk.length≤32
 ll:p.pl.length≤64
 fe:∀i,i<(p.pl ++ p.dk).length→-1000000≤at0 (p.pl ++ p.dk) i∧at0 (p.pl ++ p.dk) i≤1000000
 c:0≤p.cap∧p.cap≤1000000000000
theorem all_at0 {l:List Int} {q:Int→Bool} (h:l.all q=true) {i:Nat} (hi:i<l.length):q (at0 l i)=true:=by
 unfold at0;rw[List.getD_eq_getElem?_getD,List.getElem?_eq_getElem hi];exact List.all_eq_true.1 h _ (List.getElem_mem hi)
theorem prcsE_zero {f:Flt} {p:Prc} (h:prcsE f p=0):fltE f=0∧PrcOk p:=by
 unfold prcsE at h;split at h
 ·rename_i h1;exact absurd h h1
 ·rename_i h1
  split at h
  ·rename_i h2;exact absurd h h2
  ·rename_i h2
   split at h
   ·rename_i h3;exact absurd h h3
   ·rename_i h3
    split at h
    ·cases h
    ·rename_i h4
     split at h
     ·cases h
     ·rename_i h5
      split at h
      ·cases h
      ·rename_i h6
       have hf:fltE f=0:=Decidable.of_not_not h1;have hd:f.dk.length≤32:=by
        unfold fltE at hf;split at hf
        ·cases hf
        ·split at hf
         ·cases hf
         ·omega
       have h5':((p.pl ++ p.dk).all fun n=>wthB n (-1000000) 1000000)=true:=by simpa using h5
       refine⟨hf,Decidable.of_not_not h2,Decidable.of_not_not h3,by omega,by omega,fun i hi=>?_,?_⟩
       ·have:=all_at0 h5' hi
        simpa[wthB]using this
       ·simp only[Bool.not_eq_true',Bool.not_eq_false]at h6
        simpa[wthB]using h6
theorem PrcOk.plc {p:Prc} (h:PrcOk p) (r:Ride):-1000000≤(plcF p r).1∧(plcF p r).1≤1000000:=by
 unfold plcF;split
 ·rename_i h1
  have:=h.fe r.pl.toNat (by rw[List.length_append];omega);unfold at0 at this⊢;rw[List.getD_eq_getElem?_getD,List.getElem?_append_left (by omega),←List.getD_eq_getElem?_getD]at this;exact this
 ·split
  ·rename_i h1
   have:=h.fe (p.pl.length+(r.pl/32).toNat) (by rw[List.length_append];omega);unfold at0 at this⊢;rw[List.getD_eq_getElem?_getD,List.getElem?_append_right (by omega),Nat.add_sub_cancel_left,←List.getD_eq_getElem?_getD]at this;exact this
  ·exact⟨by omega,by omega⟩
theorem PrcOk.ver_at {p:Prc} (h:PrcOk p) (r:Ride):p.tr[p.ver r]? =some (p.tar r)∧tarV (p.tar r)=true:=by
 obtain⟨h1,h2,h3⟩:=tarE_zero h.t;have hlt:p.ver r<p.tr.length:=verN_lt p.tr r.s0 h1 _ (Nat.le_refl _);have e:p.tr[p.ver r]? =some (p.tar r):=by
  unfold Prc.tar;rw[List.getD_eq_getElem?_getD,List.getElem?_eq_getElem hlt];rfl
 exact⟨e,h3 _ (List.mem_of_getElem? e)⟩
theorem rdP_nn {t:Tar} (h:tarV t=true) (s:Int):0≤rdP t s:=by
 have:=tarV_facts h;exact Int.mul_nonneg (by omega) (stpN_bd (by omega)).1
theorem paP_nn {t:Tar} (h:tarV t=true) (s:Int):0≤paP t s:=by
 have:=tarV_facts h;exact Int.mul_nonneg (by omega) (stpN_bd (by omega)).1
theorem bil3_tt (p:Prc) (r:Ride):(bil3 p r).tt=(p.tar r).un+rdP (p.tar r) (secR r)+paP (p.tar r) (secP r):=by
 unfold bil3;rw[Bil.add_tt,Bil.add_tt,Bil.add_tt];dsimp only;omega
theorem bil4_tt (p:Prc) (r:Ride):(bil4 p r).tt=(bil3 p r).tt+max (plcF p r).1 (-(bil3 p r).tt):=by
 unfold bil4;rw[Bil.add_tt]
theorem bil3_len (p:Prc) (r:Ride):(bil3 p r).it.length≤3:=by
 unfold bil3;have h1:=Bil.add_len (⟨[],0⟩:Bil) 1 (p.ver r) (p.tar r).un;have h2:=Bil.add_len ((⟨[],0⟩:Bil).add 1 (p.ver r) (p.tar r).un) 2 (p.ver r) (rdP (p.tar r) (secR r));have h3:=Bil.add_len (((⟨[],0⟩:Bil).add 1 (p.ver r) (p.tar r).un).add 2 (p.ver r) (rdP (p.tar r) (secR r))) 3 (p.ver r) (paP (p.tar r) (secP r));simp only[List.length_nil]at h1;omega
theorem bil4_len (p:Prc) (r:Ride):(bil4 p r).it.length≤4:=by
 unfold bil4;have h1:=Bil.add_len (bil3 p r) 4 (plcF p r).2 (max (plcF p r).1 (-(bil3 p r).tt));have h2:=bil3_len p r;omega
theorem bilL_len (p:Prc) (r:Ride) (u:Int):(bilL p r u).it.length≤5:=by
 unfold bilL;have h2:=bil4_len p r;split
 ·have h1:=Bil.add_len (bil4 p r) 5 u (-(min (bil4 p r).tt ((p.tar r).un+rdP (p.tar r) (min (secR r) (p.ps.getD u.toNat default).s))))
  omega
 ·omega
theorem bil_bd {p:Prc} (h:PrcOk p) (r:Ride) (h1:rdP (p.tar r) (secR r)≤1000000000000) (h2:paP (p.tar r) (secP r)≤1000000000000):
 (0≤(bil3 p r).tt∧(bil3 p r).tt≤2000001000000)∧(0≤(bil4 p r).tt∧(bil4 p r).tt≤2000002000000):=by
 have hv:=(h.ver_at r).2;have f:=tarV_facts hv;have a:=rdP_nn hv (secR r);have b:=paP_nn hv (secP r);have c:=h.plc r;have e3:=bil3_tt p r;have e4:=bil4_tt p r;omega
theorem bilL_bd {p:Prc} (h:PrcOk p) (r:Ride) (u:Int) (h1:rdP (p.tar r) (secR r)≤1000000000000) (h2:paP (p.tar r) (secP r)≤1000000000000):0≤(bilL p r u).tt∧(bilL p r u).tt≤2000002000000:=by
 obtain⟨_,h3,h4⟩:=bil_bd h r h1 h2;have hv:=(h.ver_at r).2;have f:=tarV_facts hv;unfold bilL;split
 ·rw[Bil.add_tt]
  have:=rdP_nn hv (min (secR r) (p.ps.getD u.toNat default).s);omega
 ·exact⟨h3,h4⟩
theorem bilE_zero {p:Prc} {r:Ride} {u:Int} (h:bilE p r u=0):rdP (p.tar r) (secR r)≤1000000000000∧paP (p.tar r) (secP r)≤1000000000000∧(bilL p r u).tt≤1000000000000:=by
 unfold bilE at h;split at h
 ·cases h
 ·split at h
  ·cases h
  ·split at h
   ·cases h
   ·omega
theorem part_le {p:Prc} (h:PrcOk p) (r:Ride) (s:Int):rdP (p.tar r) (min (secR r) s)≤rdP (p.tar r) (secR r):=by
 have f:=tarV_facts (h.ver_at r).2;exact rdP_mono (by omega) (by omega) (by omega)
theorem pass_at {p:Prc} (h:PrcOk p) {u:Int} (h0:0≤u) (h1:u<p.ps.length):p.ps[u.toNat]? =some (p.ps.getD u.toNat default)∧0≤(p.ps.getD u.toNat default).s∧(p.ps.getD u.toNat default).s≤86400:=by
 have hlt:u.toNat<p.ps.length:=by omega
 have e:p.ps[u.toNat]? =some (p.ps.getD u.toNat default):=by rw[List.getD_eq_getElem?_getD,List.getElem?_eq_getElem hlt];rfl
 refine⟨e,?_⟩;have hp:=h.s;unfold passE at hp;split at hp
 ·cases hp
 ·split at hp
  ·cases hp
  ·rename_i h3
   have h3':p.ps.all goodP=true:=by simpa using h3
   have:=(goodP_iff _).1 (List.all_eq_true.1 h3' _ (List.mem_of_getElem? e));omega
end Go.Proofs.YtmmlmhnjjfnpnaaGreat
namespace Go.Proofs.YtmmlmhnjjfnpnaaGreat
open Go.ChangeShapes Go.WideShapes Go.ChangeAt Go.RowKit
theorem own:ownKnob Tryz.prog.godebug=none:=by kernel_rfl
theorem laidOut:laidOutB Tryz.prog=true:=by kernel_rfl
theorem cInt:Tryz.prog.cellsOf 3=1:=by kernel_rfl
theorem cInts:Tryz.prog.cellsOf 22=1:=by kernel_rfl
theorem cU8:Tryz.prog.cellsOf 5=1:=by kernel_rfl
theorem cOff:Tryz.prog.cellsOf 28=8:=by kernel_rfl
theorem cEvent:Tryz.prog.cellsOf 63=9:=by kernel_rfl
theorem cFleet:Tryz.prog.cellsOf 24=5:=by kernel_rfl
theorem cTariff:Tryz.prog.cellsOf 27=6:=by kernel_rfl
noncomputable def evFields:Array Field:=Tryz.prog.fieldsOf 63
theorem uEvent:Tryz.prog.underlying 63=some (.struct evFields):=by kernel_rfl
theorem evFields_size:evFields.size=9:=by kernel_rfl
theorem evFields_all:(evFields.toList.map fun f=>(f.offset,f.type))=(List.range 9).map fun i=>(i,3):=by kernel_rfl
noncomputable def taFields:Array Field:=Tryz.prog.fieldsOf 27
theorem uTariff:Tryz.prog.underlying 27=some (.struct taFields):=by kernel_rfl
theorem taFields_size:taFields.size=6:=by kernel_rfl
theorem taFields_all:(taFields.toList.map fun f=>(f.offset,f.type))=(List.range 6).map fun i=>(i,3):=by kernel_rfl
noncomputable def flFields:Array Field:=Tryz.prog.fieldsOf 24
theorem uFleet:Tryz.prog.underlying 24=some (.struct flFields):=by kernel_rfl
theorem flFields_all:(flFields.toList.map fun f=>(f.offset,f.type))=[(0,3),(1,3),(2,3),(3,22),(4,22)]:=by kernel_rfl
theorem ints_fields {fs:Array Field} {n:Nat} (hs:fs.size=n) (ha:(fs.toList.map fun f=>(f.offset,f.type))=(List.range n).map fun i=>(i,3)):IntFields Tryz.prog fs:=by
 intro i f h;have hi:i<n:=by
  rw[←hs];exact(Array.getElem?_eq_some_iff.1 h).1
 have h1:=congrArg (fun l=>l[i]?) ha;simp only[List.getElem?_map,Array.getElem?_toList]at h1;rw[h,List.getElem?_range hi]at h1;have h2:=Option.some.inj h1;have h3:f.offset=i:=congrArg Prod.fst h2;have h4:f.type=3:=congrArg Prod.snd h2;exact⟨h3,by rw[h4];exact cInt,by rw[h4];exact Tryz.underlying3⟩
def evOf (ns:List Int):Ev:=⟨at0 ns 0,at0 ns 1,at0 ns 2,at0 ns 3,at0 ns 4,at0 ns 5,at0 ns 6,at0 ns 7,at0 ns 8⟩
theorem evOf_cs (ns:List Int) (h:ns.length=evFields.size):(evOf ns).cs=ns.map (Value.int .i64):=by
 rw[evFields_size]at h;match ns,h with
 |[a,b,c,d,e,f,g,h,i],_ =>rfl
set_option maxRecDepth 20000 in
theorem open_events {H:Type} {enc:TypeId×Value→H} {w:World} {b0:Nat} {r:Reach} {held:Bool} {v:Value} {d:DataW H} {p:List MemPlace} (hv:Value.okWide Tryz.prog w r b0 25 v) (h:DataW.Trod enc Tryz.prog w 0 (fun _ =>true) held 25 v d p):
 ∃(a:Option Addr) (l:List Ev) (cap:Nat),v= .slice a l.length cap∧l.length≤9223372036854775807∧Els Ev.cs 9 w a l∧∀e∈l,I64 e.p:=by
 obtain⟨a,l,cap,h1,h2,h3,h4,h5,h6⟩:=open_els (encA:=Ev.cs) (dec:=evOf) Tryz.underlying25 uEvent (ints_fields evFields_size evFields_all) (cEvent.trans evFields_size.symm) (by rw[evFields_size];decide) evOf_cs hv h;rw[evFields_size]at h5;refine⟨a,l,cap,h1,Nat.le_trans h2 h3,h5,fun e he=>?_⟩;obtain⟨ns,hl,rfl,hi⟩:=h6 e he;rw[evFields_size]at hl;have h7:at0 ns 6=ns[6]:=by unfold at0;rw[List.getD_eq_getElem?_getD,List.getElem?_eq_getElem (by omega)];rfl
 show I64 (at0 ns 6);rw[h7];exact hi _ (List.getElem_mem (by omega))
set_option maxRecDepth 20000 in
theorem open_tariff {H:Type} {enc:TypeId×Value→H} {w:World} {b0:Nat} {r:Reach} {held:Bool} {v:Value} {d:DataW H} {p:List MemPlace} (hv:Value.okWide Tryz.prog w r b0 27 v) (h:DataW.Trod enc Tryz.prog w 0 (fun _ =>true) held 27 v d p):
 ∃t:Tar,v= .agg #[.int .i64 t.fr,.int .i64 t.un,.int .i64 t.st,.int .i64 t.fe,.int .i64 t.pr,.int .i64 t.pa]:=by
 obtain⟨cs,rfl,hsz⟩:=okWide_struct uTariff hv;obtain⟨l⟩:=cs;obtain⟨fuel,hf⟩:=h;obtain⟨ns,hns,hlen,_⟩:=trod_ints uTariff (ints_fields taFields_size taFields_all) (cTariff.trans taFields_size.symm) hf;rw[taFields_size]at hlen;have hl:l=ns.map (Value.int .i64):=by simpa[Value.cells]using hns
 subst hl;match ns,hlen with
 |[a,b,c,d,e,f],_ =>exact⟨⟨a,b,c,d,e,f⟩,rfl⟩
theorem wf_u8 {n:Int} (h:(Lit.int .u8 n).wf=true):0≤n∧n≤255:=by
 have h1:(decide ((0:Int)≤n) && decide (n≤255))=true:=h;simpa using h1
set_option maxRecDepth 20000 in
theorem open_offs {H:Type} {enc:TypeId×Value→H} {w:World} {b0:Nat} {r:Reach} {held:Bool} {v:Value} {d:DataW H} {p:List MemPlace} (hv:Value.okWide Tryz.prog w r b0 28 v) (h:DataW.Trod enc Tryz.prog w 0 (fun _ =>true) held 28 v d p):
 ∃o0 o1 o2 o3 o4 o5 o6 o7:Int,v= .agg #[.int .u8 o0,.int .u8 o1,.int .u8 o2,.int .u8 o3,.int .u8 o4,.int .u8 o5,.int .u8 o6,.int .u8 o7]∧∀o∈[o0,o1,o2,o3,o4,o5,o6,o7],0≤o∧o≤255:=by
 obtain⟨ns,rfl,hl,hw⟩:=open_array Tryz.underlying28 Tryz.underlying5 cU8 cOff (okWide_array Tryz.underlying28 hv) h;match ns,hl with
 |[a,b,c,d,e,f,g,h],_ =>exact⟨a,b,c,d,e,f,g,h,rfl,fun o ho=>wf_u8 (hw o ho)⟩
section
variable {H:Type} {enc:TypeId×Value→H} {w:World} {base fuel:Nat} {spare:Nat→Bool} {held:Bool} {cs:List Value} {y:DataW H×List MemPlace}
theorem int1 {c:Value} (h:DataW.trod enc Tryz.prog w base spare held fuel 3 [c]=some y):∃m:Int,c= .int .i64 m∧I64 m:=by
 obtain⟨z,hcs,_,hwf⟩:=DataW.trod_int Tryz.underlying3 h;exact⟨z,by simpa using hcs,wf_i64 hwf⟩
set_option maxRecDepth 20000 in
theorem fleet1 (h:DataW.trod enc Tryz.prog w base spare held fuel 24 cs=some y):∃(f:Flt) (da:Option Addr) (dc:Nat) (ta:Option Addr) (tc:Nat),cs=[.int .i64 f.bk,.int .i64 f.rd,.int .i64 f.dv,.slice da f.dk.length dc,.slice ta f.tk.length tc]∧FltAt w f da ta:=by
 obtain⟨hl,hf⟩:=trod_fields uFleet flFields_all h;rw[cFleet]at hl;match cs,hl with
 |[c0,c1,c2,c3,c4],_ =>
  obtain⟨_,_,h0⟩:=hf 0 _ rfl
  obtain⟨_,_,h1⟩:=hf 1 _ rfl
  obtain⟨_,_,h2⟩:=hf 2 _ rfl
  obtain⟨_,_,h3⟩:=hf 3 _ rfl
  obtain⟨_,_,h4⟩:=hf 4 _ rfl
  simp only[cInt,cInts]at h0 h1 h2 h3 h4
  obtain⟨b,rfl,_⟩:=int1 h0
  obtain⟨rd,rfl,_⟩:=int1 h1
  obtain⟨dv,rfl,_⟩:=int1 h2
  obtain⟨da,dk,dc,rfl,k1,k2,k3,_⟩:=open_row Tryz.underlying22 Tryz.underlying3 cInt h3
  obtain⟨ta,tk,tc,rfl,m1,m2,m3,_⟩:=open_row Tryz.underlying22 Tryz.underlying3 cInt h4
  exact⟨⟨b,rd,dv,dk,tk⟩,da,dc,ta,tc,rfl,k3,m3,Nat.le_trans k1 k2,Nat.le_trans m1 m2⟩
end
set_option maxRecDepth 20000 in
theorem open_fleet {H:Type} {enc:TypeId×Value→H} {w:World} {b0:Nat} {r:Reach} {held:Bool} {v:Value} {d:DataW H} {p:List MemPlace} (hv:Value.okWide Tryz.prog w r b0 24 v) (h:DataW.Trod enc Tryz.prog w 0 (fun _ =>true) held 24 v d p):
 ∃(f:Flt) (da:Option Addr) (dc:Nat) (ta:Option Addr) (tc:Nat),v= .agg #[.int .i64 f.bk,.int .i64 f.rd,.int .i64 f.dv,.slice da f.dk.length dc,.slice ta f.tk.length tc]∧FltAt w f da ta:=by
 obtain⟨cs,rfl,hsz⟩:=okWide_struct uFleet hv;obtain⟨l⟩:=cs;obtain⟨fuel,hf⟩:=h;obtain⟨f,da,dc,ta,tc,hq,hi⟩:=fleet1 (show DataW.trod enc Tryz.prog w 0 (fun _ =>true) held fuel 24 l=some (d,p)from hf);subst hq;exact⟨f,da,dc,ta,tc,rfl,hi⟩
end Go.Proofs.YtmmlmhnjjfnpnaaGreat
