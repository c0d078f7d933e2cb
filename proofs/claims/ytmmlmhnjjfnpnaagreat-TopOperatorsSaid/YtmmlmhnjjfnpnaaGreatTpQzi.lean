/- Texts that belong together. -/
import Derived.Test.YtmmlmhnjjfnpnaaGreatTpQg
import Derived.Test.YtmmlmhnjjfnpnaaGreatTpQm
import Derived.Test.YtmmlmhnjjfnpnaaGreatTpQu
set_option linter.all false
namespace Go.Proofs.YtmmlmhnjjfnpnaaGreat
section
structure G5 where
 tr:List K2
 ps:List J1
 pl:List Int
 dk:List Int
 cap:Int
 fn:List Int
 fd:Int
def dN (p:G5):Int:=
 if 512<p.fn.length then 8 else if !(p.fn.all fun n=>C6 n 0 1000000)then 1 else if !(C6 p.fd 0 49709)then 1 else 0
def o7 (f:G4) (p:G5):Int:=
 if K5 f≠0 then K5 f
 else if S3 p.tr≠0 then S3 p.tr
 else if W0 p.ps≠0 then W0 p.ps
 else if p.dk.length≠f.dk.length∨64<p.pl.length then 3
 else if !((p.pl ++ p.dk).all fun n=>C6 n (-1000000) 1000000)then 1
 else if !(C6 p.cap 0 1000000000000)then 1
 else dN p
structure aP where
 k:Int
 r:Int
 a:Int
def aP.cs (x:aP):List Value:=[.int .i64 x.k,.int .i64 x.r,.int .i64 x.a]
instance:Inhabited aP:=⟨⟨0,0,0⟩⟩
structure L7 where
 it:List aP
 tt:Int
def L7.add (b:L7) (k r a:Int):L7:=if a=0 then b else⟨b.it ++ [⟨k,r,a⟩],b.tt+a⟩
theorem L7.add_tt (b:L7) (k r a:Int):(b.add k r a).tt=b.tt+a:=by
 unfold L7.add;split
 ·rename_i h;rw[h];omega
 ·rfl
theorem L7.add_len (b:L7) (k r a:Int):(b.add k r a).it.length≤b.it.length+1:=by
 unfold L7.add;split
 ·omega
 ·simp
def fB (l:List K2) (t:Int):Nat→Nat
 |0=>0
 |k+1=>if(l.getD k default).fr≤t then k else fB l t k
def S8 (p:G5) (r:A9):Int×Int:=
 if r.wh=2∧0≤r.pl∧r.pl<p.pl.length then(B0 p.pl r.pl.toNat,r.pl)
 else if r.wh=1∧0≤r.pl∧r.pl/32<p.dk.length then(B0 p.dk (r.pl/32).toNat,64+r.pl/32)
 else(0,0)
def G5.ver (p:G5) (r:A9):Nat:=fB p.tr r.s0 p.tr.length
def G5.tar (p:G5) (r:A9):K2:=p.tr.getD (p.ver r) default
noncomputable def aQ (p:G5) (r:A9):L7:=
 (((⟨[],0⟩:L7).add 1 (p.ver r) (p.tar r).un).add 2 (p.ver r) (M0 (p.tar r) (T5 r))).add 3 (p.ver r) (O6 (p.tar r) (f9 r))
noncomputable def aS (p:G5) (r:A9):L7:=(aQ p r).add 4 (S8 p r).2 (max (S8 p r).1 (-(aQ p r).tt))
noncomputable def O7 (p:G5) (r:A9) (u:Int):L7:=
 if 0≤u then(aS p r).add 5 u (-(min (aS p r).tt ((p.tar r).un+M0 (p.tar r) (min (T5 r) (p.ps.getD u.toNat default).s))))else aS p r
def eG (n:Int):Int:=if 1000000000000<n then 2 else 0
noncomputable def o8 (p:G5) (r:A9) (u:Int):Int:=
 if 1000000000000<M0 (p.tar r) (T5 r)then 2 else if 1000000000000<O6 (p.tar r) (f9 r)then 2 else if 1000000000000<(O7 p r u).tt then 2 else 0
def kY (cap:Int):List (Int×Int×Int)→List (Int×Int×Int)→List Int
 | _,[]=>[]
 |done,(r,d,n) :: l=>
  let s:=((done.filter fun x=>decide (x.1=r) && decide (x.2.1=d)).map fun x=>x.2.2).sum
  let m:=if 0<cap then min n (cap-s)else n
  m :: kY cap (done ++ [(r,d,m)]) l
def U2 (cap:Int) (l:List (Int×Int×Int)):List Int:=kY cap [] l
def fC (x y:A9):Bool:=!bef y x
def kZ (l:List A9):List A9:=l.mergeSort fC
def Q5 (l:List A9):List A9:=kZ (l.filter fun r=>!r.op)
theorem Bd1 (x y z:A9) (h1:fC x y=true) (h2:fC y z=true):fC x z=true:=by
 unfold fC at *;simp only[Bool.not_eq_true']at *;exact tK h2 h1
theorem Bd2 (x y:A9):(fC x y || fC y x)=true:=by
 unfold fC
 cases h:bef y x
 ·rfl
 ·rw[AG7 h];rfl
theorem nC (l:List A9):(kZ l).Perm l:=List.mergeSort_perm _ _
theorem Bd3 (l:List A9):(kZ l).Pairwise fun x y=>bef y x=false:=by
 have:=List.pairwise_mergeSort (le:=fC) Bd1 Bd2 l;exact this.imp fun h=>by unfold fC at h;simpa using h
theorem Bd4 {l:List A9} {r:A9}:r∈Q5 l↔r∈l∧r.op=false:=by
 unfold Q5;rw[(nC _).mem_iff,List.mem_filter];simp
structure lA where
 id:Int
 rd:Int
 b:L7
instance:Inhabited lA:=⟨⟨0,0,⟨[],0⟩⟩⟩
noncomputable def j6 (p:G5) (C:List A9) (u:Nat→Int):Nat→Int
 |0=>0
 |k+1=>if j6 p C u k≠0 then j6 p C u k else o8 p (D3 C k) (u k)
theorem wA {p:G5} {C:List A9} {u:Nat→Int} {k:Nat} (h:j6 p C u k≠0):∀n,k≤n→j6 p C u n=j6 p C u k
 |0,hn=>by
  obtain rfl:k=0:=by omega
  rfl
 |n+1,hn=>by
  by_cases e:k=n+1
  ·rw[e]
  ·have:=wA h n (by omega)
   show(if j6 p C u n≠0 then j6 p C u n else o8 p (D3 C n) (u n))= _;rw[this,if_pos h]
theorem wC {p:G5} {C:List A9} {u:Nat→Int} {n:Nat} (h:j6 p C u n=0):∀k,k<n→o8 p (D3 C k) (u k)=0:=fun k hk=>by
 have h1:j6 p C u (k+1)=0:=by
  by_cases e:j6 p C u (k+1)=0
  ·exact e
  ·have:=wA e n (by omega)
   rw[h]at this;exact absurd this.symm e
 unfold j6 at h1;split at h1
 ·rename_i h2;exact absurd h1 h2
 ·exact h1
noncomputable def Z2 (p:G5) (C:List A9) (u:Nat→Int):List (Int×Int×Int):=(List.range C.length).map fun i=>((D3 C i).rd,J2 (D3 C i),(O7 p (D3 C i) (u i)).tt)
noncomputable def eH (p:G5) (C:List A9) (u:Nat→Int) (i:Nat):lA:=
 ⟨(D3 C i).id,(D3 C i).rd,(O7 p (D3 C i) (u i)).add 6 0 (B0 (U2 p.cap (Z2 p C u)) i-(O7 p (D3 C i) (u i)).tt)⟩
noncomputable def qR (p:G5) (C:List A9) (u:Nat→Int):List lA:=(List.range C.length).map (eH p C u)
noncomputable def nD (f:G4) (p:G5) (l:List A9) (u:Nat→Int):Int:=
 if o7 f p≠0 then o7 f p else if U9 l≠0 then U9 l else j6 p (Q5 l) u (Q5 l).length
end
section
def cD (done:List (Int×Int×Int)) (r d:Int):Int:=((done.filter fun x=>decide (x.1=r) && decide (x.2.1=d)).map fun x=>x.2.2).sum
theorem wD (done:List (Int×Int×Int)) (r d m r' d':Int):cD (done ++ [(r,d,m)]) r' d'=if(r',d')=(r,d)then cD done r' d'+m else cD done r' d':=by
 unfold cD;rw[List.filter_append,List.map_append,List.sum_append,List.filter_cons];by_cases h:(r',d')=(r,d)
 ·obtain⟨rfl,rfl⟩:=Prod.mk.inj h
  simp
 ·rw[if_neg h]
  have:(decide (r=r') && decide (d=d'))=false:=by
   by_cases h1:r=r'
   ·by_cases h2:d=d'
    ·exact absurd (by rw[h1,h2]) h
    ·simp[h2]
   ·simp[h1]
  simp only[this];simp
def cE (cap:Int) (done:List (Int×Int×Int)) (r d n:Int):Int:=if 0<cap then min n (cap-cD done r d)else n
theorem wE (cap:Int) (done:List (Int×Int×Int)) (r d n:Int) (l:List (Int×Int×Int)):kY cap done ((r,d,n) :: l)=cE cap done r d n :: kY cap (done ++ [(r,d,cE cap done r d n)]) l:=rfl
theorem Am6 (cap:Int):∀(l done:List (Int×Int×Int)),(kY cap done l).length=l.length
 |[],_ =>rfl
 |(r,d,n) :: l,done=>by rw[wE,List.length_cons,List.length_cons,Am6 cap l]
theorem Bd5 (cap:Int) (l:List (Int×Int×Int)):(U2 cap l).length=l.length:=Am6 cap l []
structure fD (cap:Int) (G:List (Int×Int×Int)) (k:Nat) (done:List (Int×Int×Int)) (outs:List Int):Prop where
 len:outs.length=k
 eq:U2 cap G=outs ++ kY cap done (G.drop k)
 bd:∀r d,0≤cD done r d∧cD done r d≤(k:Int)*1000000000000∧(0<cap→cD done r d≤cap)
theorem Am7 (cap:Int) (hc:0≤cap) (G:List (Int×Int×Int)):fD cap G 0 [] []:=⟨rfl,rfl,fun r d=>⟨Int.le_refl _,by simp[cD],fun h=>by show(0:Int)≤cap;exact hc⟩⟩
theorem fD.next {cap:Int} {G:List (Int×Int×Int)} {k:Nat} {done:List (Int×Int×Int)} {outs:List Int} (h:fD cap G k done outs) {r d n:Int} (hg:G[k]? =some (r,d,n)) (hn:0≤n∧n≤1000000000000):
 fD cap G (k+1) (done ++ [(r,d,cE cap done r d n)]) (outs ++ [cE cap done r d n])∧0≤cE cap done r d n∧cE cap done r d n≤n:=by
 have hb:=h.bd r d;have hm:0≤cE cap done r d n∧cE cap done r d n≤n∧(0<cap→cD done r d+cE cap done r d n≤cap):=by
  unfold cE;split
  ·rename_i h0
   have:=hb.2.2 h0;refine⟨by omega,by omega,fun _ =>by omega⟩
  ·exact⟨hn.1,Int.le_refl _,fun h=>by omega⟩
 refine⟨⟨by simp[h.len],?_,fun r' d'=>?_⟩,hm.1,hm.2.1⟩
 ·rw[h.eq]
  have:G.drop k=(r,d,n) :: G.drop (k+1):=by
   rw[List.drop_eq_getElem_cons (A5 hg).1,(A5 hg).2]
  rw[this,wE];simp
 ·rw[wD]
  have hb':=h.bd r' d';have e:((k+1:Nat):Int)*1000000000000=(k:Int)*1000000000000+1000000000000:=by omega
  rw[e];split
  ·rename_i h1
   obtain⟨rfl,rfl⟩:=Prod.mk.inj h1;exact⟨by omega,by omega,hm.2.2⟩
  ·exact⟨hb'.1,by omega,hb'.2.2⟩
theorem fD.done {cap:Int} {G:List (Int×Int×Int)} {done:List (Int×Int×Int)} {outs:List Int} (h:fD cap G G.length done outs):outs=U2 cap G:=by
 rw[h.eq,List.drop_length];show outs=outs ++ [];rw[List.append_nil]
theorem fD.at {cap:Int} {G:List (Int×Int×Int)} {k:Nat} {done:List (Int×Int×Int)} {outs:List Int} (h:fD cap G k done outs) {r d n:Int} (hg:G[k]? =some (r,d,n)):B0 (U2 cap G) k=cE cap done r d n:=by
 have hk:=(A5 hg).1;rw[h.eq,List.drop_eq_getElem_cons hk,(A5 hg).2,wE];unfold B0;rw[A6,List.getElem?_append_right (by rw[h.len];exact Nat.le_refl _),h.len,Nat.sub_self];rfl
theorem Am8 {cap:Int} (hc:0≤cap) {G:List (Int×Int×Int)} (hG:∀x∈G,0≤x.2.2∧x.2.2≤1000000000000):∀(k:Nat),k≤G.length→∃done outs,fD cap G k done outs
 |0,_ =>⟨[],[],Am7 cap hc G⟩
 |k+1,hk=>by
  obtain⟨done,outs,h⟩:=Am8 hc hG k (by omega);obtain⟨x,hx⟩:∃x,G[k]? =some x:=⟨_,A4 (by omega)⟩
  obtain⟨r,d,n⟩:=x;exact⟨_,_,(h.next hx (hG _ (A0 hx))).1⟩
theorem Am9 {cap:Int} (hc:0≤cap) {G:List (Int×Int×Int)} (hG:∀x∈G,0≤x.2.2∧x.2.2≤1000000000000) {k:Nat} {r d n:Int} (hg:G[k]? =some (r,d,n)):0≤B0 (U2 cap G) k∧B0 (U2 cap G) k≤n:=by
 obtain⟨done,outs,h⟩:=Am8 hc hG k (by have:=(A5 hg).1;omega);rw[h.at hg];exact(h.next hg (hG _ (A0 hg))).2
end
section
open Go.RowKit
theorem An0:∀(l:List K2) (a:Int),fA a l=0→∀t∈l,O1 t=true
 |[],_,_,t,ht=>by cases ht
 |x :: l,a,h,t,ht=>by
  unfold fA at h
  cases hv:O1 x with
  |false=>rw[hv]at h;simp at h
  |true=>
   rw[hv]at h
   simp only[Bool.true_eq_false,if_false]at h
   split at h
   ·cases h
   ·rcases List.mem_cons.1 ht with rfl|ht
    ·exact hv
    ·exact An0 l _ h t ht
theorem Bd6 {l:List K2} (h:S3 l=0):0<l.length∧l.length≤8∧∀t∈l,O1 t=true:=by
 unfold S3 at h;split at h
 ·cases h
 ·split at h
  ·cases h
  ·exact⟨by omega,by omega,An0 l _ h⟩
theorem Bd7 {t:K2} (h:O1 t=true):O1 t.z=true:=by
 obtain⟨fr,un,st,fe,pr,pa⟩:=t;have h':(C6 fr 0 4294943999 && C6 un 0 1000000 && C6 pr 0 1000000 && C6 pa 0 1000000 && C6 st 1 86400 && C6 fe 0 86400)=true:=h;show(C6 0 0 4294943999 && C6 un 0 1000000 && C6 pr 0 1000000 && C6 pa 0 1000000 && C6 st 1 86400 && C6 fe 0 86400)=true;simp only[Bool.and_eq_true]at h'⊢;exact⟨⟨⟨⟨⟨by decide,h'.1.1.1.1.2⟩,h'.1.1.1.2⟩,h'.1.1.2⟩,h'.1.2⟩,h'.2⟩
theorem An1 {t:K2} {s n:Int} (h:O1 t=true) (hs:0≤s∧s≤4294944000):S7 t s n=eG n:=by
 unfold S7 eG;rw[Bd7 h];simp only[Bool.true_eq_false,if_false];rw[if_neg (by omega)]
theorem An2 (l:List K2) (t:Int) (h:0<l.length):∀n,n≤l.length→fB l t n<l.length
 |0,_ =>h
 |n+1,hn=>by
  unfold fB;split
  ·omega
  ·exact An2 l t h n (by omega)
structure dO (p:G5):Prop where
 t:S3 p.tr=0
 s:W0 p.ps=0
 dl:p.dk.length≤32
 ll:p.pl.length≤64
 fe:∀i,i<(p.pl ++ p.dk).length→-1000000≤B0 (p.pl ++ p.dk) i∧B0 (p.pl ++ p.dk) i≤1000000
 c:0≤p.cap∧p.cap≤1000000000000
theorem Bd8 {l:List Int} {q:Int→Bool} (h:l.all q=true) {i:Nat} (hi:i<l.length):q (B0 l i)=true:=by
 unfold B0;rw[A6,A4 hi];exact List.all_eq_true.1 h _ (List.getElem_mem hi)
theorem An3 {f:G4} {p:G5} (h:o7 f p=0):K5 f=0∧dO p:=by
 unfold o7 at h;split at h
 ·rename_i h1;exact absurd h h1
 ·rename_i h1
  split at h
  ·rename_i h2;exact absurd h h2
  ·rename_i h2
   split at h
   ·rename_i h3;exact absurd h h3
   ·rename_i h3
    split at h
    ·cases h
    ·rename_i h4
     split at h
     ·cases h
     ·rename_i h5
      split at h
      ·cases h
      ·rename_i h6
       have hf:K5 f=0:=Decidable.of_not_not h1;have hd:f.dk.length≤32:=by
        unfold K5 at hf;split at hf
        ·cases hf
        ·split at hf
         ·cases hf
         ·omega
       have h5':((p.pl ++ p.dk).all fun n=>C6 n (-1000000) 1000000)=true:=by simpa using h5
       refine⟨hf,Decidable.of_not_not h2,Decidable.of_not_not h3,by omega,by omega,fun i hi=>?_,?_⟩
       ·have:=Bd8 h5' hi
        simpa[C6]using this
       ·simp only[Bool.not_eq_true',Bool.not_eq_false]at h6
        simpa[C6]using h6
theorem dO.plc {p:G5} (h:dO p) (r:A9):-1000000≤(S8 p r).1∧(S8 p r).1≤1000000:=by
 unfold S8;split
 ·rename_i h1
  have:=h.fe r.pl.toNat (by rw[List.length_append];omega);unfold B0 at this⊢;rw[A6,List.getElem?_append_left (by omega),←A6]at this;exact this
 ·split
  ·rename_i h1
   have:=h.fe (p.pl.length+(r.pl/32).toNat) (by rw[List.length_append];omega);unfold B0 at this⊢;rw[A6,List.getElem?_append_right (by omega),Nat.add_sub_cancel_left,←A6]at this;exact this
  ·exact⟨by omega,by omega⟩
theorem dO.ver_at {p:G5} (h:dO p) (r:A9):p.tr[p.ver r]? =some (p.tar r)∧O1 (p.tar r)=true:=by
 obtain⟨h1,h2,h3⟩:=Bd6 h.t;have hlt:p.ver r<p.tr.length:=An2 p.tr r.s0 h1 _ (Nat.le_refl _);have e:p.tr[p.ver r]? =some (p.tar r):=by
  unfold G5.tar;rw[A6,A4 hlt];rfl
 exact⟨e,h3 _ (A0 e)⟩
theorem qS {t:K2} (h:O1 t=true) (s:Int):0≤M0 t s:=by
 have:=iA h;exact Int.mul_nonneg (by omega) (qA (by omega)).1
theorem An4 {t:K2} (h:O1 t=true) (s:Int):0≤O6 t s:=by
 have:=iA h;exact Int.mul_nonneg (by omega) (qA (by omega)).1
theorem Bd9 (p:G5) (r:A9):(aQ p r).tt=(p.tar r).un+M0 (p.tar r) (T5 r)+O6 (p.tar r) (f9 r):=by
 unfold aQ;rw[L7.add_tt,L7.add_tt,L7.add_tt];dsimp only;omega
theorem Be0 (p:G5) (r:A9):(aS p r).tt=(aQ p r).tt+max (S8 p r).1 (-(aQ p r).tt):=by
 unfold aS;rw[L7.add_tt]
theorem An5 (p:G5) (r:A9):(aQ p r).it.length≤3:=by
 unfold aQ;have h1:=L7.add_len (⟨[],0⟩:L7) 1 (p.ver r) (p.tar r).un;have h2:=L7.add_len ((⟨[],0⟩:L7).add 1 (p.ver r) (p.tar r).un) 2 (p.ver r) (M0 (p.tar r) (T5 r));have h3:=L7.add_len (((⟨[],0⟩:L7).add 1 (p.ver r) (p.tar r).un).add 2 (p.ver r) (M0 (p.tar r) (T5 r))) 3 (p.ver r) (O6 (p.tar r) (f9 r));simp only[List.length_nil]at h1;omega
theorem An6 (p:G5) (r:A9):(aS p r).it.length≤4:=by
 unfold aS;have h1:=L7.add_len (aQ p r) 4 (S8 p r).2 (max (S8 p r).1 (-(aQ p r).tt));have h2:=An5 p r;omega
theorem Be1 (p:G5) (r:A9) (u:Int):(O7 p r u).it.length≤5:=by
 unfold O7;have h2:=An6 p r;split
 ·have h1:=L7.add_len (aS p r) 5 u (-(min (aS p r).tt ((p.tar r).un+M0 (p.tar r) (min (T5 r) (p.ps.getD u.toNat default).s))))
  omega
 ·omega
theorem An7 {p:G5} (h:dO p) (r:A9) (h1:M0 (p.tar r) (T5 r)≤1000000000000) (h2:O6 (p.tar r) (f9 r)≤1000000000000):
 (0≤(aQ p r).tt∧(aQ p r).tt≤2000001000000)∧(0≤(aS p r).tt∧(aS p r).tt≤2000002000000):=by
 have hv:=(h.ver_at r).2;have f:=iA hv;have a:=qS hv (T5 r);have b:=An4 hv (f9 r);have c:=h.plc r;have e3:=Bd9 p r;have e4:=Be0 p r;omega
theorem qT {p:G5} (h:dO p) (r:A9) (u:Int) (h1:M0 (p.tar r) (T5 r)≤1000000000000) (h2:O6 (p.tar r) (f9 r)≤1000000000000):0≤(O7 p r u).tt∧(O7 p r u).tt≤2000002000000:=by
 obtain⟨_,h3,h4⟩:=An7 h r h1 h2;have hv:=(h.ver_at r).2;have f:=iA hv;unfold O7;split
 ·rw[L7.add_tt]
  have:=qS hv (min (T5 r) (p.ps.getD u.toNat default).s);omega
 ·exact⟨h3,h4⟩
theorem wF {p:G5} {r:A9} {u:Int} (h:o8 p r u=0):M0 (p.tar r) (T5 r)≤1000000000000∧O6 (p.tar r) (f9 r)≤1000000000000∧(O7 p r u).tt≤1000000000000:=by
 unfold o8 at h;split at h
 ·cases h
 ·split at h
  ·cases h
  ·split at h
   ·cases h
   ·omega
theorem Be2 {p:G5} (h:dO p) (r:A9) (s:Int):M0 (p.tar r) (min (T5 r) s)≤M0 (p.tar r) (T5 r):=by
 have f:=iA (h.ver_at r).2;exact AU2 (by omega) (by omega) (by omega)
theorem Be3 {p:G5} (h:dO p) {u:Int} (h0:0≤u) (h1:u<p.ps.length):p.ps[u.toNat]? =some (p.ps.getD u.toNat default)∧0≤(p.ps.getD u.toNat default).s∧(p.ps.getD u.toNat default).s≤86400:=by
 have hlt:u.toNat<p.ps.length:=by omega
 have e:p.ps[u.toNat]? =some (p.ps.getD u.toNat default):=by rw[A6,A4 hlt];rfl
 refine⟨e,?_⟩;have hp:=h.s;unfold W0 at hp;split at hp
 ·cases hp
 ·split at hp
  ·cases hp
  ·rename_i h3
   have h3':p.ps.all dC=true:=by simpa using h3
   have:=(AG4 _).1 (List.all_eq_true.1 h3' _ (A0 e));omega
end
section
open Go.ChangeShapes Go.WideShapes Go.ChangeAt Go.RowKit
theorem own:ownKnob Tryz.prog.godebug=none:=by kernel_rfl
theorem Be5:laidOutB Tryz.prog=true:=by kernel_rfl
theorem fE:Tryz.prog.cellsOf 3=1:=by kernel_rfl
theorem An8:Tryz.prog.cellsOf 22=1:=by kernel_rfl
theorem Be6:Tryz.prog.cellsOf 63=9:=by kernel_rfl
theorem An9:Tryz.prog.cellsOf 24=5:=by kernel_rfl
theorem Ao0:Tryz.prog.cellsOf 27=6:=by kernel_rfl
noncomputable def qU:Array Field:=Tryz.prog.fieldsOf 63
theorem Be7:Tryz.prog.underlying 63=some (.struct qU):=by kernel_rfl
theorem lB:qU.size=9:=by kernel_rfl
theorem Be8:(qU.toList.map fun f=>(f.offset,f.type))=(List.range 9).map fun i=>(i,3):=by kernel_rfl
noncomputable def wG:Array Field:=Tryz.prog.fieldsOf 27
theorem Be9:Tryz.prog.underlying 27=some (.struct wG):=by kernel_rfl
theorem wH:wG.size=6:=by kernel_rfl
theorem Bf0:(wG.toList.map fun f=>(f.offset,f.type))=(List.range 6).map fun i=>(i,3):=by kernel_rfl
noncomputable def Ao1:Array Field:=Tryz.prog.fieldsOf 24
theorem Bf1:Tryz.prog.underlying 24=some (.struct Ao1):=by kernel_rfl
theorem Bf2:(Ao1.toList.map fun f=>(f.offset,f.type))=[(0,3),(1,3),(2,3),(3,22),(4,22)]:=by kernel_rfl
theorem Ao2 {fs:Array Field} {n:Nat} (hs:fs.size=n) (ha:(fs.toList.map fun f=>(f.offset,f.type))=(List.range n).map fun i=>(i,3)):sK Tryz.prog fs:=by
 intro i f h;have hi:i<n:=by
  rw[←hs];exact(Array.getElem?_eq_some_iff.1 h).1
 have h1:=congrArg (fun l=>l[i]?) ha;simp only[List.getElem?_map,Array.getElem?_toList]at h1;rw[h,List.getElem?_range hi]at h1;have h2:=Option.some.inj h1;have h3:f.offset=i:=congrArg Prod.fst h2;have h4:f.type=3:=congrArg Prod.snd h2;exact⟨h3,by rw[h4];exact fE,by rw[h4];exact Tryz.underlying3⟩
def Ao3 (ns:List Int):Ev:=⟨B0 ns 0,B0 ns 1,B0 ns 2,B0 ns 3,B0 ns 4,B0 ns 5,B0 ns 6,B0 ns 7,B0 ns 8⟩
theorem Bf3 (ns:List Int) (h:ns.length=qU.size):(Ao3 ns).cs=ns.map (Value.int .i64):=by
 rw[lB]at h;match ns,h with
 |[a,b,c,d,e,f,g,h,i],_ =>rfl
set_option maxRecDepth 20000 in
theorem Bf4 {H:Type} {enc:TypeId×Value→H} {w:World} {b0:Nat} {r:Reach} {held:Bool} {v:Value} {d:DataW H} {p:List MemPlace} (hv:Value.okWide Tryz.prog w r b0 25 v) (h:DataW.Trod enc Tryz.prog w 0 (fun _ =>true) held 25 v d p):
 ∃(a:Option Addr) (l:List Ev) (cap:Nat),v= .slice a l.length cap∧l.length≤9223372036854775807∧D0 Ev.cs 9 w a l∧∀e∈l,U0 e.p:=by
 obtain⟨a,l,cap,h1,h2,h3,h4,h5,h6⟩:=AB7 (encA:=Ev.cs) (dec:=Ao3) Tryz.underlying25 Be7 (Ao2 lB Be8) (Be6.trans lB.symm) (by rw[lB];decide) Bf3 hv h;rw[lB]at h5;refine⟨a,l,cap,h1,Nat.le_trans h2 h3,h5,fun e he=>?_⟩;obtain⟨ns,hl,rfl,hi⟩:=h6 e he;rw[lB]at hl;have h7:B0 ns 6=ns[6]:=by unfold B0;rw[A6,A4 (by omega)];rfl
 show U0 (B0 ns 6);rw[h7];exact hi _ (List.getElem_mem (by omega))
section
variable {H:Type} {enc:TypeId×Value→H} {w:World} {base fuel:Nat} {spare:Nat→Bool} {held:Bool} {cs:List Value} {y:DataW H×List MemPlace}
theorem o9 {c:Value} (h:DataW.trod enc Tryz.prog w base spare held fuel 3 [c]=some y):∃m:Int,c= .int .i64 m∧U0 m:=by
 obtain⟨z,hcs,_,hwf⟩:=DataW.trod_int Tryz.underlying3 h;exact⟨z,by simpa using hcs,yX hwf⟩
set_option maxRecDepth 20000 in
theorem Bf5 (h:DataW.trod enc Tryz.prog w base spare held fuel 24 cs=some y):∃(f:G4) (da:Option Addr) (dc:Nat) (ta:Option Addr) (tc:Nat),cs=[.int .i64 f.bk,.int .i64 f.rd,.int .i64 f.dv,.slice da f.dk.length dc,.slice ta f.tk.length tc]∧i5 w f da ta:=by
 obtain⟨hl,hf⟩:=jV Bf1 Bf2 h;rw[An9]at hl;match cs,hl with
 |[c0,c1,c2,c3,c4],_ =>
  obtain⟨_,_,h0⟩:=hf 0 _ rfl
  obtain⟨_,_,h1⟩:=hf 1 _ rfl
  obtain⟨_,_,h2⟩:=hf 2 _ rfl
  obtain⟨_,_,h3⟩:=hf 3 _ rfl
  obtain⟨_,_,h4⟩:=hf 4 _ rfl
  simp only[fE,An8]at h0 h1 h2 h3 h4
  obtain⟨b,rfl,_⟩:=o9 h0
  obtain⟨rd,rfl,_⟩:=o9 h1
  obtain⟨dv,rfl,_⟩:=o9 h2
  obtain⟨da,dk,dc,rfl,k1,k2,k3,_⟩:=yV Tryz.underlying22 Tryz.underlying3 fE h3
  obtain⟨ta,tk,tc,rfl,m1,m2,m3,_⟩:=yV Tryz.underlying22 Tryz.underlying3 fE h4
  exact⟨⟨b,rd,dv,dk,tk⟩,da,dc,ta,tc,rfl,k3,m3,Nat.le_trans k1 k2,Nat.le_trans m1 m2⟩
end
end
end Go.Proofs.YtmmlmhnjjfnpnaaGreat
