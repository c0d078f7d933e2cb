/- Texts that belong together. -/
import Derived.Test.YtmmlmhnjjfnpnaaGreatTpNg
import Derived.Test.YtmmlmhnjjfnpnaaGreatTpNm
import Derived.Test.YtmmlmhnjjfnpnaaGreatTpNq
set_option linter.all false
namespace Go.Proofs.YtmmlmhnjjfnpnaaGreat
section
structure E4 where
 tr:List I4
 ps:List G3
 pl:List Int
 dk:List Int
 cap:Int
 fn:List Int
 fd:Int
def cX (p:E4):Int:=
 if 512<p.fn.length then 8 else if !(p.fn.all fun n=>C4 n 0 1000000)then 1 else if !(C4 p.fd 0 49709)then 1 else 0
def i6 (f:D5) (p:E4):Int:=
 if H9 f≠0 then H9 f
 else if Q2 p.tr≠0 then Q2 p.tr
 else if U4 p.ps≠0 then U4 p.ps
 else if p.dk.length≠f.dk.length∨64<p.pl.length then 3
 else if !((p.pl ++ p.dk).all fun n=>C4 n (-1000000) 1000000)then 1
 else if !(C4 p.cap 0 1000000000000)then 1
 else cX p
structure P7 where
 k:Int
 r:Int
 a:Int
def P7.cs (x:P7):List Value:=[.int .i64 x.k,.int .i64 x.r,.int .i64 x.a]
theorem P7.len (x:P7):x.cs.length=3:=rfl
instance:Inhabited P7:=⟨⟨0,0,0⟩⟩
structure K0 where
 it:List P7
 tt:Int
def K0.add (b:K0) (k r a:Int):K0:=if a=0 then b else⟨b.it ++ [⟨k,r,a⟩],b.tt+a⟩
theorem K0.add_tt (b:K0) (k r a:Int):(b.add k r a).tt=b.tt+a:=by
 unfold K0.add;split
 ·rename_i h;rw[h];omega
 ·rfl
theorem K0.add_len (b:K0) (k r a:Int):(b.add k r a).it.length≤b.it.length+1:=by
 unfold K0.add;split
 ·omega
 ·simp
def eK (l:List I4) (t:Int):Nat→Nat
 |0=>0
 |k+1=>if(l.getD k default).fr≤t then k else eK l t k
def Q6 (p:E4) (r:A8):Int×Int:=
 if r.wh=2∧0≤r.pl∧r.pl<p.pl.length then(B2 p.pl r.pl.toNat,r.pl)
 else if r.wh=1∧0≤r.pl∧r.pl/32<p.dk.length then(B2 p.dk (r.pl/32).toNat,64+r.pl/32)
 else(0,0)
def E4.ver (p:E4) (r:A8):Nat:=eK p.tr r.s0 p.tr.length
def E4.tar (p:E4) (r:A8):I4:=p.tr.getD (p.ver r) default
noncomputable def l6 (p:E4) (r:A8):K0:=
 (((⟨[],0⟩:K0).add 1 (p.ver r) (p.tar r).un).add 2 (p.ver r) (K3 (p.tar r) (Q0 r))).add 3 (p.ver r) (N5 (p.tar r) (X1 r))
noncomputable def r9 (p:E4) (r:A8):K0:=(l6 p r).add 4 (Q6 p r).2 (max (Q6 p r).1 (-(l6 p r).tt))
noncomputable def L8 (p:E4) (r:A8) (u:Int):K0:=
 if 0≤u then(r9 p r).add 5 u (-(min (r9 p r).tt ((p.tar r).un+K3 (p.tar r) (min (Q0 r) (p.ps.getD u.toNat default).s))))else r9 p r
def dW (n:Int):Int:=if 1000000000000<n then 2 else 0
noncomputable def Z5 (p:E4) (r:A8) (u:Int):Int:=
 if 1000000000000<K3 (p.tar r) (Q0 r)then 2 else if 1000000000000<N5 (p.tar r) (X1 r)then 2 else if 1000000000000<(L8 p r u).tt then 2 else 0
def fO (cap:Int):List (Int×Int×Int)→List (Int×Int×Int)→List Int
 | _,[]=>[]
 |done,(r,d,n) :: l=>
  let s:=((done.filter fun x=>decide (x.1=r) && decide (x.2.1=d)).map fun x=>x.2.2).sum
  let m:=if 0<cap then min n (cap-s)else n
  m :: fO cap (done ++ [(r,d,m)]) l
def R9 (cap:Int) (l:List (Int×Int×Int)):List Int:=fO cap [] l
def eL (x y:A8):Bool:=!bef y x
def lD (l:List A8):List A8:=l.mergeSort eL
def M5 (l:List A8):List A8:=lD (l.filter fun r=>!r.op)
theorem Be3 (x y z:A8) (h1:eL x y=true) (h2:eL y z=true):eL x z=true:=by
 unfold eL at *;simp only[Bool.not_eq_true']at *;exact uK h2 h1
theorem Be4 (x y:A8):(eL x y || eL y x)=true:=by
 unfold eL
 cases h:bef y x
 ·rfl
 ·rw[Ae1 h];rfl
theorem jH (l:List A8):(lD l).Perm l:=List.mergeSort_perm _ _
theorem Ao6 (l:List A8):(lD l).Pairwise fun x y=>bef y x=false:=by
 have:=List.pairwise_mergeSort (le:=eL) Be3 Be4 l;exact this.imp fun h=>by unfold eL at h;simpa using h
theorem Be5 {l:List A8} {r:A8}:r∈M5 l↔r∈l∧r.op=false:=by
 unfold M5;rw[(jH _).mem_iff,List.mem_filter];simp
structure eM where
 id:Int
 rd:Int
 b:K0
instance:Inhabited eM:=⟨⟨0,0,⟨[],0⟩⟩⟩
noncomputable def Z6 (p:E4) (C:List A8) (u:Nat→Int):Nat→Int
 |0=>0
 |k+1=>if Z6 p C u k≠0 then Z6 p C u k else Z5 p (C1 C k) (u k)
theorem xC {p:E4} {C:List A8} {u:Nat→Int} {k:Nat} (h:Z6 p C u k≠0):∀n,k≤n→Z6 p C u n=Z6 p C u k
 |0,hn=>by
  obtain rfl:k=0:=by omega
  rfl
 |n+1,hn=>by
  by_cases e:k=n+1
  ·rw[e]
  ·have:=xC h n (by omega)
   show(if Z6 p C u n≠0 then Z6 p C u n else Z5 p (C1 C n) (u n))= _;rw[this,if_pos h]
theorem Ao7 {p:E4} {C:List A8} {u:Nat→Int} {n:Nat} (h:Z6 p C u n=0):∀k,k<n→Z5 p (C1 C k) (u k)=0:=fun k hk=>by
 have h1:Z6 p C u (k+1)=0:=by
  by_cases e:Z6 p C u (k+1)=0
  ·exact e
  ·have:=xC e n (by omega)
   rw[h]at this;exact absurd this.symm e
 unfold Z6 at h1;split at h1
 ·rename_i h2;exact absurd h1 h2
 ·exact h1
noncomputable def U2 (p:E4) (C:List A8) (u:Nat→Int):List (Int×Int×Int):=(List.range C.length).map fun i=>((C1 C i).rd,F8 (C1 C i),(L8 p (C1 C i) (u i)).tt)
noncomputable def l8 (p:E4) (C:List A8) (u:Nat→Int) (i:Nat):eM:=
 ⟨(C1 C i).id,(C1 C i).rd,(L8 p (C1 C i) (u i)).add 6 0 (B2 (R9 p.cap (U2 p C u)) i-(L8 p (C1 C i) (u i)).tt)⟩
noncomputable def cI (p:E4) (C:List A8) (u:Nat→Int):List eM:=(List.range C.length).map (l8 p C u)
noncomputable def jI (f:D5) (p:E4) (l:List A8) (u:Nat→Int):Int:=
 if i6 f p≠0 then i6 f p else if S4 l≠0 then S4 l else Z6 p (M5 l) u (M5 l).length
end
section
def aW (done:List (Int×Int×Int)) (r d:Int):Int:=((done.filter fun x=>decide (x.1=r) && decide (x.2.1=d)).map fun x=>x.2.2).sum
theorem rK (done:List (Int×Int×Int)) (r d m r' d':Int):aW (done ++ [(r,d,m)]) r' d'=if(r',d')=(r,d)then aW done r' d'+m else aW done r' d':=by
 unfold aW;rw[List.filter_append,List.map_append,List.sum_append,List.filter_cons];by_cases h:(r',d')=(r,d)
 ·obtain⟨rfl,rfl⟩:=Prod.mk.inj h
  simp
 ·rw[if_neg h]
  have:(decide (r=r') && decide (d=d'))=false:=by
   by_cases h1:r=r'
   ·by_cases h2:d=d'
    ·exact absurd (by rw[h1,h2]) h
    ·simp[h2]
   ·simp[h1]
  simp only[this];simp
def l9 (cap:Int) (done:List (Int×Int×Int)) (r d n:Int):Int:=if 0<cap then min n (cap-aW done r d)else n
theorem rL (cap:Int) (done:List (Int×Int×Int)) (r d n:Int) (l:List (Int×Int×Int)):fO cap done ((r,d,n) :: l)=l9 cap done r d n :: fO cap (done ++ [(r,d,l9 cap done r d n)]) l:=rfl
theorem Ao8 (cap:Int):∀(l done:List (Int×Int×Int)),(fO cap done l).length=l.length
 |[],_ =>rfl
 |(r,d,n) :: l,done=>by rw[rL,List.length_cons,List.length_cons,Ao8 cap l]
theorem Be6 (cap:Int) (l:List (Int×Int×Int)):(R9 cap l).length=l.length:=Ao8 cap l []
structure eN (cap:Int) (G:List (Int×Int×Int)) (k:Nat) (done:List (Int×Int×Int)) (outs:List Int):Prop where
 len:outs.length=k
 eq:R9 cap G=outs ++ fO cap done (G.drop k)
 bd:∀r d,0≤aW done r d∧aW done r d≤(k:Int)*1000000000000∧(0<cap→aW done r d≤cap)
theorem Ao9 (cap:Int) (hc:0≤cap) (G:List (Int×Int×Int)):eN cap G 0 [] []:=⟨rfl,rfl,fun r d=>⟨Int.le_refl _,by simp[aW],fun h=>by show(0:Int)≤cap;exact hc⟩⟩
theorem eN.next {cap:Int} {G:List (Int×Int×Int)} {k:Nat} {done:List (Int×Int×Int)} {outs:List Int} (h:eN cap G k done outs) {r d n:Int} (hg:G[k]? =some (r,d,n)) (hn:0≤n∧n≤1000000000000):
 eN cap G (k+1) (done ++ [(r,d,l9 cap done r d n)]) (outs ++ [l9 cap done r d n])∧0≤l9 cap done r d n∧l9 cap done r d n≤n:=by
 have hb:=h.bd r d;have hm:0≤l9 cap done r d n∧l9 cap done r d n≤n∧(0<cap→aW done r d+l9 cap done r d n≤cap):=by
  unfold l9;split
  ·rename_i h0
   have:=hb.2.2 h0;refine⟨by omega,by omega,fun _ =>by omega⟩
  ·exact⟨hn.1,Int.le_refl _,fun h=>by omega⟩
 refine⟨⟨by simp[h.len],?_,fun r' d'=>?_⟩,hm.1,hm.2.1⟩
 ·rw[h.eq]
  have:G.drop k=(r,d,n) :: G.drop (k+1):=by
   rw[List.drop_eq_getElem_cons (A4 hg).1,(A4 hg).2]
  rw[this,rL];simp
 ·rw[rK]
  have hb':=h.bd r' d';have e:((k+1:Nat):Int)*1000000000000=(k:Int)*1000000000000+1000000000000:=by omega
  rw[e];split
  ·rename_i h1
   obtain⟨rfl,rfl⟩:=Prod.mk.inj h1;exact⟨by omega,by omega,hm.2.2⟩
  ·exact⟨hb'.1,by omega,hb'.2.2⟩
theorem eN.done {cap:Int} {G:List (Int×Int×Int)} {done:List (Int×Int×Int)} {outs:List Int} (h:eN cap G G.length done outs):outs=R9 cap G:=by
 rw[h.eq,List.drop_length];show outs=outs ++ [];rw[List.append_nil]
theorem eN.at {cap:Int} {G:List (Int×Int×Int)} {k:Nat} {done:List (Int×Int×Int)} {outs:List Int} (h:eN cap G k done outs) {r d n:Int} (hg:G[k]? =some (r,d,n)):B2 (R9 cap G) k=l9 cap done r d n:=by
 have hk:=(A4 hg).1;rw[h.eq,List.drop_eq_getElem_cons hk,(A4 hg).2,rL];unfold B2;rw[A5,List.getElem?_append_right (by rw[h.len];exact Nat.le_refl _),h.len,Nat.sub_self];rfl
theorem Ap0 {cap:Int} (hc:0≤cap) {G:List (Int×Int×Int)} (hG:∀x∈G,0≤x.2.2∧x.2.2≤1000000000000):∀(k:Nat),k≤G.length→∃done outs,eN cap G k done outs
 |0,_ =>⟨[],[],Ao9 cap hc G⟩
 |k+1,hk=>by
  obtain⟨done,outs,h⟩:=Ap0 hc hG k (by omega);obtain⟨x,hx⟩:∃x,G[k]? =some x:=⟨_,A3 (by omega)⟩
  obtain⟨r,d,n⟩:=x;exact⟨_,_,(h.next hx (hG _ (A0 hx))).1⟩
theorem Be7 {cap:Int} (hc:0≤cap) {G:List (Int×Int×Int)} (hG:∀x∈G,0≤x.2.2∧x.2.2≤1000000000000) {k:Nat} {r d n:Int} (hg:G[k]? =some (r,d,n)):0≤B2 (R9 cap G) k∧B2 (R9 cap G) k≤n:=by
 obtain⟨done,outs,h⟩:=Ap0 hc hG k (by have:=(A4 hg).1;omega);rw[h.at hg];exact(h.next hg (hG _ (A0 hg))).2
end
section
open Go.RowKit
theorem Ap1:∀(l:List I4) (a:Int),eJ a l=0→∀t∈l,N0 t=true
 |[],_,_,t,ht=>by cases ht
 |x :: l,a,h,t,ht=>by
  unfold eJ at h
  cases hv:N0 x with
  |false=>rw[hv]at h;simp at h
  |true=>
   rw[hv]at h
   simp only[Bool.true_eq_false,if_false]at h
   split at h
   ·cases h
   ·rcases List.mem_cons.1 ht with rfl|ht
    ·exact hv
    ·exact Ap1 l _ h t ht
theorem Be8 {l:List I4} (h:Q2 l=0):0<l.length∧l.length≤8∧∀t∈l,N0 t=true:=by
 unfold Q2 at h;split at h
 ·cases h
 ·split at h
  ·cases h
  ·exact⟨by omega,by omega,Ap1 l _ h⟩
theorem Be9 {t:I4} (h:N0 t=true):N0 t.z=true:=by
 obtain⟨fr,un,st,fe,pr,pa⟩:=t;have h':(C4 fr 0 4294943999 && C4 un 0 1000000 && C4 pr 0 1000000 && C4 pa 0 1000000 && C4 st 1 86400 && C4 fe 0 86400)=true:=h;show(C4 0 0 4294943999 && C4 un 0 1000000 && C4 pr 0 1000000 && C4 pa 0 1000000 && C4 st 1 86400 && C4 fe 0 86400)=true;simp only[Bool.and_eq_true]at h'⊢;exact⟨⟨⟨⟨⟨by decide,h'.1.1.1.1.2⟩,h'.1.1.1.2⟩,h'.1.1.2⟩,h'.1.2⟩,h'.2⟩
theorem Ap2 {t:I4} {s n:Int} (h:N0 t=true) (hs:0≤s∧s≤4294944000):Q5 t s n=dW n:=by
 unfold Q5 dW;rw[Be9 h];simp only[Bool.true_eq_false,if_false];rw[if_neg (by omega)]
theorem Ap3 (l:List I4) (t:Int) (h:0<l.length):∀n,n≤l.length→eK l t n<l.length
 |0,_ =>h
 |n+1,hn=>by
  unfold eK;split
  ·omega
  ·exact Ap3 l t h n (by omega)
structure cY (p:E4):Prop where
 t:Q2 p.tr=0
 s:U4 p.ps=0
 dl:p.dk.length≤32
 ll:p.pl.length≤64
 fe:∀i,i<(p.pl ++ p.dk).length→-1000000≤B2 (p.pl ++ p.dk) i∧B2 (p.pl ++ p.dk) i≤1000000
 c:0≤p.cap∧p.cap≤1000000000000
theorem Bf0 {l:List Int} {q:Int→Bool} (h:l.all q=true) {i:Nat} (hi:i<l.length):q (B2 l i)=true:=by
 unfold B2;rw[A5,A3 hi];exact List.all_eq_true.1 h _ (List.getElem_mem hi)
theorem Bf1 {f:D5} {p:E4} (h:i6 f p=0):H9 f=0∧cY p:=by
 unfold i6 at h;split at h
 ·rename_i h1;exact absurd h h1
 ·rename_i h1
  split at h
  ·rename_i h2;exact absurd h h2
  ·rename_i h2
   split at h
   ·rename_i h3;exact absurd h h3
   ·rename_i h3
    split at h
    ·cases h
    ·rename_i h4
     split at h
     ·cases h
     ·rename_i h5
      split at h
      ·cases h
      ·rename_i h6
       have hf:H9 f=0:=Decidable.of_not_not h1;have hd:f.dk.length≤32:=by
        unfold H9 at hf;split at hf
        ·cases hf
        ·split at hf
         ·cases hf
         ·omega
       have h5':((p.pl ++ p.dk).all fun n=>C4 n (-1000000) 1000000)=true:=by simpa using h5
       refine⟨hf,Decidable.of_not_not h2,Decidable.of_not_not h3,by omega,by omega,fun i hi=>?_,?_⟩
       ·have:=Bf0 h5' hi
        simpa[C4]using this
       ·simp only[Bool.not_eq_true',Bool.not_eq_false]at h6
        simpa[C4]using h6
theorem cY.plc {p:E4} (h:cY p) (r:A8):-1000000≤(Q6 p r).1∧(Q6 p r).1≤1000000:=by
 unfold Q6;split
 ·rename_i h1
  have:=h.fe r.pl.toNat (by rw[List.length_append];omega);unfold B2 at this⊢;rw[A5,List.getElem?_append_left (by omega),←A5]at this;exact this
 ·split
  ·rename_i h1
   have:=h.fe (p.pl.length+(r.pl/32).toNat) (by rw[List.length_append];omega);unfold B2 at this⊢;rw[A5,List.getElem?_append_right (by omega),Nat.add_sub_cancel_left,←A5]at this;exact this
  ·exact⟨by omega,by omega⟩
theorem cY.ver_at {p:E4} (h:cY p) (r:A8):p.tr[p.ver r]? =some (p.tar r)∧N0 (p.tar r)=true:=by
 obtain⟨h1,h2,h3⟩:=Be8 h.t;have hlt:p.ver r<p.tr.length:=Ap3 p.tr r.s0 h1 _ (Nat.le_refl _);have e:p.tr[p.ver r]? =some (p.tar r):=by
  unfold E4.tar;rw[A5,A3 hlt];rfl
 exact⟨e,h3 _ (A0 e)⟩
theorem rM {t:I4} (h:N0 t=true) (s:Int):0≤K3 t s:=by
 have:=gS h;exact Int.mul_nonneg (by omega) (qS (by omega)).1
theorem Ap4 {t:I4} (h:N0 t=true) (s:Int):0≤N5 t s:=by
 have:=gS h;exact Int.mul_nonneg (by omega) (qS (by omega)).1
theorem Bf2 (p:E4) (r:A8):(l6 p r).tt=(p.tar r).un+K3 (p.tar r) (Q0 r)+N5 (p.tar r) (X1 r):=by
 unfold l6;rw[K0.add_tt,K0.add_tt,K0.add_tt];dsimp only;omega
theorem Bf3 (p:E4) (r:A8):(r9 p r).tt=(l6 p r).tt+max (Q6 p r).1 (-(l6 p r).tt):=by
 unfold r9;rw[K0.add_tt]
theorem Ap5 (p:E4) (r:A8):(l6 p r).it.length≤3:=by
 unfold l6;have h1:=K0.add_len (⟨[],0⟩:K0) 1 (p.ver r) (p.tar r).un;have h2:=K0.add_len ((⟨[],0⟩:K0).add 1 (p.ver r) (p.tar r).un) 2 (p.ver r) (K3 (p.tar r) (Q0 r));have h3:=K0.add_len (((⟨[],0⟩:K0).add 1 (p.ver r) (p.tar r).un).add 2 (p.ver r) (K3 (p.tar r) (Q0 r))) 3 (p.ver r) (N5 (p.tar r) (X1 r));simp only[List.length_nil]at h1;omega
theorem Ap6 (p:E4) (r:A8):(r9 p r).it.length≤4:=by
 unfold r9;have h1:=K0.add_len (l6 p r) 4 (Q6 p r).2 (max (Q6 p r).1 (-(l6 p r).tt));have h2:=Ap5 p r;omega
theorem Bf4 (p:E4) (r:A8) (u:Int):(L8 p r u).it.length≤5:=by
 unfold L8;have h2:=Ap6 p r;split
 ·have h1:=K0.add_len (r9 p r) 5 u (-(min (r9 p r).tt ((p.tar r).un+K3 (p.tar r) (min (Q0 r) (p.ps.getD u.toNat default).s))))
  omega
 ·omega
theorem Ap7 {p:E4} (h:cY p) (r:A8) (h1:K3 (p.tar r) (Q0 r)≤1000000000000) (h2:N5 (p.tar r) (X1 r)≤1000000000000):
 (0≤(l6 p r).tt∧(l6 p r).tt≤2000001000000)∧(0≤(r9 p r).tt∧(r9 p r).tt≤2000002000000):=by
 have hv:=(h.ver_at r).2;have f:=gS hv;have a:=rM hv (Q0 r);have b:=Ap4 hv (X1 r);have c:=h.plc r;have e3:=Bf2 p r;have e4:=Bf3 p r;omega
theorem xD {p:E4} (h:cY p) (r:A8) (u:Int) (h1:K3 (p.tar r) (Q0 r)≤1000000000000) (h2:N5 (p.tar r) (X1 r)≤1000000000000):0≤(L8 p r u).tt∧(L8 p r u).tt≤2000002000000:=by
 obtain⟨_,h3,h4⟩:=Ap7 h r h1 h2;have hv:=(h.ver_at r).2;have f:=gS hv;unfold L8;split
 ·rw[K0.add_tt]
  have:=rM hv (min (Q0 r) (p.ps.getD u.toNat default).s);omega
 ·exact⟨h3,h4⟩
theorem Ap8 {p:E4} {r:A8} {u:Int} (h:Z5 p r u=0):K3 (p.tar r) (Q0 r)≤1000000000000∧N5 (p.tar r) (X1 r)≤1000000000000∧(L8 p r u).tt≤1000000000000:=by
 unfold Z5 at h;split at h
 ·cases h
 ·split at h
  ·cases h
  ·split at h
   ·cases h
   ·omega
theorem Bf5 {p:E4} (h:cY p) (r:A8) (s:Int):K3 (p.tar r) (min (Q0 r) s)≤K3 (p.tar r) (Q0 r):=by
 have f:=gS (h.ver_at r).2;exact AV8 (by omega) (by omega) (by omega)
theorem Bf6 {p:E4} (h:cY p) {u:Int} (h0:0≤u) (h1:u<p.ps.length):p.ps[u.toNat]? =some (p.ps.getD u.toNat default)∧0≤(p.ps.getD u.toNat default).s∧(p.ps.getD u.toNat default).s≤86400:=by
 have hlt:u.toNat<p.ps.length:=by omega
 have e:p.ps[u.toNat]? =some (p.ps.getD u.toNat default):=by rw[A5,A3 hlt];rfl
 refine⟨e,?_⟩;have hp:=h.s;unfold U4 at hp;split at hp
 ·cases hp
 ·split at hp
  ·cases hp
  ·rename_i h3
   have h3':p.ps.all cT=true:=by simpa using h3
   have:=(AL5 _).1 (List.all_eq_true.1 h3' _ (A0 e));omega
end
section
open Go.ChangeShapes Go.WideShapes Go.ChangeAt Go.RowKit
theorem own:ownKnob Tryz.prog.godebug=none:=by kernel_rfl
theorem Bf8:laidOutB Tryz.prog=true:=by kernel_rfl
theorem gX:Tryz.prog.cellsOf 3=1:=by kernel_rfl
theorem Ap9:Tryz.prog.cellsOf 22=1:=by kernel_rfl
theorem Bf9:Tryz.prog.cellsOf 63=9:=by kernel_rfl
theorem Aq0:Tryz.prog.cellsOf 24=5:=by kernel_rfl
theorem Aq1:Tryz.prog.cellsOf 27=6:=by kernel_rfl
noncomputable def rN:Array Field:=Tryz.prog.fieldsOf 63
theorem Bg0:Tryz.prog.underlying 63=some (.struct rN):=by kernel_rfl
theorem lE:rN.size=9:=by kernel_rfl
theorem Bg1:(rN.toList.map fun f=>(f.offset,f.type))=(List.range 9).map fun i=>(i,3):=by kernel_rfl
noncomputable def xE:Array Field:=Tryz.prog.fieldsOf 27
theorem Bg2:Tryz.prog.underlying 27=some (.struct xE):=by kernel_rfl
theorem xF:xE.size=6:=by kernel_rfl
theorem Bg3:(xE.toList.map fun f=>(f.offset,f.type))=(List.range 6).map fun i=>(i,3):=by kernel_rfl
noncomputable def Aq2:Array Field:=Tryz.prog.fieldsOf 24
theorem Bg4:Tryz.prog.underlying 24=some (.struct Aq2):=by kernel_rfl
theorem Bg5:(Aq2.toList.map fun f=>(f.offset,f.type))=[(0,3),(1,3),(2,3),(3,22),(4,22)]:=by kernel_rfl
theorem Aq3 {fs:Array Field} {n:Nat} (hs:fs.size=n) (ha:(fs.toList.map fun f=>(f.offset,f.type))=(List.range n).map fun i=>(i,3)):tL Tryz.prog fs:=by
 intro i f h;have hi:i<n:=by
  rw[←hs];exact(Array.getElem?_eq_some_iff.1 h).1
 have h1:=congrArg (fun l=>l[i]?) ha;simp only[List.getElem?_map,Array.getElem?_toList]at h1;rw[h,List.getElem?_range hi]at h1;have h2:=Option.some.inj h1;have h3:f.offset=i:=congrArg Prod.fst h2;have h4:f.type=3:=congrArg Prod.snd h2;exact⟨h3,by rw[h4];exact gX,by rw[h4];exact Tryz.underlying3⟩
def Aq4 (ns:List Int):Ev:=⟨B2 ns 0,B2 ns 1,B2 ns 2,B2 ns 3,B2 ns 4,B2 ns 5,B2 ns 6,B2 ns 7,B2 ns 8⟩
theorem Bg6 (ns:List Int) (h:ns.length=rN.size):(Aq4 ns).cs=ns.map (Value.int .i64):=by
 rw[lE]at h;match ns,h with
 |[a,b,c,d,e,f,g,h,i],_ =>rfl
set_option maxRecDepth 20000 in
theorem Bg7 {H:Type} {enc:TypeId×Value→H} {w:World} {b0:Nat} {r:Reach} {held:Bool} {v:Value} {d:DataW H} {p:List MemPlace} (hv:Value.okWide Tryz.prog w r b0 25 v) (h:DataW.Trod enc Tryz.prog w 0 (fun _ =>true) held 25 v d p):
 ∃(a:Option Addr) (l:List Ev) (cap:Nat),v= .slice a l.length cap∧l.length≤9223372036854775807∧D0 Ev.cs 9 w a l∧∀e∈l,T4 e.p:=by
 obtain⟨a,l,cap,h1,h2,h3,h4,h5,h6⟩:=AG7 (encA:=Ev.cs) (dec:=Aq4) Tryz.underlying25 Bg0 (Aq3 lE Bg1) (Bf9.trans lE.symm) (by rw[lE];decide) Bg6 hv h;rw[lE]at h5;refine⟨a,l,cap,h1,Nat.le_trans h2 h3,h5,fun e he=>?_⟩;obtain⟨ns,hl,rfl,hi⟩:=h6 e he;rw[lE]at hl;have h7:B2 ns 6=ns[6]:=by unfold B2;rw[A5,A3 (by omega)];rfl
 show T4 (B2 ns 6);rw[h7];exact hi _ (List.getElem_mem (by omega))
theorem Bg8 {n:Int} (h:(Lit.int .u8 n).wf=true):0≤n∧n≤255:=by
 have h1:(decide ((0:Int)≤n) && decide (n≤255))=true:=h;simpa using h1
section
variable {H:Type} {enc:TypeId×Value→H} {w:World} {base fuel:Nat} {spare:Nat→Bool} {held:Bool} {cs:List Value} {y:DataW H×List MemPlace}
theorem dX {c:Value} (h:DataW.trod enc Tryz.prog w base spare held fuel 3 [c]=some y):∃m:Int,c= .int .i64 m∧T4 m:=by
 obtain⟨z,hcs,_,hwf⟩:=DataW.trod_int Tryz.underlying3 h;exact⟨z,by simpa using hcs,zU hwf⟩
set_option maxRecDepth 20000 in
theorem Bg9 (h:DataW.trod enc Tryz.prog w base spare held fuel 24 cs=some y):∃(f:D5) (da:Option Addr) (dc:Nat) (ta:Option Addr) (tc:Nat),cs=[.int .i64 f.bk,.int .i64 f.rd,.int .i64 f.dv,.slice da f.dk.length dc,.slice ta f.tk.length tc]∧Y6 w f da ta:=by
 obtain⟨hl,hf⟩:=lX Bg4 Bg5 h;rw[Aq0]at hl;match cs,hl with
 |[c0,c1,c2,c3,c4],_ =>
  obtain⟨_,_,h0⟩:=hf 0 _ rfl
  obtain⟨_,_,h1⟩:=hf 1 _ rfl
  obtain⟨_,_,h2⟩:=hf 2 _ rfl
  obtain⟨_,_,h3⟩:=hf 3 _ rfl
  obtain⟨_,_,h4⟩:=hf 4 _ rfl
  simp only[gX,Ap9]at h0 h1 h2 h3 h4
  obtain⟨b,rfl,_⟩:=dX h0
  obtain⟨rd,rfl,_⟩:=dX h1
  obtain⟨dv,rfl,_⟩:=dX h2
  obtain⟨da,dk,dc,rfl,k1,k2,k3,_⟩:=zT Tryz.underlying22 Tryz.underlying3 gX h3
  obtain⟨ta,tk,tc,rfl,m1,m2,m3,_⟩:=zT Tryz.underlying22 Tryz.underlying3 gX h4
  exact⟨⟨b,rd,dv,dk,tk⟩,da,dc,ta,tc,rfl,k3,m3,Nat.le_trans k1 k2,Nat.le_trans m1 m2⟩
end
end
end Go.Proofs.YtmmlmhnjjfnpnaaGreat
