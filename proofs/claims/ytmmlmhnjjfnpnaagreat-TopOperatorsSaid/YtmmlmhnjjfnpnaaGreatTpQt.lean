/- Texts that belong together. -/
import Derived.Test.YtmmlmhnjjfnpnaaGreatTpQe
import Derived.Test.YtmmlmhnjjfnpnaaGreatTpQk
set_option linter.all false
namespace Go.Proofs.YtmmlmhnjjfnpnaaGreat
section
structure G4 where
 bk:Int
 rd:Int
 dv:Int
 dk:List Int
 tk:List Int
def C6 (n lo hi:Int):Bool:=decide (lo≤n) && decide (n≤hi)
def K5 (f:G4):Int:=
 if !(C6 f.bk 1 128 && C6 f.rd 1 128 && C6 f.dv 1 256)then 1
 else if f.dk.length>32∨f.tk.length>8 then 8
 else if !(f.dk.all (fun n=>C6 n 1 32) && f.tk.all (fun n=>C6 n 1 32))then 1 else 0
def bZ (f:G4) (e:Ev):Bool:=
 if e.k=1 then decide (0≤e.p) && decide (e.p/32<f.dk.length) && decide (e.p % 32<B0 f.dk (e.p/32).toNat)
 else if e.k=2 then C6 e.p 0 63
 else if e.k=7 then C6 e.p 0 ((f.tk.length:Int)-1)
 else decide (e.p=0)
def Y7 (f:G4) (e:Ev):Bool:=
 (if e.k=3 then C6 e.r 0 (f.rd-1)else decide (e.r=0)) && (if e.k=3∨e.k=4 then C6 e.i 1 1000000 else decide (e.i=0))
def t6 (f:G4) (e:Ev):Int:=
 if K5 f≠0 then K5 f
 else if !(C6 e.d 0 (f.dv-1) && C6 e.q 1 1048576 && decide (0≤e.a) && decide (e.a≤e.t) && decide (e.t≤4294943999))then 1
 else if !C6 e.k 1 10 then 14
 else if !(C6 e.b 0 (f.bk-1)) || (decide (e.k=10) && decide (e.b≠0))then 1
 else if !bZ f e then 7
 else if !Y7 f e then 1 else 0
structure D8 where
 w:Int
 p:Int
 r:Int
 z:Bool
instance:Inhabited D8:=⟨⟨0,0,0,false⟩⟩
structure N7 where
 rd:Int
 bk:Int
 z:Bool
structure C5 where
 sp:List D8
 op:List (Int×N7)
 us:List Int
def C5.spt (c:C5) (b:Int):D8:=c.sp.getD b.toNat default
def C5.trip (c:C5) (i:Int):Option N7:=(c.op.find? fun x=>decide (x.1=i)).map (·.2)
def C5.cnt (c:C5) (w p:Int):Int:=((c.sp.filter fun x=>decide (x.w=w) && decide (x.p=p)).length:Nat)
def C5.rides (c:C5) (r:Int):Bool:=c.op.any fun x=>decide (x.2.rd=r)
def Q9 (x:D8):Bool:=decide (x.w=1) || decide (x.w=2)
def P4 (n:Nat):C5:=⟨List.replicate n ⟨5,0,0,false⟩,[],[]⟩
def I6 (f:G4) (c:C5) (e:Ev):Int:=
 let x:=c.spt e.b
 if e.k=1 then(if !Q9 x && decide (0<c.cnt 1 e.p)then 22 else if Q9 x then 23 else 0)
 else if e.k=2 then(if Q9 x then 23 else 0)
 else if e.k=3 then(if !Q9 x then 23 else if c.us.contains e.i then 6 else if c.rides e.r then 22 else 0)
 else if e.k=4 then(match c.trip e.i with|none=>7|some t=>if !Q9 x then 23 else if t.z then 12 else 0)
 else if e.k=5∨e.k=6 then(if x.w≠3 then 23 else if x.z=decide (e.k=5)then 12 else 0)
 else if e.k=7 then(if x.w=3∨x.w=4 then 23 else if B0 f.tk e.p.toNat≤c.cnt 4 e.p then 24 else 0)
 else if e.k=8 then(if x.w=3∨x.w=5 then 23 else 0)
 else if e.k=9 then(if x.w=5∨x.w=6 then 23 else 0)
 else 0
def C5.put (c:C5) (b:Int) (x:D8):C5:={c with sp:=c.sp.set b.toNat x}
def C5.leave (c:C5) (b:Int) (x:D8):C5:=
 let c':C5:=if(c.spt b).w=3 then{c with op:=c.op.filter fun y=>decide (y.1≠(c.spt b).r)}else c
 c'.put b x
def C5.setT (c:C5) (i:Int) (g:N7→N7):C5:={c with op:=c.op.map fun y=>if y.1=i then(y.1,g y.2)else y}
def S6 (c:C5) (e:Ev):C5:=
 if e.k=1 then c.leave e.b ⟨1,e.p,0,false⟩
 else if e.k=2 then c.leave e.b ⟨2,e.p,0,false⟩
 else if e.k=3 then{(c.put e.b ⟨3,0,e.i,false⟩)with op:=c.op ++ [(e.i,⟨e.r,e.b,false⟩)],us:=c.us ++ [e.i]}
 else if e.k=4 then(match c.trip e.i with
  |none=>c
  |some t=>((c.put t.bk (c.spt e.b)).put e.b ⟨3,0,e.i,false⟩).setT e.i fun t=>{t with bk:=e.b})
 else if e.k=5∨e.k=6 then
  (c.put e.b {c.spt e.b with z:=decide (e.k=5)}).setT (c.spt e.b).r fun t=>{t with z:=decide (e.k=5)}
 else if e.k=7 then c.leave e.b ⟨4,e.p,0,false⟩
 else if e.k=8 then c.leave e.b ⟨5,0,0,false⟩
 else if e.k=9 then c.leave e.b ⟨6,0,0,false⟩
 else c
def V1 (f:G4) (c:C5) (e:Ev):Bool:=decide (t6 f e=0) && decide (e.k≠10) && decide (I6 f c e=0)
def O4 (f:G4):C5→List Ev→List Ev
 | _,[]=>[]
 |c,e :: l=>if V1 f c e then e :: O4 f (S6 c e) l else O4 f c l
structure D7 where
 rs:List A9
 ix:List (Int×Nat)
 rg:List Int
 pz:List Bool
 sp:List D8
def Q3 (n:Nat):D7:=⟨[],[],List.replicate n (-1),[],List.replicate n default⟩
def D7.rat (s:D7) (k:Nat):A9:=s.rs.getD k default
def D7.setR (s:D7) (k:Nat) (g:A9→A9):D7:={s with rs:=s.rs.set k (g (s.rat k))}
def aI {α:Type} (l:List α) (g:α→α):List α:=
 match l.reverse with
 |[]=>[]
 |x :: r=>(g x :: r).reverse
def I2.to (p:I2) (a t:Int):I2:={p with t0:=a,t1:=t}
def E0.to (x:E0) (a t:Int):E0:={x with t0:=a,t1:=t}
def V2 (s:D7) (k:Nat) (a t:Int):D7:=
 let s':=if s.pz.getD k false then s.setR k fun r=>{r with pauses:=aI r.pauses fun p=>p.to a t}else s
 {s' with pz:=s'.pz.set k false}
def Y8 (s:D7) (b:Int) (x:D8) (a t:Int):D7:=
 let s1:D7:={s with sp:=s.sp.set b.toNat x}
 let k:=B0 s.rg b.toNat
 if k<0 then s1 else
  let s2:=(V2 s1 k.toNat a t).setR k.toNat fun r=>{r with legs:=aI r.legs fun x=>x.to a t,e0:=a,e1:=t,op:=false,wh:=x.w,pl:=x.p}
  {s2 with rg:=s2.rg.set b.toNat (-1)}
def Y9 (s:D7) (e:Ev):D7:=
 let x:=s.sp.getD e.b.toNat default
 {s with ix:=s.ix ++ [(e.i,s.rs.length)],rg:=s.rg.set e.b.toNat (s.rs.length:Int),pz:=s.pz ++ [false],rs:=s.rs ++ [⟨e.i,e.r,e.a,e.t,0,0,true,none,[⟨e.b,e.a,e.t,0,0⟩],0,none,[],0,x.w,x.p,3,0⟩]}
def D7.idx (s:D7) (i:Int):Option Nat:=(s.ix.find? fun x=>decide (x.1=i)).map (·.2)
def dK (s:D7) (e:Ev):D7:=
 match s.idx e.i with
 |none=>s
 |some k=>
  let former:=((s.rat k).legs.getLast?.map (·.b)).getD 0
  {(s.setR k fun r=>{r with legs:=(aI r.legs fun x=>x.to e.a e.t) ++ [⟨e.b,e.a,e.t,0,0⟩]})with rg:=(s.rg.set former.toNat (-1)).set e.b.toNat (k:Int),sp:=s.sp.set former.toNat (s.sp.getD e.b.toNat default)}
def V7 (s:D7) (e:Ev):D7:=
 let k:=B0 s.rg e.b.toNat
 if e.k=3 then Y9 s e
 else if e.k=4 then dK s e
 else if e.k=5 then(if k<0 then s else{(s.setR k.toNat fun r=>{r with pauses:=r.pauses ++ [⟨e.a,e.t,0,0⟩]})with pz:=s.pz.set k.toNat true})
 else if e.k=6 then(if k<0 then s else V2 s k.toNat e.a e.t)
 else if e.k=1 then Y8 s e.b ⟨1,e.p,0,false⟩ e.a e.t
 else if e.k=2 then Y8 s e.b ⟨2,e.p,0,false⟩ e.a e.t
 else if e.k=9 then Y8 s e.b ⟨6,0,0,false⟩ e.a e.t
 else s
end
section
theorem hZ {α:Type} (l:List α) (x:α) (g:α→α):aI (l ++ [x]) g=l ++ [g x]:=by
 simp[aI]
def eD:Int→List I2→Option Int
 |last,[]=>some last
 |last,x :: l=>if last≤x.f0∧x.f0≤x.t0 then eD x.t0 l else none
theorem uW:∀(l:List I2) (a:Int) (x:I2) (m:Int),eD a l=some m→m≤x.f0→x.f0≤x.t0→eD a (l ++ [x])=some x.t0
 |[],a,x,m,h,h1,h2=>by
  simp only[eD,Option.some.injEq]at h;subst h;simp[eD,h1,h2]
 |y :: l,a,x,m,h,h1,h2=>by
  simp only[eD]at h;split at h
  ·rename_i hc
   simp only[List.cons_append,eD];rw[if_pos hc];exact uW l _ x m h h1 h2
  ·cases h
theorem uX:∀(l:List I2) (a m e:Int),eD a l=some m→m≤e→l6 false e a l=true
 |[],a,m,e,h,h1=>by
  simp only[eD,Option.some.injEq]at h;subst h;simp[l6,h1]
 |x :: l,a,m,e,h,h1=>by
  simp only[eD]at h;split at h
  ·rename_i hc
   simp only[l6,uX l _ m e h h1];simp[hc.1,hc.2]
  ·cases h
theorem uY:∀(l:List E0) (a0 a1 f0 f1:Int) (x:E0),j1 a0 a1 l f0 f1=true→x.f0=f0→x.f1=f1→j1 a0 a1 (l ++ [x]) x.t0 x.t1=true
 |[],a0,a1,f0,f1,x,h,h1,h2=>by
  simp only[j1,Bool.and_eq_true,decide_eq_true_eq]at h;simp[j1,h1,h2,h.1,h.2]
 |y :: l,a0,a1,f0,f1,x,h,h1,h2=>by
  simp only[j1,Bool.and_eq_true]at h;simp only[List.cons_append,j1,Bool.and_eq_true];exact⟨h.1,uY l _ _ f0 f1 x h.2 h1 h2⟩
theorem Ah7:∀(l:List E0),(∀x∈l,x.f0≤x.t0)→p9 false l=true
 |[],_ =>rfl
 |x :: l,h=>by
  simp only[p9,Bool.and_eq_true];exact⟨by simp[h x (by simp)],Ah7 l fun y hy=>h y (by simp[hy])⟩
structure cT (r:A9) (z:Bool) (T:Int) (N:Nat) (b:Nat):Prop where
 hd:1≤r.id∧r.id≤1000000∧0≤r.rd∧r.rd≤127∧W8 r.s0 r.s1=true
 en:r.e0=0∧r.e1=0∧r.op=true∧r.wh=3
 ln:r.legs.length+r.pauses.length≤N
 lg:∃(i:List E0) (f0 f1:Int),r.legs=i ++ [⟨(b:Int),f0,f1,0,0⟩]∧j1 r.s0 r.s1 i f0 f1=true∧(∀x∈i,dA x=true∧x.f0≤x.t0)∧W8 f0 f1=true∧f0≤T
 ps:∃(i:List I2) (m:Int),eD r.s0 i=some m∧(∀x∈i,cP x=true)∧((z=false∧r.pauses=i∧m≤T)∨(z=true∧∃f0 f1,r.pauses=i ++ [⟨f0,f1,0,0⟩]∧W8 f0 f1=true∧m≤f0∧f0≤T))
def g9 (r:A9) (z:Bool) (w p a t:Int):A9:={(if z then{r with pauses:=aI r.pauses fun q=>q.to a t}else r)with legs:=aI r.legs fun x=>x.to a t,e0:=a,e1:=t,op:=false,wh:=w,pl:=p}
theorem jC {a t:Int} (h:0≤a∧a≤t∧t≤4294943999):W8 a t=true:=(fP _ _).2 h
theorem cT.ends {r:A9} {z:Bool} {T:Int} {N b:Nat} (h:cT r z T N b) {a t w p:Int} (hv:0≤a∧a≤t∧t≤4294943999) (hT:T≤a) (hN:N≤512) (hw:w≠3):J9 (g9 r z w p a t)=0:=by
 obtain⟨li,f0,f1,hl1,hl2,hl3,hl4,hl5⟩:=h.lg;obtain⟨pi,m,hp1,hp2,hp3⟩:=h.ps;have hln:=h.ln;have hva:=jC hv;have hps:∃q:List I2,(g9 r z w p a t).pauses=q∧q.length=r.pauses.length∧(∀x∈q,cP x=true)∧l6 false a r.s0 q=true:=by
  rcases hp3 with⟨rfl,e,hm⟩|⟨rfl,g0,g1,e,hg,hm1,hm2⟩
  ·exact⟨pi,by simp[g9,e],by rw[e],hp2,uX pi _ m a hp1 (by omega)⟩
  ·refine⟨pi ++ [⟨g0,g1,a,t⟩],by simp[g9,e,hZ,I2.to],by rw[e];simp,fun x hx=>?_,uX _ _ a a (uW pi _ ⟨g0,g1,a,t⟩ m hp1 hm1 (by show g0≤a;omega)) (Int.le_refl _)⟩
   rcases List.mem_append.1 hx with hx|hx
   ·exact hp2 x hx
   ·rw[List.mem_singleton]at hx;subst hx
    simp[cP,hg,hva]
 have hlg:(g9 r z w p a t).legs=li ++ [⟨(b:Int),f0,f1,a,t⟩]:=by
  cases z<;>simp[g9,hl1,hZ,E0.to]
 obtain⟨q,hq1,hq2,hq3,hq4⟩:=hps;have hh:(g9 r z w p a t).id=r.id∧(g9 r z w p a t).rd=r.rd∧(g9 r z w p a t).s0=r.s0∧(g9 r z w p a t).s1=r.s1∧(g9 r z w p a t).e0=a∧(g9 r z w p a t).e1=t∧(g9 r z w p a t).op=false∧(g9 r z w p a t).wh=w:=by
  cases z<;>exact⟨rfl,rfl,rfl,rfl,rfl,rfl,rfl,rfl⟩
 generalize g9 r z w p a t=E at *;obtain⟨g1,g2,g3,g4,g5,g6,g7,g8⟩:=hh;obtain⟨d1,d2,d3,d4,d5⟩:=h.hd;have hrn:i9 E=true:=by
  unfold i9 dW;rw[g1,g2,g3,g4,g5,g6,hlg,hq1];simp only[Bool.and_eq_true,decide_eq_true_eq,List.all_eq_true];refine⟨⟨⟨⟨⟨⟨⟨d1,d2⟩,d3⟩,d4⟩,d5⟩,hva⟩,fun x hx=>?_⟩,hq3⟩;rcases List.mem_append.1 hx with hx|hx
  ·exact(hl3 x hx).1
  ·rw[List.mem_singleton]at hx;subst hx
   simp[dA,hl4,hva]
 have hjn:j2 E=true:=by
  unfold j2;rw[g3,g4,g5,g6,hlg,hq1];rw[hl1]at hln;simp only[List.length_append,List.length_singleton]at hln⊢;simp only[Bool.and_eq_true,decide_eq_true_eq];exact⟨⟨⟨by omega,by omega⟩,by omega⟩,uY li _ _ f0 f1 ⟨(b:Int),f0,f1,a,t⟩ hl2 rfl rfl⟩
 have pG:X2 E=true:=by
  unfold X2;rw[g3,g5,g7,hlg,hq1,hq4,Ah7 _ fun x hx=>?_]
  ·simp
  ·rcases List.mem_append.1 hx with hx|hx
   ·exact(hl3 x hx).2
   ·rw[List.mem_singleton]at hx;subst hx
    show f0≤a;omega
 have hst:gO E=false:=by
  unfold gO;rw[g7,g8,decide_eq_false hw];rfl
 unfold J9;rw[hrn,hjn,pG,hst];simp
end
section
theorem pX (l:List Int) (k j:Nat) (v:Int) (hk:k<l.length):B0 (l.set k v) j=if j=k then v else B0 l j:=by
 unfold B0;rw[A6,List.getElem?_set];by_cases e:k=j
 ·subst e;simp[hk]
 ·rw[if_neg e,if_neg (fun h=>e h.symm),←A6]
theorem j5 {α:Type} (l:List α) (k j:Nat) (v d:α) (hk:k<l.length):(l.set k v).getD j d=if j=k then v else l.getD j d:=by
 rw[A6,List.getElem?_set];by_cases e:k=j
 ·subst e;simp[hk]
 ·rw[if_neg e,if_neg (fun h=>e h.symm),←A6]
theorem Ah8 {α:Type} (l m:List α) (j:Nat) (d:α) (hj:j<l.length):(l ++ m).getD j d=l.getD j d:=by
 rw[A6,List.getElem?_append_left hj,←A6]
theorem Ah9 {α:Type} (l:List α) (x d:α):(l ++ [x]).getD l.length d=x:=by simp
structure JI (n:Nat) (c:C5) (s:D7) (T:Int) (N:Nat):Prop where
 n1:c.sp.length=n
 n2:s.rg.length=n
 n3:s.sp.length=n
 n4:s.pz.length=s.rs.length
 rg:∀b,b<n→B0 s.rg b<(s.rs.length:Int)∧((c.sp.getD b default).w=3↔0≤B0 s.rg b)
 on:∀b k,b<n→B0 s.rg b=(k:Nat)→cT (s.rat k) (s.pz.getD k false) T N b∧(s.rat k).id=(c.sp.getD b default).r∧(c.sp.getD b default).z=s.pz.getD k false
 inj:∀b b',b<n→b'<n→0≤B0 s.rg b→B0 s.rg b=B0 s.rg b'→b=b'
 ids:∀k,k<s.rs.length→s.idx (s.rat k).id=some k
 us:∀k,k<s.rs.length→(s.rat k).id∈c.us
 us2:∀i,c.us.contains i=false→s.idx i=none
 trip:∀i t,c.trip i=some t→∃b,t.bk=((b:Nat):Int)∧b<n∧(c.sp.getD b default).w=3∧(c.sp.getD b default).r=i∧t.z=(c.sp.getD b default).z
 cl:∀k,k<s.rs.length→(s.rat k).op=false→J9 (s.rat k)=0
theorem cT.later {r:A9} {z:Bool} {T T':Int} {N N' b:Nat} (h:cT r z T N b) (hT:T≤T') (hN:N≤N'):cT r z T' N' b:=by
 obtain⟨li,f0,f1,hl1,hl2,hl3,hl4,hl5⟩:=h.lg;obtain⟨pi,m,hp1,hp2,hp3⟩:=h.ps;refine⟨h.hd,h.en,Nat.le_trans h.ln hN,⟨li,f0,f1,hl1,hl2,hl3,hl4,by omega⟩,pi,m,hp1,hp2,?_⟩;rcases hp3 with⟨e1,e2,e3⟩|⟨e1,g0,g1,e2,e3,e4,e5⟩
 ·exact Or.inl ⟨e1,e2,by omega⟩
 ·exact Or.inr ⟨e1,g0,g1,e2,e3,e4,by omega⟩
theorem JI.later {n:Nat} {c:C5} {s:D7} {T T':Int} {N N':Nat} (h:JI n c s T N) (hT:T≤T') (hN:N≤N'):JI n c s T' N':=
 {h with on:=fun b k hb hk=>⟨(h.on b k hb hk).1.later hT hN,(h.on b k hb hk).2⟩}
theorem Ai0 (n:Nat) (T:Int):JI n (P4 n) (Q3 n) T 0 where
 n1:=by simp[P4]
 n2:=by simp[Q3]
 n3:=by simp[Q3]
 n4:=rfl
 rg:=fun b hb=>by
  have e1:B0 (Q3 n).rg b= -1:=by simp[Q3,B0,A6,List.getElem?_replicate,hb]
  have e2:((P4 n).sp.getD b default).w=5:=by simp[P4,A6,List.getElem?_replicate,hb]
  rw[e1,e2];exact⟨by show(-1:Int)<0;decide,by decide⟩
 on:=fun b k hb hk=>by
  have e1:B0 (Q3 n).rg b= -1:=by simp[Q3,B0,A6,List.getElem?_replicate,hb]
  rw[e1]at hk;omega
 inj:=fun b b' hb hb' h0 _ =>by
  have e1:B0 (Q3 n).rg b= -1:=by simp[Q3,B0,A6,List.getElem?_replicate,hb]
  rw[e1]at h0;omega
 ids:=fun k hk=>by simp[Q3]at hk
 us:=fun k hk=>by simp[Q3]at hk
 us2:=fun i _ =>rfl
 trip:=fun i t h=>by simp[P4,C5.trip]at h
 cl:=fun k hk=>by simp[Q3]at hk
section
variable {n:Nat} {c:C5} {s:D7} {T:Int} {N:Nat} (J:JI n c s T N)
include J
theorem JI.k_lt {b k:Nat} (hb:b<n) (hk:B0 s.rg b=(k:Int)):k<s.rs.length:=by
 have:=(J.rg b hb).1;omega
theorem JI.move {b:Nat} (hb:b<n) (h0:B0 s.rg b<0) (x y:D8) (hx:x.w≠3):JI n (c.put (b:Int) x) {s with sp:=s.sp.set b y} T N:=by
 have hw:(c.sp.getD b default).w≠3:=fun e=>by have:=((J.rg b hb).2).1 e;omega
 have hsp:∀j,((c.put (b:Int) x).sp.getD j default)=if j=b then x else c.sp.getD j default:=fun j=>by
  show(c.sp.set (b:Int).toNat x).getD j default= _;rw[Int.toNat_natCast,j5 _ _ _ _ _ (by rw[J.n1];exact hb)]
 refine{J with n1:=?_,n3:=?_,rg:=?_,on:=?_,trip:=?_}
 ·show(c.sp.set _ x).length=n;rw[List.length_set];exact J.n1
 ·show(s.sp.set _ y).length=n;rw[List.length_set];exact J.n3
 ·intro j hj
  refine⟨(J.rg j hj).1,?_⟩;rw[hsp];by_cases e:j=b
  ·subst e;rw[if_pos rfl];exact⟨fun h=>absurd h hx,fun h=>by have:0≤B0 s.rg j:=h;omega⟩
  ·rw[if_neg e];exact(J.rg j hj).2
 ·intro j k hj hk
  have e:j≠b:=fun e=>by subst e;have:B0 s.rg j=(k:Int):=hk;omega
  rw[hsp,if_neg e];exact J.on j k hj hk
 ·intro i t h
  obtain⟨j,h1,h2,h3,h4,h5⟩:=J.trip i t h;have e:j≠b:=fun e=>by subst e;exact hw h3
  exact⟨j,h1,h2,by rw[hsp,if_neg e];exact h3,by rw[hsp,if_neg e];exact h4,by rw[hsp,if_neg e];exact h5⟩
end
end
section
theorem uZ (s:D7) (k j:Nat) (r:A9) (hk:k<s.rs.length):(s.rs.set k r).getD j default=if j=k then r else s.rat j:=j5 _ _ _ _ _ hk
theorem AT0 (s:D7) (b k:Nat) (x:D8) (a t:Int) (hb:B0 s.rg b=(k:Int)) (hk:k<s.rs.length):
 Y8 s (b:Int) x a t={s with sp:=s.sp.set b x,rs:=s.rs.set k (g9 (s.rat k) (s.pz.getD k false) x.w x.p a t),pz:=s.pz.set k false,rg:=s.rg.set b (-1)}:=by
 unfold Y8;simp only[Int.toNat_natCast,hb];rw[if_neg (by omega)];unfold V2 D7.setR D7.rat
 cases hz:s.pz.getD k false
 ·simp[hz,g9]
 ·simp[hz,g9,A6,hk]
section
variable {n:Nat} {c:C5} {s:D7} {T:Int} {N:Nat} (J:JI n c s T N)
include J
theorem JI.leave {b k:Nat} (hb:b<n) (hk:B0 s.rg b=(k:Int)) (x:D8) (hx:x.w≠3) {a t:Int} (hv:0≤a∧a≤t∧t≤4294943999) (hT:T≤a) (hN:N≤512):
 JI n (c.leave (b:Int) x) (Y8 s (b:Int) x a t) T N:=by
 have hkl:=J.k_lt hb hk;obtain⟨hop,hid,hz⟩:=J.on b k hb hk;have hw:(c.sp.getD b default).w=3:=(J.rg b hb).2.2 (by omega);rw[AT0 s b k x a t hk hkl];have hc:c.leave (b:Int) x={c with op:=c.op.filter fun y=>decide (y.1≠(s.rat k).id),sp:=c.sp.set b x}:=by
  unfold C5.leave C5.put C5.spt;simp only[Int.toNat_natCast];rw[if_pos hw,hid]
 rw[hc];have hsp:∀j,((c.sp.set b x).getD j default)=if j=b then x else c.sp.getD j default:=fun j=>j5 _ _ _ _ _ (by rw[J.n1];exact hb);have hrg:∀j,B0 (s.rg.set b (-1)) j=if j=b then -1 else B0 s.rg j:=fun j=>pX _ _ _ _ (by rw[J.n2];exact hb);have Ax9:∀z w p a t,(g9 (s.rat k) z w p a t).id=(s.rat k).id:=fun z w p a t=>by cases z<;>rfl
 generalize hE:g9 (s.rat k) (s.pz.getD k false) x.w x.p a t=E;have hEi:E.id=(s.rat k).id:=by rw[←hE];exact Ax9 _ _ _ _ _
 have hEr:J9 E=0:=by rw[←hE];exact hop.ends hv hT hN hx
 have W7:∀j,(s.rs.set k E).getD j default=if j=k then E else s.rat j:=fun j=>uZ s k j E hkl;refine⟨?_,?_,?_,?_,fun j hj=>?_,fun j i hj hi=>?_,fun j j' hj hj' h0 he=>?_,fun i hi=>?_,fun i hi=>?_,J.us2,fun i t' h=>?_,fun i hi ho=>?_⟩
 ·show(c.sp.set b x).length=n;rw[List.length_set];exact J.n1
 ·show(s.rg.set b (-1)).length=n;rw[List.length_set];exact J.n2
 ·show(s.sp.set b x).length=n;rw[List.length_set];exact J.n3
 ·show(s.pz.set k false).length=(s.rs.set k E).length;rw[List.length_set,List.length_set];exact J.n4
 ·show B0 (s.rg.set b (-1)) j<((s.rs.set k E).length:Int)∧(((c.sp.set b x).getD j default).w=3↔0≤B0 (s.rg.set b (-1)) j)
  rw[hsp,hrg,List.length_set];by_cases e:j=b
  ·rw[if_pos e,if_pos e];exact⟨by omega,fun h=>absurd h hx,fun h=>by omega⟩
  ·rw[if_neg e,if_neg e];exact J.rg j hj
 ·have hi':B0 (s.rg.set b (-1)) j=(i:Int):=hi
  rw[hrg]at hi';by_cases e:j=b
  ·rw[if_pos e]at hi';omega
  ·rw[if_neg e]at hi'
   have hne:i≠k:=fun e2=>e (J.inj j b hj hb (by omega) (by omega));obtain⟨o1,o2,o3⟩:=J.on j i hj hi';show cT ((s.rs.set k E).getD i default) ((s.pz.set k false).getD i false) T N j∧((s.rs.set k E).getD i default).id=((c.sp.set b x).getD j default).r∧((c.sp.set b x).getD j default).z=(s.pz.set k false).getD i false;rw[W7,if_neg hne,j5 _ _ _ _ _ (by rw[J.n4];exact hkl),if_neg hne,hsp,if_neg e];exact⟨o1,o2,o3⟩
 ·have h0':0≤B0 (s.rg.set b (-1)) j:=h0
  have he':B0 (s.rg.set b (-1)) j=B0 (s.rg.set b (-1)) j':=he;rw[hrg]at h0';rw[hrg,hrg]at he';by_cases e:j=b
  ·rw[if_pos e]at h0';omega
  ·rw[if_neg e]at h0' he'
   by_cases e2:j'=b
   ·rw[if_pos e2]at he';omega
   ·rw[if_neg e2]at he';exact J.inj j j' hj hj' h0' he'
 ·have hi':i<s.rs.length:=by have:i<(s.rs.set k E).length:=hi;rwa[List.length_set]at this
  show s.idx ((s.rs.set k E).getD i default).id=some i;rw[W7];by_cases e:i=k
  ·rw[if_pos e,hEi,e];exact J.ids k hkl
  ·rw[if_neg e];exact J.ids i hi'
 ·have hi':i<s.rs.length:=by have:i<(s.rs.set k E).length:=hi;rwa[List.length_set]at this
  show((s.rs.set k E).getD i default).id∈c.us;rw[W7];by_cases e:i=k
  ·rw[if_pos e,hEi];exact J.us k hkl
  ·rw[if_neg e];exact J.us i hi'
 ·have h2:c.trip i=some t'∧i≠(s.rat k).id:=by
   have h3:((c.op.filter fun y=>decide (y.1≠(s.rat k).id)).find? fun y=>decide (y.1=i)).map (·.2)=some t':=h;obtain⟨y,hy,hy2⟩:=Option.map_eq_some_iff.1 h3;have hy3:=List.find?_some hy;have hym:=List.mem_of_find?_eq_some hy;simp only[decide_eq_true_eq]at hy3;have hne:i≠(s.rat k).id:=by
    have:=(List.mem_filter.1 hym).2;rw[←hy3];simpa using this
   refine⟨?_,hne⟩;unfold C5.trip;rw[List.find?_filter]at h3;rw[show(fun y:Int×N7=>decide (y.1=i))=fun y=>decide (decide (y.1≠(s.rat k).id)=true∧decide (y.1=i)=true)from funext fun y=>by
    by_cases e:y.1=i
    ·rw[e];simp[hne]
    ·simp[e]]
   exact h3
  obtain⟨j,q1,q2,q3,q4,q5⟩:=J.trip i t' h2.1;have e:j≠b:=fun e=>h2.2 (by rw[←q4,e,hid]);exact⟨j,q1,q2,by show((c.sp.set b x).getD j default).w=3;rw[hsp,if_neg e];exact q3,by show((c.sp.set b x).getD j default).r=i;rw[hsp,if_neg e];exact q4,by show t'.z=((c.sp.set b x).getD j default).z;rw[hsp,if_neg e];exact q5⟩
 ·have hi':i<s.rs.length:=by have:i<(s.rs.set k E).length:=hi;rwa[List.length_set]at this
  have ho':((s.rs.set k E).getD i default).op=false:=ho;show J9 ((s.rs.set k E).getD i default)=0;rw[W7]at ho'⊢;by_cases e:i=k
  ·rw[if_pos e];exact hEr
  ·rw[if_neg e]at ho'⊢;exact J.cl i hi' ho'
end
end
section
theorem AT1 (l:List (Int×N7)) (i j:Int) (t:N7):((l ++ [(j,t)]).find? fun x=>decide (x.1=i)).map (·.2)=match(l.find? fun x=>decide (x.1=i)).map (·.2)with|some u=>some u|none=>if j=i then some t else none:=by
 rw[List.find?_append]
 cases h:l.find? fun x=>decide (x.1=i)with
 |some u=>simp
 |none=>by_cases e:j=i<;>simp[e]
theorem AT2 (l:List (Int×Nat)) (i j:Int) (k:Nat):((l ++ [(j,k)]).find? fun x=>decide (x.1=i)).map (·.2)=match(l.find? fun x=>decide (x.1=i)).map (·.2)with|some u=>some u|none=>if j=i then some k else none:=by
 rw[List.find?_append]
 cases h:l.find? fun x=>decide (x.1=i)with
 |some u=>simp
 |none=>by_cases e:j=i<;>simp[e]
theorem Ai1 (c:C5) (i j:Int) (g:N7→N7):(c.setT i g).trip j=if j=i then(c.trip j).map g else c.trip j:=by
 unfold C5.setT C5.trip;show((c.op.map fun y=>if y.1=i then(y.1,g y.2)else y).find? fun x=>decide (x.1=j)).map (·.2)= _;rw[List.find?_map];have e:((fun x:Int×N7=>decide (x.1=j))∘fun y:Int×N7=>if y.1=i then(y.1,g y.2)else y)=fun x=>decide (x.1=j):=by
  funext y;simp only[Function.comp];split<;>rfl
 rw[e]
 cases h:c.op.find? fun x=>decide (x.1=j)with
 |none=>simp
 |some u=>
  have hu:=List.find?_some h
  simp only[decide_eq_true_eq]at hu
  by_cases e2:j=i
  ·rw[if_pos e2];simp[hu,e2]
  ·rw[if_neg e2];simp[hu,e2]
section
variable {n:Nat} {c:C5} {s:D7} {T:Int} {N:Nat} (J:JI n c s T N)
include J
theorem JI.open_at {b:Nat} (hb:b<n) (hw:(c.sp.getD b default).w=3):∃k:Nat,B0 s.rg b=(k:Int)∧k<s.rs.length:=by
 have h0:=(J.rg b hb).2.1 hw;exact⟨(B0 s.rg b).toNat,by omega,by have:=(J.rg b hb).1;omega⟩
theorem JI.same {b b':Nat} (hb:b<n) (hb':b'<n) (hw:(c.sp.getD b default).w=3) (hw':(c.sp.getD b' default).w=3) (hr:(c.sp.getD b default).r=(c.sp.getD b' default).r):b=b':=by
 obtain⟨k,hk,hkl⟩:=J.open_at hb hw;obtain⟨k',hk',hkl'⟩:=J.open_at hb' hw';have h1:=(J.on b k hb hk).2.1;have h2:=(J.on b' k' hb' hk').2.1;have h3:=J.ids k hkl;have h4:=J.ids k' hkl';rw[h1,hr,←h2,h4]at h3;have:k'=k:=Option.some.inj h3;exact J.inj b b' hb hb' (by omega) (by omega)
theorem JI.begins {b:Nat} (hb:b<n) {e:Ev} (he:e.b=(b:Int)) (hw:(c.sp.getD b default).w≠3) (hu:c.us.contains e.i=false) (hi:1≤e.i∧e.i≤1000000) (hr:0≤e.r∧e.r≤127) (hv:0≤e.a∧e.a≤e.t∧e.t≤4294943999) (hT:T≤e.a):
 JI n {(c.put e.b ⟨3,0,e.i,false⟩)with op:=c.op ++ [(e.i,⟨e.r,e.b,false⟩)],us:=c.us ++ [e.i]} (Y9 s e) e.a (N+1):=by
 have J':=J.later hT (Nat.le_succ N);have hrb:B0 s.rg b<0:=by
  have:=(J.rg b hb).2;by_cases h:0≤B0 s.rg b
  ·exact absurd (this.2 h) hw
  ·omega
 have hput:(c.put e.b ⟨3,0,e.i,false⟩).sp=c.sp.set b ⟨3,0,e.i,false⟩:=by show c.sp.set e.b.toNat _ = _;rw[he,Int.toNat_natCast]
 have hsp:∀j,((c.put e.b ⟨3,0,e.i,false⟩).sp.getD j default)=if j=b then⟨3,0,e.i,false⟩else c.sp.getD j default:=fun j=>by rw[hput];exact j5 _ _ _ _ _ (by rw[J.n1];exact hb)
 have hrg:∀j,B0 (Y9 s e).rg j=if j=b then(s.rs.length:Int)else B0 s.rg j:=fun j=>by
  show B0 (s.rg.set e.b.toNat (s.rs.length:Int)) j= _;rw[he,Int.toNat_natCast];exact pX _ _ _ _ (by rw[J.n2];exact hb)
 obtain⟨R,hR⟩:∃R,(Y9 s e).rs=s.rs ++ [R]∧R.id=e.i∧R.op=true∧cT R false e.a (N+1) b:=by
  refine⟨_,rfl,rfl,rfl,⟨⟨hi.1,hi.2,hr.1,hr.2,jC hv⟩,⟨rfl,rfl,rfl,rfl⟩,by simp,⟨[],e.a,e.t,by simp[he],by simp[j1],by simp,jC hv,Int.le_refl _⟩,[],e.a,rfl,by simp,Or.inl ⟨rfl,rfl,Int.le_refl _⟩⟩⟩
 obtain⟨hR,hRi,hRo,hRO⟩:=hR;have hpz:(Y9 s e).pz=s.pz ++ [false]:=rfl;have hix:∀i,(Y9 s e).idx i=match s.idx i with|some u=>some u|none=>if e.i=i then some s.rs.length else none:=fun i=>AT2 _ _ _ _
 have W7:∀j,j<s.rs.length→(Y9 s e).rat j=s.rat j:=fun j hj=>by
  show(Y9 s e).rs.getD j default= _;rw[hR];exact Ah8 _ _ _ _ hj
 have sJ:(Y9 s e).rat s.rs.length=R:=by show(Y9 s e).rs.getD _ default= _;rw[hR];exact Ah9 _ _ _
 have hlen:(Y9 s e).rs.length=s.rs.length+1:=by rw[hR];simp
 have hn2:(Y9 s e).rg.length=n:=by show(s.rg.set _ _).length=n;rw[List.length_set];exact J.n2
 have hn3:(Y9 s e).sp.length=n:=J.n3;generalize Y9 s e=S at *;refine⟨?_,?_,?_,?_,fun j hj=>?_,fun j i hj hk=>?_,fun j j' hj hj' h0 hh=>?_,fun i hi'=>?_,fun i hi'=>?_,fun i hc=>?_,fun i t' h=>?_,fun i hi' ho=>?_⟩
 ·show(c.put e.b ⟨3,0,e.i,false⟩).sp.length=n;rw[hput,List.length_set];exact J.n1
 ·exact hn2
 ·exact hn3
 ·rw[hpz,hlen,List.length_append,J.n4];rfl
 ·rw[hrg,hlen]
  show _∧(((c.put e.b ⟨3,0,e.i,false⟩).sp.getD j default).w=3↔_);rw[hsp];by_cases e1:j=b
  ·rw[if_pos e1,if_pos e1];exact⟨by omega,fun _ =>by omega,fun _ =>rfl⟩
  ·rw[if_neg e1,if_neg e1];exact⟨by have:=(J.rg j hj).1;omega,(J.rg j hj).2⟩
 ·show cT (S.rat i) (S.pz.getD i false) e.a (N+1) j∧(S.rat i).id=((c.put e.b ⟨3,0,e.i,false⟩).sp.getD j default).r∧((c.put e.b ⟨3,0,e.i,false⟩).sp.getD j default).z=S.pz.getD i false
  rw[hrg]at hk;rw[hsp,hpz];by_cases e1:j=b
  ·rw[if_pos e1]at hk
   obtain rfl:i=s.rs.length:=by omega
   rw[if_pos e1,sJ,←J.n4,Ah9,e1];exact⟨hRO,hRi,rfl⟩
  ·rw[if_neg e1]at hk
   have hil:=J.k_lt hj hk;rw[if_neg e1,W7 i hil,Ah8 _ _ _ _ (by rw[J.n4];exact hil)];exact J'.on j i hj hk
 ·rw[hrg]at h0
  rw[hrg,hrg]at hh;by_cases e1:j=b
  ·rw[if_pos e1]at hh
   by_cases e2:j'=b
   ·rw[e1,e2]
   ·rw[if_neg e2]at hh;have:=(J.rg j' hj').1;omega
  ·rw[if_neg e1]at h0 hh
   by_cases e2:j'=b
   ·rw[if_pos e2]at hh;have:=(J.rg j hj).1;omega
   ·rw[if_neg e2]at hh;exact J.inj j j' hj hj' h0 hh
 ·rw[hix]
  by_cases e1:i=s.rs.length
  ·subst e1
   rw[sJ,hRi,J.us2 e.i hu];simp
  ·have hil:i<s.rs.length:=by omega
   rw[W7 i hil,J.ids i hil]
 ·show(S.rat i).id∈c.us ++ [e.i]
  by_cases e1:i=s.rs.length
  ·subst e1;rw[sJ,hRi];simp
  ·have hil:i<s.rs.length:=by omega
   rw[W7 i hil];exact List.mem_append_left _ (J.us i hil)
 ·have hc':(c.us ++ [e.i]).contains i=false:=hc
  have h1:c.us.contains i=false∧e.i≠i:=by
   constructor
   ·cases h:c.us.contains i
    ·rfl
    ·rw[List.contains_iff_mem]at h
     have:(c.us ++ [e.i]).contains i=true:=List.contains_iff_mem.2 (List.mem_append_left _ h);rw[this]at hc';cases hc'
   ·intro h
    have:(c.us ++ [e.i]).contains i=true:=List.contains_iff_mem.2 (by rw[h];simp);rw[this]at hc';cases hc'
  rw[hix,J.us2 i h1.1];simp[h1.2]
 ·have h1:(match c.trip i with|some u=>some u|none=>if e.i=i then some ⟨e.r,e.b,false⟩else none)=some t':=by
   have:=AT1 c.op i e.i ⟨e.r,e.b,false⟩;exact this.symm.trans h
  show∃b',t'.bk=((b':Nat):Int)∧b'<n∧((c.put e.b ⟨3,0,e.i,false⟩).sp.getD b' default).w=3∧((c.put e.b ⟨3,0,e.i,false⟩).sp.getD b' default).r=i∧t'.z=((c.put e.b ⟨3,0,e.i,false⟩).sp.getD b' default).z
  cases hc:c.trip i with
  |some u=>
   rw[hc]at h1
   obtain rfl:u=t':=Option.some.inj h1
   obtain⟨j,q1,q2,q3,q4,q5⟩:=J.trip i u hc
   have e1:j≠b:=fun e1=>by subst e1;exact hw q3
   exact⟨j,q1,q2,by rw[hsp,if_neg e1];exact q3,by rw[hsp,if_neg e1];exact q4,by rw[hsp,if_neg e1];exact q5⟩
  |none=>
   rw[hc]at h1
   by_cases e1:e.i=i
   ·simp only[e1,if_true,Option.some.injEq]at h1
    subst h1;exact⟨b,he,hb,by rw[hsp,if_pos rfl],by rw[hsp,if_pos rfl];exact e1,by rw[hsp,if_pos rfl]⟩
   ·simp only[e1,if_false]at h1;cases h1
 ·by_cases e1:i=s.rs.length
  ·subst e1;rw[sJ,hRo]at ho;cases ho
  ·have hil:i<s.rs.length:=by omega
   rw[W7 i hil]at ho⊢;exact J.cl i hil ho
theorem JI.tick {b k:Nat} (hb:b<n) (hk:B0 s.rg b=(k:Int)) {T':Int} {N':Nat} (hT:T≤T') (hN:N≤N') {R:A9} {z:Bool} (hRi:R.id=(s.rat k).id) (hRo:R.op=true) (hO:cT R z T' N' b):
 JI n ((c.put (b:Int) {c.sp.getD b default with z:=z}).setT (c.sp.getD b default).r fun t=>{t with z:=z}) {s with rs:=s.rs.set k R,pz:=s.pz.set k z} T' N':=by
 have J':=J.later hT hN;have hkl:=J.k_lt hb hk;obtain⟨hop,hid,hz⟩:=J.on b k hb hk;have hw:(c.sp.getD b default).w=3:=(J.rg b hb).2.2 (by omega);have hsp:∀j,(((c.put (b:Int) {c.sp.getD b default with z:=z}).setT (c.sp.getD b default).r fun t=>{t with z:=z}).sp.getD j default)=if j=b then{c.sp.getD b default with z:=z}else c.sp.getD j default:=fun j=>by
  show(c.sp.set (b:Int).toNat _).getD j default= _;rw[Int.toNat_natCast];exact j5 _ _ _ _ _ (by rw[J.n1];exact hb)
 have W7:∀j,(s.rs.set k R).getD j default=if j=k then R else s.rat j:=fun j=>uZ s k j R hkl;have htr:∀i,((c.put (b:Int) {c.sp.getD b default with z:=z}).setT (c.sp.getD b default).r fun t=>{t with z:=z}).trip i=if i=(c.sp.getD b default).r then(c.trip i).map (fun t=>{t with z:=z})else c.trip i:=fun i=>Ai1 _ _ _ _;refine⟨?_,J.n2,J.n3,?_,fun j hj=>?_,fun j i hj hi=>?_,J.inj,fun i hi=>?_,fun i hi=>?_,J.us2,fun i t' h=>?_,fun i hi ho=>?_⟩
 ·show(c.sp.set _ _).length=n;rw[List.length_set];exact J.n1
 ·show(s.pz.set k z).length=(s.rs.set k R).length;rw[List.length_set,List.length_set];exact J.n4
 ·rw[hsp]
  show B0 s.rg j<((s.rs.set k R).length:Int)∧_;rw[List.length_set];refine⟨(J.rg j hj).1,?_⟩;by_cases e:j=b
  ·rw[if_pos e];subst e;exact(J.rg j hj).2
  ·rw[if_neg e];exact(J.rg j hj).2
 ·have hi':B0 s.rg j=(i:Int):=hi
  rw[hsp];show cT ((s.rs.set k R).getD i default) ((s.pz.set k z).getD i false) T' N' j∧((s.rs.set k R).getD i default).id= _∧_ =(s.pz.set k z).getD i false;rw[W7,j5 _ _ _ _ _ (by rw[J.n4];exact hkl)];by_cases e:j=b
  ·subst e
   obtain rfl:i=k:=by omega
   rw[if_pos rfl,if_pos rfl,if_pos rfl];exact⟨hO,by rw[hRi];exact hid,rfl⟩
  ·have hne:i≠k:=fun e2=>e (J.inj j b hj hb (by omega) (by omega))
   rw[if_neg hne,if_neg hne,if_neg e];exact J'.on j i hj hi'
 ·have hi':i<s.rs.length:=by have:i<(s.rs.set k R).length:=hi;rwa[List.length_set]at this
  show s.idx ((s.rs.set k R).getD i default).id=some i;rw[W7];by_cases e:i=k
  ·rw[if_pos e,hRi,e];exact J.ids k hkl
  ·rw[if_neg e];exact J.ids i hi'
 ·have hi':i<s.rs.length:=by have:i<(s.rs.set k R).length:=hi;rwa[List.length_set]at this
  show((s.rs.set k R).getD i default).id∈c.us;rw[W7];by_cases e:i=k
  ·rw[if_pos e,hRi];exact J.us k hkl
  ·rw[if_neg e];exact J.us i hi'
 ·rw[htr]at h
  by_cases e:i=(c.sp.getD b default).r
  ·rw[if_pos e]at h
   obtain⟨t0,h0,rfl⟩:=Option.map_eq_some_iff.1 h;obtain⟨j,q1,q2,q3,q4,q5⟩:=J.trip i t0 h0;have e2:j=b:=J.same q2 hb q3 hw (by rw[q4,e]);subst e2;exact⟨j,q1,q2,by rw[hsp,if_pos rfl];exact q3,by rw[hsp,if_pos rfl];exact q4,by rw[hsp,if_pos rfl]⟩
  ·rw[if_neg e]at h
   obtain⟨j,q1,q2,q3,q4,q5⟩:=J.trip i t' h;have e2:j≠b:=fun e2=>e (by rw[←q4,e2]);exact⟨j,q1,q2,by rw[hsp,if_neg e2];exact q3,by rw[hsp,if_neg e2];exact q4,by rw[hsp,if_neg e2];exact q5⟩
 ·have hi':i<s.rs.length:=by have:i<(s.rs.set k R).length:=hi;rwa[List.length_set]at this
  have ho':((s.rs.set k R).getD i default).op=false:=ho;show J9 ((s.rs.set k R).getD i default)=0;rw[W7]at ho'⊢;by_cases e:i=k
  ·rw[if_pos e,hRo]at ho';cases ho'
  ·rw[if_neg e]at ho'⊢;exact J.cl i hi' ho'
theorem JI.swap {b:Nat} (hb:b<n) {e:Ev} (he:e.b=(b:Int)) (hw:(c.sp.getD b default).w≠3) {t0:N7} (htr:c.trip e.i=some t0) (htz:t0.z=false) (hv:0≤e.a∧e.a≤e.t∧e.t≤4294943999) (hT:T≤e.a):
 JI n (((c.put t0.bk (c.spt e.b)).put e.b ⟨3,0,e.i,false⟩).setT e.i fun t=>{t with bk:=e.b}) (dK s e) e.a (N+1):=by
 have J':=J.later hT (Nat.le_succ N);obtain⟨j0,hj1,hj2,hj3,hj4,hj5⟩:=J.trip e.i t0 htr;obtain⟨k,hk,hkl⟩:=J.open_at hj2 hj3;obtain⟨hop,hid,hz⟩:=J.on j0 k hj2 hk;have hpz:s.pz.getD k false=false:=by rw[←hz,←hj5,htz]
 have hne:b≠j0:=fun h=>hw (by rw[h];exact hj3);have hix:s.idx e.i=some k:=by rw[←hj4,←hid];exact J.ids k hkl
 rw[hpz]at hop;obtain⟨li,f0,f1,hl1,hl2,hl3,hl4,hl5⟩:=hop.lg;obtain⟨pi,m,hp1,hp2,hp3⟩:=hop.ps;have hrb:B0 s.rg b<0:=by
  by_cases h:0≤B0 s.rg b
  ·exact absurd ((J.rg b hb).2.2 h) hw
  ·omega
 obtain⟨R,hRs,hRi,hRo,hRO⟩:∃R,dK s e={s with rs:=s.rs.set k R,rg:=(s.rg.set j0 (-1)).set b (k:Int),sp:=s.sp.set j0 (s.sp.getD b default)}∧R.id=(s.rat k).id∧R.op=true∧cT R false e.a (N+1) b:=by
  refine⟨{s.rat k with legs:=(li ++ [⟨(j0:Int),f0,f1,e.a,e.t⟩]) ++ [⟨e.b,e.a,e.t,0,0⟩]},?_,rfl,hop.en.2.2.1,⟨hop.hd,hop.en,?_,⟨li ++ [⟨(j0:Int),f0,f1,e.a,e.t⟩],e.a,e.t,by rw[he],?_,fun x hx=>?_,jC hv,Int.le_refl _⟩,pi,m,hp1,hp2,?_⟩⟩
  ·unfold dK
   rw[hix];simp only[D7.setR,hl1,List.getLast?_append,List.getLast?_singleton,Option.some_or,Option.map_some,Option.getD_some,hZ,Int.toNat_natCast,he];rfl
  ·have:=hop.ln
   rw[hl1]at this;simp only[List.length_append,List.length_singleton]at this⊢;omega
  ·exact uY li _ _ f0 f1 ⟨(j0:Int),f0,f1,e.a,e.t⟩ hl2 rfl rfl
  ·rcases List.mem_append.1 hx with hx|hx
   ·exact hl3 x hx
   ·rw[List.mem_singleton]at hx;subst hx
    exact⟨by simp[dA,hl4,jC hv],by show f0≤e.a;omega⟩
  ·rcases hp3 with⟨_,q1,q2⟩|⟨h,_⟩
   ·exact Or.inl ⟨rfl,q1,by omega⟩
   ·cases h
 rw[hRs];have By5:c.spt e.b=c.sp.getD b default:=by unfold C5.spt;rw[he,Int.toNat_natCast]
 have hsp:∀j,(((c.put t0.bk (c.spt e.b)).put e.b ⟨3,0,e.i,false⟩).setT e.i fun t=>{t with bk:=e.b}).sp.getD j default=if j=b then⟨3,0,e.i,false⟩else if j=j0 then c.sp.getD b default else c.sp.getD j default:=fun j=>by
  show((c.sp.set t0.bk.toNat (c.spt e.b)).set e.b.toNat _).getD j default= _;rw[By5,hj1,he,Int.toNat_natCast,Int.toNat_natCast,j5 _ _ _ _ _ (by rw[List.length_set,J.n1];exact hb),j5 _ _ _ _ _ (by rw[J.n1];exact hj2)]
 have hrg:∀j,B0 ((s.rg.set j0 (-1)).set b (k:Int)) j=if j=b then(k:Int)else if j=j0 then -1 else B0 s.rg j:=fun j=>by
  rw[pX _ _ _ _ (by rw[List.length_set,J.n2];exact hb),pX _ _ _ _ (by rw[J.n2];exact hj2)]
 have W7:∀j,(s.rs.set k R).getD j default=if j=k then R else s.rat j:=fun j=>uZ s k j R hkl;have By6:∀i,(((c.put t0.bk (c.spt e.b)).put e.b ⟨3,0,e.i,false⟩).setT e.i fun t=>{t with bk:=e.b}).trip i=if i=e.i then(c.trip i).map (fun t=>{t with bk:=e.b})else c.trip i:=fun i=>Ai1 _ _ _ _;refine⟨?_,?_,?_,?_,fun j hj=>?_,fun j i hj hi=>?_,fun j j' hj hj' h0 hh=>?_,fun i hi=>?_,fun i hi=>?_,J.us2,fun i t' h=>?_,fun i hi ho=>?_⟩
 ·show((c.sp.set _ _).set _ _).length=n;rw[List.length_set,List.length_set];exact J.n1
 ·show((s.rg.set _ _).set _ _).length=n;rw[List.length_set,List.length_set];exact J.n2
 ·show(s.sp.set _ _).length=n;rw[List.length_set];exact J.n3
 ·show s.pz.length=(s.rs.set k R).length;rw[List.length_set];exact J.n4
 ·rw[hsp]
  show B0 ((s.rg.set j0 (-1)).set b (k:Int)) j<((s.rs.set k R).length:Int)∧(_↔0≤B0 ((s.rg.set j0 (-1)).set b (k:Int)) j);rw[hrg,List.length_set];by_cases e1:j=b
  ·rw[if_pos e1,if_pos e1];exact⟨by omega,fun _ =>by omega,fun _ =>rfl⟩
  ·rw[if_neg e1,if_neg e1]
   by_cases e2:j=j0
   ·rw[if_pos e2,if_pos e2];exact⟨by omega,fun h=>absurd h hw,fun h=>by omega⟩
   ·rw[if_neg e2,if_neg e2];exact J.rg j hj
 ·have hi':B0 ((s.rg.set j0 (-1)).set b (k:Int)) j=(i:Int):=hi
  rw[hrg]at hi';rw[hsp];show cT ((s.rs.set k R).getD i default) (s.pz.getD i false) e.a (N+1) j∧((s.rs.set k R).getD i default).id= _∧_ =s.pz.getD i false;rw[W7];by_cases e1:j=b
  ·rw[if_pos e1]at hi'
   obtain rfl:i=k:=by omega
   rw[if_pos rfl,if_pos e1,hpz,e1];exact⟨hRO,by rw[hRi,hid,hj4],rfl⟩
  ·rw[if_neg e1]at hi'
   by_cases e2:j=j0
   ·rw[if_pos e2]at hi';omega
   ·rw[if_neg e2]at hi'
    have hne2:i≠k:=fun e3=>e2 (J.inj j j0 hj hj2 (by omega) (by omega));rw[if_neg hne2,if_neg e1,if_neg e2];exact J'.on j i hj hi'
 ·have h0':0≤B0 ((s.rg.set j0 (-1)).set b (k:Int)) j:=h0
  have hh':B0 ((s.rg.set j0 (-1)).set b (k:Int)) j=B0 ((s.rg.set j0 (-1)).set b (k:Int)) j':=hh;rw[hrg]at h0';rw[hrg,hrg]at hh';by_cases e1:j=b
  ·rw[if_pos e1]at hh'
   by_cases e2:j'=b
   ·rw[e1,e2]
   ·rw[if_neg e2]at hh'
    by_cases e3:j'=j0
    ·rw[if_pos e3]at hh';omega
    ·rw[if_neg e3]at hh';exact absurd (J.inj j' j0 hj' hj2 (by omega) (by omega)) e3
  ·rw[if_neg e1]at h0' hh'
   by_cases e2:j=j0
   ·rw[if_pos e2]at h0';omega
   ·rw[if_neg e2]at h0' hh'
    by_cases e3:j'=b
    ·rw[if_pos e3]at hh';exact absurd (J.inj j j0 hj hj2 (by omega) (by omega)) e2
    ·rw[if_neg e3]at hh'
     by_cases e4:j'=j0
     ·rw[if_pos e4]at hh';omega
     ·rw[if_neg e4]at hh';exact J.inj j j' hj hj' h0' hh'
 ·have hi':i<s.rs.length:=by have:i<(s.rs.set k R).length:=hi;rwa[List.length_set]at this
  show s.idx ((s.rs.set k R).getD i default).id=some i;rw[W7];by_cases e1:i=k
  ·rw[if_pos e1,hRi,e1];exact J.ids k hkl
  ·rw[if_neg e1];exact J.ids i hi'
 ·have hi':i<s.rs.length:=by have:i<(s.rs.set k R).length:=hi;rwa[List.length_set]at this
  show((s.rs.set k R).getD i default).id∈c.us;rw[W7];by_cases e1:i=k
  ·rw[if_pos e1,hRi];exact J.us k hkl
  ·rw[if_neg e1];exact J.us i hi'
 ·rw[By6]at h
  by_cases e1:i=e.i
  ·rw[if_pos e1]at h
   obtain⟨t1,h1,rfl⟩:=Option.map_eq_some_iff.1 h;rw[e1,htr]at h1;obtain rfl:=Option.some.inj h1;exact⟨b,he,hb,by rw[hsp,if_pos rfl],by rw[hsp,if_pos rfl];exact e1.symm,by rw[hsp,if_pos rfl];exact htz⟩
  ·rw[if_neg e1]at h
   obtain⟨j,q1,q2,q3,q4,q5⟩:=J.trip i t' h;have e2:j≠b:=fun e2=>hw (by rw[←e2];exact q3);have e3:j≠j0:=fun e3=>e1 (by rw[←q4,e3,hj4]);exact⟨j,q1,q2,by rw[hsp,if_neg e2,if_neg e3];exact q3,by rw[hsp,if_neg e2,if_neg e3];exact q4,by rw[hsp,if_neg e2,if_neg e3];exact q5⟩
 ·have hi':i<s.rs.length:=by have:i<(s.rs.set k R).length:=hi;rwa[List.length_set]at this
  have ho':((s.rs.set k R).getD i default).op=false:=ho;show J9 ((s.rs.set k R).getD i default)=0;rw[W7]at ho'⊢;by_cases e1:i=k
  ·rw[if_pos e1,hRo]at ho';cases ho'
  ·rw[if_neg e1]at ho'⊢;exact J.cl i hi' ho'
end
end
section
theorem jD {f:G4} {e:Ev} (h:t6 f e=0):(0≤e.b∧e.b<f.bk)∧(0≤e.a∧e.a≤e.t∧e.t≤4294943999)∧(1≤e.k∧e.k≤10)∧bZ f e=true∧Y7 f e=true∧K5 f=0:=by
 unfold t6 at h;by_cases h0:K5 f=0
 ·rw[if_neg (by simpa using h0)]at h
  split at h
  ·cases h
  ·rename_i h1
   split at h
   ·cases h
   ·rename_i h2
    split at h
    ·cases h
    ·rename_i h3
     split at h
     ·cases h
     ·rename_i h4
      split at h
      ·cases h
      ·rename_i h5
       simp[C6]at h1 h2 h3 h4 h5;exact⟨⟨by omega,by omega⟩,⟨by omega,by omega,by omega⟩,⟨by omega,by omega⟩,h4,h5,h0⟩
 ·rw[if_pos h0]at h;exact absurd h h0
theorem Ai2 {f:G4} (h:K5 f=0):1≤f.bk∧f.bk≤128∧1≤f.rd∧f.rd≤128:=by
 unfold K5 at h;split at h
 ·cases h
 ·rename_i h1
  simp[C6]at h1;omega
theorem AT3 {α:Type} (l:List α) (k:Nat) (d:α) (hk:k<l.length):l.set k (l.getD k d)=l:=by
 refine List.ext_getElem (by simp) fun i h1 h2=>?_;rw[List.getElem_set];by_cases e:k=i
 ·subst e;rw[if_pos rfl,A6,A4 h2];rfl
 ·rw[if_neg e]
section
variable {n:Nat} {c:C5} {s:D7} {T:Int} {N:Nat} (J:JI n c s T N)
include J
theorem JI.left {b:Nat} (hb:b<n) (x:D8) (hx:x.w≠3) {a t:Int} (hv:0≤a∧a≤t∧t≤4294943999) (hT:T≤a) (hN:N≤512):JI n (c.leave (b:Int) x) (Y8 s (b:Int) x a t) T N:=by
 by_cases h0:0≤B0 s.rg b
 ·exact J.leave hb (k:=(B0 s.rg b).toNat) (by omega) x hx hv hT hN
 ·have hw:(c.sp.getD b default).w≠3:=fun h=>h0 ((J.rg b hb).2.1 h)
  have e1:c.leave (b:Int) x=c.put (b:Int) x:=by
   unfold C5.leave C5.spt;simp only[Int.toNat_natCast];rw[if_neg hw]
  have e2:Y8 s (b:Int) x a t={s with sp:=s.sp.set b x}:=by
   unfold Y8;simp only[Int.toNat_natCast];rw[if_pos (by omega)]
  rw[e1,e2];exact J.move hb (by omega) x x hx
theorem JI.hid {b:Nat} (hb:b<n) (hw:(c.sp.getD b default).w≠3) (x:D8) (hx:x.w≠3):JI n (c.leave (b:Int) x) s T N:=by
 have h0:B0 s.rg b<0:=by
  by_cases h:0≤B0 s.rg b
  ·exact absurd ((J.rg b hb).2.2 h) hw
  ·omega
 have e1:c.leave (b:Int) x=c.put (b:Int) x:=by
  unfold C5.leave C5.spt;simp only[Int.toNat_natCast];rw[if_neg hw]
 rw[e1];have:=J.move hb h0 x (s.sp.getD b default) hx;rw[AT3 s.sp b default (by rw[J.n3];exact hb)]at this;exact this
theorem JI.step {f:G4} {e:Ev} (hn:n=f.bk.toNat) (ho:V1 f c e=true) (hT:T≤e.a) (hN:N≤512):JI n (S6 c e) (V7 s e) e.a (N+1):=by
 unfold V1 at ho;simp only[Bool.and_eq_true,decide_eq_true_eq]at ho;obtain⟨⟨hev,hk10⟩,G6⟩:=ho;obtain⟨⟨hb0,hb1⟩,hv,⟨hk1,hk2⟩,hpl,hnm,hfl⟩:=jD hev;obtain⟨b,hb⟩:∃b:Nat,e.b=(b:Int):=⟨e.b.toNat,by omega⟩
 have hbn:b<n:=by omega
 have hsp:c.spt e.b=c.sp.getD b default:=by unfold C5.spt;rw[hb,Int.toNat_natCast]
 have Ay8:B0 s.rg e.b.toNat=B0 s.rg b:=by rw[hb,Int.toNat_natCast]
 have later:∀{c' s'},JI n c' s' T N→JI n c' s' e.a (N+1):=fun h=>h.later hT (Nat.le_succ N);have hf:=Ai2 hfl;unfold I6 at G6;rw[hsp]at G6;unfold S6 V7;have cs:e.k=1∨e.k=2∨e.k=3∨e.k=4∨e.k=5∨e.k=6∨e.k=7∨e.k=8∨e.k=9:=by omega
 rcases cs with hk|hk|hk|hk|hk|hk|hk|hk|hk
 ·simp only[hk,if_true,if_false,reduceIte,Int.reduceEq,or_self,or_false,false_or]at G6⊢
  rw[hb];exact later (J.left hbn _ (by simp) hv hT hN)
 ·simp only[hk,if_true,if_false,reduceIte,Int.reduceEq,or_self,or_false,false_or]at G6⊢
  rw[hb];exact later (J.left hbn _ (by simp) hv hT hN)
 ·simp only[hk,if_true,if_false,reduceIte,Int.reduceEq,or_self,or_false,false_or]at G6⊢
  split at G6
  ·cases G6
  ·rename_i h1
   split at G6
   ·cases G6
   ·rename_i h2
    have hw:(c.sp.getD b default).w≠3:=fun h=>h1 (by unfold Q9;rw[h];rfl);unfold Y7 at hnm;simp only[hk,if_true,reduceIte,Int.reduceEq,or_false,Bool.and_eq_true,C6,decide_eq_true_eq]at hnm;exact J.begins hbn hb hw (by simpa using h2) ⟨hnm.2.1,hnm.2.2⟩ ⟨hnm.1.1,by omega⟩ hv hT
 ·simp only[hk,if_true,if_false,reduceIte,Int.reduceEq,or_self,or_false,false_or]at G6⊢
  cases htr:c.trip e.i with
  |none=>rw[htr]at G6;cases G6
  |some t0=>
   rw[htr]at G6
   dsimp only at G6⊢
   split at G6
   ·cases G6
   ·rename_i h1
    split at G6
    ·cases G6
    ·rename_i h2
     have hw:(c.sp.getD b default).w≠3:=fun h=>h1 (by unfold Q9;rw[h];rfl);exact J.swap hbn hb hw htr (by simpa using h2) hv hT
 ·simp only[hk,if_true,if_false,reduceIte,Int.reduceEq,or_self,or_false,false_or,true_or,decide_true]at G6⊢
  split at G6
  ·cases G6
  ·rename_i h1
   split at G6
   ·cases G6
   ·rename_i h2
    have hw:(c.sp.getD b default).w=3:=by simpa using h1
    obtain⟨k,hk',hkl⟩:=J.open_at hbn hw;obtain⟨hop,hid,hz⟩:=J.on b k hbn hk';have hz0:s.pz.getD k false=false:=by rw[←hz];simpa using h2
    rw[hz0]at hop;rw[hsp,Ay8,hk',if_neg (by omega),Int.toNat_natCast,hb];unfold D7.setR;refine J.tick hbn hk' hT (Nat.le_succ N) rfl hop.en.2.2.1 ⟨hop.hd,hop.en,?_,?_,?_⟩
    ·have:=hop.ln;simp only[List.length_append,List.length_singleton];omega
    ·obtain⟨li,f0,f1,q1,q2,q3,q4,q5⟩:=hop.lg
     exact⟨li,f0,f1,q1,q2,q3,q4,by omega⟩
    ·obtain⟨pi,m,p1,p2,p3⟩:=hop.ps
     refine⟨pi,m,p1,p2,Or.inr ⟨rfl,e.a,e.t,?_,jC hv,?_,Int.le_refl _⟩⟩
     ·rcases p3 with⟨_,q1,_⟩|⟨h,_⟩
      ·show(s.rat k).pauses ++ _ = _;rw[q1]
      ·cases h
     ·rcases p3 with⟨_,_,q2⟩|⟨h,_⟩
      ·omega
      ·cases h
 ·simp only[hk,if_true,if_false,reduceIte,Int.reduceEq,or_self,or_false,false_or,or_true,decide_false]at G6⊢
  split at G6
  ·cases G6
  ·rename_i h1
   split at G6
   ·cases G6
   ·rename_i h2
    have hw:(c.sp.getD b default).w=3:=by simpa using h1
    obtain⟨k,hk',hkl⟩:=J.open_at hbn hw;obtain⟨hop,hid,hz⟩:=J.on b k hbn hk';have hz0:s.pz.getD k false=true:=by rw[←hz];simpa using h2
    rw[hz0]at hop;rw[hsp,Ay8,hk',if_neg (by omega),Int.toNat_natCast,hb];unfold V2 D7.setR;rw[hz0];refine J.tick hbn hk' hT (Nat.le_succ N) rfl hop.en.2.2.1 ?_;obtain⟨pi,m,p1,p2,p3⟩:=hop.ps;rcases p3 with⟨h,_⟩|⟨_,g0,g1,e1,e2,e3,e4⟩
    ·cases h
    ·refine⟨hop.hd,hop.en,?_,?_,pi ++ [⟨g0,g1,e.a,e.t⟩],e.a,uW pi _ ⟨g0,g1,e.a,e.t⟩ m p1 e3 (by show g0≤e.a;omega),fun x hx=>?_,Or.inl ⟨rfl,?_,Int.le_refl _⟩⟩
     ·have:=hop.ln
      show(s.rat k).legs.length+(aI (s.rat k).pauses _).length≤N+1;rw[e1,hZ];rw[e1]at this;simp only[List.length_append,List.length_singleton]at this⊢;omega
     ·obtain⟨li,f0,f1,q1,q2,q3,q4,q5⟩:=hop.lg
      exact⟨li,f0,f1,q1,q2,q3,q4,by omega⟩
     ·rcases List.mem_append.1 hx with hx|hx
      ·exact p2 x hx
      ·rw[List.mem_singleton]at hx;subst hx
       simp[cP,e2,jC hv]
     ·show aI (s.rat k).pauses _ = _
      rw[e1,hZ];rfl
 ·simp only[hk,if_true,if_false,reduceIte,Int.reduceEq,or_self,or_false,false_or]at G6⊢
  split at G6
  ·cases G6
  ·rename_i h1
   rw[hb];exact later (J.hid hbn (by omega) _ (by simp))
 ·simp only[hk,if_true,if_false,reduceIte,Int.reduceEq,or_self,or_false,false_or]at G6⊢
  split at G6
  ·cases G6
  ·rename_i h1
   rw[hb];exact later (J.hid hbn (by omega) _ (by simp))
 ·simp only[hk,if_true,if_false,reduceIte,Int.reduceEq,or_self,or_false,false_or]at G6⊢
  rw[hb];exact later (J.left hbn _ (by simp) hv hT hN)
end
theorem vA (f:G4):∀(l:List Ev) (c:C5),(O4 f c l).Sublist l
 |[],_ =>List.Sublist.refl _
 |e :: l,c=>by
  unfold O4;split
  ·exact(vA f l _).cons_cons e
  ·exact(vA f l _).cons e
theorem JI.all {f:G4} {n:Nat} (hn:n=f.bk.toNat):∀(l:List Ev) (c:C5) (s:D7) (T:Int) (N:Nat),JI n c s T N→(∀e∈l,T≤e.a)→l.Pairwise (fun x y=>x.a≤y.a)→N+l.length≤512→∃(c':C5) (T':Int) (N':Nat),N'≤N+l.length∧JI n c' ((O4 f c l).foldl V7 s) T' N'
 |[],c,s,T,N,J,_,_,_ =>⟨c,T,N,Nat.le_refl _,J⟩
 |e :: l,c,s,T,N,J,hT,hp,hN=>by
  rw[List.pairwise_cons]at hp;simp only[List.length_cons]at hN⊢;unfold O4;by_cases ho:V1 f c e=true
  ·rw[if_pos ho]
   obtain⟨c',T',N',h1,h2⟩:=JI.all hn l (S6 c e) (V7 s e) e.a (N+1) (J.step hn ho (hT e (by simp)) (by omega)) (fun x hx=>hp.1 x hx) hp.2 (by omega);exact⟨c',T',N',by omega,h2⟩
  ·rw[if_neg ho]
   obtain⟨c',T',N',h1,h2⟩:=JI.all hn l c s T N J (fun x hx=>hT x (by simp[hx])) hp.2 (by omega);exact⟨c',T',N',by omega,h2⟩
def dL (f:G4) (l:List Ev):List A9:=((O4 f (P4 f.bk.toNat) l).foldl V7 (Q3 f.bk.toNat)).rs
end
section
def Z0 (l:List D8):Nat:=(l.filter Q9).length
theorem kQ:∀(l:List D8) (i:Nat) (x:D8),Z0 (l.set i x)≤Z0 l+(if Q9 x then 1 else 0)
 |[],i,x=>by simp[Z0]
 |y :: l,0,x=>by
  simp only[List.set_cons_zero,Z0,List.filter_cons];split<;>split<;>simp
 |y :: l,i+1,x=>by
  have:=kQ l i x;simp only[List.set_cons_succ,Z0,List.filter_cons]at this⊢
  cases Q9 y<;>simp at this⊢<;>omega
theorem Ai3:∀(l:List D8) (i:Nat) (x:D8),Q9 (l.getD i default)=true→Q9 x=false→Z0 (l.set i x)+1≤Z0 l
 |[],i,x,h,_ =>by simp[Q9,default]at h
 |y :: l,0,x,h,hx=>by
  have h':Q9 y=true:=h;simp[Z0,List.filter_cons,h',hx]
 |y :: l,i+1,x,h,hx=>by
  have:=Ai3 l i x h hx;simp only[List.set_cons_succ,Z0,List.filter_cons]at this⊢
  cases Q9 y<;>simp at this⊢<;>omega
theorem Ai4 {p r:Int} {z:Bool} {w:Int} (h:w≠1) (h':w≠2):Q9 ⟨w,p,r,z⟩=false:=by simp[Q9,h,h']
theorem mT (c:C5) (b:Int) (x:D8):Z0 (c.leave b x).sp≤Z0 c.sp+1:=by
 have:(c.leave b x).sp=c.sp.set b.toNat x:=by
  unfold C5.leave C5.put;split<;>rfl
 rw[this];have h:=kQ c.sp b.toNat x;split at h<;>omega
theorem AT4 {f:G4} {c:C5} {e:Ev} (ho:V1 f c e=true):(if e.k=3 then 2 else 0)+Z0 (S6 c e).sp≤Z0 c.sp+1:=by
 unfold V1 at ho;simp only[Bool.and_eq_true,decide_eq_true_eq]at ho;obtain⟨⟨hev,hk10⟩,G6⟩:=ho;obtain⟨_,_,⟨hk1,hk2⟩,_⟩:=jD hev;unfold I6 at G6;unfold S6;have cs:e.k=1∨e.k=2∨e.k=3∨e.k=4∨e.k=5∨e.k=6∨e.k=7∨e.k=8∨e.k=9:=by omega
 rcases cs with hk|hk|hk|hk|hk|hk|hk|hk|hk
 ·simp only[hk,reduceIte,Int.reduceEq,Nat.zero_add];exact mT _ _ _
 ·simp only[hk,reduceIte,Int.reduceEq,Nat.zero_add];exact mT _ _ _
 ·simp only[hk,reduceIte,Int.reduceEq]at G6⊢
  split at G6
  ·cases G6
  ·rename_i h1
   have hp:Q9 (c.spt e.b)=true:=by simpa using h1
   have:=Ai3 c.sp e.b.toNat ⟨3,0,e.i,false⟩ hp (Ai4 (by decide) (by decide));show 2+Z0 (c.sp.set e.b.toNat ⟨3,0,e.i,false⟩)≤_;omega
 ·simp only[hk,reduceIte,Int.reduceEq,Nat.zero_add]at G6⊢
  cases ht:c.trip e.i with
  |none=>show Z0 c.sp≤_;omega
  |some t=>
   show Z0 ((c.sp.set t.bk.toNat (c.spt e.b)).set e.b.toNat ⟨3,0,e.i,false⟩)≤_
   have h1:=kQ (c.sp.set t.bk.toNat (c.spt e.b)) e.b.toNat ⟨3,0,e.i,false⟩
   rw[if_neg (by rw[Ai4 (by decide) (by decide)];decide)]at h1
   have h2:=kQ c.sp t.bk.toNat (c.spt e.b)
   split at h2<;>omega
 ·simp only[hk,reduceIte,Int.reduceEq,Nat.zero_add,true_or,or_false,decide_true,decide_false]at G6⊢
  split at G6
  ·cases G6
  ·rename_i h1
   have hw:(c.spt e.b).w=3:=by simpa using h1
   show Z0 (c.sp.set e.b.toNat _)≤_;have h2:=kQ c.sp e.b.toNat (⟨(c.spt e.b).w,(c.spt e.b).p,(c.spt e.b).r,true⟩:D8);split at h2<;>omega
 ·simp only[hk,reduceIte,Int.reduceEq,Nat.zero_add,or_true,false_or,decide_true,decide_false]at G6⊢
  split at G6
  ·cases G6
  ·rename_i h1
   show Z0 (c.sp.set e.b.toNat _)≤_;have h2:=kQ c.sp e.b.toNat (⟨(c.spt e.b).w,(c.spt e.b).p,(c.spt e.b).r,false⟩:D8);split at h2<;>omega
 ·simp only[hk,reduceIte,Int.reduceEq,Nat.zero_add,or_self];exact mT _ _ _
 ·simp only[hk,reduceIte,Int.reduceEq,Nat.zero_add,or_self];exact mT _ _ _
 ·simp only[hk,reduceIte,Int.reduceEq,Nat.zero_add,or_self];exact mT _ _ _
theorem vB (f:G4):∀(l:List Ev) (c:C5),2*((O4 f c l).filter fun e=>decide (e.k=3)).length≤l.length+Z0 c.sp
 |[],c=>by simp[O4]
 |e :: l,c=>by
  unfold O4;split
  ·rename_i ho
   have h1:=AT4 ho;have h2:=vB f l (S6 c e);rw[List.filter_cons];by_cases h3:e.k=3
   ·rw[if_pos h3]at h1;simp only[h3,decide_true,if_true,List.length_cons];omega
   ·rw[if_neg h3]at h1;simp only[h3,decide_false,Bool.false_eq_true,if_false,List.length_cons];omega
  ·have h2:=vB f l c
   simp only[List.length_cons];omega
theorem Ai5 (s:D7) (k:Nat) (a t:Int):(V2 s k a t).rs.length=s.rs.length:=by
 unfold V2 D7.setR;split<;>simp
theorem vC (s:D7) (b:Int) (x:D8) (a t:Int):(Y8 s b x a t).rs.length=s.rs.length:=by
 unfold Y8;dsimp only;split
 ·rfl
 ·unfold D7.setR
  simp[Ai5]
theorem Ai6 (s:D7) (e:Ev):(V7 s e).rs.length=s.rs.length+(if e.k=3 then 1 else 0):=by
 unfold V7;by_cases h3:e.k=3
 ·simp[h3,Y9]
 ·simp only[h3,if_false,Nat.add_zero]
  by_cases h4:e.k=4
  ·simp only[h4,if_true]
   unfold dK;split
   ·rfl
   ·unfold D7.setR;simp
  ·by_cases h5:e.k=5
   ·simp only[h5,if_true,reduceIte,Int.reduceEq]
    split
    ·rfl
    ·unfold D7.setR;simp
   ·by_cases h6:e.k=6
    ·simp only[h6,reduceIte,Int.reduceEq]
     split
     ·rfl
     ·rw[Ai5]
    ·simp only[h4,h5,h6,if_false]
     split
     ·rw[vC]
     ·split
      ·rw[vC]
      ·split
       ·rw[vC]
       ·rfl
theorem Ai7:∀(l:List Ev) (s:D7),(l.foldl V7 s).rs.length=s.rs.length+(l.filter fun e=>decide (e.k=3)).length
 |[],s=>by simp
 |e :: l,s=>by
  rw[List.foldl_cons,Ai7 l,Ai6,List.filter_cons];by_cases h3:e.k=3
  ·simp only[h3,if_true,decide_true,List.length_cons];omega
  ·simp only[h3,if_false,decide_false,Bool.false_eq_true];omega
theorem AT5 (n:Nat):Z0 (P4 n).sp=0:=by
 unfold Z0 P4;rw[List.length_eq_zero_iff,List.filter_eq_nil_iff];intro x hx;rw[List.mem_replicate]at hx;rw[hx.2];decide
theorem Ai8 (f:G4) (l:List Ev):2*(dL f l).length≤l.length:=by
 unfold dL;rw[Ai7];have h:=vB f l (P4 f.bk.toNat);rw[AT5]at h;simp only[Q3,List.length_nil];omega
theorem AT6 {f:G4} {l:List Ev} (hp:l.Pairwise (fun x y=>x.a≤y.a)) (hl:l.length≤512):∃(c':C5) (T':Int) (N':Nat),N'≤l.length∧JI f.bk.toNat c' ((O4 f (P4 f.bk.toNat) l).foldl V7 (Q3 f.bk.toNat)) T' N':=by
 obtain⟨T,hT⟩:∃T:Int,∀e∈l,T≤e.a:=by
  cases l with
  |nil=>exact⟨0,fun e he=>by cases he⟩
  |cons e l=>
   rw[List.pairwise_cons]at hp
   refine⟨e.a,fun x hx=>?_⟩
   rcases List.mem_cons.1 hx with rfl|hx
   ·exact Int.le_refl _
   ·exact hp.1 x hx
 obtain⟨c',T',N',h,J⟩:=JI.all (f:=f) rfl l _ _ T 0 (Ai0 f.bk.toNat T) hT hp (by omega);exact⟨c',T',N',by omega,J⟩
theorem AT7 {f:G4} {l:List Ev} (hp:l.Pairwise (fun x y=>x.a≤y.a)) (hl:l.length≤512):(dL f l).Pairwise fun x y=>x.id≠y.id:=by
 obtain⟨c',T',N',_,J⟩:=AT6 (f:=f) hp hl;unfold dL;generalize(O4 f (P4 f.bk.toNat) l).foldl V7 (Q3 f.bk.toNat)=s at *;rw[List.pairwise_iff_getElem];intro i j hi hj hij e;have h1:=J.ids i hi;have h2:=J.ids j hj;have e1:s.rat i=s.rs[i]:=by unfold D7.rat;rw[A6,A4 hi];rfl
 have e2:s.rat j=s.rs[j]:=by unfold D7.rat;rw[A6,A4 hj];rfl
 rw[e1,e]at h1;rw[e2,h1]at h2;have:=Option.some.inj h2;omega
def bG (l:List A9):List A9:=l.mergeSort fun x y=>decide (x.id≤y.id)
theorem jE (l:List A9):(bG l).Perm l:=List.mergeSort_perm _ _
theorem Ai9 (l:List A9):(bG l).Pairwise fun x y=>x.id≤y.id:=by
 have:=List.pairwise_mergeSort (le:=fun x y:A9=>decide (x.id≤y.id)) (fun x y z h1 h2=>by simp at *;omega) (fun x y=>by simp;omega) l;exact this.imp fun h=>by simpa using h
theorem Aj0 {l m:List A9} (hp:m.Perm l) (hs:m.Pairwise fun x y=>x.id≤y.id) (hd:l.Pairwise fun x y=>x.id≠y.id):m=bG l:=by
 have hd':∀{x y},x∈l→y∈l→x.id=y.id→x=y:=fun{x y} hx hy e=>by
  obtain⟨i,hi,rfl⟩:=List.mem_iff_getElem.1 hx;obtain⟨j,hj,rfl⟩:=List.mem_iff_getElem.1 hy;rw[List.pairwise_iff_getElem]at hd;rcases Nat.lt_trichotomy i j with h|h|h
  ·exact absurd e (hd i j hi hj h)
  ·subst h;rfl
  ·exact absurd e.symm (hd j i hj hi h)
 refine List.Perm.eq_of_pairwise (le:=fun x y:A9=>x.id≤y.id) (fun x y hx hy h1 h2=>?_) hs (Ai9 l) (hp.trans (jE l).symm);exact hd' (hp.subset hx) ((jE l).subset hy) (by omega)
end
section
structure CI (n:Nat) (c:C5):Prop where
 n1:c.sp.length=n
 on:∀b,b<n→(c.sp.getD b default).w=3→∃t,((c.sp.getD b default).r,t)∈c.op∧t.bk=((b:Nat):Int)
 trip:∀x∈c.op,∃b:Nat,x.2.bk=(b:Int)∧b<n∧(c.sp.getD b default).w=3∧(c.sp.getD b default).r=x.1
 keys:(c.op.map (·.1)).Nodup
 us:∀x∈c.op,x.1∈c.us
theorem AT8 (n:Nat):CI n (P4 n) where
 n1:=by simp[P4]
 on:=fun b hb h=>by
  simp[P4,A6,List.getElem?_replicate,hb]at h
 trip:=fun x hx=>by simp[P4]at hx
 keys:=by simp[P4]
 us:=fun x hx=>by simp[P4]at hx
theorem vD {l:List (Int×N7)} (h:(l.map (·.1)).Nodup) {i:Int} {s t:N7} (h1:(i,s)∈l) (h2:(i,t)∈l):s=t:=by
 induction l with
 |nil=>simp at h1
 |cons x l ih=>
  simp only[List.map_cons,List.nodup_cons]at h
  rcases List.mem_cons.1 h1 with e1|h1
  ·rcases List.mem_cons.1 h2 with e2|h2
   ·rw[←e1]at e2;cases e2;rfl
   ·exact absurd (List.mem_map.2 ⟨_,h2,by rw[←e1]⟩) h.1
  ·rcases List.mem_cons.1 h2 with e2|h2
   ·exact absurd (List.mem_map.2 ⟨_,h1,by rw[←e2]⟩) h.1
   ·exact ih h.2 h1 h2
theorem pY {c:C5} {i:Int} {t:N7} (h:c.trip i=some t):(i,t)∈c.op:=by
 unfold C5.trip at h
 cases hf:c.op.find? (fun x=>decide (x.1=i))with
 |none=>rw[hf]at h;cases h
 |some x=>
  rw[hf]at h
  simp only[Option.map_some,Option.some.injEq]at h
  have h1:=List.find?_some hf
  simp only[decide_eq_true_eq]at h1
  have h2:=List.mem_of_find?_eq_some hf
  subst h;subst h1;exact h2
theorem AT9 {c:C5} (hk:(c.op.map (·.1)).Nodup) {i:Int} {t:N7} (h:(i,t)∈c.op):c.trip i=some t:=by
 unfold C5.trip
 cases hf:c.op.find? (fun x=>decide (x.1=i))with
 |none=>have:=List.find?_eq_none.1 hf _ h;simp at this
 |some x=>
  have h1:=List.find?_some hf
  simp only[decide_eq_true_eq]at h1
  have h2:=List.mem_of_find?_eq_some hf
  have:(i,x.2)∈c.op:=by rw[←h1];exact h2
  simp[vD hk this h]
theorem CI.leave {n:Nat} {c:C5} (h:CI n c) {b:Nat} (hb:b<n) (x:D8) (hx:x.w≠3):CI n (c.leave (b:Int) x):=by
 have hbl:b<c.sp.length:=by rw[h.n1];exact hb
 by_cases hw:(c.sp.getD b default).w=3
 ·have he:c.leave (b:Int) x={c with sp:=c.sp.set b x,op:=c.op.filter fun y=>decide (y.1≠(c.sp.getD b default).r)}:=by
   unfold C5.leave C5.put C5.spt;simp only[Int.toNat_natCast];rw[if_pos hw]
  rw[he];obtain⟨t0,ht0,hbk0⟩:=h.on b hb hw;refine⟨by simp[h.n1],fun b' hb' h3=>?_,fun y hy=>?_,?_,fun y hy=>?_⟩
  ·simp only[j5 _ _ _ _ _ hbl]at h3⊢
   by_cases e:b'=b
   ·rw[if_pos e]at h3;exact absurd h3 hx
   ·rw[if_neg e]at h3⊢
    obtain⟨t,ht,hbk⟩:=h.on b' hb' h3;refine⟨t,List.mem_filter.2 ⟨ht,?_⟩,hbk⟩;simp only[decide_eq_true_eq];intro e2;rw[e2]at ht;have:=vD h.keys ht ht0;subst this;omega
  ·obtain⟨hy,hne⟩:=List.mem_filter.1 hy
   simp only[decide_eq_true_eq]at hne;obtain⟨b',h1,h2,h3,h4⟩:=h.trip y hy;refine⟨b',h1,h2,?_⟩;simp only[j5 _ _ _ _ _ hbl];by_cases e:b'=b
   ·subst e;exact absurd h4.symm hne
   ·rw[if_neg e];exact⟨h3,h4⟩
  ·exact(List.Sublist.map _ List.filter_sublist).nodup h.keys
  ·exact h.us y (List.mem_filter.1 hy).1
 ·have he:c.leave (b:Int) x={c with sp:=c.sp.set b x}:=by
   unfold C5.leave C5.put C5.spt;simp only[Int.toNat_natCast];rw[if_neg hw]
  rw[he];refine⟨by simp[h.n1],fun b' hb' h3=>?_,fun y hy=>?_,h.keys,h.us⟩
  ·simp only[j5 _ _ _ _ _ hbl]at h3⊢
   by_cases e:b'=b
   ·rw[if_pos e]at h3;exact absurd h3 hx
   ·rw[if_neg e]at h3⊢;exact h.on b' hb' h3
  ·obtain⟨b',h1,h2,h3,h4⟩:=h.trip y hy
   refine⟨b',h1,h2,?_⟩;simp only[j5 _ _ _ _ _ hbl];by_cases e:b'=b
   ·subst e;exact absurd h3 hw
   ·rw[if_neg e];exact⟨h3,h4⟩
theorem Aj1 (c:C5) (i:Int) (g:N7→N7):(c.setT i g).op.map (·.1)=c.op.map (·.1):=by
 unfold C5.setT;simp only[List.map_map];apply List.map_congr_left;intro x _;simp only[Function.comp];split<;>rfl
theorem Aj2 {c:C5} {i:Int} {g:N7→N7} {j:Int} {t:N7} (h:(j,t)∈c.op):(j,if j=i then g t else t)∈(c.setT i g).op:=by
 unfold C5.setT;refine List.mem_map.2 ⟨_,h,?_⟩;show(if j=i then(j,g t)else(j,t))= _;split<;>rfl
theorem pZ {c:C5} {i:Int} {g:N7→N7} {y:Int×N7} (h:y∈(c.setT i g).op):∃t,(y.1,t)∈c.op∧y.2=if y.1=i then g t else t:=by
 unfold C5.setT at h;obtain⟨x,hx,rfl⟩:=List.mem_map.1 h;refine⟨x.2,?_,?_⟩
 ·split<;>exact hx
 ·by_cases e:x.1=i
  ·simp[e]
  ·simp[e]
theorem CI.tick {n:Nat} {c:C5} (h:CI n c) {b:Nat} (hb:b<n) (z:Bool):CI n ((c.put (b:Int) {c.spt (b:Int)with z:=z}).setT (c.spt (b:Int)).r fun t=>{t with z:=z}):=by
 have hbl:b<c.sp.length:=by rw[h.n1];exact hb
 have hg:∀b',((c.sp.set b {c.sp.getD b default with z:=z}).getD b' default).w=(c.sp.getD b' default).w∧((c.sp.set b {c.sp.getD b default with z:=z}).getD b' default).r=(c.sp.getD b' default).r:=fun b'=>by
  rw[j5 _ _ _ _ _ hbl];by_cases e:b'=b
  ·subst e;rw[if_pos rfl];exact⟨rfl,rfl⟩
  ·rw[if_neg e];exact⟨rfl,rfl⟩
 have hs:((c.put (b:Int) {c.spt (b:Int)with z:=z}).setT (c.spt (b:Int)).r fun t=>{t with z:=z}).sp=c.sp.set b {c.sp.getD b default with z:=z}:=by
  unfold C5.setT C5.put C5.spt;simp only[Int.toNat_natCast]
 refine⟨by rw[hs];simp[h.n1],fun b' hb' h3=>?_,fun y hy=>?_,?_,fun y hy=>?_⟩
 ·rw[hs]at h3⊢
  rw[(hg b').1]at h3;rw[(hg b').2];obtain⟨t,ht,hbk⟩:=h.on b' hb' h3;refine⟨_,Aj2 (c:=c.put (b:Int) {c.spt (b:Int)with z:=z}) ht,?_⟩;split<;>exact hbk
 ·obtain⟨t,ht,e⟩:=pZ hy
  obtain⟨b',h1,h2,h3,h4⟩:=h.trip (y.1,t) ht;refine⟨b',?_,h2,?_⟩
  ·rw[e];split<;>exact h1
  ·rw[hs,(hg b').1,(hg b').2];exact⟨h3,h4⟩
 ·rw[Aj1];exact h.keys
 ·obtain⟨t,ht,_⟩:=pZ hy
  exact h.us (y.1,t) ht
theorem CI.begins {n:Nat} {c:C5} (h:CI n c) {b:Nat} (hb:b<n) (hw:(c.sp.getD b default).w≠3) {i r:Int} (hi:i∉c.us):
 CI n {(c.put (b:Int) ⟨3,0,i,false⟩)with op:=c.op ++ [(i,⟨r,(b:Int),false⟩)],us:=c.us ++ [i]}:=by
 have hbl:b<c.sp.length:=by rw[h.n1];exact hb
 refine⟨by simp[C5.put,h.n1],fun b' hb' h3=>?_,fun y hy=>?_,?_,fun y hy=>?_⟩
 ·simp only[C5.put,Int.toNat_natCast,j5 _ _ _ _ _ hbl]at h3⊢
  by_cases e:b'=b
  ·subst e
   rw[if_pos rfl];exact⟨⟨r,_,false⟩,by simp,rfl⟩
  ·rw[if_neg e]at h3⊢
   obtain⟨t,ht,hbk⟩:=h.on b' hb' h3;exact⟨t,List.mem_append_left _ ht,hbk⟩
 ·simp only[C5.put,Int.toNat_natCast,j5 _ _ _ _ _ hbl]
  rcases List.mem_append.1 hy with hy|hy
  ·obtain⟨b',h1,h2,h3,h4⟩:=h.trip y hy
   refine⟨b',h1,h2,?_⟩;rw[if_neg (fun e:b'=b=>hw (e ▸ h3))];exact⟨h3,h4⟩
  ·simp at hy;subst hy
   exact⟨b,rfl,hb,by rw[if_pos rfl];exact⟨rfl,rfl⟩⟩
 ·rw[List.map_append,List.nodup_append]
  refine⟨h.keys,by simp,fun x hx y hy e=>?_⟩;simp at hy;subst hy;subst e;obtain⟨z,hz,e⟩:=List.mem_map.1 hx;exact hi (e ▸ h.us z hz)
 ·rcases List.mem_append.1 hy with hy|hy
  ·exact List.mem_append_left _ (h.us y hy)
  ·simp at hy;subst hy;simp
theorem CI.swap {n:Nat} {c:C5} (h:CI n c) {b:Nat} (hb:b<n) (hw:(c.sp.getD b default).w≠3) {i:Int} {t:N7} (ht:(i,t)∈c.op):
 CI n (((c.put t.bk (c.spt (b:Int))).put (b:Int) ⟨3,0,i,false⟩).setT i fun t=>{t with bk:=(b:Int)}):=by
 obtain⟨o,ho,hon,h3,h4⟩:=h.trip _ ht;have ho':t.bk=(o:Int):=ho;have hob:o≠b:=fun e=>hw (e ▸ h3);have hol:o<c.sp.length:=by rw[h.n1];exact hon
 have hbl:b<(c.sp.set o (c.sp.getD b default)).length:=by simp[h.n1,hb]
 have hs:(((c.put t.bk (c.spt (b:Int))).put (b:Int) ⟨3,0,i,false⟩).setT i fun t=>{t with bk:=(b:Int)}).sp=(c.sp.set o (c.sp.getD b default)).set b ⟨3,0,i,false⟩:=by
  unfold C5.setT C5.put C5.spt;rw[ho'];simp only[Int.toNat_natCast]
 have hg:∀b',((c.sp.set o (c.sp.getD b default)).set b (⟨3,0,i,false⟩:D8)).getD b' default=if b'=b then⟨3,0,i,false⟩else if b'=o then c.sp.getD b default else c.sp.getD b' default:=fun b'=>by
  rw[j5 _ _ _ _ _ hbl,j5 _ _ _ _ _ hol]
 have hm:∀{j:Int} {u:N7},(j,u)∈c.op→(j,if j=i then{u with bk:=(b:Int)}else u)∈(((c.put t.bk (c.spt (b:Int))).put (b:Int) ⟨3,0,i,false⟩).setT i fun t=>{t with bk:=(b:Int)}).op:=fun hj=>Aj2 (c:=(c.put t.bk (c.spt (b:Int))).put (b:Int) ⟨3,0,i,false⟩) hj;refine⟨by rw[hs];simp[h.n1],fun b' hb' hw'=>?_,fun y hy=>?_,?_,fun y hy=>?_⟩
 ·rw[hs,hg]at hw'⊢
  by_cases e:b'=b
  ·subst e
   rw[if_pos rfl];refine⟨_,hm ht,?_⟩;rw[if_pos rfl]
  ·rw[if_neg e]at hw'⊢
   by_cases e2:b'=o
   ·rw[if_pos e2]at hw';exact absurd hw' hw
   ·rw[if_neg e2]at hw'⊢
    obtain⟨u,hu,hbk⟩:=h.on b' hb' hw';refine⟨_,hm hu,?_⟩;rw[if_neg ?_]
    ·exact hbk
    ·intro e3
     rw[e3]at hu;have:=vD h.keys hu ht;subst this;omega
 ·obtain⟨u,hu,e⟩:=pZ hy
  by_cases ey:y.1=i
  ·refine⟨b,by rw[e,if_pos ey],hb,?_⟩
   rw[hs,hg,if_pos rfl];exact⟨rfl,ey.symm⟩
  ·obtain⟨b',h1,h2,h5,h6⟩:=h.trip (y.1,u) hu
   refine⟨b',by rw[e,if_neg ey];exact h1,h2,?_⟩;rw[hs,hg,if_neg (fun e3:b'=b=>hw (e3 ▸ h5)),if_neg (fun e3:b'=o=>ey (by have h6':(c.sp.getD b' default).r=y.1:=h6;rw[←h6',e3];exact h4))];exact⟨h5,h6⟩
 ·rw[Aj1];exact h.keys
 ·obtain⟨u,hu,_⟩:=pZ hy
  exact h.us (y.1,u) hu
structure OkF (f:G4) (c:C5) (e:Ev) (b:Nat):Prop where
 hb:e.b=(b:Int)
 hbn:b<f.bk.toNat
 k1:1≤e.k
 k9:e.k≤9
 hs:e.k=3→(c.sp.getD b default).w≠3∧e.i∉c.us
 hc:e.k=4→(c.sp.getD b default).w≠3∧∃t,c.trip e.i=some t
 hp:e.k=5∨e.k=6→(c.sp.getD b default).w=3
 hl:e.k=7→(c.sp.getD b default).w≠3
 hh:e.k=8→(c.sp.getD b default).w≠3
theorem Aj3 {f:G4} {c:C5} {e:Ev} (ho:V1 f c e=true):∃b,OkF f c e b:=by
 unfold V1 at ho;simp only[Bool.and_eq_true,decide_eq_true_eq]at ho;obtain⟨⟨hev,hk10⟩,G6⟩:=ho;obtain⟨⟨hb0,hb1⟩,hv,⟨hk1,hk2⟩,hpl,hnm,hfl⟩:=jD hev;obtain⟨b,hb⟩:∃b:Nat,e.b=(b:Int):=⟨e.b.toNat,by omega⟩
 have hsp:c.spt e.b=c.sp.getD b default:=by unfold C5.spt;rw[hb,Int.toNat_natCast]
 unfold I6 at G6;rw[hsp]at G6;refine⟨b,hb,by omega,hk1,by omega,fun hk=>?_,fun hk=>?_,fun hk=>?_,fun hk=>?_,fun hk=>?_⟩
 ·simp only[hk,if_true,if_false,reduceIte,Int.reduceEq,or_self,or_false,false_or]at G6
  split at G6
  ·cases G6
  ·rename_i h1
   split at G6
   ·cases G6
   ·rename_i h2
    exact⟨fun h=>h1 (by unfold Q9;rw[h];rfl),by simpa using h2⟩
 ·simp only[hk,if_true,if_false,reduceIte,Int.reduceEq,or_self,or_false,false_or]at G6
  cases htr:c.trip e.i with
  |none=>rw[htr]at G6;cases G6
  |some t0=>
   rw[htr]at G6
   dsimp only at G6
   split at G6
   ·cases G6
   ·rename_i h1
    exact⟨fun h=>h1 (by unfold Q9;rw[h];rfl),t0,rfl⟩
 ·have h5:¬e.k=1∧¬e.k=2∧¬e.k=3∧¬e.k=4:=by omega
  rw[if_neg h5.1,if_neg h5.2.1,if_neg h5.2.2.1,if_neg h5.2.2.2,if_pos hk]at G6;split at G6
  ·cases G6
  ·rename_i h1;simpa using h1
 ·simp only[hk,if_true,if_false,reduceIte,Int.reduceEq,or_self,or_false,false_or]at G6
  split at G6
  ·cases G6
  ·rename_i h1;omega
 ·simp only[hk,if_true,if_false,reduceIte,Int.reduceEq,or_self,or_false,false_or]at G6
  split at G6
  ·cases G6
  ·rename_i h1;omega
theorem CI.step {f:G4} {n:Nat} {c:C5} {e:Ev} (h:CI n c) (hn:n=f.bk.toNat) (ho:V1 f c e=true):CI n (S6 c e):=by
 obtain⟨b,k⟩:=Aj3 ho;have hbn:b<n:=by rw[hn];exact k.hbn
 have cs:e.k=1∨e.k=2∨e.k=3∨e.k=4∨e.k=5∨e.k=6∨e.k=7∨e.k=8∨e.k=9:=by have:=k.k1;have:=k.k9;omega
 unfold S6;rcases cs with hk|hk|hk|hk|hk|hk|hk|hk|hk<;>simp only[hk,if_true,if_false,reduceIte,Int.reduceEq,or_self,or_false,false_or,true_or,or_true]
 ·rw[k.hb];exact h.leave hbn _ (by simp)
 ·rw[k.hb];exact h.leave hbn _ (by simp)
 ·rw[k.hb];exact h.begins hbn (k.hs hk).1 (k.hs hk).2
 ·obtain⟨hw,t,ht⟩:=k.hc hk
  rw[ht];dsimp only;rw[k.hb];exact h.swap hbn hw (pY ht)
 ·rw[k.hb];exact h.tick hbn _
 ·rw[k.hb];exact h.tick hbn _
 ·rw[k.hb];exact h.leave hbn _ (by simp)
 ·rw[k.hb];exact h.leave hbn _ (by simp)
 ·rw[k.hb];exact h.leave hbn _ (by simp)
end
section
structure K2 where
 fr:Int
 un:Int
 st:Int
 fe:Int
 pr:Int
 pa:Int
instance:Inhabited K2:=⟨⟨0,0,0,0,0,0⟩⟩
def K2.cs (x:K2):List Value:=[.int .i64 x.fr,.int .i64 x.un,.int .i64 x.st,.int .i64 x.fe,.int .i64 x.pr,.int .i64 x.pa]
theorem K2.len (x:K2):x.cs.length=6:=rfl
def O1 (t:K2):Bool:=C6 t.fr 0 4294943999 && C6 t.un 0 1000000 && C6 t.pr 0 1000000 && C6 t.pa 0 1000000 && C6 t.st 1 86400 && C6 t.fe 0 86400
def fA:Int→List K2→Int
 | _,[]=>0
 |last,t :: l=>if O1 t=false then 1 else if(last<0∧t.fr≠0)∨(0≤last∧t.fr≤last)then 9 else fA t.fr l
def S3 (l:List K2):Int:=if l.length=0 then 10 else if 8<l.length then 8 else fA (-1) l
def t7 (t:K2) (s:Int):Int:=(max s 0+t.st-1)/t.st
def M0 (t:K2) (s:Int):Int:=t.pr*t7 t (s-t.fe)
def O6 (t:K2) (s:Int):Int:=t.pa*t7 t s
def K2.z (t:K2):K2:={t with fr:=0}
def S7 (t:K2) (s n:Int):Int:=if O1 t.z=false then 1 else if s<0∨4294944000<s then 1 else if 1000000000000<n then 2 else 0
theorem Aj4 (t:K2):S3 [t.z]=if O1 t.z=false then 1 else 0:=by
 unfold S3 fA fA;rw[if_neg (by simp),if_neg (by simp)];by_cases h:O1 t.z=false
 ·rw[if_pos h,if_pos h]
 ·rw[if_neg h,if_neg h,if_neg (fun hh=>by rcases hh with⟨_,h2⟩|⟨h1,_⟩;exact h2 rfl;omega)]
theorem iA {t:K2} (h:O1 t=true):0≤t.un∧t.un≤1000000∧0≤t.pr∧t.pr≤1000000∧0≤t.pa∧t.pa≤1000000∧1≤t.st∧t.st≤86400∧0≤t.fe∧t.fe≤86400:=by
 simp[O1,C6]at h;omega
theorem AU1 {t:K2} (h:1≤t.st) {s s':Int} (hs:s≤s'):t7 t s≤t7 t s':=Int.ediv_le_ediv (by omega) (by omega)
theorem qA {t:K2} (h:1≤t.st) {s:Int}:0≤t7 t s∧t7 t s≤max s 0:=by
 constructor
 ·exact Int.ediv_nonneg (by omega) (by omega)
 ·unfold t7
  have h1:(max s 0+t.st-1)/t.st<max s 0+1:=by
   refine Int.ediv_lt_of_lt_mul (by omega) ?_;have:(max s 0)*1≤(max s 0)*t.st:=Int.mul_le_mul_of_nonneg_left h (by omega);rw[Int.add_mul];omega
  omega
theorem AU2 {t:K2} (h:1≤t.st) (h2:0≤t.pr) {s s':Int} (hs:s≤s'):M0 t s≤M0 t s':=Int.mul_le_mul_of_nonneg_left (AU1 h (by omega)) h2
end
end Go.Proofs.YtmmlmhnjjfnpnaaGreat
