/- Texts that belong together. -/
import Derived.Test.YtmmlmhnjjfnpnaaGreatTpMe
import Derived.Test.YtmmlmhnjjfnpnaaGreatTpMk
set_option linter.all false
namespace Go.Proofs.YtmmlmhnjjfnpnaaGreat
structure Flt where
 bk:Int
 rd:Int
 dv:Int
 dk:List Int
 tk:List Int
def wthB (n lo hi:Int):Bool:=decide (lo≤n) && decide (n≤hi)
def fltE (f:Flt):Int:=
 if !(wthB f.bk 1 128 && wthB f.rd 1 128 && wthB f.dv 1 256)then 1
 else if f.dk.length>32∨f.tk.length>8 then 8
 else if !(f.dk.all (fun n=>wthB n 1 32) && f.tk.all (fun n=>wthB n 1 32))then 1 else 0
def plcB (f:Flt) (e:Ev):Bool:=
 if e.k=1 then decide (0≤e.p) && decide (e.p/32<f.dk.length) && decide (e.p % 32<at0 f.dk (e.p/32).toNat)
 else if e.k=2 then wthB e.p 0 63
 else if e.k=7 then wthB e.p 0 ((f.tk.length:Int)-1)
 else decide (e.p=0)
def namB (f:Flt) (e:Ev):Bool:=
 (if e.k=3 then wthB e.r 0 (f.rd-1)else decide (e.r=0)) && (if e.k=3∨e.k=4 then wthB e.i 1 1000000 else decide (e.i=0))
def evcE (f:Flt) (e:Ev):Int:=
 if fltE f≠0 then fltE f
 else if !(wthB e.d 0 (f.dv-1) && wthB e.q 1 1048576 && decide (0≤e.a) && decide (e.a≤e.t) && decide (e.t≤4294943999))then 1
 else if !wthB e.k 1 10 then 14
 else if !(wthB e.b 0 (f.bk-1)) || (decide (e.k=10) && decide (e.b≠0))then 1
 else if !plcB f e then 7
 else if !namB f e then 1 else 0
structure Spt where
 w:Int
 p:Int
 r:Int
 z:Bool
instance:Inhabited Spt:=⟨⟨0,0,0,false⟩⟩
structure Trp where
 rd:Int
 bk:Int
 z:Bool
structure Cus where
 sp:List Spt
 op:List (Int×Trp)
 us:List Int
def Cus.spt (c:Cus) (b:Int):Spt:=c.sp.getD b.toNat default
def Cus.trip (c:Cus) (i:Int):Option Trp:=(c.op.find? fun x=>decide (x.1=i)).map (·.2)
def Cus.cnt (c:Cus) (w p:Int):Int:=((c.sp.filter fun x=>decide (x.w=w) && decide (x.p=p)).length:Nat)
def Cus.rides (c:Cus) (r:Int):Bool:=c.op.any fun x=>decide (x.2.rd=r)
def prkB (x:Spt):Bool:=decide (x.w=1) || decide (x.w=2)
def cus0 (n:Nat):Cus:=⟨List.replicate n ⟨5,0,0,false⟩,[],[]⟩
def chkE' (f:Flt) (c:Cus) (e:Ev):Int:=
 let x:=c.spt e.b
 if e.k=1 then(if !prkB x && decide (0<c.cnt 1 e.p)then 22 else if prkB x then 23 else 0)
 else if e.k=2 then(if prkB x then 23 else 0)
 else if e.k=3 then(if !prkB x then 23 else if c.us.contains e.i then 6 else if c.rides e.r then 22 else 0)
 else if e.k=4 then(match c.trip e.i with|none=>7|some t=>if !prkB x then 23 else if t.z then 12 else 0)
 else if e.k=5∨e.k=6 then(if x.w≠3 then 23 else if x.z=decide (e.k=5)then 12 else 0)
 else if e.k=7 then(if x.w=3∨x.w=4 then 23 else if at0 f.tk e.p.toNat≤c.cnt 4 e.p then 24 else 0)
 else if e.k=8 then(if x.w=3∨x.w=5 then 23 else 0)
 else if e.k=9 then(if x.w=5∨x.w=6 then 23 else 0)
 else 0
def Cus.put (c:Cus) (b:Int) (x:Spt):Cus:={c with sp:=c.sp.set b.toNat x}
def Cus.leave (c:Cus) (b:Int) (x:Spt):Cus:=
 let c':Cus:=if(c.spt b).w=3 then{c with op:=c.op.filter fun y=>decide (y.1≠(c.spt b).r)}else c
 c'.put b x
def Cus.setT (c:Cus) (i:Int) (g:Trp→Trp):Cus:={c with op:=c.op.map fun y=>if y.1=i then(y.1,g y.2)else y}
def doE (c:Cus) (e:Ev):Cus:=
 if e.k=1 then c.leave e.b ⟨1,e.p,0,false⟩
 else if e.k=2 then c.leave e.b ⟨2,e.p,0,false⟩
 else if e.k=3 then{(c.put e.b ⟨3,0,e.i,false⟩)with op:=c.op ++ [(e.i,⟨e.r,e.b,false⟩)],us:=c.us ++ [e.i]}
 else if e.k=4 then(match c.trip e.i with
  |none=>c
  |some t=>((c.put t.bk (c.spt e.b)).put e.b ⟨3,0,e.i,false⟩).setT e.i fun t=>{t with bk:=e.b})
 else if e.k=5∨e.k=6 then
  (c.put e.b {c.spt e.b with z:=decide (e.k=5)}).setT (c.spt e.b).r fun t=>{t with z:=decide (e.k=5)}
 else if e.k=7 then c.leave e.b ⟨4,e.p,0,false⟩
 else if e.k=8 then c.leave e.b ⟨5,0,0,false⟩
 else if e.k=9 then c.leave e.b ⟨6,0,0,false⟩
 else c
def okB (f:Flt) (c:Cus) (e:Ev):Bool:=decide (evcE f e=0) && decide (e.k≠10) && decide (chkE' f c e=0)
def accL (f:Flt):Cus→List Ev→List Ev
 | _,[]=>[]
 |c,e :: l=>if okB f c e then e :: accL f (doE c e) l else accL f c l
structure Sto where
 rs:List Ride
 ix:List (Int×Nat)
 rg:List Int
 pz:List Bool
 sp:List Spt
def sto0 (n:Nat):Sto:=⟨[],[],List.replicate n (-1),[],List.replicate n default⟩
def Sto.rat (s:Sto) (k:Nat):Ride:=s.rs.getD k default
def Sto.setR (s:Sto) (k:Nat) (g:Ride→Ride):Sto:={s with rs:=s.rs.set k (g (s.rat k))}
def lastSet {α:Type} (l:List α) (g:α→α):List α:=
 match l.reverse with
 |[]=>[]
 |x :: r=>(g x :: r).reverse
def Pse.to (p:Pse) (a t:Int):Pse:={p with t0:=a,t1:=t}
def Leg.to (x:Leg) (a t:Int):Leg:={x with t0:=a,t1:=t}
def resumeS (s:Sto) (k:Nat) (a t:Int):Sto:=
 let s':=if s.pz.getD k false then s.setR k fun r=>{r with pauses:=lastSet r.pauses fun p=>p.to a t}else s
 {s' with pz:=s'.pz.set k false}
def leaveS (s:Sto) (b:Int) (x:Spt) (a t:Int):Sto:=
 let s1:Sto:={s with sp:=s.sp.set b.toNat x}
 let k:=at0 s.rg b.toNat
 if k<0 then s1 else
  let s2:=(resumeS s1 k.toNat a t).setR k.toNat fun r=>{r with legs:=lastSet r.legs fun x=>x.to a t,e0:=a,e1:=t,op:=false,wh:=x.w,pl:=x.p}
  {s2 with rg:=s2.rg.set b.toNat (-1)}
def beginS (s:Sto) (e:Ev):Sto:=
 let x:=s.sp.getD e.b.toNat default
 {s with ix:=s.ix ++ [(e.i,s.rs.length)],rg:=s.rg.set e.b.toNat (s.rs.length:Int),pz:=s.pz ++ [false],rs:=s.rs ++ [⟨e.i,e.r,e.a,e.t,0,0,true,none,[⟨e.b,e.a,e.t,0,0⟩],0,none,[],0,x.w,x.p,3,0⟩]}
def Sto.idx (s:Sto) (i:Int):Option Nat:=(s.ix.find? fun x=>decide (x.1=i)).map (·.2)
def changeS (s:Sto) (e:Ev):Sto:=
 match s.idx e.i with
 |none=>s
 |some k=>
  let former:=((s.rat k).legs.getLast?.map (·.b)).getD 0
  {(s.setR k fun r=>{r with legs:=(lastSet r.legs fun x=>x.to e.a e.t) ++ [⟨e.b,e.a,e.t,0,0⟩]})with rg:=(s.rg.set former.toNat (-1)).set e.b.toNat (k:Int),sp:=s.sp.set former.toNat (s.sp.getD e.b.toNat default)}
def tellS (s:Sto) (e:Ev):Sto:=
 let k:=at0 s.rg e.b.toNat
 if e.k=3 then beginS s e
 else if e.k=4 then changeS s e
 else if e.k=5 then(if k<0 then s else{(s.setR k.toNat fun r=>{r with pauses:=r.pauses ++ [⟨e.a,e.t,0,0⟩]})with pz:=s.pz.set k.toNat true})
 else if e.k=6 then(if k<0 then s else resumeS s k.toNat e.a e.t)
 else if e.k=1 then leaveS s e.b ⟨1,e.p,0,false⟩ e.a e.t
 else if e.k=2 then leaveS s e.b ⟨2,e.p,0,false⟩ e.a e.t
 else if e.k=9 then leaveS s e.b ⟨6,0,0,false⟩ e.a e.t
 else s
end Go.Proofs.YtmmlmhnjjfnpnaaGreat
namespace Go.Proofs.YtmmlmhnjjfnpnaaGreat
theorem lastSet_snoc {α:Type} (l:List α) (x:α) (g:α→α):lastSet (l ++ [x]) g=l ++ [g x]:=by
 simp[lastSet]
def psLast:Int→List Pse→Option Int
 |last,[]=>some last
 |last,x :: l=>if last≤x.f0∧x.f0≤x.t0 then psLast x.t0 l else none
theorem psLast_snoc:∀(l:List Pse) (a:Int) (x:Pse) (m:Int),psLast a l=some m→m≤x.f0→x.f0≤x.t0→psLast a (l ++ [x])=some x.t0
 |[],a,x,m,h,h1,h2=>by
  simp only[psLast,Option.some.injEq]at h;subst h;simp[psLast,h1,h2]
 |y :: l,a,x,m,h,h1,h2=>by
  simp only[psLast]at h;split at h
  ·rename_i hc
   simp only[List.cons_append,psLast];rw[if_pos hc];exact psLast_snoc l _ x m h h1 h2
  ·cases h
theorem psesO_of:∀(l:List Pse) (a m e:Int),psLast a l=some m→m≤e→psesO false e a l=true
 |[],a,m,e,h,h1=>by
  simp only[psLast,Option.some.injEq]at h;subst h;simp[psesO,h1]
 |x :: l,a,m,e,h,h1=>by
  simp only[psLast]at h;split at h
  ·rename_i hc
   simp only[psesO,psesO_of l _ m e h h1];simp[hc.1,hc.2]
  ·cases h
theorem chainL_snoc:∀(l:List Leg) (a0 a1 f0 f1:Int) (x:Leg),chainL a0 a1 l f0 f1=true→x.f0=f0→x.f1=f1→chainL a0 a1 (l ++ [x]) x.t0 x.t1=true
 |[],a0,a1,f0,f1,x,h,h1,h2=>by
  simp only[chainL,Bool.and_eq_true,decide_eq_true_eq]at h;simp[chainL,h1,h2,h.1,h.2]
 |y :: l,a0,a1,f0,f1,x,h,h1,h2=>by
  simp only[chainL,Bool.and_eq_true]at h;simp only[List.cons_append,chainL,Bool.and_eq_true];exact⟨h.1,chainL_snoc l _ _ f0 f1 x h.2 h1 h2⟩
theorem legsO_of:∀(l:List Leg),(∀x∈l,x.f0≤x.t0)→legsO false l=true
 |[],_ =>rfl
 |x :: l,h=>by
  simp only[legsO,Bool.and_eq_true];exact⟨by simp[h x (by simp)],legsO_of l fun y hy=>h y (by simp[hy])⟩
structure OpR (r:Ride) (z:Bool) (T:Int) (N:Nat) (b:Nat):Prop where
 hd:1≤r.id∧r.id≤1000000∧0≤r.rd∧r.rd≤127∧vldS r.s0 r.s1=true
 en:r.e0=0∧r.e1=0∧r.op=true∧r.wh=3
 ln:r.legs.length+r.pauses.length≤N
 lg:∃(i:List Leg) (f0 f1:Int),r.legs=i ++ [⟨(b:Int),f0,f1,0,0⟩]∧chainL r.s0 r.s1 i f0 f1=true∧(∀x∈i,legV x=true∧x.f0≤x.t0)∧vldS f0 f1=true∧f0≤T
 ps:∃(i:List Pse) (m:Int),psLast r.s0 i=some m∧(∀x∈i,pseV x=true)∧((z=false∧r.pauses=i∧m≤T)∨(z=true∧∃f0 f1,r.pauses=i ++ [⟨f0,f1,0,0⟩]∧vldS f0 f1=true∧m≤f0∧f0≤T))
def endR (r:Ride) (z:Bool) (w p a t:Int):Ride:={(if z then{r with pauses:=lastSet r.pauses fun q=>q.to a t}else r)with legs:=lastSet r.legs fun x=>x.to a t,e0:=a,e1:=t,op:=false,wh:=w,pl:=p}
theorem vld_i {a t:Int} (h:0≤a∧a≤t∧t≤4294943999):vldS a t=true:=(vldS_iff _ _).2 h
theorem OpR.ends {r:Ride} {z:Bool} {T:Int} {N b:Nat} (h:OpR r z T N b) {a t w p:Int} (hv:0≤a∧a≤t∧t≤4294943999) (hT:T≤a) (hN:N≤512) (hw:w≠3):rideE (endR r z w p a t)=0:=by
 obtain⟨li,f0,f1,hl1,hl2,hl3,hl4,hl5⟩:=h.lg;obtain⟨pi,m,hp1,hp2,hp3⟩:=h.ps;have hln:=h.ln;have hva:=vld_i hv;have hps:∃q:List Pse,(endR r z w p a t).pauses=q∧q.length=r.pauses.length∧(∀x∈q,pseV x=true)∧psesO false a r.s0 q=true:=by
  rcases hp3 with⟨rfl,e,hm⟩|⟨rfl,g0,g1,e,hg,hm1,hm2⟩
  ·exact⟨pi,by simp[endR,e],by rw[e],hp2,psesO_of pi _ m a hp1 (by omega)⟩
  ·refine⟨pi ++ [⟨g0,g1,a,t⟩],by simp[endR,e,lastSet_snoc,Pse.to],by rw[e];simp,fun x hx=>?_,psesO_of _ _ a a (psLast_snoc pi _ ⟨g0,g1,a,t⟩ m hp1 hm1 (by show g0≤a;omega)) (Int.le_refl _)⟩
   rcases List.mem_append.1 hx with hx|hx
   ·exact hp2 x hx
   ·rw[List.mem_singleton]at hx;subst hx
    simp[pseV,hg,hva]
 have hlg:(endR r z w p a t).legs=li ++ [⟨(b:Int),f0,f1,a,t⟩]:=by
  cases z<;>simp[endR,hl1,lastSet_snoc,Leg.to]
 obtain⟨q,hq1,hq2,hq3,hq4⟩:=hps;have hh:(endR r z w p a t).id=r.id∧(endR r z w p a t).rd=r.rd∧(endR r z w p a t).s0=r.s0∧(endR r z w p a t).s1=r.s1∧(endR r z w p a t).e0=a∧(endR r z w p a t).e1=t∧(endR r z w p a t).op=false∧(endR r z w p a t).wh=w:=by
  cases z<;>exact⟨rfl,rfl,rfl,rfl,rfl,rfl,rfl,rfl⟩
 generalize endR r z w p a t=E at *;obtain⟨g1,g2,g3,g4,g5,g6,g7,g8⟩:=hh;obtain⟨d1,d2,d3,d4,d5⟩:=h.hd;have hrn:rangedB E=true:=by
  unfold rangedB headV;rw[g1,g2,g3,g4,g5,g6,hlg,hq1];simp only[Bool.and_eq_true,decide_eq_true_eq,List.all_eq_true];refine⟨⟨⟨⟨⟨⟨⟨d1,d2⟩,d3⟩,d4⟩,d5⟩,hva⟩,fun x hx=>?_⟩,hq3⟩;rcases List.mem_append.1 hx with hx|hx
  ·exact(hl3 x hx).1
  ·rw[List.mem_singleton]at hx;subst hx
   simp[legV,hl4,hva]
 have hjn:joinedB E=true:=by
  unfold joinedB;rw[g3,g4,g5,g6,hlg,hq1];rw[hl1]at hln;simp only[List.length_append,List.length_singleton]at hln⊢;simp only[Bool.and_eq_true,decide_eq_true_eq];exact⟨⟨⟨by omega,by omega⟩,by omega⟩,chainL_snoc li _ _ f0 f1 ⟨(b:Int),f0,f1,a,t⟩ hl2 rfl rfl⟩
 have hor:orderedB E=true:=by
  unfold orderedB;rw[g3,g5,g7,hlg,hq1,hq4,legsO_of _ fun x hx=>?_]
  ·simp
  ·rcases List.mem_append.1 hx with hx|hx
   ·exact(hl3 x hx).2
   ·rw[List.mem_singleton]at hx;subst hx
    show f0≤a;omega
 have hst:stateB E=false:=by
  unfold stateB;rw[g7,g8,decide_eq_false hw];rfl
 unfold rideE;rw[hrn,hjn,hor,hst];simp
end Go.Proofs.YtmmlmhnjjfnpnaaGreat
namespace Go.Proofs.YtmmlmhnjjfnpnaaGreat
theorem at0_set (l:List Int) (k j:Nat) (v:Int) (hk:k<l.length):at0 (l.set k v) j=if j=k then v else at0 l j:=by
 unfold at0;rw[List.getD_eq_getElem?_getD,List.getElem?_set];by_cases e:k=j
 ·subst e;simp[hk]
 ·rw[if_neg e,if_neg (fun h=>e h.symm),←List.getD_eq_getElem?_getD]
theorem getD_set' {α:Type} (l:List α) (k j:Nat) (v d:α) (hk:k<l.length):(l.set k v).getD j d=if j=k then v else l.getD j d:=by
 rw[List.getD_eq_getElem?_getD,List.getElem?_set];by_cases e:k=j
 ·subst e;simp[hk]
 ·rw[if_neg e,if_neg (fun h=>e h.symm),←List.getD_eq_getElem?_getD]
theorem getD_app_lt {α:Type} (l m:List α) (j:Nat) (d:α) (hj:j<l.length):(l ++ m).getD j d=l.getD j d:=by
 rw[List.getD_eq_getElem?_getD,List.getElem?_append_left hj,←List.getD_eq_getElem?_getD]
theorem getD_app_eq {α:Type} (l:List α) (x d:α):(l ++ [x]).getD l.length d=x:=by simp
structure JI (n:Nat) (c:Cus) (s:Sto) (T:Int) (N:Nat):Prop where
 n1:c.sp.length=n
 n2:s.rg.length=n
 n3:s.sp.length=n
 n4:s.pz.length=s.rs.length
 rg:∀b,b<n→at0 s.rg b<(s.rs.length:Int)∧((c.sp.getD b default).w=3↔0≤at0 s.rg b)
 on:∀b k,b<n→at0 s.rg b=(k:Nat)→OpR (s.rat k) (s.pz.getD k false) T N b∧(s.rat k).id=(c.sp.getD b default).r∧(c.sp.getD b default).z=s.pz.getD k false
 inj:∀b b',b<n→b'<n→0≤at0 s.rg b→at0 s.rg b=at0 s.rg b'→b=b'
 ids:∀k,k<s.rs.length→s.idx (s.rat k).id=some k
 us:∀k,k<s.rs.length→(s.rat k).id∈c.us
 us2:∀i,c.us.contains i=false→s.idx i=none
 trip:∀i t,c.trip i=some t→∃b,t.bk=((b:Nat):Int)∧b<n∧(c.sp.getD b default).w=3∧(c.sp.getD b default).r=i∧t.z=(c.sp.getD b default).z
 cl:∀k,k<s.rs.length→(s.rat k).op=false→rideE (s.rat k)=0
theorem OpR.later {r:Ride} {z:Bool} {T T':Int} {N N' b:Nat} (h:OpR r z T N b) (hT:T≤T') (hN:N≤N'):OpR r z T' N' b:=by
 obtain⟨li,f0,f1,hl1,hl2,hl3,hl4,hl5⟩:=h.lg;obtain⟨pi,m,hp1,hp2,hp3⟩:=h.ps;refine⟨h.hd,h.en,Nat.le_trans h.ln hN,⟨li,f0,f1,hl1,hl2,hl3,hl4,by omega⟩,pi,m,hp1,hp2,?_⟩;rcases hp3 with⟨e1,e2,e3⟩|⟨e1,g0,g1,e2,e3,e4,e5⟩
 ·exact Or.inl ⟨e1,e2,by omega⟩
 ·exact Or.inr ⟨e1,g0,g1,e2,e3,e4,by omega⟩
theorem JI.later {n:Nat} {c:Cus} {s:Sto} {T T':Int} {N N':Nat} (h:JI n c s T N) (hT:T≤T') (hN:N≤N'):JI n c s T' N':=
 {h with on:=fun b k hb hk=>⟨(h.on b k hb hk).1.later hT hN,(h.on b k hb hk).2⟩}
theorem ji_start (n:Nat) (T:Int):JI n (cus0 n) (sto0 n) T 0 where
 n1:=by simp[cus0]
 n2:=by simp[sto0]
 n3:=by simp[sto0]
 n4:=rfl
 rg:=fun b hb=>by
  have e1:at0 (sto0 n).rg b= -1:=by simp[sto0,at0,List.getD_eq_getElem?_getD,List.getElem?_replicate,hb]
  have e2:((cus0 n).sp.getD b default).w=5:=by simp[cus0,List.getD_eq_getElem?_getD,List.getElem?_replicate,hb]
  rw[e1,e2];exact⟨by show(-1:Int)<0;decide,by decide⟩
 on:=fun b k hb hk=>by
  have e1:at0 (sto0 n).rg b= -1:=by simp[sto0,at0,List.getD_eq_getElem?_getD,List.getElem?_replicate,hb]
  rw[e1]at hk;omega
 inj:=fun b b' hb hb' h0 _ =>by
  have e1:at0 (sto0 n).rg b= -1:=by simp[sto0,at0,List.getD_eq_getElem?_getD,List.getElem?_replicate,hb]
  rw[e1]at h0;omega
 ids:=fun k hk=>by simp[sto0]at hk
 us:=fun k hk=>by simp[sto0]at hk
 us2:=fun i _ =>rfl
 trip:=fun i t h=>by simp[cus0,Cus.trip]at h
 cl:=fun k hk=>by simp[sto0]at hk
section
variable {n:Nat} {c:Cus} {s:Sto} {T:Int} {N:Nat} (J:JI n c s T N)
include J
theorem JI.k_lt {b k:Nat} (hb:b<n) (hk:at0 s.rg b=(k:Int)):k<s.rs.length:=by
 have:=(J.rg b hb).1;omega
theorem JI.move {b:Nat} (hb:b<n) (h0:at0 s.rg b<0) (x y:Spt) (hx:x.w≠3):JI n (c.put (b:Int) x) {s with sp:=s.sp.set b y} T N:=by
 have hw:(c.sp.getD b default).w≠3:=fun e=>by have:=((J.rg b hb).2).1 e;omega
 have hsp:∀j,((c.put (b:Int) x).sp.getD j default)=if j=b then x else c.sp.getD j default:=fun j=>by
  show(c.sp.set (b:Int).toNat x).getD j default= _;rw[Int.toNat_natCast,getD_set' _ _ _ _ _ (by rw[J.n1];exact hb)]
 refine{J with n1:=?_,n3:=?_,rg:=?_,on:=?_,trip:=?_}
 ·show(c.sp.set _ x).length=n;rw[List.length_set];exact J.n1
 ·show(s.sp.set _ y).length=n;rw[List.length_set];exact J.n3
 ·intro j hj
  refine⟨(J.rg j hj).1,?_⟩;rw[hsp];by_cases e:j=b
  ·subst e;rw[if_pos rfl];exact⟨fun h=>absurd h hx,fun h=>by have:0≤at0 s.rg j:=h;omega⟩
  ·rw[if_neg e];exact(J.rg j hj).2
 ·intro j k hj hk
  have e:j≠b:=fun e=>by subst e;have:at0 s.rg j=(k:Int):=hk;omega
  rw[hsp,if_neg e];exact J.on j k hj hk
 ·intro i t h
  obtain⟨j,h1,h2,h3,h4,h5⟩:=J.trip i t h;have e:j≠b:=fun e=>by subst e;exact hw h3
  exact⟨j,h1,h2,by rw[hsp,if_neg e];exact h3,by rw[hsp,if_neg e];exact h4,by rw[hsp,if_neg e];exact h5⟩
end
end Go.Proofs.YtmmlmhnjjfnpnaaGreat
namespace Go.Proofs.YtmmlmhnjjfnpnaaGreat
theorem rat_set (s:Sto) (k j:Nat) (r:Ride) (hk:k<s.rs.length):(s.rs.set k r).getD j default=if j=k then r else s.rat j:=getD_set' _ _ _ _ _ hk
theorem leaveS_eq (s:Sto) (b k:Nat) (x:Spt) (a t:Int) (hb:at0 s.rg b=(k:Int)) (hk:k<s.rs.length):
 leaveS s (b:Int) x a t={s with sp:=s.sp.set b x,rs:=s.rs.set k (endR (s.rat k) (s.pz.getD k false) x.w x.p a t),pz:=s.pz.set k false,rg:=s.rg.set b (-1)}:=by
 unfold leaveS;simp only[Int.toNat_natCast,hb];rw[if_neg (by omega)];unfold resumeS Sto.setR Sto.rat
 cases hz:s.pz.getD k false
 ·simp[hz,endR]
 ·simp[hz,endR,List.getD_eq_getElem?_getD,hk]
section
variable {n:Nat} {c:Cus} {s:Sto} {T:Int} {N:Nat} (J:JI n c s T N)
include J
theorem JI.leave {b k:Nat} (hb:b<n) (hk:at0 s.rg b=(k:Int)) (x:Spt) (hx:x.w≠3) {a t:Int} (hv:0≤a∧a≤t∧t≤4294943999) (hT:T≤a) (hN:N≤512):
 JI n (c.leave (b:Int) x) (leaveS s (b:Int) x a t) T N:=by
 have hkl:=J.k_lt hb hk;obtain⟨hop,hid,hz⟩:=J.on b k hb hk;have hw:(c.sp.getD b default).w=3:=(J.rg b hb).2.2 (by omega);rw[leaveS_eq s b k x a t hk hkl];have hc:c.leave (b:Int) x={c with op:=c.op.filter fun y=>decide (y.1≠(s.rat k).id),sp:=c.sp.set b x}:=by
  unfold Cus.leave Cus.put Cus.spt;simp only[Int.toNat_natCast];rw[if_pos hw,hid]
 rw[hc];have hsp:∀j,((c.sp.set b x).getD j default)=if j=b then x else c.sp.getD j default:=fun j=>getD_set' _ _ _ _ _ (by rw[J.n1];exact hb);have hrg:∀j,at0 (s.rg.set b (-1)) j=if j=b then -1 else at0 s.rg j:=fun j=>at0_set _ _ _ _ (by rw[J.n2];exact hb);have hid2:∀z w p a t,(endR (s.rat k) z w p a t).id=(s.rat k).id:=fun z w p a t=>by cases z<;>rfl
 generalize hE:endR (s.rat k) (s.pz.getD k false) x.w x.p a t=E;have hEi:E.id=(s.rat k).id:=by rw[←hE];exact hid2 _ _ _ _ _
 have hEr:rideE E=0:=by rw[←hE];exact hop.ends hv hT hN hx
 have hrat:∀j,(s.rs.set k E).getD j default=if j=k then E else s.rat j:=fun j=>rat_set s k j E hkl;refine⟨?_,?_,?_,?_,fun j hj=>?_,fun j i hj hi=>?_,fun j j' hj hj' h0 he=>?_,fun i hi=>?_,fun i hi=>?_,J.us2,fun i t' h=>?_,fun i hi ho=>?_⟩
 ·show(c.sp.set b x).length=n;rw[List.length_set];exact J.n1
 ·show(s.rg.set b (-1)).length=n;rw[List.length_set];exact J.n2
 ·show(s.sp.set b x).length=n;rw[List.length_set];exact J.n3
 ·show(s.pz.set k false).length=(s.rs.set k E).length;rw[List.length_set,List.length_set];exact J.n4
 ·show at0 (s.rg.set b (-1)) j<((s.rs.set k E).length:Int)∧(((c.sp.set b x).getD j default).w=3↔0≤at0 (s.rg.set b (-1)) j)
  rw[hsp,hrg,List.length_set];by_cases e:j=b
  ·rw[if_pos e,if_pos e];exact⟨by omega,fun h=>absurd h hx,fun h=>by omega⟩
  ·rw[if_neg e,if_neg e];exact J.rg j hj
 ·have hi':at0 (s.rg.set b (-1)) j=(i:Int):=hi
  rw[hrg]at hi';by_cases e:j=b
  ·rw[if_pos e]at hi';omega
  ·rw[if_neg e]at hi'
   have hne:i≠k:=fun e2=>e (J.inj j b hj hb (by omega) (by omega));obtain⟨o1,o2,o3⟩:=J.on j i hj hi';show OpR ((s.rs.set k E).getD i default) ((s.pz.set k false).getD i false) T N j∧((s.rs.set k E).getD i default).id=((c.sp.set b x).getD j default).r∧((c.sp.set b x).getD j default).z=(s.pz.set k false).getD i false;rw[hrat,if_neg hne,getD_set' _ _ _ _ _ (by rw[J.n4];exact hkl),if_neg hne,hsp,if_neg e];exact⟨o1,o2,o3⟩
 ·have h0':0≤at0 (s.rg.set b (-1)) j:=h0
  have he':at0 (s.rg.set b (-1)) j=at0 (s.rg.set b (-1)) j':=he;rw[hrg]at h0';rw[hrg,hrg]at he';by_cases e:j=b
  ·rw[if_pos e]at h0';omega
  ·rw[if_neg e]at h0' he'
   by_cases e2:j'=b
   ·rw[if_pos e2]at he';omega
   ·rw[if_neg e2]at he';exact J.inj j j' hj hj' h0' he'
 ·have hi':i<s.rs.length:=by have:i<(s.rs.set k E).length:=hi;rwa[List.length_set]at this
  show s.idx ((s.rs.set k E).getD i default).id=some i;rw[hrat];by_cases e:i=k
  ·rw[if_pos e,hEi,e];exact J.ids k hkl
  ·rw[if_neg e];exact J.ids i hi'
 ·have hi':i<s.rs.length:=by have:i<(s.rs.set k E).length:=hi;rwa[List.length_set]at this
  show((s.rs.set k E).getD i default).id∈c.us;rw[hrat];by_cases e:i=k
  ·rw[if_pos e,hEi];exact J.us k hkl
  ·rw[if_neg e];exact J.us i hi'
 ·have h2:c.trip i=some t'∧i≠(s.rat k).id:=by
   have h3:((c.op.filter fun y=>decide (y.1≠(s.rat k).id)).find? fun y=>decide (y.1=i)).map (·.2)=some t':=h;obtain⟨y,hy,hy2⟩:=Option.map_eq_some_iff.1 h3;have hy3:=List.find?_some hy;have hym:=List.mem_of_find?_eq_some hy;simp only[decide_eq_true_eq]at hy3;have hne:i≠(s.rat k).id:=by
    have:=(List.mem_filter.1 hym).2;rw[←hy3];simpa using this
   refine⟨?_,hne⟩;unfold Cus.trip;rw[List.find?_filter]at h3;rw[show(fun y:Int×Trp=>decide (y.1=i))=fun y=>decide (decide (y.1≠(s.rat k).id)=true∧decide (y.1=i)=true)from funext fun y=>by
    by_cases e:y.1=i
    ·rw[e];simp[hne]
    ·simp[e]]
   exact h3
  obtain⟨j,q1,q2,q3,q4,q5⟩:=J.trip i t' h2.1;have e:j≠b:=fun e=>h2.2 (by rw[←q4,e,hid]);exact⟨j,q1,q2,by show((c.sp.set b x).getD j default).w=3;rw[hsp,if_neg e];exact q3,by show((c.sp.set b x).getD j default).r=i;rw[hsp,if_neg e];exact q4,by show t'.z=((c.sp.set b x).getD j default).z;rw[hsp,if_neg e];exact q5⟩
 ·have hi':i<s.rs.length:=by have:i<(s.rs.set k E).length:=hi;rwa[List.length_set]at this
  have ho':((s.rs.set k E).getD i default).op=false:=ho;show rideE ((s.rs.set k E).getD i default)=0;rw[hrat]at ho'⊢;by_cases e:i=k
  ·rw[if_pos e];exact hEr
  ·rw[if_neg e]at ho'⊢;exact J.cl i hi' ho'
end
end Go.Proofs.YtmmlmhnjjfnpnaaGreat
namespace Go.Proofs.YtmmlmhnjjfnpnaaGreat
theorem trip_app (l:List (Int×Trp)) (i j:Int) (t:Trp):((l ++ [(j,t)]).find? fun x=>decide (x.1=i)).map (·.2)=match(l.find? fun x=>decide (x.1=i)).map (·.2)with|some u=>some u|none=>if j=i then some t else none:=by
 rw[List.find?_append]
 cases h:l.find? fun x=>decide (x.1=i)with
 |some u=>simp
 |none=>by_cases e:j=i<;>simp[e]
theorem idx_app (l:List (Int×Nat)) (i j:Int) (k:Nat):((l ++ [(j,k)]).find? fun x=>decide (x.1=i)).map (·.2)=match(l.find? fun x=>decide (x.1=i)).map (·.2)with|some u=>some u|none=>if j=i then some k else none:=by
 rw[List.find?_append]
 cases h:l.find? fun x=>decide (x.1=i)with
 |some u=>simp
 |none=>by_cases e:j=i<;>simp[e]
theorem setT_trip (c:Cus) (i j:Int) (g:Trp→Trp):(c.setT i g).trip j=if j=i then(c.trip j).map g else c.trip j:=by
 unfold Cus.setT Cus.trip;show((c.op.map fun y=>if y.1=i then(y.1,g y.2)else y).find? fun x=>decide (x.1=j)).map (·.2)= _;rw[List.find?_map];have e:((fun x:Int×Trp=>decide (x.1=j))∘fun y:Int×Trp=>if y.1=i then(y.1,g y.2)else y)=fun x=>decide (x.1=j):=by
  funext y;simp only[Function.comp];split<;>rfl
 rw[e]
 cases h:c.op.find? fun x=>decide (x.1=j)with
 |none=>simp
 |some u=>
  have hu:=List.find?_some h
  simp only[decide_eq_true_eq]at hu
  by_cases e2:j=i
  ·rw[if_pos e2];simp[hu,e2]
  ·rw[if_neg e2];simp[hu,e2]
section
variable {n:Nat} {c:Cus} {s:Sto} {T:Int} {N:Nat} (J:JI n c s T N)
include J
theorem JI.open_at {b:Nat} (hb:b<n) (hw:(c.sp.getD b default).w=3):∃k:Nat,at0 s.rg b=(k:Int)∧k<s.rs.length:=by
 have h0:=(J.rg b hb).2.1 hw;exact⟨(at0 s.rg b).toNat,by omega,by have:=(J.rg b hb).1;omega⟩
theorem JI.same {b b':Nat} (hb:b<n) (hb':b'<n) (hw:(c.sp.getD b default).w=3) (hw':(c.sp.getD b' default).w=3) (hr:(c.sp.getD b default).r=(c.sp.getD b' default).r):b=b':=by
 obtain⟨k,hk,hkl⟩:=J.open_at hb hw;obtain⟨k',hk',hkl'⟩:=J.open_at hb' hw';have h1:=(J.on b k hb hk).2.1;have h2:=(J.on b' k' hb' hk').2.1;have h3:=J.ids k hkl;have h4:=J.ids k' hkl';rw[h1,hr,←h2,h4]at h3;have:k'=k:=Option.some.inj h3;exact J.inj b b' hb hb' (by omega) (by omega)
theorem JI.begins {b:Nat} (hb:b<n) {e:Ev} (he:e.b=(b:Int)) (hw:(c.sp.getD b default).w≠3) (hu:c.us.contains e.i=false) (hi:1≤e.i∧e.i≤1000000) (hr:0≤e.r∧e.r≤127) (hv:0≤e.a∧e.a≤e.t∧e.t≤4294943999) (hT:T≤e.a):
 JI n {(c.put e.b ⟨3,0,e.i,false⟩)with op:=c.op ++ [(e.i,⟨e.r,e.b,false⟩)],us:=c.us ++ [e.i]} (beginS s e) e.a (N+1):=by
 have J':=J.later hT (Nat.le_succ N);have hrb:at0 s.rg b<0:=by
  have:=(J.rg b hb).2;by_cases h:0≤at0 s.rg b
  ·exact absurd (this.2 h) hw
  ·omega
 have hput:(c.put e.b ⟨3,0,e.i,false⟩).sp=c.sp.set b ⟨3,0,e.i,false⟩:=by show c.sp.set e.b.toNat _ = _;rw[he,Int.toNat_natCast]
 have hsp:∀j,((c.put e.b ⟨3,0,e.i,false⟩).sp.getD j default)=if j=b then⟨3,0,e.i,false⟩else c.sp.getD j default:=fun j=>by rw[hput];exact getD_set' _ _ _ _ _ (by rw[J.n1];exact hb)
 have hrg:∀j,at0 (beginS s e).rg j=if j=b then(s.rs.length:Int)else at0 s.rg j:=fun j=>by
  show at0 (s.rg.set e.b.toNat (s.rs.length:Int)) j= _;rw[he,Int.toNat_natCast];exact at0_set _ _ _ _ (by rw[J.n2];exact hb)
 obtain⟨R,hR⟩:∃R,(beginS s e).rs=s.rs ++ [R]∧R.id=e.i∧R.op=true∧OpR R false e.a (N+1) b:=by
  refine⟨_,rfl,rfl,rfl,⟨⟨hi.1,hi.2,hr.1,hr.2,vld_i hv⟩,⟨rfl,rfl,rfl,rfl⟩,by simp,⟨[],e.a,e.t,by simp[he],by simp[chainL],by simp,vld_i hv,Int.le_refl _⟩,[],e.a,rfl,by simp,Or.inl ⟨rfl,rfl,Int.le_refl _⟩⟩⟩
 obtain⟨hR,hRi,hRo,hRO⟩:=hR;have hpz:(beginS s e).pz=s.pz ++ [false]:=rfl;have hix:∀i,(beginS s e).idx i=match s.idx i with|some u=>some u|none=>if e.i=i then some s.rs.length else none:=fun i=>idx_app _ _ _ _
 have hrat:∀j,j<s.rs.length→(beginS s e).rat j=s.rat j:=fun j hj=>by
  show(beginS s e).rs.getD j default= _;rw[hR];exact getD_app_lt _ _ _ _ hj
 have hratn:(beginS s e).rat s.rs.length=R:=by show(beginS s e).rs.getD _ default= _;rw[hR];exact getD_app_eq _ _ _
 have hlen:(beginS s e).rs.length=s.rs.length+1:=by rw[hR];simp
 have hn2:(beginS s e).rg.length=n:=by show(s.rg.set _ _).length=n;rw[List.length_set];exact J.n2
 have hn3:(beginS s e).sp.length=n:=J.n3;generalize beginS s e=S at *;refine⟨?_,?_,?_,?_,fun j hj=>?_,fun j i hj hk=>?_,fun j j' hj hj' h0 hh=>?_,fun i hi'=>?_,fun i hi'=>?_,fun i hc=>?_,fun i t' h=>?_,fun i hi' ho=>?_⟩
 ·show(c.put e.b ⟨3,0,e.i,false⟩).sp.length=n;rw[hput,List.length_set];exact J.n1
 ·exact hn2
 ·exact hn3
 ·rw[hpz,hlen,List.length_append,J.n4];rfl
 ·rw[hrg,hlen]
  show _∧(((c.put e.b ⟨3,0,e.i,false⟩).sp.getD j default).w=3↔_);rw[hsp];by_cases e1:j=b
  ·rw[if_pos e1,if_pos e1];exact⟨by omega,fun _ =>by omega,fun _ =>rfl⟩
  ·rw[if_neg e1,if_neg e1];exact⟨by have:=(J.rg j hj).1;omega,(J.rg j hj).2⟩
 ·show OpR (S.rat i) (S.pz.getD i false) e.a (N+1) j∧(S.rat i).id=((c.put e.b ⟨3,0,e.i,false⟩).sp.getD j default).r∧((c.put e.b ⟨3,0,e.i,false⟩).sp.getD j default).z=S.pz.getD i false
  rw[hrg]at hk;rw[hsp,hpz];by_cases e1:j=b
  ·rw[if_pos e1]at hk
   obtain rfl:i=s.rs.length:=by omega
   rw[if_pos e1,hratn,←J.n4,getD_app_eq,e1];exact⟨hRO,hRi,rfl⟩
  ·rw[if_neg e1]at hk
   have hil:=J.k_lt hj hk;rw[if_neg e1,hrat i hil,getD_app_lt _ _ _ _ (by rw[J.n4];exact hil)];exact J'.on j i hj hk
 ·rw[hrg]at h0
  rw[hrg,hrg]at hh;by_cases e1:j=b
  ·rw[if_pos e1]at hh
   by_cases e2:j'=b
   ·rw[e1,e2]
   ·rw[if_neg e2]at hh;have:=(J.rg j' hj').1;omega
  ·rw[if_neg e1]at h0 hh
   by_cases e2:j'=b
   ·rw[if_pos e2]at hh;have:=(J.rg j hj).1;omega
   ·rw[if_neg e2]at hh;exact J.inj j j' hj hj' h0 hh
 ·rw[hix]
  by_cases e1:i=s.rs.length
  ·subst e1
   rw[hratn,hRi,J.us2 e.i hu];simp
  ·have hil:i<s.rs.length:=by omega
   rw[hrat i hil,J.ids i hil]
 ·show(S.rat i).id∈c.us ++ [e.i]
  by_cases e1:i=s.rs.length
  ·subst e1;rw[hratn,hRi];simp
  ·have hil:i<s.rs.length:=by omega
   rw[hrat i hil];exact List.mem_append_left _ (J.us i hil)
 ·have hc':(c.us ++ [e.i]).contains i=false:=hc
  have h1:c.us.contains i=false∧e.i≠i:=by
   constructor
   ·cases h:c.us.contains i
    ·rfl
    ·rw[List.contains_iff_mem]at h
     have:(c.us ++ [e.i]).contains i=true:=List.contains_iff_mem.2 (List.mem_append_left _ h);rw[this]at hc';cases hc'
   ·intro h
    have:(c.us ++ [e.i]).contains i=true:=List.contains_iff_mem.2 (by rw[h];simp);rw[this]at hc';cases hc'
  rw[hix,J.us2 i h1.1];simp[h1.2]
 ·have h1:(match c.trip i with|some u=>some u|none=>if e.i=i then some ⟨e.r,e.b,false⟩else none)=some t':=by
   have:=trip_app c.op i e.i ⟨e.r,e.b,false⟩;exact this.symm.trans h
  show∃b',t'.bk=((b':Nat):Int)∧b'<n∧((c.put e.b ⟨3,0,e.i,false⟩).sp.getD b' default).w=3∧((c.put e.b ⟨3,0,e.i,false⟩).sp.getD b' default).r=i∧t'.z=((c.put e.b ⟨3,0,e.i,false⟩).sp.getD b' default).z
  cases hc:c.trip i with
  |some u=>
   rw[hc]at h1
   obtain rfl:u=t':=Option.some.inj h1
   obtain⟨j,q1,q2,q3,q4,q5⟩:=J.trip i u hc
   have e1:j≠b:=fun e1=>by subst e1;exact hw q3
   exact⟨j,q1,q2,by rw[hsp,if_neg e1];exact q3,by rw[hsp,if_neg e1];exact q4,by rw[hsp,if_neg e1];exact q5⟩
  |none=>
   rw[hc]at h1
   by_cases e1:e.i=i
   ·simp only[e1,if_true,Option.some.injEq]at h1
    subst h1;exact⟨b,he,hb,by rw[hsp,if_pos rfl],by rw[hsp,if_pos rfl];exact e1,by rw[hsp,if_pos rfl]⟩
   ·simp only[e1,if_false]at h1;cases h1
 ·by_cases e1:i=s.rs.length
  ·subst e1;rw[hratn,hRo]at ho;cases ho
  ·have hil:i<s.rs.length:=by omega
   rw[hrat i hil]at ho⊢;exact J.cl i hil ho
theorem JI.tick {b k:Nat} (hb:b<n) (hk:at0 s.rg b=(k:Int)) {T':Int} {N':Nat} (hT:T≤T') (hN:N≤N') {R:Ride} {z:Bool} (hRi:R.id=(s.rat k).id) (hRo:R.op=true) (hO:OpR R z T' N' b):
 JI n ((c.put (b:Int) {c.sp.getD b default with z:=z}).setT (c.sp.getD b default).r fun t=>{t with z:=z}) {s with rs:=s.rs.set k R,pz:=s.pz.set k z} T' N':=by
 have J':=J.later hT hN;have hkl:=J.k_lt hb hk;obtain⟨hop,hid,hz⟩:=J.on b k hb hk;have hw:(c.sp.getD b default).w=3:=(J.rg b hb).2.2 (by omega);have hsp:∀j,(((c.put (b:Int) {c.sp.getD b default with z:=z}).setT (c.sp.getD b default).r fun t=>{t with z:=z}).sp.getD j default)=if j=b then{c.sp.getD b default with z:=z}else c.sp.getD j default:=fun j=>by
  show(c.sp.set (b:Int).toNat _).getD j default= _;rw[Int.toNat_natCast];exact getD_set' _ _ _ _ _ (by rw[J.n1];exact hb)
 have hrat:∀j,(s.rs.set k R).getD j default=if j=k then R else s.rat j:=fun j=>rat_set s k j R hkl;have htr:∀i,((c.put (b:Int) {c.sp.getD b default with z:=z}).setT (c.sp.getD b default).r fun t=>{t with z:=z}).trip i=if i=(c.sp.getD b default).r then(c.trip i).map (fun t=>{t with z:=z})else c.trip i:=fun i=>setT_trip _ _ _ _;refine⟨?_,J.n2,J.n3,?_,fun j hj=>?_,fun j i hj hi=>?_,J.inj,fun i hi=>?_,fun i hi=>?_,J.us2,fun i t' h=>?_,fun i hi ho=>?_⟩
 ·show(c.sp.set _ _).length=n;rw[List.length_set];exact J.n1
 ·show(s.pz.set k z).length=(s.rs.set k R).length;rw[List.length_set,List.length_set];exact J.n4
 ·rw[hsp]
  show at0 s.rg j<((s.rs.set k R).length:Int)∧_;rw[List.length_set];refine⟨(J.rg j hj).1,?_⟩;by_cases e:j=b
  ·rw[if_pos e];subst e;exact(J.rg j hj).2
  ·rw[if_neg e];exact(J.rg j hj).2
 ·have hi':at0 s.rg j=(i:Int):=hi
  rw[hsp];show OpR ((s.rs.set k R).getD i default) ((s.pz.set k z).getD i false) T' N' j∧((s.rs.set k R).getD i default).id= _∧_ =(s.pz.set k z).getD i false;rw[hrat,getD_set' _ _ _ _ _ (by rw[J.n4];exact hkl)];by_cases e:j=b
  ·subst e
   obtain rfl:i=k:=by omega
   rw[if_pos rfl,if_pos rfl,if_pos rfl];exact⟨hO,by rw[hRi];exact hid,rfl⟩
  ·have hne:i≠k:=fun e2=>e (J.inj j b hj hb (by omega) (by omega))
   rw[if_neg hne,if_neg hne,if_neg e];exact J'.on j i hj hi'
 ·have hi':i<s.rs.length:=by have:i<(s.rs.set k R).length:=hi;rwa[List.length_set]at this
  show s.idx ((s.rs.set k R).getD i default).id=some i;rw[hrat];by_cases e:i=k
  ·rw[if_pos e,hRi,e];exact J.ids k hkl
  ·rw[if_neg e];exact J.ids i hi'
 ·have hi':i<s.rs.length:=by have:i<(s.rs.set k R).length:=hi;rwa[List.length_set]at this
  show((s.rs.set k R).getD i default).id∈c.us;rw[hrat];by_cases e:i=k
  ·rw[if_pos e,hRi];exact J.us k hkl
  ·rw[if_neg e];exact J.us i hi'
 ·rw[htr]at h
  by_cases e:i=(c.sp.getD b default).r
  ·rw[if_pos e]at h
   obtain⟨t0,h0,rfl⟩:=Option.map_eq_some_iff.1 h;obtain⟨j,q1,q2,q3,q4,q5⟩:=J.trip i t0 h0;have e2:j=b:=J.same q2 hb q3 hw (by rw[q4,e]);subst e2;exact⟨j,q1,q2,by rw[hsp,if_pos rfl];exact q3,by rw[hsp,if_pos rfl];exact q4,by rw[hsp,if_pos rfl]⟩
  ·rw[if_neg e]at h
   obtain⟨j,q1,q2,q3,q4,q5⟩:=J.trip i t' h;have e2:j≠b:=fun e2=>e (by rw[←q4,e2]);exact⟨j,q1,q2,by rw[hsp,if_neg e2];exact q3,by rw[hsp,if_neg e2];exact q4,by rw[hsp,if_neg e2];exact q5⟩
 ·have hi':i<s.rs.length:=by have:i<(s.rs.set k R).length:=hi;rwa[List.length_set]at this
  have ho':((s.rs.set k R).getD i default).op=false:=ho;show rideE ((s.rs.set k R).getD i default)=0;rw[hrat]at ho'⊢;by_cases e:i=k
  ·rw[if_pos e,hRo]at ho';cases ho'
  ·rw[if_neg e]at ho'⊢;exact J.cl i hi' ho'
theorem JI.swap {b:Nat} (hb:b<n) {e:Ev} (he:e.b=(b:Int)) (hw:(c.sp.getD b default).w≠3) {t0:Trp} (htr:c.trip e.i=some t0) (htz:t0.z=false) (hv:0≤e.a∧e.a≤e.t∧e.t≤4294943999) (hT:T≤e.a):
 JI n (((c.put t0.bk (c.spt e.b)).put e.b ⟨3,0,e.i,false⟩).setT e.i fun t=>{t with bk:=e.b}) (changeS s e) e.a (N+1):=by
 have J':=J.later hT (Nat.le_succ N);obtain⟨j0,hj1,hj2,hj3,hj4,hj5⟩:=J.trip e.i t0 htr;obtain⟨k,hk,hkl⟩:=J.open_at hj2 hj3;obtain⟨hop,hid,hz⟩:=J.on j0 k hj2 hk;have hpz:s.pz.getD k false=false:=by rw[←hz,←hj5,htz]
 have hne:b≠j0:=fun h=>hw (by rw[h];exact hj3);have hix:s.idx e.i=some k:=by rw[←hj4,←hid];exact J.ids k hkl
 rw[hpz]at hop;obtain⟨li,f0,f1,hl1,hl2,hl3,hl4,hl5⟩:=hop.lg;obtain⟨pi,m,hp1,hp2,hp3⟩:=hop.ps;have hrb:at0 s.rg b<0:=by
  by_cases h:0≤at0 s.rg b
  ·exact absurd ((J.rg b hb).2.2 h) hw
  ·omega
 obtain⟨R,hRs,hRi,hRo,hRO⟩:∃R,changeS s e={s with rs:=s.rs.set k R,rg:=(s.rg.set j0 (-1)).set b (k:Int),sp:=s.sp.set j0 (s.sp.getD b default)}∧R.id=(s.rat k).id∧R.op=true∧OpR R false e.a (N+1) b:=by
  refine⟨{s.rat k with legs:=(li ++ [⟨(j0:Int),f0,f1,e.a,e.t⟩]) ++ [⟨e.b,e.a,e.t,0,0⟩]},?_,rfl,hop.en.2.2.1,⟨hop.hd,hop.en,?_,⟨li ++ [⟨(j0:Int),f0,f1,e.a,e.t⟩],e.a,e.t,by rw[he],?_,fun x hx=>?_,vld_i hv,Int.le_refl _⟩,pi,m,hp1,hp2,?_⟩⟩
  ·unfold changeS
   rw[hix];simp only[Sto.setR,hl1,List.getLast?_append,List.getLast?_singleton,Option.some_or,Option.map_some,Option.getD_some,lastSet_snoc,Int.toNat_natCast,he];rfl
  ·have:=hop.ln
   rw[hl1]at this;simp only[List.length_append,List.length_singleton]at this⊢;omega
  ·exact chainL_snoc li _ _ f0 f1 ⟨(j0:Int),f0,f1,e.a,e.t⟩ hl2 rfl rfl
  ·rcases List.mem_append.1 hx with hx|hx
   ·exact hl3 x hx
   ·rw[List.mem_singleton]at hx;subst hx
    exact⟨by simp[legV,hl4,vld_i hv],by show f0≤e.a;omega⟩
  ·rcases hp3 with⟨_,q1,q2⟩|⟨h,_⟩
   ·exact Or.inl ⟨rfl,q1,by omega⟩
   ·cases h
 rw[hRs];have hspc:c.spt e.b=c.sp.getD b default:=by unfold Cus.spt;rw[he,Int.toNat_natCast]
 have hsp:∀j,(((c.put t0.bk (c.spt e.b)).put e.b ⟨3,0,e.i,false⟩).setT e.i fun t=>{t with bk:=e.b}).sp.getD j default=if j=b then⟨3,0,e.i,false⟩else if j=j0 then c.sp.getD b default else c.sp.getD j default:=fun j=>by
  show((c.sp.set t0.bk.toNat (c.spt e.b)).set e.b.toNat _).getD j default= _;rw[hspc,hj1,he,Int.toNat_natCast,Int.toNat_natCast,getD_set' _ _ _ _ _ (by rw[List.length_set,J.n1];exact hb),getD_set' _ _ _ _ _ (by rw[J.n1];exact hj2)]
 have hrg:∀j,at0 ((s.rg.set j0 (-1)).set b (k:Int)) j=if j=b then(k:Int)else if j=j0 then -1 else at0 s.rg j:=fun j=>by
  rw[at0_set _ _ _ _ (by rw[List.length_set,J.n2];exact hb),at0_set _ _ _ _ (by rw[J.n2];exact hj2)]
 have hrat:∀j,(s.rs.set k R).getD j default=if j=k then R else s.rat j:=fun j=>rat_set s k j R hkl;have htr2:∀i,(((c.put t0.bk (c.spt e.b)).put e.b ⟨3,0,e.i,false⟩).setT e.i fun t=>{t with bk:=e.b}).trip i=if i=e.i then(c.trip i).map (fun t=>{t with bk:=e.b})else c.trip i:=fun i=>setT_trip _ _ _ _;refine⟨?_,?_,?_,?_,fun j hj=>?_,fun j i hj hi=>?_,fun j j' hj hj' h0 hh=>?_,fun i hi=>?_,fun i hi=>?_,J.us2,fun i t' h=>?_,fun i hi ho=>?_⟩
 ·show((c.sp.set _ _).set _ _).length=n;rw[List.length_set,List.length_set];exact J.n1
 ·show((s.rg.set _ _).set _ _).length=n;rw[List.length_set,List.length_set];exact J.n2
 ·show(s.sp.set _ _).length=n;rw[List.length_set];exact J.n3
 ·show s.pz.length=(s.rs.set k R).length;rw[List.length_set];exact J.n4
 ·rw[hsp]
  show at0 ((s.rg.set j0 (-1)).set b (k:Int)) j<((s.rs.set k R).length:Int)∧(_↔0≤at0 ((s.rg.set j0 (-1)).set b (k:Int)) j);rw[hrg,List.length_set];by_cases e1:j=b
  ·rw[if_pos e1,if_pos e1];exact⟨by omega,fun _ =>by omega,fun _ =>rfl⟩
  ·rw[if_neg e1,if_neg e1]
   by_cases e2:j=j0
   ·rw[if_pos e2,if_pos e2];exact⟨by omega,fun h=>absurd h hw,fun h=>by omega⟩
   ·rw[if_neg e2,if_neg e2];exact J.rg j hj
 ·have hi':at0 ((s.rg.set j0 (-1)).set b (k:Int)) j=(i:Int):=hi
  rw[hrg]at hi';rw[hsp];show OpR ((s.rs.set k R).getD i default) (s.pz.getD i false) e.a (N+1) j∧((s.rs.set k R).getD i default).id= _∧_ =s.pz.getD i false;rw[hrat];by_cases e1:j=b
  ·rw[if_pos e1]at hi'
   obtain rfl:i=k:=by omega
   rw[if_pos rfl,if_pos e1,hpz,e1];exact⟨hRO,by rw[hRi,hid,hj4],rfl⟩
  ·rw[if_neg e1]at hi'
   by_cases e2:j=j0
   ·rw[if_pos e2]at hi';omega
   ·rw[if_neg e2]at hi'
    have hne2:i≠k:=fun e3=>e2 (J.inj j j0 hj hj2 (by omega) (by omega));rw[if_neg hne2,if_neg e1,if_neg e2];exact J'.on j i hj hi'
 ·have h0':0≤at0 ((s.rg.set j0 (-1)).set b (k:Int)) j:=h0
  have hh':at0 ((s.rg.set j0 (-1)).set b (k:Int)) j=at0 ((s.rg.set j0 (-1)).set b (k:Int)) j':=hh;rw[hrg]at h0';rw[hrg,hrg]at hh';by_cases e1:j=b
  ·rw[if_pos e1]at hh'
   by_cases e2:j'=b
   ·rw[e1,e2]
   ·rw[if_neg e2]at hh'
    by_cases e3:j'=j0
    ·rw[if_pos e3]at hh';omega
    ·rw[if_neg e3]at hh';exact absurd (J.inj j' j0 hj' hj2 (by omega) (by omega)) e3
  ·rw[if_neg e1]at h0' hh'
   by_cases e2:j=j0
   ·rw[if_pos e2]at h0';omega
   ·rw[if_neg e2]at h0' hh'
    by_cases e3:j'=b
    ·rw[if_pos e3]at hh';exact absurd (J.inj j j0 hj hj2 (by omega) (by omega)) e2
    ·rw[if_neg e3]at hh'
     by_cases e4:j'=j0
     ·rw[if_pos e4]at hh';omega
     ·rw[if_neg e4]at hh';exact J.inj j j' hj hj' h0' hh'
 ·have hi':i<s.rs.length:=by have:i<(s.rs.set k R).length:=hi;rwa[List.length_set]at this
  show s.idx ((s.rs.set k R).getD i default).id=some i;rw[hrat];by_cases e1:i=k
  ·rw[if_pos e1,hRi,e1];exact J.ids k hkl
  ·rw[if_neg e1];exact J.ids i hi'
 ·have hi':i<s.rs.length:=by have:i<(s.rs.set k R).length:=hi;rwa[List.length_set]at this
  show((s.rs.set k R).getD i default).id∈c.us;rw[hrat];by_cases e1:i=k
  ·rw[if_pos e1,hRi];exact J.us k hkl
  ·rw[if_neg e1];exact J.us i hi'
 ·rw[htr2]at h
  by_cases e1:i=e.i
  ·rw[if_pos e1]at h
   obtain⟨t1,h1,rfl⟩:=Option.map_eq_some_iff.1 h;rw[e1,htr]at h1;obtain rfl:=Option.some.inj h1;exact⟨b,he,hb,by rw[hsp,if_pos rfl],by rw[hsp,if_pos rfl];exact e1.symm,by rw[hsp,if_pos rfl];exact htz⟩
  ·rw[if_neg e1]at h
   obtain⟨j,q1,q2,q3,q4,q5⟩:=J.trip i t' h;have e2:j≠b:=fun e2=>hw (by rw[←e2];exact q3);have e3:j≠j0:=fun e3=>e1 (by rw[←q4,e3,hj4]);exact⟨j,q1,q2,by rw[hsp,if_neg e2,if_neg e3];exact q3,by rw[hsp,if_neg e2,if_neg e3];exact q4,by rw[hsp,if_neg e2,if_neg e3];exact q5⟩
 ·have hi':i<s.rs.length:=by have:i<(s.rs.set k R).length:=hi;rwa[List.length_set]at this
  have ho':((s.rs.set k R).getD i default).op=false:=ho;show rideE ((s.rs.set k R).getD i default)=0;rw[hrat]at ho'⊢;by_cases e1:i=k
  ·rw[if_pos e1,hRo]at ho';cases ho'
  ·rw[if_neg e1]at ho'⊢;exact J.cl i hi' ho'
end
end Go.Proofs.YtmmlmhnjjfnpnaaGreat
namespace Go.Proofs.YtmmlmhnjjfnpnaaGreat
theorem evc_facts {f:Flt} {e:Ev} (h:evcE f e=0):(0≤e.b∧e.b<f.bk)∧(0≤e.a∧e.a≤e.t∧e.t≤4294943999)∧(1≤e.k∧e.k≤10)∧plcB f e=true∧namB f e=true∧fltE f=0:=by
 unfold evcE at h;by_cases h0:fltE f=0
 ·rw[if_neg (by simpa using h0)]at h
  split at h
  ·cases h
  ·rename_i h1
   split at h
   ·cases h
   ·rename_i h2
    split at h
    ·cases h
    ·rename_i h3
     split at h
     ·cases h
     ·rename_i h4
      split at h
      ·cases h
      ·rename_i h5
       simp[wthB]at h1 h2 h3 h4 h5;exact⟨⟨by omega,by omega⟩,⟨by omega,by omega,by omega⟩,⟨by omega,by omega⟩,h4,h5,h0⟩
 ·rw[if_pos h0]at h;exact absurd h h0
theorem flt_facts {f:Flt} (h:fltE f=0):1≤f.bk∧f.bk≤128∧1≤f.rd∧f.rd≤128:=by
 unfold fltE at h;split at h
 ·cases h
 ·rename_i h1
  simp[wthB]at h1;omega
theorem set_self {α:Type} (l:List α) (k:Nat) (d:α) (hk:k<l.length):l.set k (l.getD k d)=l:=by
 refine List.ext_getElem (by simp) fun i h1 h2=>?_;rw[List.getElem_set];by_cases e:k=i
 ·subst e;rw[if_pos rfl,List.getD_eq_getElem?_getD,List.getElem?_eq_getElem h2];rfl
 ·rw[if_neg e]
section
variable {n:Nat} {c:Cus} {s:Sto} {T:Int} {N:Nat} (J:JI n c s T N)
include J
theorem JI.left {b:Nat} (hb:b<n) (x:Spt) (hx:x.w≠3) {a t:Int} (hv:0≤a∧a≤t∧t≤4294943999) (hT:T≤a) (hN:N≤512):JI n (c.leave (b:Int) x) (leaveS s (b:Int) x a t) T N:=by
 by_cases h0:0≤at0 s.rg b
 ·exact J.leave hb (k:=(at0 s.rg b).toNat) (by omega) x hx hv hT hN
 ·have hw:(c.sp.getD b default).w≠3:=fun h=>h0 ((J.rg b hb).2.1 h)
  have e1:c.leave (b:Int) x=c.put (b:Int) x:=by
   unfold Cus.leave Cus.spt;simp only[Int.toNat_natCast];rw[if_neg hw]
  have e2:leaveS s (b:Int) x a t={s with sp:=s.sp.set b x}:=by
   unfold leaveS;simp only[Int.toNat_natCast];rw[if_pos (by omega)]
  rw[e1,e2];exact J.move hb (by omega) x x hx
theorem JI.hid {b:Nat} (hb:b<n) (hw:(c.sp.getD b default).w≠3) (x:Spt) (hx:x.w≠3):JI n (c.leave (b:Int) x) s T N:=by
 have h0:at0 s.rg b<0:=by
  by_cases h:0≤at0 s.rg b
  ·exact absurd ((J.rg b hb).2.2 h) hw
  ·omega
 have e1:c.leave (b:Int) x=c.put (b:Int) x:=by
  unfold Cus.leave Cus.spt;simp only[Int.toNat_natCast];rw[if_neg hw]
 rw[e1];have:=J.move hb h0 x (s.sp.getD b default) hx;rw[set_self s.sp b default (by rw[J.n3];exact hb)]at this;exact this
theorem JI.step {f:Flt} {e:Ev} (hn:n=f.bk.toNat) (ho:okB f c e=true) (hT:T≤e.a) (hN:N≤512):JI n (doE c e) (tellS s e) e.a (N+1):=by
 unfold okB at ho;simp only[Bool.and_eq_true,decide_eq_true_eq]at ho;obtain⟨⟨hev,hk10⟩,hchk⟩:=ho;obtain⟨⟨hb0,hb1⟩,hv,⟨hk1,hk2⟩,hpl,hnm,hfl⟩:=evc_facts hev;obtain⟨b,hb⟩:∃b:Nat,e.b=(b:Int):=⟨e.b.toNat,by omega⟩
 have hbn:b<n:=by omega
 have hsp:c.spt e.b=c.sp.getD b default:=by unfold Cus.spt;rw[hb,Int.toNat_natCast]
 have hrgb:at0 s.rg e.b.toNat=at0 s.rg b:=by rw[hb,Int.toNat_natCast]
 have later:∀{c' s'},JI n c' s' T N→JI n c' s' e.a (N+1):=fun h=>h.later hT (Nat.le_succ N);have hf:=flt_facts hfl;unfold chkE' at hchk;rw[hsp]at hchk;unfold doE tellS;have cs:e.k=1∨e.k=2∨e.k=3∨e.k=4∨e.k=5∨e.k=6∨e.k=7∨e.k=8∨e.k=9:=by omega
 rcases cs with hk|hk|hk|hk|hk|hk|hk|hk|hk
 ·simp only[hk,if_true,if_false,reduceIte,Int.reduceEq,or_self,or_false,false_or]at hchk⊢
  rw[hb];exact later (J.left hbn _ (by simp) hv hT hN)
 ·simp only[hk,if_true,if_false,reduceIte,Int.reduceEq,or_self,or_false,false_or]at hchk⊢
  rw[hb];exact later (J.left hbn _ (by simp) hv hT hN)
 ·simp only[hk,if_true,if_false,reduceIte,Int.reduceEq,or_self,or_false,false_or]at hchk⊢
  split at hchk
  ·cases hchk
  ·rename_i h1
   split at hchk
   ·cases hchk
   ·rename_i h2
    have hw:(c.sp.getD b default).w≠3:=fun h=>h1 (by unfold prkB;rw[h];rfl);unfold namB at hnm;simp only[hk,if_true,reduceIte,Int.reduceEq,or_false,Bool.and_eq_true,wthB,decide_eq_true_eq]at hnm;exact J.begins hbn hb hw (by simpa using h2) ⟨hnm.2.1,hnm.2.2⟩ ⟨hnm.1.1,by omega⟩ hv hT
 ·simp only[hk,if_true,if_false,reduceIte,Int.reduceEq,or_self,or_false,false_or]at hchk⊢
  cases htr:c.trip e.i with
  |none=>rw[htr]at hchk;cases hchk
  |some t0=>
   rw[htr]at hchk
   dsimp only at hchk⊢
   split at hchk
   ·cases hchk
   ·rename_i h1
    split at hchk
    ·cases hchk
    ·rename_i h2
     have hw:(c.sp.getD b default).w≠3:=fun h=>h1 (by unfold prkB;rw[h];rfl);exact J.swap hbn hb hw htr (by simpa using h2) hv hT
 ·simp only[hk,if_true,if_false,reduceIte,Int.reduceEq,or_self,or_false,false_or,true_or,decide_true]at hchk⊢
  split at hchk
  ·cases hchk
  ·rename_i h1
   split at hchk
   ·cases hchk
   ·rename_i h2
    have hw:(c.sp.getD b default).w=3:=by simpa using h1
    obtain⟨k,hk',hkl⟩:=J.open_at hbn hw;obtain⟨hop,hid,hz⟩:=J.on b k hbn hk';have hz0:s.pz.getD k false=false:=by rw[←hz];simpa using h2
    rw[hz0]at hop;rw[hsp,hrgb,hk',if_neg (by omega),Int.toNat_natCast,hb];unfold Sto.setR;refine J.tick hbn hk' hT (Nat.le_succ N) rfl hop.en.2.2.1 ⟨hop.hd,hop.en,?_,?_,?_⟩
    ·have:=hop.ln;simp only[List.length_append,List.length_singleton];omega
    ·obtain⟨li,f0,f1,q1,q2,q3,q4,q5⟩:=hop.lg
     exact⟨li,f0,f1,q1,q2,q3,q4,by omega⟩
    ·obtain⟨pi,m,p1,p2,p3⟩:=hop.ps
     refine⟨pi,m,p1,p2,Or.inr ⟨rfl,e.a,e.t,?_,vld_i hv,?_,Int.le_refl _⟩⟩
     ·rcases p3 with⟨_,q1,_⟩|⟨h,_⟩
      ·show(s.rat k).pauses ++ _ = _;rw[q1]
      ·cases h
     ·rcases p3 with⟨_,_,q2⟩|⟨h,_⟩
      ·omega
      ·cases h
 ·simp only[hk,if_true,if_false,reduceIte,Int.reduceEq,or_self,or_false,false_or,or_true,decide_false]at hchk⊢
  split at hchk
  ·cases hchk
  ·rename_i h1
   split at hchk
   ·cases hchk
   ·rename_i h2
    have hw:(c.sp.getD b default).w=3:=by simpa using h1
    obtain⟨k,hk',hkl⟩:=J.open_at hbn hw;obtain⟨hop,hid,hz⟩:=J.on b k hbn hk';have hz0:s.pz.getD k false=true:=by rw[←hz];simpa using h2
    rw[hz0]at hop;rw[hsp,hrgb,hk',if_neg (by omega),Int.toNat_natCast,hb];unfold resumeS Sto.setR;rw[hz0];refine J.tick hbn hk' hT (Nat.le_succ N) rfl hop.en.2.2.1 ?_;obtain⟨pi,m,p1,p2,p3⟩:=hop.ps;rcases p3 with⟨h,_⟩|⟨_,g0,g1,e1,e2,e3,e4⟩
    ·cases h
    ·refine⟨hop.hd,hop.en,?_,?_,pi ++ [⟨g0,g1,e.a,e.t⟩],e.a,psLast_snoc pi _ ⟨g0,g1,e.a,e.t⟩ m p1 e3 (by show g0≤e.a;omega),fun x hx=>?_,Or.inl ⟨rfl,?_,Int.le_refl _⟩⟩
     ·have:=hop.ln
      show(s.rat k).legs.length+(lastSet (s.rat k).pauses _).length≤N+1;rw[e1,lastSet_snoc];rw[e1]at this;simp only[List.length_append,List.length_singleton]at this⊢;omega
     ·obtain⟨li,f0,f1,q1,q2,q3,q4,q5⟩:=hop.lg
      exact⟨li,f0,f1,q1,q2,q3,q4,by omega⟩
     ·rcases List.mem_append.1 hx with hx|hx
      ·exact p2 x hx
      ·rw[List.mem_singleton]at hx;subst hx
       simp[pseV,e2,vld_i hv]
     ·show lastSet (s.rat k).pauses _ = _
      rw[e1,lastSet_snoc];rfl
 ·simp only[hk,if_true,if_false,reduceIte,Int.reduceEq,or_self,or_false,false_or]at hchk⊢
  split at hchk
  ·cases hchk
  ·rename_i h1
   rw[hb];exact later (J.hid hbn (by omega) _ (by simp))
 ·simp only[hk,if_true,if_false,reduceIte,Int.reduceEq,or_self,or_false,false_or]at hchk⊢
  split at hchk
  ·cases hchk
  ·rename_i h1
   rw[hb];exact later (J.hid hbn (by omega) _ (by simp))
 ·simp only[hk,if_true,if_false,reduceIte,Int.reduceEq,or_self,or_false,false_or]at hchk⊢
  rw[hb];exact later (J.left hbn _ (by simp) hv hT hN)
end
theorem accL_sub (f:Flt):∀(l:List Ev) (c:Cus),(accL f c l).Sublist l
 |[],_ =>List.Sublist.refl _
 |e :: l,c=>by
  unfold accL;split
  ·exact(accL_sub f l _).cons_cons e
  ·exact(accL_sub f l _).cons e
theorem JI.all {f:Flt} {n:Nat} (hn:n=f.bk.toNat):∀(l:List Ev) (c:Cus) (s:Sto) (T:Int) (N:Nat),JI n c s T N→(∀e∈l,T≤e.a)→l.Pairwise (fun x y=>x.a≤y.a)→N+l.length≤512→∃(c':Cus) (T':Int) (N':Nat),N'≤N+l.length∧JI n c' ((accL f c l).foldl tellS s) T' N'
 |[],c,s,T,N,J,_,_,_ =>⟨c,T,N,Nat.le_refl _,J⟩
 |e :: l,c,s,T,N,J,hT,hp,hN=>by
  rw[List.pairwise_cons]at hp;simp only[List.length_cons]at hN⊢;unfold accL;by_cases ho:okB f c e=true
  ·rw[if_pos ho]
   obtain⟨c',T',N',h1,h2⟩:=JI.all hn l (doE c e) (tellS s e) e.a (N+1) (J.step hn ho (hT e (by simp)) (by omega)) (fun x hx=>hp.1 x hx) hp.2 (by omega);exact⟨c',T',N',by omega,h2⟩
  ·rw[if_neg ho]
   obtain⟨c',T',N',h1,h2⟩:=JI.all hn l c s T N J (fun x hx=>hT x (by simp[hx])) hp.2 (by omega);exact⟨c',T',N',by omega,h2⟩
def ridesL (f:Flt) (l:List Ev):List Ride:=((accL f (cus0 f.bk.toNat) l).foldl tellS (sto0 f.bk.toNat)).rs
theorem rides_right {f:Flt} {l:List Ev} (hp:l.Pairwise (fun x y=>x.a≤y.a)) (hl:l.length≤512) {r:Ride} (hr:r∈ridesL f l) (ho:r.op=false):rideE r=0:=by
 obtain⟨T,hT⟩:∃T:Int,∀e∈l,T≤e.a:=by
  cases l with
  |nil=>exact⟨0,fun e he=>by cases he⟩
  |cons e l=>
   rw[List.pairwise_cons]at hp
   refine⟨e.a,fun x hx=>?_⟩
   rcases List.mem_cons.1 hx with rfl|hx
   ·exact Int.le_refl _
   ·exact hp.1 x hx
 obtain⟨c',T',N',_,J⟩:=JI.all (f:=f) rfl l _ _ T 0 (ji_start f.bk.toNat T) hT hp (by omega);obtain⟨k,hk⟩:=List.getElem?_of_mem hr;have hkl:=(List.getElem?_eq_some_iff.1 hk).1;have e:Sto.rat ((accL f (cus0 f.bk.toNat) l).foldl tellS (sto0 f.bk.toNat)) k=r:=by
  unfold Sto.rat;rw[List.getD_eq_getElem?_getD];have hk':((accL f (cus0 f.bk.toNat) l).foldl tellS (sto0 f.bk.toNat)).rs[k]? =some r:=hk;rw[hk'];rfl
 have:=J.cl k hkl (by rw[e];exact ho);rwa[e]at this
end Go.Proofs.YtmmlmhnjjfnpnaaGreat
namespace Go.Proofs.YtmmlmhnjjfnpnaaGreat
def prkN (l:List Spt):Nat:=(l.filter prkB).length
theorem prkN_set:∀(l:List Spt) (i:Nat) (x:Spt),prkN (l.set i x)≤prkN l+(if prkB x then 1 else 0)
 |[],i,x=>by simp[prkN]
 |y :: l,0,x=>by
  simp only[List.set_cons_zero,prkN,List.filter_cons];split<;>split<;>simp
 |y :: l,i+1,x=>by
  have:=prkN_set l i x;simp only[List.set_cons_succ,prkN,List.filter_cons]at this⊢
  cases prkB y<;>simp at this⊢<;>omega
theorem prkN_less:∀(l:List Spt) (i:Nat) (x:Spt),prkB (l.getD i default)=true→prkB x=false→prkN (l.set i x)+1≤prkN l
 |[],i,x,h,_ =>by simp[prkB,default]at h
 |y :: l,0,x,h,hx=>by
  have h':prkB y=true:=h;simp[prkN,List.filter_cons,h',hx]
 |y :: l,i+1,x,h,hx=>by
  have:=prkN_less l i x h hx;simp only[List.set_cons_succ,prkN,List.filter_cons]at this⊢
  cases prkB y<;>simp at this⊢<;>omega
theorem prkB_two {p r:Int} {z:Bool} {w:Int} (h:w≠1) (h':w≠2):prkB ⟨w,p,r,z⟩=false:=by simp[prkB,h,h']
theorem prkN_leave (c:Cus) (b:Int) (x:Spt):prkN (c.leave b x).sp≤prkN c.sp+1:=by
 have:(c.leave b x).sp=c.sp.set b.toNat x:=by
  unfold Cus.leave Cus.put;split<;>rfl
 rw[this];have h:=prkN_set c.sp b.toNat x;split at h<;>omega
theorem prkN_do {f:Flt} {c:Cus} {e:Ev} (ho:okB f c e=true):(if e.k=3 then 2 else 0)+prkN (doE c e).sp≤prkN c.sp+1:=by
 unfold okB at ho;simp only[Bool.and_eq_true,decide_eq_true_eq]at ho;obtain⟨⟨hev,hk10⟩,hchk⟩:=ho;obtain⟨_,_,⟨hk1,hk2⟩,_⟩:=evc_facts hev;unfold chkE' at hchk;unfold doE;have cs:e.k=1∨e.k=2∨e.k=3∨e.k=4∨e.k=5∨e.k=6∨e.k=7∨e.k=8∨e.k=9:=by omega
 rcases cs with hk|hk|hk|hk|hk|hk|hk|hk|hk
 ·simp only[hk,reduceIte,Int.reduceEq,Nat.zero_add];exact prkN_leave _ _ _
 ·simp only[hk,reduceIte,Int.reduceEq,Nat.zero_add];exact prkN_leave _ _ _
 ·simp only[hk,reduceIte,Int.reduceEq]at hchk⊢
  split at hchk
  ·cases hchk
  ·rename_i h1
   have hp:prkB (c.spt e.b)=true:=by simpa using h1
   have:=prkN_less c.sp e.b.toNat ⟨3,0,e.i,false⟩ hp (prkB_two (by decide) (by decide));show 2+prkN (c.sp.set e.b.toNat ⟨3,0,e.i,false⟩)≤_;omega
 ·simp only[hk,reduceIte,Int.reduceEq,Nat.zero_add]at hchk⊢
  cases ht:c.trip e.i with
  |none=>show prkN c.sp≤_;omega
  |some t=>
   show prkN ((c.sp.set t.bk.toNat (c.spt e.b)).set e.b.toNat ⟨3,0,e.i,false⟩)≤_
   have h1:=prkN_set (c.sp.set t.bk.toNat (c.spt e.b)) e.b.toNat ⟨3,0,e.i,false⟩
   rw[if_neg (by rw[prkB_two (by decide) (by decide)];decide)]at h1
   have h2:=prkN_set c.sp t.bk.toNat (c.spt e.b)
   split at h2<;>omega
 ·simp only[hk,reduceIte,Int.reduceEq,Nat.zero_add,true_or,or_false,decide_true,decide_false]at hchk⊢
  split at hchk
  ·cases hchk
  ·rename_i h1
   have hw:(c.spt e.b).w=3:=by simpa using h1
   show prkN (c.sp.set e.b.toNat _)≤_;have h2:=prkN_set c.sp e.b.toNat (⟨(c.spt e.b).w,(c.spt e.b).p,(c.spt e.b).r,true⟩:Spt);split at h2<;>omega
 ·simp only[hk,reduceIte,Int.reduceEq,Nat.zero_add,or_true,false_or,decide_true,decide_false]at hchk⊢
  split at hchk
  ·cases hchk
  ·rename_i h1
   show prkN (c.sp.set e.b.toNat _)≤_;have h2:=prkN_set c.sp e.b.toNat (⟨(c.spt e.b).w,(c.spt e.b).p,(c.spt e.b).r,false⟩:Spt);split at h2<;>omega
 ·simp only[hk,reduceIte,Int.reduceEq,Nat.zero_add,or_self];exact prkN_leave _ _ _
 ·simp only[hk,reduceIte,Int.reduceEq,Nat.zero_add,or_self];exact prkN_leave _ _ _
 ·simp only[hk,reduceIte,Int.reduceEq,Nat.zero_add,or_self];exact prkN_leave _ _ _
theorem accL_threes (f:Flt):∀(l:List Ev) (c:Cus),2*((accL f c l).filter fun e=>decide (e.k=3)).length≤l.length+prkN c.sp
 |[],c=>by simp[accL]
 |e :: l,c=>by
  unfold accL;split
  ·rename_i ho
   have h1:=prkN_do ho;have h2:=accL_threes f l (doE c e);rw[List.filter_cons];by_cases h3:e.k=3
   ·rw[if_pos h3]at h1;simp only[h3,decide_true,if_true,List.length_cons];omega
   ·rw[if_neg h3]at h1;simp only[h3,decide_false,Bool.false_eq_true,if_false,List.length_cons];omega
  ·have h2:=accL_threes f l c
   simp only[List.length_cons];omega
theorem resumeS_len (s:Sto) (k:Nat) (a t:Int):(resumeS s k a t).rs.length=s.rs.length:=by
 unfold resumeS Sto.setR;split<;>simp
theorem leaveS_len (s:Sto) (b:Int) (x:Spt) (a t:Int):(leaveS s b x a t).rs.length=s.rs.length:=by
 unfold leaveS;dsimp only;split
 ·rfl
 ·unfold Sto.setR
  simp[resumeS_len]
theorem tellS_len (s:Sto) (e:Ev):(tellS s e).rs.length=s.rs.length+(if e.k=3 then 1 else 0):=by
 unfold tellS;by_cases h3:e.k=3
 ·simp[h3,beginS]
 ·simp only[h3,if_false,Nat.add_zero]
  by_cases h4:e.k=4
  ·simp only[h4,if_true]
   unfold changeS;split
   ·rfl
   ·unfold Sto.setR;simp
  ·by_cases h5:e.k=5
   ·simp only[h5,if_true,reduceIte,Int.reduceEq]
    split
    ·rfl
    ·unfold Sto.setR;simp
   ·by_cases h6:e.k=6
    ·simp only[h6,reduceIte,Int.reduceEq]
     split
     ·rfl
     ·rw[resumeS_len]
    ·simp only[h4,h5,h6,if_false]
     split
     ·rw[leaveS_len]
     ·split
      ·rw[leaveS_len]
      ·split
       ·rw[leaveS_len]
       ·rfl
theorem tells_len:∀(l:List Ev) (s:Sto),(l.foldl tellS s).rs.length=s.rs.length+(l.filter fun e=>decide (e.k=3)).length
 |[],s=>by simp
 |e :: l,s=>by
  rw[List.foldl_cons,tells_len l,tellS_len,List.filter_cons];by_cases h3:e.k=3
  ·simp only[h3,if_true,decide_true,List.length_cons];omega
  ·simp only[h3,if_false,decide_false,Bool.false_eq_true];omega
theorem prkN_start (n:Nat):prkN (cus0 n).sp=0:=by
 unfold prkN cus0;rw[List.length_eq_zero_iff,List.filter_eq_nil_iff];intro x hx;rw[List.mem_replicate]at hx;rw[hx.2];decide
theorem ridesL_half (f:Flt) (l:List Ev):2*(ridesL f l).length≤l.length:=by
 unfold ridesL;rw[tells_len];have h:=accL_threes f l (cus0 f.bk.toNat);rw[prkN_start]at h;simp only[sto0,List.length_nil];omega
theorem ji_all {f:Flt} {l:List Ev} (hp:l.Pairwise (fun x y=>x.a≤y.a)) (hl:l.length≤512):∃(c':Cus) (T':Int) (N':Nat),N'≤l.length∧JI f.bk.toNat c' ((accL f (cus0 f.bk.toNat) l).foldl tellS (sto0 f.bk.toNat)) T' N':=by
 obtain⟨T,hT⟩:∃T:Int,∀e∈l,T≤e.a:=by
  cases l with
  |nil=>exact⟨0,fun e he=>by cases he⟩
  |cons e l=>
   rw[List.pairwise_cons]at hp
   refine⟨e.a,fun x hx=>?_⟩
   rcases List.mem_cons.1 hx with rfl|hx
   ·exact Int.le_refl _
   ·exact hp.1 x hx
 obtain⟨c',T',N',h,J⟩:=JI.all (f:=f) rfl l _ _ T 0 (ji_start f.bk.toNat T) hT hp (by omega);exact⟨c',T',N',by omega,J⟩
theorem ridesL_ids {f:Flt} {l:List Ev} (hp:l.Pairwise (fun x y=>x.a≤y.a)) (hl:l.length≤512):(ridesL f l).Pairwise fun x y=>x.id≠y.id:=by
 obtain⟨c',T',N',_,J⟩:=ji_all (f:=f) hp hl;unfold ridesL;generalize(accL f (cus0 f.bk.toNat) l).foldl tellS (sto0 f.bk.toNat)=s at *;rw[List.pairwise_iff_getElem];intro i j hi hj hij e;have h1:=J.ids i hi;have h2:=J.ids j hj;have e1:s.rat i=s.rs[i]:=by unfold Sto.rat;rw[List.getD_eq_getElem?_getD,List.getElem?_eq_getElem hi];rfl
 have e2:s.rat j=s.rs[j]:=by unfold Sto.rat;rw[List.getD_eq_getElem?_getD,List.getElem?_eq_getElem hj];rfl
 rw[e1,e]at h1;rw[e2,h1]at h2;have:=Option.some.inj h2;omega
def sortI (l:List Ride):List Ride:=l.mergeSort fun x y=>decide (x.id≤y.id)
theorem sortI_perm (l:List Ride):(sortI l).Perm l:=List.mergeSort_perm _ _
theorem sortI_sorted (l:List Ride):(sortI l).Pairwise fun x y=>x.id≤y.id:=by
 have:=List.pairwise_mergeSort (le:=fun x y:Ride=>decide (x.id≤y.id)) (fun x y z h1 h2=>by simp at *;omega) (fun x y=>by simp;omega) l;exact this.imp fun h=>by simpa using h
theorem sortI_unique {l m:List Ride} (hp:m.Perm l) (hs:m.Pairwise fun x y=>x.id≤y.id) (hd:l.Pairwise fun x y=>x.id≠y.id):m=sortI l:=by
 have hd':∀{x y},x∈l→y∈l→x.id=y.id→x=y:=fun{x y} hx hy e=>by
  obtain⟨i,hi,rfl⟩:=List.mem_iff_getElem.1 hx;obtain⟨j,hj,rfl⟩:=List.mem_iff_getElem.1 hy;rw[List.pairwise_iff_getElem]at hd;rcases Nat.lt_trichotomy i j with h|h|h
  ·exact absurd e (hd i j hi hj h)
  ·subst h;rfl
  ·exact absurd e.symm (hd j i hj hi h)
 refine List.Perm.eq_of_pairwise (le:=fun x y:Ride=>x.id≤y.id) (fun x y hx hy h1 h2=>?_) hs (sortI_sorted l) (hp.trans (sortI_perm l).symm);exact hd' (hp.subset hx) ((sortI_perm l).subset hy) (by omega)
end Go.Proofs.YtmmlmhnjjfnpnaaGreat
namespace Go.Proofs.YtmmlmhnjjfnpnaaGreat
structure CI (n:Nat) (c:Cus):Prop where
 n1:c.sp.length=n
 on:∀b,b<n→(c.sp.getD b default).w=3→∃t,((c.sp.getD b default).r,t)∈c.op∧t.bk=((b:Nat):Int)
 trip:∀x∈c.op,∃b:Nat,x.2.bk=(b:Int)∧b<n∧(c.sp.getD b default).w=3∧(c.sp.getD b default).r=x.1
 keys:(c.op.map (·.1)).Nodup
 us:∀x∈c.op,x.1∈c.us
theorem ci_start (n:Nat):CI n (cus0 n) where
 n1:=by simp[cus0]
 on:=fun b hb h=>by
  simp[cus0,List.getD_eq_getElem?_getD,List.getElem?_replicate,hb]at h
 trip:=fun x hx=>by simp[cus0]at hx
 keys:=by simp[cus0]
 us:=fun x hx=>by simp[cus0]at hx
theorem key_one {l:List (Int×Trp)} (h:(l.map (·.1)).Nodup) {i:Int} {s t:Trp} (h1:(i,s)∈l) (h2:(i,t)∈l):s=t:=by
 induction l with
 |nil=>simp at h1
 |cons x l ih=>
  simp only[List.map_cons,List.nodup_cons]at h
  rcases List.mem_cons.1 h1 with e1|h1
  ·rcases List.mem_cons.1 h2 with e2|h2
   ·rw[←e1]at e2;cases e2;rfl
   ·exact absurd (List.mem_map.2 ⟨_,h2,by rw[←e1]⟩) h.1
  ·rcases List.mem_cons.1 h2 with e2|h2
   ·exact absurd (List.mem_map.2 ⟨_,h1,by rw[←e2]⟩) h.1
   ·exact ih h.2 h1 h2
theorem trip_mem {c:Cus} {i:Int} {t:Trp} (h:c.trip i=some t):(i,t)∈c.op:=by
 unfold Cus.trip at h
 cases hf:c.op.find? (fun x=>decide (x.1=i))with
 |none=>rw[hf]at h;cases h
 |some x=>
  rw[hf]at h
  simp only[Option.map_some,Option.some.injEq]at h
  have h1:=List.find?_some hf
  simp only[decide_eq_true_eq]at h1
  have h2:=List.mem_of_find?_eq_some hf
  subst h;subst h1;exact h2
theorem mem_trip {c:Cus} (hk:(c.op.map (·.1)).Nodup) {i:Int} {t:Trp} (h:(i,t)∈c.op):c.trip i=some t:=by
 unfold Cus.trip
 cases hf:c.op.find? (fun x=>decide (x.1=i))with
 |none=>have:=List.find?_eq_none.1 hf _ h;simp at this
 |some x=>
  have h1:=List.find?_some hf
  simp only[decide_eq_true_eq]at h1
  have h2:=List.mem_of_find?_eq_some hf
  have:(i,x.2)∈c.op:=by rw[←h1];exact h2
  simp[key_one hk this h]
theorem CI.leave {n:Nat} {c:Cus} (h:CI n c) {b:Nat} (hb:b<n) (x:Spt) (hx:x.w≠3):CI n (c.leave (b:Int) x):=by
 have hbl:b<c.sp.length:=by rw[h.n1];exact hb
 by_cases hw:(c.sp.getD b default).w=3
 ·have he:c.leave (b:Int) x={c with sp:=c.sp.set b x,op:=c.op.filter fun y=>decide (y.1≠(c.sp.getD b default).r)}:=by
   unfold Cus.leave Cus.put Cus.spt;simp only[Int.toNat_natCast];rw[if_pos hw]
  rw[he];obtain⟨t0,ht0,hbk0⟩:=h.on b hb hw;refine⟨by simp[h.n1],fun b' hb' h3=>?_,fun y hy=>?_,?_,fun y hy=>?_⟩
  ·simp only[getD_set' _ _ _ _ _ hbl]at h3⊢
   by_cases e:b'=b
   ·rw[if_pos e]at h3;exact absurd h3 hx
   ·rw[if_neg e]at h3⊢
    obtain⟨t,ht,hbk⟩:=h.on b' hb' h3;refine⟨t,List.mem_filter.2 ⟨ht,?_⟩,hbk⟩;simp only[decide_eq_true_eq];intro e2;rw[e2]at ht;have:=key_one h.keys ht ht0;subst this;omega
  ·obtain⟨hy,hne⟩:=List.mem_filter.1 hy
   simp only[decide_eq_true_eq]at hne;obtain⟨b',h1,h2,h3,h4⟩:=h.trip y hy;refine⟨b',h1,h2,?_⟩;simp only[getD_set' _ _ _ _ _ hbl];by_cases e:b'=b
   ·subst e;exact absurd h4.symm hne
   ·rw[if_neg e];exact⟨h3,h4⟩
  ·exact(List.Sublist.map _ List.filter_sublist).nodup h.keys
  ·exact h.us y (List.mem_filter.1 hy).1
 ·have he:c.leave (b:Int) x={c with sp:=c.sp.set b x}:=by
   unfold Cus.leave Cus.put Cus.spt;simp only[Int.toNat_natCast];rw[if_neg hw]
  rw[he];refine⟨by simp[h.n1],fun b' hb' h3=>?_,fun y hy=>?_,h.keys,h.us⟩
  ·simp only[getD_set' _ _ _ _ _ hbl]at h3⊢
   by_cases e:b'=b
   ·rw[if_pos e]at h3;exact absurd h3 hx
   ·rw[if_neg e]at h3⊢;exact h.on b' hb' h3
  ·obtain⟨b',h1,h2,h3,h4⟩:=h.trip y hy
   refine⟨b',h1,h2,?_⟩;simp only[getD_set' _ _ _ _ _ hbl];by_cases e:b'=b
   ·subst e;exact absurd h3 hw
   ·rw[if_neg e];exact⟨h3,h4⟩
theorem setT_keys (c:Cus) (i:Int) (g:Trp→Trp):(c.setT i g).op.map (·.1)=c.op.map (·.1):=by
 unfold Cus.setT;simp only[List.map_map];apply List.map_congr_left;intro x _;simp only[Function.comp];split<;>rfl
theorem setT_mem {c:Cus} {i:Int} {g:Trp→Trp} {j:Int} {t:Trp} (h:(j,t)∈c.op):(j,if j=i then g t else t)∈(c.setT i g).op:=by
 unfold Cus.setT;refine List.mem_map.2 ⟨_,h,?_⟩;show(if j=i then(j,g t)else(j,t))= _;split<;>rfl
theorem mem_setT {c:Cus} {i:Int} {g:Trp→Trp} {y:Int×Trp} (h:y∈(c.setT i g).op):∃t,(y.1,t)∈c.op∧y.2=if y.1=i then g t else t:=by
 unfold Cus.setT at h;obtain⟨x,hx,rfl⟩:=List.mem_map.1 h;refine⟨x.2,?_,?_⟩
 ·split<;>exact hx
 ·by_cases e:x.1=i
  ·simp[e]
  ·simp[e]
theorem CI.tick {n:Nat} {c:Cus} (h:CI n c) {b:Nat} (hb:b<n) (z:Bool):CI n ((c.put (b:Int) {c.spt (b:Int)with z:=z}).setT (c.spt (b:Int)).r fun t=>{t with z:=z}):=by
 have hbl:b<c.sp.length:=by rw[h.n1];exact hb
 have hg:∀b',((c.sp.set b {c.sp.getD b default with z:=z}).getD b' default).w=(c.sp.getD b' default).w∧((c.sp.set b {c.sp.getD b default with z:=z}).getD b' default).r=(c.sp.getD b' default).r:=fun b'=>by
  rw[getD_set' _ _ _ _ _ hbl];by_cases e:b'=b
  ·subst e;rw[if_pos rfl];exact⟨rfl,rfl⟩
  ·rw[if_neg e];exact⟨rfl,rfl⟩
 have hs:((c.put (b:Int) {c.spt (b:Int)with z:=z}).setT (c.spt (b:Int)).r fun t=>{t with z:=z}).sp=c.sp.set b {c.sp.getD b default with z:=z}:=by
  unfold Cus.setT Cus.put Cus.spt;simp only[Int.toNat_natCast]
 refine⟨by rw[hs];simp[h.n1],fun b' hb' h3=>?_,fun y hy=>?_,?_,fun y hy=>?_⟩
 ·rw[hs]at h3⊢
  rw[(hg b').1]at h3;rw[(hg b').2];obtain⟨t,ht,hbk⟩:=h.on b' hb' h3;refine⟨_,setT_mem (c:=c.put (b:Int) {c.spt (b:Int)with z:=z}) ht,?_⟩;split<;>exact hbk
 ·obtain⟨t,ht,e⟩:=mem_setT hy
  obtain⟨b',h1,h2,h3,h4⟩:=h.trip (y.1,t) ht;refine⟨b',?_,h2,?_⟩
  ·rw[e];split<;>exact h1
  ·rw[hs,(hg b').1,(hg b').2];exact⟨h3,h4⟩
 ·rw[setT_keys];exact h.keys
 ·obtain⟨t,ht,_⟩:=mem_setT hy
  exact h.us (y.1,t) ht
theorem CI.begins {n:Nat} {c:Cus} (h:CI n c) {b:Nat} (hb:b<n) (hw:(c.sp.getD b default).w≠3) {i r:Int} (hi:i∉c.us):
 CI n {(c.put (b:Int) ⟨3,0,i,false⟩)with op:=c.op ++ [(i,⟨r,(b:Int),false⟩)],us:=c.us ++ [i]}:=by
 have hbl:b<c.sp.length:=by rw[h.n1];exact hb
 refine⟨by simp[Cus.put,h.n1],fun b' hb' h3=>?_,fun y hy=>?_,?_,fun y hy=>?_⟩
 ·simp only[Cus.put,Int.toNat_natCast,getD_set' _ _ _ _ _ hbl]at h3⊢
  by_cases e:b'=b
  ·subst e
   rw[if_pos rfl];exact⟨⟨r,_,false⟩,by simp,rfl⟩
  ·rw[if_neg e]at h3⊢
   obtain⟨t,ht,hbk⟩:=h.on b' hb' h3;exact⟨t,List.mem_append_left _ ht,hbk⟩
 ·simp only[Cus.put,Int.toNat_natCast,getD_set' _ _ _ _ _ hbl]
  rcases List.mem_append.1 hy with hy|hy
  ·obtain⟨b',h1,h2,h3,h4⟩:=h.trip y hy
   refine⟨b',h1,h2,?_⟩;rw[if_neg (fun e:b'=b=>hw (e ▸ h3))];exact⟨h3,h4⟩
  ·simp at hy;subst hy
   exact⟨b,rfl,hb,by rw[if_pos rfl];exact⟨rfl,rfl⟩⟩
 ·rw[List.map_append,List.nodup_append]
  refine⟨h.keys,by simp,fun x hx y hy e=>?_⟩;simp at hy;subst hy;subst e;obtain⟨z,hz,e⟩:=List.mem_map.1 hx;exact hi (e ▸ h.us z hz)
 ·rcases List.mem_append.1 hy with hy|hy
  ·exact List.mem_append_left _ (h.us y hy)
  ·simp at hy;subst hy;simp
theorem CI.swap {n:Nat} {c:Cus} (h:CI n c) {b:Nat} (hb:b<n) (hw:(c.sp.getD b default).w≠3) {i:Int} {t:Trp} (ht:(i,t)∈c.op):
 CI n (((c.put t.bk (c.spt (b:Int))).put (b:Int) ⟨3,0,i,false⟩).setT i fun t=>{t with bk:=(b:Int)}):=by
 obtain⟨o,ho,hon,h3,h4⟩:=h.trip _ ht;have ho':t.bk=(o:Int):=ho;have hob:o≠b:=fun e=>hw (e ▸ h3);have hol:o<c.sp.length:=by rw[h.n1];exact hon
 have hbl:b<(c.sp.set o (c.sp.getD b default)).length:=by simp[h.n1,hb]
 have hs:(((c.put t.bk (c.spt (b:Int))).put (b:Int) ⟨3,0,i,false⟩).setT i fun t=>{t with bk:=(b:Int)}).sp=(c.sp.set o (c.sp.getD b default)).set b ⟨3,0,i,false⟩:=by
  unfold Cus.setT Cus.put Cus.spt;rw[ho'];simp only[Int.toNat_natCast]
 have hg:∀b',((c.sp.set o (c.sp.getD b default)).set b (⟨3,0,i,false⟩:Spt)).getD b' default=if b'=b then⟨3,0,i,false⟩else if b'=o then c.sp.getD b default else c.sp.getD b' default:=fun b'=>by
  rw[getD_set' _ _ _ _ _ hbl,getD_set' _ _ _ _ _ hol]
 have hm:∀{j:Int} {u:Trp},(j,u)∈c.op→(j,if j=i then{u with bk:=(b:Int)}else u)∈(((c.put t.bk (c.spt (b:Int))).put (b:Int) ⟨3,0,i,false⟩).setT i fun t=>{t with bk:=(b:Int)}).op:=fun hj=>setT_mem (c:=(c.put t.bk (c.spt (b:Int))).put (b:Int) ⟨3,0,i,false⟩) hj;refine⟨by rw[hs];simp[h.n1],fun b' hb' hw'=>?_,fun y hy=>?_,?_,fun y hy=>?_⟩
 ·rw[hs,hg]at hw'⊢
  by_cases e:b'=b
  ·subst e
   rw[if_pos rfl];refine⟨_,hm ht,?_⟩;rw[if_pos rfl]
  ·rw[if_neg e]at hw'⊢
   by_cases e2:b'=o
   ·rw[if_pos e2]at hw';exact absurd hw' hw
   ·rw[if_neg e2]at hw'⊢
    obtain⟨u,hu,hbk⟩:=h.on b' hb' hw';refine⟨_,hm hu,?_⟩;rw[if_neg ?_]
    ·exact hbk
    ·intro e3
     rw[e3]at hu;have:=key_one h.keys hu ht;subst this;omega
 ·obtain⟨u,hu,e⟩:=mem_setT hy
  by_cases ey:y.1=i
  ·refine⟨b,by rw[e,if_pos ey],hb,?_⟩
   rw[hs,hg,if_pos rfl];exact⟨rfl,ey.symm⟩
  ·obtain⟨b',h1,h2,h5,h6⟩:=h.trip (y.1,u) hu
   refine⟨b',by rw[e,if_neg ey];exact h1,h2,?_⟩;rw[hs,hg,if_neg (fun e3:b'=b=>hw (e3 ▸ h5)),if_neg (fun e3:b'=o=>ey (by have h6':(c.sp.getD b' default).r=y.1:=h6;rw[←h6',e3];exact h4))];exact⟨h5,h6⟩
 ·rw[setT_keys];exact h.keys
 ·obtain⟨u,hu,_⟩:=mem_setT hy
  exact h.us (y.1,u) hu
structure OkF (f:Flt) (c:Cus) (e:Ev) (b:Nat):Prop where
 hb:e.b=(b:Int)
 hbn:b<f.bk.toNat
 k1:1≤e.k
 k9:e.k≤9
 hs:e.k=3→(c.sp.getD b default).w≠3∧e.i∉c.us
 hc:e.k=4→(c.sp.getD b default).w≠3∧∃t,c.trip e.i=some t
 hp:e.k=5∨e.k=6→(c.sp.getD b default).w=3
 hl:e.k=7→(c.sp.getD b default).w≠3
 hh:e.k=8→(c.sp.getD b default).w≠3
theorem ok_facts {f:Flt} {c:Cus} {e:Ev} (ho:okB f c e=true):∃b,OkF f c e b:=by
 unfold okB at ho;simp only[Bool.and_eq_true,decide_eq_true_eq]at ho;obtain⟨⟨hev,hk10⟩,hchk⟩:=ho;obtain⟨⟨hb0,hb1⟩,hv,⟨hk1,hk2⟩,hpl,hnm,hfl⟩:=evc_facts hev;obtain⟨b,hb⟩:∃b:Nat,e.b=(b:Int):=⟨e.b.toNat,by omega⟩
 have hsp:c.spt e.b=c.sp.getD b default:=by unfold Cus.spt;rw[hb,Int.toNat_natCast]
 unfold chkE' at hchk;rw[hsp]at hchk;refine⟨b,hb,by omega,hk1,by omega,fun hk=>?_,fun hk=>?_,fun hk=>?_,fun hk=>?_,fun hk=>?_⟩
 ·simp only[hk,if_true,if_false,reduceIte,Int.reduceEq,or_self,or_false,false_or]at hchk
  split at hchk
  ·cases hchk
  ·rename_i h1
   split at hchk
   ·cases hchk
   ·rename_i h2
    exact⟨fun h=>h1 (by unfold prkB;rw[h];rfl),by simpa using h2⟩
 ·simp only[hk,if_true,if_false,reduceIte,Int.reduceEq,or_self,or_false,false_or]at hchk
  cases htr:c.trip e.i with
  |none=>rw[htr]at hchk;cases hchk
  |some t0=>
   rw[htr]at hchk
   dsimp only at hchk
   split at hchk
   ·cases hchk
   ·rename_i h1
    exact⟨fun h=>h1 (by unfold prkB;rw[h];rfl),t0,rfl⟩
 ·have h5:¬e.k=1∧¬e.k=2∧¬e.k=3∧¬e.k=4:=by omega
  rw[if_neg h5.1,if_neg h5.2.1,if_neg h5.2.2.1,if_neg h5.2.2.2,if_pos hk]at hchk;split at hchk
  ·cases hchk
  ·rename_i h1;simpa using h1
 ·simp only[hk,if_true,if_false,reduceIte,Int.reduceEq,or_self,or_false,false_or]at hchk
  split at hchk
  ·cases hchk
  ·rename_i h1;omega
 ·simp only[hk,if_true,if_false,reduceIte,Int.reduceEq,or_self,or_false,false_or]at hchk
  split at hchk
  ·cases hchk
  ·rename_i h1;omega
theorem CI.step {f:Flt} {n:Nat} {c:Cus} {e:Ev} (h:CI n c) (hn:n=f.bk.toNat) (ho:okB f c e=true):CI n (doE c e):=by
 obtain⟨b,k⟩:=ok_facts ho;have hbn:b<n:=by rw[hn];exact k.hbn
 have cs:e.k=1∨e.k=2∨e.k=3∨e.k=4∨e.k=5∨e.k=6∨e.k=7∨e.k=8∨e.k=9:=by have:=k.k1;have:=k.k9;omega
 unfold doE;rcases cs with hk|hk|hk|hk|hk|hk|hk|hk|hk<;>simp only[hk,if_true,if_false,reduceIte,Int.reduceEq,or_self,or_false,false_or,true_or,or_true]
 ·rw[k.hb];exact h.leave hbn _ (by simp)
 ·rw[k.hb];exact h.leave hbn _ (by simp)
 ·rw[k.hb];exact h.begins hbn (k.hs hk).1 (k.hs hk).2
 ·obtain⟨hw,t,ht⟩:=k.hc hk
  rw[ht];dsimp only;rw[k.hb];exact h.swap hbn hw (trip_mem ht)
 ·rw[k.hb];exact h.tick hbn _
 ·rw[k.hb];exact h.tick hbn _
 ·rw[k.hb];exact h.leave hbn _ (by simp)
 ·rw[k.hb];exact h.leave hbn _ (by simp)
 ·rw[k.hb];exact h.leave hbn _ (by simp)
end Go.Proofs.YtmmlmhnjjfnpnaaGreat
namespace Go.Proofs.YtmmlmhnjjfnpnaaGreat
structure Tar where
 fr:Int
 un:Int
 st:Int
 fe:Int
 pr:Int
 pa:Int
instance:Inhabited Tar:=⟨⟨0,0,0,0,0,0⟩⟩
def Tar.cs (x:Tar):List Value:=[.int .i64 x.fr,.int .i64 x.un,.int .i64 x.st,.int .i64 x.fe,.int .i64 x.pr,.int .i64 x.pa]
theorem Tar.len (x:Tar):x.cs.length=6:=rfl
def tarV (t:Tar):Bool:=wthB t.fr 0 4294943999 && wthB t.un 0 1000000 && wthB t.pr 0 1000000 && wthB t.pa 0 1000000 && wthB t.st 1 86400 && wthB t.fe 0 86400
def tarL:Int→List Tar→Int
 | _,[]=>0
 |last,t :: l=>if tarV t=false then 1 else if(last<0∧t.fr≠0)∨(0≤last∧t.fr≤last)then 9 else tarL t.fr l
def tarE (l:List Tar):Int:=if l.length=0 then 10 else if 8<l.length then 8 else tarL (-1) l
def stpN (t:Tar) (s:Int):Int:=(max s 0+t.st-1)/t.st
def rdP (t:Tar) (s:Int):Int:=t.pr*stpN t (s-t.fe)
def paP (t:Tar) (s:Int):Int:=t.pa*stpN t s
def Tar.z (t:Tar):Tar:={t with fr:=0}
def prcE (t:Tar) (s n:Int):Int:=if tarV t.z=false then 1 else if s<0∨4294944000<s then 1 else if 1000000000000<n then 2 else 0
theorem tarE_one (t:Tar):tarE [t.z]=if tarV t.z=false then 1 else 0:=by
 unfold tarE tarL tarL;rw[if_neg (by simp),if_neg (by simp)];by_cases h:tarV t.z=false
 ·rw[if_pos h,if_pos h]
 ·rw[if_neg h,if_neg h,if_neg (fun hh=>by rcases hh with⟨_,h2⟩|⟨h1,_⟩;exact h2 rfl;omega)]
theorem tarV_facts {t:Tar} (h:tarV t=true):0≤t.un∧t.un≤1000000∧0≤t.pr∧t.pr≤1000000∧0≤t.pa∧t.pa≤1000000∧1≤t.st∧t.st≤86400∧0≤t.fe∧t.fe≤86400:=by
 simp[tarV,wthB]at h;omega
theorem stpN_mono {t:Tar} (h:1≤t.st) {s s':Int} (hs:s≤s'):stpN t s≤stpN t s':=Int.ediv_le_ediv (by omega) (by omega)
theorem stpN_bd {t:Tar} (h:1≤t.st) {s:Int}:0≤stpN t s∧stpN t s≤max s 0:=by
 constructor
 ·exact Int.ediv_nonneg (by omega) (by omega)
 ·unfold stpN
  have h1:(max s 0+t.st-1)/t.st<max s 0+1:=by
   refine Int.ediv_lt_of_lt_mul (by omega) ?_;have:(max s 0)*1≤(max s 0)*t.st:=Int.mul_le_mul_of_nonneg_left h (by omega);rw[Int.add_mul];omega
  omega
theorem rdP_mono {t:Tar} (h:1≤t.st) (h2:0≤t.pr) {s s':Int} (hs:s≤s'):rdP t s≤rdP t s':=Int.mul_le_mul_of_nonneg_left (stpN_mono h (by omega)) h2
end Go.Proofs.YtmmlmhnjjfnpnaaGreat
