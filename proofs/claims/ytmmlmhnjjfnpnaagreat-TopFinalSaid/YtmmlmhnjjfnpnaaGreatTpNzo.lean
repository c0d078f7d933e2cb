/- Texts that belong together. -/
import Derived.Test.YtmmlmhnjjfnpnaaGreatTpNp
set_option linter.all false
namespace Go.Proofs.YtmmlmhnjjfnpnaaGreat
def nV (c c':B9):Prop:=∀x∈c.op,∃y∈c'.op,y.1=x.1∧y.2.rd=x.2.rd
theorem Au0 {c c':B9} (h:c'.op=c.op):nV c c':=fun x hx=>⟨x,by rw[h];exact hx,rfl,rfl⟩
theorem sH {c c2:B9} (h:c2.op=c.op) (i:Int) (g:L7→L7) (hg:∀t,(g t).rd=t.rd):nV c (c2.setT i g):=fun x hx=>by
 refine⟨if x.1=i then(x.1,g x.2)else x,List.mem_map.2 ⟨x,h ▸ hx,rfl⟩,?_,?_⟩
 ·split<;>rfl
 ·split
  ·exact hg _
  ·rfl
def nW (c c':B9) (s s':C7) (e:Ev):Prop:=
 (s'.rs=s.rs∧nV c c')∨
 (∃r:A8,s'.rs=s.rs ++ [r]∧r.op=true∧r.id=e.i∧r.rd=e.r∧r.s0=e.a∧c.rides e.r=false∧nV c c'∧∃y∈c'.op,y.1=e.i∧y.2.rd=e.r)∨
 (∃(k:Nat) (r:A8),k<s.rs.length∧(s.rat k).op=true∧s'.rs=s.rs.set k r∧r.id=(s.rat k).id∧r.rd=(s.rat k).rd∧r.s0=(s.rat k).s0∧
  ((r.op=true∧nV c c')∨(r.op=false∧r.e0=e.a∧∀x∈c.op,x.1≠r.id→x∈c'.op)))
theorem Bs3 (r:A8) (z:Bool) (w p a t:Int):(U1 r z w p a t).id=r.id∧(U1 r z w p a t).rd=r.rd∧(U1 r z w p a t).s0=r.s0∧(U1 r z w p a t).op=false∧(U1 r z w p a t).e0=a:=by
 unfold U1
 cases z<;>exact⟨rfl,rfl,rfl,rfl,rfl⟩
section
variable {n:Nat} {c:B9} {s:C7} {T:Int} {N:Nat} (J:JI n c s T N)
include J
theorem JI.leftC {b:Nat} (hb:b<n) (x:D3) (e:Ev):nW c (c.leave (b:Int) x) s (V8 s (b:Int) x e.a e.t) e:=by
 by_cases h0:0≤B2 s.rg b
 ·obtain⟨k,hk⟩:∃k:Nat,B2 s.rg b=(k:Int):=⟨(B2 s.rg b).toNat,by omega⟩
  have hkl:=J.k_lt hb hk;obtain⟨hop,hid,hz⟩:=J.on b k hb hk;have hw:(c.sp.getD b default).w=3:=(J.rg b hb).2.2 h0;rw[Aj8 s b k x e.a e.t hk hkl];obtain⟨h1,h2,h3,h4,h5⟩:=Bs3 (s.rat k) (s.pz.getD k false) x.w x.p e.a e.t;refine .inr (.inr ⟨k,_,hkl,hop.en.2.2.1,rfl,h1,h2,h3,.inr ⟨h4,h5,fun y hy hne=>?_⟩⟩);unfold B9.leave B9.put B9.spt;simp only[Int.toNat_natCast];rw[if_pos hw];rw[h1,hid]at hne;exact List.mem_filter.2 ⟨hy,by simpa using hne⟩
 ·have hw:(c.sp.getD b default).w≠3:=fun h=>h0 ((J.rg b hb).2.1 h)
  refine .inl ⟨?_,Au0 ?_⟩
  ·unfold V8
   simp only[Int.toNat_natCast];rw[if_pos (by omega)]
  ·unfold B9.leave B9.spt
   simp only[Int.toNat_natCast];rw[if_neg hw];rfl
omit J in
theorem JI.hidC {b:Nat} (hw:(c.sp.getD b default).w≠3) (x:D3) (e:Ev):nW c (c.leave (b:Int) x) s s e:=by
 refine .inl ⟨rfl,Au0 ?_⟩;unfold B9.leave B9.spt;simp only[Int.toNat_natCast];rw[if_neg hw];rfl
theorem JI.tellC {f:D5} {e:Ev} (hn:n=f.bk.toNat) (ho:Q1 f c e=true):nW c (P0 c e) s (O3 s e) e:=by
 unfold Q1 at ho;simp only[Bool.and_eq_true,decide_eq_true_eq]at ho;obtain⟨⟨hev,hk10⟩,D4⟩:=ho;obtain⟨⟨hb0,hb1⟩,hv,⟨hk1,hk2⟩,hpl,hnm,hfl⟩:=gR hev;obtain⟨b,hb⟩:∃b:Nat,e.b=(b:Int):=⟨e.b.toNat,by omega⟩
 have hbn:b<n:=by omega
 have hsp:c.spt e.b=c.sp.getD b default:=by unfold B9.spt;rw[hb,Int.toNat_natCast]
 have oX:B2 s.rg e.b.toNat=B2 s.rg b:=by rw[hb,Int.toNat_natCast]
 have hf:=wE hfl;unfold G2 at D4;rw[hsp]at D4;unfold P0 O3;have cs:e.k=1∨e.k=2∨e.k=3∨e.k=4∨e.k=5∨e.k=6∨e.k=7∨e.k=8∨e.k=9:=by omega
 rcases cs with hk|hk|hk|hk|hk|hk|hk|hk|hk
 ·simp only[hk,if_true,if_false,reduceIte,Int.reduceEq,or_self,or_false,false_or]at D4⊢
  rw[hb];exact J.leftC hbn _ e
 ·simp only[hk,if_true,if_false,reduceIte,Int.reduceEq,or_self,or_false,false_or]at D4⊢
  rw[hb];exact J.leftC hbn _ e
 ·simp only[hk,if_true,if_false,reduceIte,Int.reduceEq,or_self,or_false,false_or]at D4⊢
  split at D4
  ·cases D4
  ·split at D4
   ·cases D4
   ·split at D4
    ·cases D4
    ·rename_i h3
     refine .inr (.inl ⟨_,rfl,rfl,rfl,rfl,rfl,by simpa using h3,fun x hx=>⟨x,List.mem_append_left _ hx,rfl,rfl⟩,_,List.mem_append_right _ (List.mem_singleton.2 rfl),rfl,rfl⟩)
 ·simp only[hk,if_true,if_false,reduceIte,Int.reduceEq,or_self,or_false,false_or]at D4⊢
  cases htr:c.trip e.i with
  |none=>rw[htr]at D4;cases D4
  |some t0=>
   dsimp only
   obtain⟨b',h1,h2,h3,h4,h5⟩:=J.trip e.i t0 htr
   obtain⟨k,hk',hkl⟩:=J.open_at h2 h3
   obtain⟨hop,hid,hz⟩:=J.on b' k h2 hk'
   have hix:s.idx e.i=some k:=by rw[←h4,←hid];exact J.ids k hkl
   refine .inr (.inr ⟨k,{s.rat k with legs:=(p9 (s.rat k).legs fun x=>x.to e.a e.t) ++ [⟨e.b,e.a,e.t,0,0⟩]},hkl,hop.en.2.2.1,?_,rfl,rfl,rfl,.inl ⟨hop.en.2.2.1,(by refine sH ?_ _ _ ?_<;>intros<;>rfl)⟩⟩)
   unfold cD
   rw[hix]
   rfl
 ·simp only[hk,if_true,if_false,reduceIte,Int.reduceEq,or_self,or_false,false_or,true_or,decide_true]at D4⊢
  split at D4
  ·cases D4
  ·rename_i h1
   have hw:(c.sp.getD b default).w=3:=by simpa using h1
   obtain⟨k,hk',hkl⟩:=J.open_at hbn hw;obtain⟨hop,hid,hz⟩:=J.on b k hbn hk';rw[oX,hk',if_neg (by omega),Int.toNat_natCast];exact .inr (.inr ⟨k,_,hkl,hop.en.2.2.1,rfl,rfl,rfl,rfl,.inl ⟨hop.en.2.2.1,(by refine sH ?_ _ _ ?_<;>intros<;>rfl)⟩⟩)
 ·simp only[hk,if_true,if_false,reduceIte,Int.reduceEq,or_self,or_false,false_or,or_true,decide_false]at D4⊢
  split at D4
  ·cases D4
  ·rename_i h1
   have hw:(c.sp.getD b default).w=3:=by simpa using h1
   obtain⟨k,hk',hkl⟩:=J.open_at hbn hw;obtain⟨hop,hid,hz⟩:=J.on b k hbn hk';rw[oX,hk',if_neg (by omega),Int.toNat_natCast];unfold S6
   cases hz0:s.pz.getD k false with
   |false=>exact .inl ⟨rfl,(by refine sH ?_ _ _ ?_<;>intros<;>rfl)⟩
   |true=>exact .inr (.inr ⟨k,_,hkl,hop.en.2.2.1,rfl,rfl,rfl,rfl,.inl ⟨hop.en.2.2.1,(by refine sH ?_ _ _ ?_<;>intros<;>rfl)⟩⟩)
 ·simp only[hk,if_true,if_false,reduceIte,Int.reduceEq,or_self,or_false,false_or]at D4⊢
  split at D4
  ·cases D4
  ·rename_i h1
   rw[hb];exact JI.hidC (by omega) _ e
 ·simp only[hk,if_true,if_false,reduceIte,Int.reduceEq,or_self,or_false,false_or]at D4⊢
  split at D4
  ·cases D4
  ·rename_i h1
   rw[hb];exact JI.hidC (by omega) _ e
 ·simp only[hk,if_true,if_false,reduceIte,Int.reduceEq,or_self,or_false,false_or]at D4⊢
  rw[hb];exact J.leftC hbn _ e
end
structure RI (c:B9) (s:C7) (T:Int):Prop where
 op:∀k,k<s.rs.length→(s.rat k).op=true→∃x∈c.op,x.1=(s.rat k).id∧x.2.rd=(s.rat k).rd
 fo:∀j k,j<k→k<s.rs.length→(s.rat j).rd=(s.rat k).rd→(s.rat j).op=false∧(s.rat j).e0≤(s.rat k).s0
 le:∀k,k<s.rs.length→(s.rat k).op=false→(s.rat k).e0≤T
theorem Bs4 (n:Nat) (T:Int):RI (M1 n) (L3 n) T where
 op:=fun k hk=>by simp[L3]at hk
 fo:=fun j k _ hk=>by simp[L3]at hk
 le:=fun k hk=>by simp[L3]at hk
theorem lH {s s':C7} (h:s'.rs=s.rs) (k:Nat):s'.rat k=s.rat k:=by unfold C7.rat;rw[h]
theorem Au1 {s s':C7} {r:A8} (h:s'.rs=s.rs ++ [r]):(∀k,k<s.rs.length→s'.rat k=s.rat k)∧s'.rat s.rs.length=r∧s'.rs.length=s.rs.length+1:=
 ⟨fun k hk=>by unfold C7.rat;rw[h];exact wC _ _ _ _ hk,by unfold C7.rat;rw[h];exact wD _ _ _,by rw[h];simp⟩
theorem Au2 {s s':C7} {r:A8} {k:Nat} (h:s'.rs=s.rs.set k r) (hk:k<s.rs.length):(∀j,s'.rat j=if j=k then r else s.rat j)∧s'.rs.length=s.rs.length:=
 ⟨fun j=>by show s'.rs.getD j default= _;rw[h];exact qP s k j r hk,by rw[h];simp⟩
theorem RI.step {n:Nat} {c:B9} {s:C7} {T:Int} {N:Nat} (J:JI n c s T N) (h:RI c s T) {c':B9} {s':C7} {e:Ev} (hc:nW c c' s s' e) (hT:T≤e.a):RI c' s' e.a:=by
 rcases hc with⟨hr,ho⟩|⟨r,hr,h1,h2,h3,h4,h5,ho,y,hy,hy1,hy2⟩|⟨k,r,hk,hop,hr,h1,h2,h3,h4⟩
 ·have hl:s'.rs.length=s.rs.length:=by rw[hr]
  refine⟨fun k hk hop=>?_,fun j k hj hk hrd=>?_,fun k hk hop=>?_⟩
  ·rw[lH hr]at hop⊢
   obtain⟨x,hx,e1,e2⟩:=h.op k (by omega) hop;obtain⟨y,hy,f1,f2⟩:=ho x hx;exact⟨y,hy,f1.trans e1,f2.trans e2⟩
  ·rw[lH hr,lH hr]at *;exact h.fo j k hj (by omega) hrd
  ·rw[lH hr]at *;exact Int.le_trans (h.le k (by omega) hop) hT
 ·obtain⟨ha,hb,hl⟩:=Au1 hr
  have hno:∀k,k<s.rs.length→(s.rat k).rd=e.r→(s.rat k).op=false:=fun k hk hrd=>by
   cases hop:(s.rat k).op
   ·rfl
   ·obtain⟨x,hx,e1,e2⟩:=h.op k hk hop
    have:c.rides e.r=true:=by unfold B9.rides;exact List.any_eq_true.2 ⟨x,hx,by simp[e2,hrd]⟩
    rw[h5]at this;cases this
  refine⟨fun k hk hop=>?_,fun j k hj hk hrd=>?_,fun k hk hop=>?_⟩
  ·by_cases hlt:k<s.rs.length
   ·rw[ha k hlt]at hop⊢
    obtain⟨x,hx,e1,e2⟩:=h.op k hlt hop;obtain⟨y,hy,f1,f2⟩:=ho x hx;exact⟨y,hy,f1.trans e1,f2.trans e2⟩
   ·obtain rfl:k=s.rs.length:=by omega
    rw[hb];exact⟨y,hy,hy1.trans h2.symm,hy2.trans h3.symm⟩
  ·by_cases hlt:k<s.rs.length
   ·rw[ha k hlt,ha j (by omega)]at *;exact h.fo j k hj hlt hrd
   ·obtain rfl:k=s.rs.length:=by omega
    rw[ha j hj,hb]at *;have hcl:=hno j hj (hrd.trans h3);exact⟨hcl,by rw[h4];exact Int.le_trans (h.le j hj hcl) hT⟩
  ·by_cases hlt:k<s.rs.length
   ·rw[ha k hlt]at *;exact Int.le_trans (h.le k hlt hop) hT
   ·obtain rfl:k=s.rs.length:=by omega
    rw[hb,h1]at hop;cases hop
 ·obtain⟨ha,hl⟩:=Au2 hr hk
  have same:∀j,(s'.rat j).id=(s.rat j).id∧(s'.rat j).rd=(s.rat j).rd∧(s'.rat j).s0=(s.rat j).s0:=fun j=>by
   rw[ha j];split
   ·rename_i e;subst e;exact⟨h1,h2,h3⟩
   ·exact⟨rfl,rfl,rfl⟩
  refine⟨fun j hj Z9=>?_,fun j i hj hi hrd=>?_,fun j hj Z9=>?_⟩
  ·rw[(same j).1,(same j).2.1]
   by_cases e:j=k
   ·subst e
    rw[ha j,if_pos rfl]at Z9;obtain⟨x,hx,e1,e2⟩:=h.op j hk hop;rcases h4 with⟨_,ho⟩|⟨hf,_⟩
    ·obtain⟨y,hy,f1,f2⟩:=ho x hx
     exact⟨y,hy,f1.trans e1,f2.trans e2⟩
    ·rw[hf]at Z9;cases Z9
   ·rw[ha j,if_neg e]at Z9
    obtain⟨x,hx,e1,e2⟩:=h.op j (by omega) Z9;rcases h4 with⟨_,ho⟩|⟨_,_,ho⟩
    ·obtain⟨y,hy,f1,f2⟩:=ho x hx
     exact⟨y,hy,f1.trans e1,f2.trans e2⟩
    ·refine⟨x,ho x hx fun e3=>e ?_,e1,e2⟩
     have i1:=J.ids j (by omega);have i2:=J.ids k hk;rw[←e1,e3,h1,i2]at i1;exact(Option.some.inj i1).symm
  ·rw[(same j).2.1,(same i).2.1]at hrd
   have:=h.fo j i hj (by omega) hrd;have e:j≠k:=fun e=>by subst e;rw[hop]at this;cases this.1
   rw[(same i).2.2,ha j,if_neg e];exact this
  ·rw[ha j]at Z9⊢
   split at Z9
   ·rename_i e
    rw[if_pos e];rcases h4 with⟨h5,_⟩|⟨_,h5,_⟩
    ·rw[h5]at Z9;cases Z9
    ·omega
   ·rename_i e
    rw[if_neg e];exact Int.le_trans (h.le j (by omega) Z9) hT
structure hZ (s s':C7) (h:Int):Prop where
 le:s.rs.length≤s'.rs.length
 cl:∀k,k<s.rs.length→(s.rat k).op=false→s'.rat k=s.rat k
 nw:∀k,k<s'.rs.length→(s'.rat k).op=false→(k<s.rs.length∧(s.rat k).op=false)∨h≤(s'.rat k).e0
theorem xV (s:C7) (h:Int):hZ s s h:=⟨Nat.le_refl _,fun _ _ _ =>rfl,fun k hk hop=>.inl ⟨hk,hop⟩⟩
theorem hZ.step {s s1 s':C7} {h:Int} (E:hZ s s1 h) {c c':B9} {e:Ev} (hc:nW c c' s1 s' e) (hh:h≤e.a):hZ s s' h:=by
 rcases hc with⟨hr,ho⟩|⟨r,hr,h1,_⟩|⟨k,r,hk,hop,hr,h1,h2,h3,h4⟩
 ·have hl:s'.rs.length=s1.rs.length:=by rw[hr]
  exact⟨by rw[hl];exact E.le,fun k hk hop=>by rw[lH hr];exact E.cl k hk hop,fun k hk hop=>by rw[lH hr]at *;exact E.nw k (by omega) hop⟩
 ·obtain⟨ha,hb,hl⟩:=Au1 hr
  have:=E.le;refine⟨by omega,fun k hk hop=>by rw[ha k (by omega)];exact E.cl k hk hop,fun k hk hop=>?_⟩;by_cases hlt:k<s1.rs.length
  ·rw[ha k hlt]at *;exact E.nw k hlt hop
  ·obtain rfl:k=s1.rs.length:=by omega
   rw[hb,h1]at hop;cases hop
 ·obtain⟨ha,hl⟩:=Au2 hr hk
  refine⟨by rw[hl];exact E.le,fun j hj Z9=>?_,fun j hj Z9=>?_⟩
  ·have e:=E.cl j hj Z9
   have:j≠k:=fun e2=>by subst e2;rw[e,Z9]at hop;cases hop
   rw[ha j,if_neg this];exact e
  ·rw[ha j]at Z9⊢
   split at Z9
   ·rename_i e
    rw[if_pos e];rcases h4 with⟨h5,_⟩|⟨_,h5,_⟩
    ·rw[h5]at Z9;cases Z9
    ·exact .inr (by omega)
   ·rename_i e
    rw[if_neg e];exact E.nw j (by omega) Z9
theorem nX {f:D5} {n:Nat} (hn:n=f.bk.toNat) {h:Int} {s0:C7}:∀(l:List Ev) (c:B9) (s:C7) (T:Int) (N:Nat),JI n c s T N→RI c s T→hZ s0 s h→(∀e∈l,T≤e.a∧h≤e.a)→l.Pairwise (fun x y=>x.a≤y.a)→N+l.length≤512→
 ∃(c':B9) (T':Int) (N':Nat),N'≤N+l.length∧JI n c' ((J6 f c l).foldl O3 s) T' N'∧RI c' ((J6 f c l).foldl O3 s) T'∧hZ s0 ((J6 f c l).foldl O3 s) h∧(T'=T∨∃e∈l,T'=e.a)∧c'=kS f c l
 |[],c,s,T,N,J,R,E,_,_,_ =>⟨c,T,N,Nat.le_refl _,J,R,E,.inl rfl,rfl⟩
 |e :: l,c,s,T,N,J,R,E,hT,hp,hN=>by
  rw[List.pairwise_cons]at hp;simp only[List.length_cons]at hN⊢;unfold J6;by_cases ho:Q1 f c e=true
  ·rw[if_pos ho]
   have hC:=J.tellC hn ho;have hTe:=hT e (by simp);obtain⟨c',T',N',h1,h2,h3,h4,h5,h6⟩:=nX hn l (P0 c e) (O3 s e) e.a (N+1) (J.step hn ho hTe.1 (by omega)) (R.step J hC hTe.1) (E.step hC hTe.2) (fun x hx=>⟨hp.1 x hx,(hT x (by simp[hx])).2⟩) hp.2 (by omega);refine⟨c',T',N',by omega,h2,h3,h4,.inr ?_,?_⟩
   ·rcases h5 with h5|⟨x,hx,h5⟩
    ·exact⟨e,by simp,h5⟩
    ·exact⟨x,by simp[hx],h5⟩
   ·rw[h6];unfold kS;rw[List.foldl_cons];unfold nC;rw[if_pos ho]
  ·rw[if_neg ho]
   obtain⟨c',T',N',h1,h2,h3,h4,h5,h6⟩:=nX hn l c s T N J R E (fun x hx=>hT x (by simp[hx])) hp.2 (by omega);refine⟨c',T',N',by omega,h2,h3,h4,?_,?_⟩
   ·rcases h5 with h5|⟨x,hx,h5⟩
    ·exact .inl h5
    ·exact .inr ⟨x,by simp[hx],h5⟩
   ·rw[h6];unfold kS;rw[List.foldl_cons];unfold nC;rw[if_neg ho]
theorem xW (f:D5):∀(l m:List Ev) (c:B9),J6 f c (l ++ m)=J6 f c l ++ J6 f (kS f c l) m
 |[],m,c=>rfl
 |e :: l,m,c=>by
  rw[List.cons_append,show kS f c (e :: l)=kS f (nC f c e) l from rfl,J6,J6];unfold nC;split
  ·rw[xW f l m];rfl
  ·rw[xW f l m]
end Go.Proofs.YtmmlmhnjjfnpnaaGreat
