/- Texts that belong together. -/
import Derived.Test.YtmmlmhnjjfnpnaaGreatTpQc
import Derived.Test.YtmmlmhnjjfnpnaaGreatTpQt
set_option linter.all false
namespace Go.Proofs.YtmmlmhnjjfnpnaaGreat
open Go.RowKit Go.ChangeMaps
def D8.cs (x:D8):List Value:=[.int .i64 x.w,.int .i64 x.p,.int .i64 x.r,.bool x.z]
def N7.cs (t:N7):List Value:=[.int .i64 t.rd,.int .i64 t.bk,.bool t.z]
theorem D8.len (x:D8):x.cs.length=4:=rfl
def fZ (i:Int):Value:=.int .i64 i
structure F0 where
 n:Nat
 i:Int
 g:Nat
 t:N7
def F0.ent (x:F0):Nat×Int×Value:=(x.n,x.i,.pointer (some ⟨x.g,0,none⟩))
structure K0 (w:World) (fc:List Value) (p gs bo bu n:Nat) (T:List F0) (c:C5):Prop where
 st:C4 w p (fc ++ [.slice (some ⟨gs,0,none⟩) c.sp.length c.sp.length,.map (some bo),.map (some bu)])
 sp:C4 w gs (B4 D8.cs c.sp)
 mo:P0 fZ w bo (T.map F0.ent) n
 bn:bA (T.map F0.ent) n
 mu:J0 fZ w bu (c.us.map fun i=>(i,.bool true))
 tr:∀x∈T,C4 w x.g x.t.cs
 op:c.op=T.map fun x=>(x.i,x.t)
 ne:(p :: gs :: bo :: bu :: T.map (·.g)).Nodup
def N8 (gs bo bu:Nat) (T:List F0) (g:Nat):Prop:=g∈gs :: bo :: bu :: T.map (·.g)
section
variable {w w':World} {fc:List Value} {p gs bo bu n:Nat} {T:List F0} {c:C5}
theorem K0.keep {S:Nat→Prop} (h:K0 w fc p gs bo bu n T c) (hk:B7 S w w') (hn:∀g∈p :: gs :: bo :: bu :: T.map (·.g),¬S g):K0 w' fc p gs bo bu n T c:=
 ⟨h.st.keepS hk (hn _ (by simp)),h.sp.keepS hk (hn _ (by simp)),h.mo.keepS hk (hn _ (by simp)),h.bn,h.mu.keepS hk (hn _ (by simp)),
  fun x hx=>(h.tr x hx).keepS hk (hn _ (by simp only[List.mem_cons,List.mem_map];exact .inr (.inr (.inr (.inr ⟨x,hx,rfl⟩))))),h.op,h.ne⟩
theorem K0.to (h:K0 w fc p gs bo bu n T c) (hW:∃z:A7 w,w'=z.w):K0 w' fc p gs bo bu n T c:=by
 obtain⟨z,rfl⟩:=hW;exact h.keep (B7.of (S:=fun _ =>False) z) fun _ _ h=>h
theorem K0.keys (h:K0 w fc p gs bo bu n T c) (hk:(c.op.map (·.1)).Nodup):(T.map (·.i)).Nodup:=by
 rw[h.op]at hk;simpa[List.map_map,Function.comp_def]using hk
theorem qB {α:Type} {enc:α→List Value} {k:Nat} (hk:∀x,(enc x).length=k) (y:α):∀(L:List α) (b:Nat),b<L.length→∀(j:Nat),(B4 enc (L.set b y))[j]? =if b*k≤j∧j<b*k+k then(enc y)[j-b*k]? else(B4 enc L)[j]?
 |[],b,h,_ =>by simp at h
 |x :: L,0,_,j=>by
  have e1:B4 enc ((x :: L).set 0 y)=enc y ++ B4 enc L:=rfl;have e2:B4 enc (x :: L)=enc x ++ B4 enc L:=rfl;rw[e1,e2];simp only[Nat.zero_mul,Nat.zero_le,true_and,Nat.zero_add,Nat.sub_zero];by_cases hj:j<k
  ·rw[if_pos hj,List.getElem?_append_left (by rw[hk];exact hj)]
  ·rw[if_neg hj,List.getElem?_append_right (by rw[hk];omega),List.getElem?_append_right (by rw[hk];omega),hk,hk]
 |x :: L,b+1,h,j=>by
  have ih:=qB hk y L b (by simpa using h);have e1:B4 enc ((x :: L).set (b+1) y)=enc x ++ B4 enc (L.set b y):=rfl;have e2:B4 enc (x :: L)=enc x ++ B4 enc L:=rfl;have em:(b+1)*k=b*k+k:=Nat.succ_mul b k;rw[e1,e2,em];by_cases hj:j<k
  ·rw[List.getElem?_append_left (by rw[hk];exact hj),List.getElem?_append_left (by rw[hk];exact hj),if_neg (by omega)]
  ·rw[List.getElem?_append_right (by rw[hk];omega),List.getElem?_append_right (by rw[hk];omega),hk,ih (j-k)]
   by_cases hc:b*k≤j-k∧j-k<b*k+k
   ·rw[if_pos hc,if_pos (by omega),show j-k-b*k=j-(b*k+k) by omega]
   ·rw[if_neg hc,if_neg (by omega)]
theorem C4.setE {α:Type} {enc:α→List Value} {k:Nat} (hk:∀x,(enc x).length=k) {g:Nat} {L:List α} (h:C4 w g (B4 enc L)) (b:Nat) (hb:b<L.length) (y:α):C4 (w.setCells g (b*k) (enc y)) g (B4 enc (L.set b y)):=by
 refine⟨by rw[sV];exact h.lt,fun j v hv=>?_,fun o=>by rw[World.frozen?_setCells];exact h.f o⟩;rw[qB hk y L b hb]at hv;have hlen:b*k+k≤(B4 enc L).length:=by
  rw[U7 hk];have:(b+1)*k≤L.length*k:=Nat.mul_le_mul_right k hb;rw[Nat.succ_mul]at this;exact this
 by_cases hc:b*k≤j∧j<b*k+k
 ·rw[if_pos hc]at hv
  have:=World.cell?_setCells_in g (enc y) (b*k) w (fun i hi=>by
   rw[hk]at hi;have hlt:b*k+i<(B4 enc L).length:=by omega
   rw[h.c (b*k+i) _ (A4 hlt)];rfl) (j-b*k) (by rw[hk];omega)
  rw[show b*k+(j-b*k)=j by omega]at this;rw[this,←hv];exact(A4 (by rw[hk];omega)).symm
 ·rw[if_neg hc]at hv
  rw[World.cell?_setCells_out g (enc y) (b*k) w ⟨g,j,none⟩ (fun _ _ =>by rw[hk];show j<b*k∨b*k+k≤j;omega)];exact h.c j v hv
theorem K0.put (h:K0 w fc p gs bo bu n T c) {b:Nat} (hb:b<c.sp.length) (x:D8):K0 (w.setCells gs (b*4) x.cs) fc p gs bo bu n T (c.put (b:Int) x)∧B7 (N8 gs bo bu T) w (w.setCells gs (b*4) x.cs):=by
 have hk:B7 (fun g=>g=gs) w (w.setCells gs (b*4) x.cs):=B7.sets (S:=fun g=>g=gs) gs rfl _ _ _;have hn:=h.ne;simp only[List.nodup_cons,List.mem_cons,List.mem_map,not_or]at hn;obtain⟨⟨n1,n2,n3,n4⟩,⟨n5,n6,n7⟩,⟨n8,n9⟩,n10,n11⟩:=hn;refine⟨⟨?_,?_,h.mo.keepS hk (Ne.symm n5),h.bn,h.mu.keepS hk (Ne.symm n6),fun y hy=>(h.tr y hy).keepS hk (fun e=>n7 ⟨y,hy,e⟩),h.op,h.ne⟩,B7.sets gs (by simp[N8]) _ _ _⟩
 ·have:=h.st.keepS hk n1
  simpa[C5.put]using this
 ·have:=h.sp.setE D8.len b hb x
  simpa[C5.put]using this
end
theorem Aj6 (i:Int):∀(T:List F0),(T.map (·.i)).Nodup→gN i (T.map F0.ent)=(T.filter fun x=>decide (x.i≠i)).map F0.ent:=by
 have key:∀(T:List F0) (m:Nat),(T.map (·.i)).Nodup→(match E8 i (P1 (T.map F0.ent)) m with|some (j,_)=>m≤j∧(T.map F0.ent).eraseIdx (j-m)=(T.filter fun x=>decide (x.i≠i)).map F0.ent|none=>T.map F0.ent=(T.filter fun x=>decide (x.i≠i)).map F0.ent):=by
  intro T;induction T with
  |nil=>intro m _;simp[P1,E8]
  |cons x T ih=>
   intro m hn
   simp only[List.map_cons,List.nodup_cons]at hn
   have e:E8 i (P1 ((x :: T).map F0.ent)) m=if i=x.i then some (m,.pointer (some ⟨x.g,0,none⟩))else E8 i (P1 (T.map F0.ent)) (m+1):=rfl
   rw[e]
   by_cases hx:i=x.i
   ·rw[if_pos hx]
    refine⟨Nat.le_refl _,?_⟩;rw[Nat.sub_self,List.map_cons,List.eraseIdx_cons_zero,List.filter_cons,if_neg (by simp[hx]),List.filter_eq_self.2 (fun y hy=>?_)];simp only[decide_eq_true_eq];intro e;exact hn.1 (List.mem_map.2 ⟨y,hy,by rw[e,hx]⟩)
   ·rw[if_neg hx,List.filter_cons,if_pos (by simpa using Ne.symm hx)]
    have:=ih (m+1) hn.2
    cases hl:E8 i (P1 (T.map F0.ent)) (m+1)with
    |none=>
     rw[hl]at this
     simp only[List.map_cons]
     rw[←this]
    |some r=>
     obtain⟨j,v⟩:=r
     rw[hl]at this
     obtain⟨h1,h2⟩:=this
     refine⟨by omega,?_⟩
     rw[show j-m=(j-(m+1))+1 by omega,List.map_cons,List.eraseIdx_cons_succ,List.map_cons,h2]
 intro T hn;have:=key T 0 hn;unfold gN
 cases hl:E8 i (P1 (T.map F0.ent)) 0 with
 |none=>rw[hl]at this;exact this
 |some r=>obtain⟨j,v⟩:=r;rw[hl]at this;exact this.2
section
variable {w w':World} {fc:List Value} {p gs bo bu n:Nat} {T:List F0} {c:C5}
theorem AV0 {l:List Nat} {q:F0→Bool} (h:(l ++ T.map (·.g)).Nodup):(l ++ (T.filter q).map (·.g)).Nodup:=
 (List.Sublist.append_left (List.Sublist.map _ List.filter_sublist) l).nodup h
theorem K0.gone (h:K0 w fc p gs bo bu n T c) (hk:(c.op.map (·.1)).Nodup) (i:Int) (hm:P0 fZ w' bo (gN i (T.map F0.ent)) n) (hg:w.grownBy w' (some bo)):
 K0 w' fc p gs bo bu n (T.filter fun x=>decide (x.i≠i)) {c with op:=c.op.filter fun y=>decide (y.1≠i)}∧B7 (N8 gs bo bu T) w w':=by
 have hkp:B7 (fun g=>g=bo) w w':=B7.grown hg rfl;have hn:=h.ne;simp only[List.nodup_cons,List.mem_cons,List.mem_map,not_or]at hn;obtain⟨⟨n1,n2,n3,n4⟩,⟨n5,n6,n7⟩,⟨n8,n9⟩,n10,n11⟩:=hn;rw[Aj6 i T (h.keys hk)]at hm;refine⟨⟨h.st.keepS hkp n2,h.sp.keepS hkp n5,hm,?_,h.mu.keepS hkp (Ne.symm n8),fun y hy=>(h.tr y (List.mem_filter.1 hy).1).keepS hkp (fun e=>n9 ⟨y,(List.mem_filter.1 hy).1,e⟩),?_,AV0 (l:=[p,gs,bo,bu]) h.ne⟩,B7.grown hg (by simp[N8])⟩
 ·rw[←Aj6 i T (h.keys hk)];exact h.bn.del i
 ·show c.op.filter _ = _
  rw[h.op,List.filter_map];rfl
theorem K0.opened (h:K0 w fc p gs bo bu n T c) (hb:bA (T.map F0.ent) n) {i:Int} {g:Nat} {t:N7} (hbx:C4 w g t.cs) (hgn:g∉p :: gs :: bo :: bu :: T.map (·.g)) (hm:P0 fZ w' bo (T.map F0.ent ++ [(n,i,.pointer (some ⟨g,0,none⟩))]) (n+1)) (hg:w.grownBy w' (some bo)):
 K0 w' fc p gs bo bu (n+1) (T ++ [⟨n,i,g,t⟩]) {c with op:=c.op ++ [(i,t)]}∧B7 (N8 gs bo bu T) w w':=by
 have hkp:B7 (fun g=>g=bo) w w':=B7.grown hg rfl;have hn:=h.ne;simp only[List.nodup_cons,List.mem_cons,List.mem_map,not_or]at hn;obtain⟨⟨n1,n2,n3,n4⟩,⟨n5,n6,n7⟩,⟨n8,n9⟩,n10,n11⟩:=hn;have hgn':=hgn;simp only[List.mem_cons,not_or]at hgn';refine⟨⟨h.st.keepS hkp n2,h.sp.keepS hkp n5,by rw[List.map_append];exact hm,by rw[List.map_append];exact hb.snoc i _,h.mu.keepS hkp (Ne.symm n8),fun y hy=>?_,by simp[h.op],?_⟩,B7.grown hg (by simp[N8])⟩
 ·rcases List.mem_append.1 hy with hy|hy
  ·exact(h.tr y hy).keepS hkp (fun e=>n9 ⟨y,hy,e⟩)
  ·rw[List.mem_singleton]at hy;subst hy
   exact hbx.keepS hkp hgn'.2.2.1
 ·have e:p :: gs :: bo :: bu :: (T ++ [(⟨n,i,g,t⟩:F0)]).map (fun x=>x.g)=(p :: gs :: bo :: bu :: T.map (·.g)) ++ [g]:=by simp
  rw[e,List.nodup_append];refine⟨h.ne,by simp,fun a ha b hb' e2=>?_⟩;rw[List.mem_singleton]at hb';subst hb';subst e2;exact hgn ha
theorem K0.usedI (h:K0 w fc p gs bo bu n T c) {i:Int} (hm:J0 fZ w' bu ((c.us.map fun i=>(i,.bool true)) ++ [(i,.bool true)])) (hg:w.grownBy w' (some bu)):
 K0 w' fc p gs bo bu n T {c with us:=c.us ++ [i]}∧B7 (N8 gs bo bu T) w w':=by
 have hkp:B7 (fun g=>g=bu) w w':=B7.grown hg rfl;have hn:=h.ne;simp only[List.nodup_cons,List.mem_cons,List.mem_map,not_or]at hn;obtain⟨⟨n1,n2,n3,n4⟩,⟨n5,n6,n7⟩,⟨n8,n9⟩,n10,n11⟩:=hn;exact⟨⟨h.st.keepS hkp n3,h.sp.keepS hkp n6,h.mo.keepS hkp n8,h.bn,by simpa using hm,fun y hy=>(h.tr y hy).keepS hkp (fun e=>n10 ⟨y,hy,e⟩),h.op,h.ne⟩,B7.grown hg (by simp[N8])⟩
def jF (i:Int) (f:N7→N7) (T:List F0):List F0:=T.map fun y=>if y.i=i then{y with t:=f y.t}else y
theorem qC (i:Int) (f:N7→N7) (T:List F0):(jF i f T).map (·.g)=T.map (·.g):=by
 unfold jF;rw[List.map_map];apply List.map_congr_left;intro x _;simp only[Function.comp];split<;>rfl
theorem Aj7 (i:Int) (f:N7→N7) (T:List F0):(jF i f T).map F0.ent=T.map F0.ent:=by
 unfold jF;rw[List.map_map];apply List.map_congr_left;intro x _;simp only[Function.comp];split<;>rfl
theorem vH {l:List F0} (h:(l.map (·.i)).Nodup) {x y:F0} (h1:x∈l) (h2:y∈l) (e:x.i=y.i):x=y:=by
 induction l with
 |nil=>simp at h1
 |cons z l ih=>
  simp only[List.map_cons,List.nodup_cons]at h
  rcases List.mem_cons.1 h1 with e1|h1
  ·rcases List.mem_cons.1 h2 with e2|h2
   ·rw[e1,e2]
   ·exact absurd (List.mem_map.2 ⟨_,h2,by rw[←e,e1]⟩) h.1
  ·rcases List.mem_cons.1 h2 with e2|h2
   ·exact absurd (List.mem_map.2 ⟨_,h1,by rw[e,e2]⟩) h.1
   ·exact ih h.2 h1 h2
theorem AV1 {l:List F0} (h:(l.map (·.g)).Nodup) {x y:F0} (h1:x∈l) (h2:y∈l) (e:x.g=y.g):x=y:=by
 induction l with
 |nil=>simp at h1
 |cons z l ih=>
  simp only[List.map_cons,List.nodup_cons]at h
  rcases List.mem_cons.1 h1 with e1|h1
  ·rcases List.mem_cons.1 h2 with e2|h2
   ·rw[e1,e2]
   ·exact absurd (List.mem_map.2 ⟨_,h2,by rw[←e,e1]⟩) h.1
  ·rcases List.mem_cons.1 h2 with e2|h2
   ·exact absurd (List.mem_map.2 ⟨_,h1,by rw[e,e2]⟩) h.1
   ·exact ih h.2 h1 h2
theorem K0.trip1 (h:K0 w fc p gs bo bu n T c) (hk:(c.op.map (·.1)).Nodup) {x:F0} (hx:x∈T) (f:N7→N7) (j:Nat) (v:Value) (hj:j<3) (hf:(f x.t).cs=x.t.cs.set j v):
 K0 (w.setCell ⟨x.g,j,none⟩ v) fc p gs bo bu n (jF x.i f T) (c.setT x.i f)∧B7 (N8 gs bo bu T) w (w.setCell ⟨x.g,j,none⟩ v):=by
 have hkp:B7 (fun g=>g=x.g) w (w.setCell ⟨x.g,j,none⟩ v):=B7.set (S:=fun g=>g=x.g) w ⟨x.g,j,none⟩ v rfl;have hn:=h.ne;simp only[List.nodup_cons,List.mem_cons,List.mem_map,not_or]at hn;obtain⟨⟨n1,n2,n3,n4⟩,⟨n5,n6,n7⟩,⟨n8,n9⟩,n10,n11⟩:=hn;refine⟨⟨h.st.keepS hkp (fun e=>n4 ⟨x,hx,e.symm⟩),h.sp.keepS hkp (fun e=>n7 ⟨x,hx,e.symm⟩),?_,?_,h.mu.keepS hkp (fun e=>n10 ⟨x,hx,e.symm⟩),fun y hy=>?_,?_,by rw[qC];exact h.ne⟩,B7.set w ⟨x.g,j,none⟩ v (by simp only[N8,List.mem_cons,List.mem_map];exact .inr (.inr (.inr ⟨x,hx,rfl⟩)))⟩
 ·rw[Aj7];exact h.mo.keepS hkp (fun e=>n9 ⟨x,hx,e.symm⟩)
 ·rw[Aj7];exact h.bn
 ·unfold jF at hy
  obtain⟨z,hz,rfl⟩:=List.mem_map.1 hy;by_cases e:z.i=x.i
  ·obtain rfl:=vH (h.keys hk) hz hx e
   rw[if_pos rfl];show C4 _ z.g (f z.t).cs;rw[hf];exact(h.tr z hx).setj hj v
  ·rw[if_neg e]
   exact(h.tr z hz).keepS hkp (fun e2=>e (by rw[AV1 n11 hz hx e2]))
 ·show(c.op.map _)= _
  rw[h.op];unfold jF;rw[List.map_map,List.map_map];apply List.map_congr_left;intro y _;simp only[Function.comp];split<;>rfl
theorem qD (h:K0 w fc p gs bo bu n T c) (hk:(c.op.map (·.1)).Nodup) (i:Int):(∃x∈T,x.i=i∧c.trip i=some x.t∧Q4 i (P1 (T.map F0.ent)) (.pointer none)= .pointer (some ⟨x.g,0,none⟩))∨(c.trip i=none∧E8 i (P1 (T.map F0.ent)) 0=none∧Q4 i (P1 (T.map F0.ent)) (.pointer none)= .pointer none):=by
 have hkt:=h.keys hk;by_cases hex:∃x∈T,x.i=i
 ·obtain⟨x,hx,rfl⟩:=hex
  refine .inl ⟨x,hx,rfl,AT9 hk (by rw[h.op];exact List.mem_map.2 ⟨x,hx,rfl⟩),?_⟩;obtain⟨j,hj⟩:=List.mem_iff_getElem?.1 hx;have:=zB (x:=x.i) (v:=.pointer (some ⟨x.g,0,none⟩)) (P1 (T.map F0.ent)) 0 j (by simp[P1,hj,F0.ent]) (fun k q hkj hq=>by
   simp only[P1,List.getElem?_map,Option.map_eq_some_iff]at hq;obtain⟨a,⟨y,hy,rfl⟩,rfl⟩:=hq;intro e;have hxe:y=x:=vH hkt (A0 hy) hx e;subst hxe;have h1:=(A5 hy)
   have h2:=(A5 hj)
   obtain⟨l1,e1⟩:=h1;obtain⟨l2,e2⟩:=h2;have:=(List.pairwise_iff_getElem.1 hkt) k j (by simpa using l1) (by simpa using l2) hkj;simp[e1,e2]at this)
  unfold Q4;rw[this]
 ·have hno:E8 i (P1 (T.map F0.ent)) 0=none:=oN _ _ fun q hq e=>by
   simp only[P1,List.mem_map]at hq;obtain⟨a,⟨y,hy,rfl⟩,rfl⟩:=hq;exact hex ⟨y,hy,e⟩
  refine .inr ⟨?_,hno,by unfold Q4;rw[hno]⟩
  cases ht:c.trip i with
  |none=>rfl
  |some t=>
   have:=pY ht
   rw[h.op]at this
   obtain⟨y,hy,e⟩:=List.mem_map.1 this
   exact absurd ⟨y,hy,congrArg Prod.fst e⟩ hex
theorem Aj8 (us:List Int) (i:Int):Q4 i (us.map fun i=>(i,Value.bool true)) (.bool false)= .bool (us.contains i)∧(i∉us→E8 i (us.map fun i=>(i,Value.bool true)) 0=none):=by
 have key:∀(us:List Int) (m:Nat),(match E8 i (us.map fun i=>(i,Value.bool true)) m with|some (_,v)=>v|none=>.bool false)= .bool (us.contains i):=by
  intro us;induction us with
  |nil=>intro m;simp[E8]
  |cons u us ih=>
   intro m
   simp only[List.map_cons,E8]
   by_cases e:i=u
   ·rw[if_pos e];simp[e]
   ·rw[if_neg e,ih (m+1)];simp[e]
 refine⟨key us 0,fun hn=>oN _ _ fun q hq e=>?_⟩;obtain⟨y,hy,rfl⟩:=List.mem_map.1 hq;exact hn (e ▸ hy)
end
end Go.Proofs.YtmmlmhnjjfnpnaaGreat
