/- Texts that belong together. -/
import Derived.Test.YtmmlmhnjjfnpnaaGreatTpMc
import Derived.Test.YtmmlmhnjjfnpnaaGreatTpMp
set_option linter.all false
namespace Go.Proofs.YtmmlmhnjjfnpnaaGreat
open Go.RowKit Go.ChangeMaps
def Spt.cs (x:Spt):List Value:=[.int .i64 x.w,.int .i64 x.p,.int .i64 x.r,.bool x.z]
def Trp.cs (t:Trp):List Value:=[.int .i64 t.rd,.int .i64 t.bk,.bool t.z]
theorem Spt.len (x:Spt):x.cs.length=4:=rfl
def ekI (i:Int):Value:=.int .i64 i
structure TpE where
 n:Nat
 i:Int
 g:Nat
 t:Trp
def TpE.ent (x:TpE):Nat×Int×Value:=(x.n,x.i,.pointer (some ⟨x.g,0,none⟩))
structure CusM (w:World) (fc:List Value) (p gs bo bu n:Nat) (T:List TpE) (c:Cus):Prop where
 st:BoxIs w p (fc ++ [.slice (some ⟨gs,0,none⟩) c.sp.length c.sp.length,.map (some bo),.map (some bu)])
 sp:BoxIs w gs (flat Spt.cs c.sp)
 mo:MapD ekI w bo (T.map TpE.ent) n
 bn:BornOk (T.map TpE.ent) n
 mu:MapAt ekI w bu (c.us.map fun i=>(i,.bool true))
 tr:∀x∈T,BoxIs w x.g x.t.cs
 op:c.op=T.map fun x=>(x.i,x.t)
 ne:(p :: gs :: bo :: bu :: T.map (·.g)).Nodup
def CusS (gs bo bu:Nat) (T:List TpE) (g:Nat):Prop:=g∈gs :: bo :: bu :: T.map (·.g)
section
variable {w w':World} {fc:List Value} {p gs bo bu n:Nat} {T:List TpE} {c:Cus}
theorem CusM.keep {S:Nat→Prop} (h:CusM w fc p gs bo bu n T c) (hk:KpS S w w') (hn:∀g∈p :: gs :: bo :: bu :: T.map (·.g),¬S g):CusM w' fc p gs bo bu n T c:=
 ⟨h.st.keepS hk (hn _ (by simp)),h.sp.keepS hk (hn _ (by simp)),h.mo.keepS hk (hn _ (by simp)),h.bn,h.mu.keepS hk (hn _ (by simp)),
  fun x hx=>(h.tr x hx).keepS hk (hn _ (by simp only[List.mem_cons,List.mem_map];exact .inr (.inr (.inr (.inr ⟨x,hx,rfl⟩))))),h.op,h.ne⟩
theorem CusM.to (h:CusM w fc p gs bo bu n T c) (hW:∃z:Since w,w'=z.w):CusM w' fc p gs bo bu n T c:=by
 obtain⟨z,rfl⟩:=hW;exact h.keep (KpS.of (S:=fun _ =>False) z) fun _ _ h=>h
theorem CusM.keys (h:CusM w fc p gs bo bu n T c) (hk:(c.op.map (·.1)).Nodup):(T.map (·.i)).Nodup:=by
 rw[h.op]at hk;simpa[List.map_map,Function.comp_def]using hk
theorem flat_setK {α:Type} {enc:α→List Value} {k:Nat} (hk:∀x,(enc x).length=k) (y:α):∀(L:List α) (b:Nat),b<L.length→∀(j:Nat),(flat enc (L.set b y))[j]? =if b*k≤j∧j<b*k+k then(enc y)[j-b*k]? else(flat enc L)[j]?
 |[],b,h,_ =>by simp at h
 |x :: L,0,_,j=>by
  have e1:flat enc ((x :: L).set 0 y)=enc y ++ flat enc L:=rfl;have e2:flat enc (x :: L)=enc x ++ flat enc L:=rfl;rw[e1,e2];simp only[Nat.zero_mul,Nat.zero_le,true_and,Nat.zero_add,Nat.sub_zero];by_cases hj:j<k
  ·rw[if_pos hj,List.getElem?_append_left (by rw[hk];exact hj)]
  ·rw[if_neg hj,List.getElem?_append_right (by rw[hk];omega),List.getElem?_append_right (by rw[hk];omega),hk,hk]
 |x :: L,b+1,h,j=>by
  have ih:=flat_setK hk y L b (by simpa using h);have e1:flat enc ((x :: L).set (b+1) y)=enc x ++ flat enc (L.set b y):=rfl;have e2:flat enc (x :: L)=enc x ++ flat enc L:=rfl;have em:(b+1)*k=b*k+k:=Nat.succ_mul b k;rw[e1,e2,em];by_cases hj:j<k
  ·rw[List.getElem?_append_left (by rw[hk];exact hj),List.getElem?_append_left (by rw[hk];exact hj),if_neg (by omega)]
  ·rw[List.getElem?_append_right (by rw[hk];omega),List.getElem?_append_right (by rw[hk];omega),hk,ih (j-k)]
   by_cases hc:b*k≤j-k∧j-k<b*k+k
   ·rw[if_pos hc,if_pos (by omega),show j-k-b*k=j-(b*k+k) by omega]
   ·rw[if_neg hc,if_neg (by omega)]
theorem BoxIs.setE {α:Type} {enc:α→List Value} {k:Nat} (hk:∀x,(enc x).length=k) {g:Nat} {L:List α} (h:BoxIs w g (flat enc L)) (b:Nat) (hb:b<L.length) (y:α):BoxIs (w.setCells g (b*k) (enc y)) g (flat enc (L.set b y)):=by
 refine⟨by rw[setCells_size];exact h.lt,fun j v hv=>?_,fun o=>by rw[World.frozen?_setCells];exact h.f o⟩;rw[flat_setK hk y L b hb]at hv;have hlen:b*k+k≤(flat enc L).length:=by
  rw[flat_length hk];have:(b+1)*k≤L.length*k:=Nat.mul_le_mul_right k hb;rw[Nat.succ_mul]at this;exact this
 by_cases hc:b*k≤j∧j<b*k+k
 ·rw[if_pos hc]at hv
  have:=World.cell?_setCells_in g (enc y) (b*k) w (fun i hi=>by
   rw[hk]at hi;have hlt:b*k+i<(flat enc L).length:=by omega
   rw[h.c (b*k+i) _ (List.getElem?_eq_getElem hlt)];rfl) (j-b*k) (by rw[hk];omega)
  rw[show b*k+(j-b*k)=j by omega]at this;rw[this,←hv];exact(List.getElem?_eq_getElem (by rw[hk];omega)).symm
 ·rw[if_neg hc]at hv
  rw[World.cell?_setCells_out g (enc y) (b*k) w ⟨g,j,none⟩ (fun _ _ =>by rw[hk];show j<b*k∨b*k+k≤j;omega)];exact h.c j v hv
theorem CusM.put (h:CusM w fc p gs bo bu n T c) {b:Nat} (hb:b<c.sp.length) (x:Spt):CusM (w.setCells gs (b*4) x.cs) fc p gs bo bu n T (c.put (b:Int) x)∧KpS (CusS gs bo bu T) w (w.setCells gs (b*4) x.cs):=by
 have hk:KpS (fun g=>g=gs) w (w.setCells gs (b*4) x.cs):=KpS.sets (S:=fun g=>g=gs) gs rfl _ _ _;have hn:=h.ne;simp only[List.nodup_cons,List.mem_cons,List.mem_map,not_or]at hn;obtain⟨⟨n1,n2,n3,n4⟩,⟨n5,n6,n7⟩,⟨n8,n9⟩,n10,n11⟩:=hn;refine⟨⟨?_,?_,h.mo.keepS hk (Ne.symm n5),h.bn,h.mu.keepS hk (Ne.symm n6),fun y hy=>(h.tr y hy).keepS hk (fun e=>n7 ⟨y,hy,e⟩),h.op,h.ne⟩,KpS.sets gs (by simp[CusS]) _ _ _⟩
 ·have:=h.st.keepS hk n1
  simpa[Cus.put]using this
 ·have:=h.sp.setE Spt.len b hb x
  simpa[Cus.put]using this
end
theorem mdel_filter (i:Int):∀(T:List TpE),(T.map (·.i)).Nodup→mdel i (T.map TpE.ent)=(T.filter fun x=>decide (x.i≠i)).map TpE.ent:=by
 have key:∀(T:List TpE) (m:Nat),(T.map (·.i)).Nodup→(match lkF i (kvD (T.map TpE.ent)) m with|some (j,_)=>m≤j∧(T.map TpE.ent).eraseIdx (j-m)=(T.filter fun x=>decide (x.i≠i)).map TpE.ent|none=>T.map TpE.ent=(T.filter fun x=>decide (x.i≠i)).map TpE.ent):=by
  intro T;induction T with
  |nil=>intro m _;simp[kvD,lkF]
  |cons x T ih=>
   intro m hn
   simp only[List.map_cons,List.nodup_cons]at hn
   have e:lkF i (kvD ((x :: T).map TpE.ent)) m=if i=x.i then some (m,.pointer (some ⟨x.g,0,none⟩))else lkF i (kvD (T.map TpE.ent)) (m+1):=rfl
   rw[e]
   by_cases hx:i=x.i
   ·rw[if_pos hx]
    refine⟨Nat.le_refl _,?_⟩;rw[Nat.sub_self,List.map_cons,List.eraseIdx_cons_zero,List.filter_cons,if_neg (by simp[hx]),List.filter_eq_self.2 (fun y hy=>?_)];simp only[decide_eq_true_eq];intro e;exact hn.1 (List.mem_map.2 ⟨y,hy,by rw[e,hx]⟩)
   ·rw[if_neg hx,List.filter_cons,if_pos (by simpa using Ne.symm hx)]
    have:=ih (m+1) hn.2
    cases hl:lkF i (kvD (T.map TpE.ent)) (m+1)with
    |none=>
     rw[hl]at this
     simp only[List.map_cons]
     rw[←this]
    |some r=>
     obtain⟨j,v⟩:=r
     rw[hl]at this
     obtain⟨h1,h2⟩:=this
     refine⟨by omega,?_⟩
     rw[show j-m=(j-(m+1))+1 by omega,List.map_cons,List.eraseIdx_cons_succ,List.map_cons,h2]
 intro T hn;have:=key T 0 hn;unfold mdel
 cases hl:lkF i (kvD (T.map TpE.ent)) 0 with
 |none=>rw[hl]at this;exact this
 |some r=>obtain⟨j,v⟩:=r;rw[hl]at this;exact this.2
section
variable {w w':World} {fc:List Value} {p gs bo bu n:Nat} {T:List TpE} {c:Cus}
theorem nodup_filterG {l:List Nat} {q:TpE→Bool} (h:(l ++ T.map (·.g)).Nodup):(l ++ (T.filter q).map (·.g)).Nodup:=
 (List.Sublist.append_left (List.Sublist.map _ List.filter_sublist) l).nodup h
theorem CusM.gone (h:CusM w fc p gs bo bu n T c) (hk:(c.op.map (·.1)).Nodup) (i:Int) (hm:MapD ekI w' bo (mdel i (T.map TpE.ent)) n) (hg:w.grownBy w' (some bo)):
 CusM w' fc p gs bo bu n (T.filter fun x=>decide (x.i≠i)) {c with op:=c.op.filter fun y=>decide (y.1≠i)}∧KpS (CusS gs bo bu T) w w':=by
 have hkp:KpS (fun g=>g=bo) w w':=KpS.grown hg rfl;have hn:=h.ne;simp only[List.nodup_cons,List.mem_cons,List.mem_map,not_or]at hn;obtain⟨⟨n1,n2,n3,n4⟩,⟨n5,n6,n7⟩,⟨n8,n9⟩,n10,n11⟩:=hn;rw[mdel_filter i T (h.keys hk)]at hm;refine⟨⟨h.st.keepS hkp n2,h.sp.keepS hkp n5,hm,?_,h.mu.keepS hkp (Ne.symm n8),fun y hy=>(h.tr y (List.mem_filter.1 hy).1).keepS hkp (fun e=>n9 ⟨y,(List.mem_filter.1 hy).1,e⟩),?_,nodup_filterG (l:=[p,gs,bo,bu]) h.ne⟩,KpS.grown hg (by simp[CusS])⟩
 ·rw[←mdel_filter i T (h.keys hk)];exact h.bn.del i
 ·show c.op.filter _ = _
  rw[h.op,List.filter_map];rfl
theorem CusM.opened (h:CusM w fc p gs bo bu n T c) (hb:BornOk (T.map TpE.ent) n) {i:Int} {g:Nat} {t:Trp} (hbx:BoxIs w g t.cs) (hgn:g∉p :: gs :: bo :: bu :: T.map (·.g)) (hm:MapD ekI w' bo (T.map TpE.ent ++ [(n,i,.pointer (some ⟨g,0,none⟩))]) (n+1)) (hg:w.grownBy w' (some bo)):
 CusM w' fc p gs bo bu (n+1) (T ++ [⟨n,i,g,t⟩]) {c with op:=c.op ++ [(i,t)]}∧KpS (CusS gs bo bu T) w w':=by
 have hkp:KpS (fun g=>g=bo) w w':=KpS.grown hg rfl;have hn:=h.ne;simp only[List.nodup_cons,List.mem_cons,List.mem_map,not_or]at hn;obtain⟨⟨n1,n2,n3,n4⟩,⟨n5,n6,n7⟩,⟨n8,n9⟩,n10,n11⟩:=hn;have hgn':=hgn;simp only[List.mem_cons,not_or]at hgn';refine⟨⟨h.st.keepS hkp n2,h.sp.keepS hkp n5,by rw[List.map_append];exact hm,by rw[List.map_append];exact hb.snoc i _,h.mu.keepS hkp (Ne.symm n8),fun y hy=>?_,by simp[h.op],?_⟩,KpS.grown hg (by simp[CusS])⟩
 ·rcases List.mem_append.1 hy with hy|hy
  ·exact(h.tr y hy).keepS hkp (fun e=>n9 ⟨y,hy,e⟩)
  ·rw[List.mem_singleton]at hy;subst hy
   exact hbx.keepS hkp hgn'.2.2.1
 ·have e:p :: gs :: bo :: bu :: (T ++ [(⟨n,i,g,t⟩:TpE)]).map (fun x=>x.g)=(p :: gs :: bo :: bu :: T.map (·.g)) ++ [g]:=by simp
  rw[e,List.nodup_append];refine⟨h.ne,by simp,fun a ha b hb' e2=>?_⟩;rw[List.mem_singleton]at hb';subst hb';subst e2;exact hgn ha
theorem CusM.usedI (h:CusM w fc p gs bo bu n T c) {i:Int} (hm:MapAt ekI w' bu ((c.us.map fun i=>(i,.bool true)) ++ [(i,.bool true)])) (hg:w.grownBy w' (some bu)):
 CusM w' fc p gs bo bu n T {c with us:=c.us ++ [i]}∧KpS (CusS gs bo bu T) w w':=by
 have hkp:KpS (fun g=>g=bu) w w':=KpS.grown hg rfl;have hn:=h.ne;simp only[List.nodup_cons,List.mem_cons,List.mem_map,not_or]at hn;obtain⟨⟨n1,n2,n3,n4⟩,⟨n5,n6,n7⟩,⟨n8,n9⟩,n10,n11⟩:=hn;exact⟨⟨h.st.keepS hkp n3,h.sp.keepS hkp n6,h.mo.keepS hkp n8,h.bn,by simpa using hm,fun y hy=>(h.tr y hy).keepS hkp (fun e=>n10 ⟨y,hy,e⟩),h.op,h.ne⟩,KpS.grown hg (by simp[CusS])⟩
def setTp (i:Int) (f:Trp→Trp) (T:List TpE):List TpE:=T.map fun y=>if y.i=i then{y with t:=f y.t}else y
theorem setTp_g (i:Int) (f:Trp→Trp) (T:List TpE):(setTp i f T).map (·.g)=T.map (·.g):=by
 unfold setTp;rw[List.map_map];apply List.map_congr_left;intro x _;simp only[Function.comp];split<;>rfl
theorem setTp_ent (i:Int) (f:Trp→Trp) (T:List TpE):(setTp i f T).map TpE.ent=T.map TpE.ent:=by
 unfold setTp;rw[List.map_map];apply List.map_congr_left;intro x _;simp only[Function.comp];split<;>rfl
theorem key_oneT {l:List TpE} (h:(l.map (·.i)).Nodup) {x y:TpE} (h1:x∈l) (h2:y∈l) (e:x.i=y.i):x=y:=by
 induction l with
 |nil=>simp at h1
 |cons z l ih=>
  simp only[List.map_cons,List.nodup_cons]at h
  rcases List.mem_cons.1 h1 with e1|h1
  ·rcases List.mem_cons.1 h2 with e2|h2
   ·rw[e1,e2]
   ·exact absurd (List.mem_map.2 ⟨_,h2,by rw[←e,e1]⟩) h.1
  ·rcases List.mem_cons.1 h2 with e2|h2
   ·exact absurd (List.mem_map.2 ⟨_,h1,by rw[e,e2]⟩) h.1
   ·exact ih h.2 h1 h2
theorem nodup_gT {l:List TpE} (h:(l.map (·.g)).Nodup) {x y:TpE} (h1:x∈l) (h2:y∈l) (e:x.g=y.g):x=y:=by
 induction l with
 |nil=>simp at h1
 |cons z l ih=>
  simp only[List.map_cons,List.nodup_cons]at h
  rcases List.mem_cons.1 h1 with e1|h1
  ·rcases List.mem_cons.1 h2 with e2|h2
   ·rw[e1,e2]
   ·exact absurd (List.mem_map.2 ⟨_,h2,by rw[←e,e1]⟩) h.1
  ·rcases List.mem_cons.1 h2 with e2|h2
   ·exact absurd (List.mem_map.2 ⟨_,h1,by rw[e,e2]⟩) h.1
   ·exact ih h.2 h1 h2
theorem CusM.trip1 (h:CusM w fc p gs bo bu n T c) (hk:(c.op.map (·.1)).Nodup) {x:TpE} (hx:x∈T) (f:Trp→Trp) (j:Nat) (v:Value) (hj:j<3) (hf:(f x.t).cs=x.t.cs.set j v):
 CusM (w.setCell ⟨x.g,j,none⟩ v) fc p gs bo bu n (setTp x.i f T) (c.setT x.i f)∧KpS (CusS gs bo bu T) w (w.setCell ⟨x.g,j,none⟩ v):=by
 have hkp:KpS (fun g=>g=x.g) w (w.setCell ⟨x.g,j,none⟩ v):=KpS.set (S:=fun g=>g=x.g) w ⟨x.g,j,none⟩ v rfl;have hn:=h.ne;simp only[List.nodup_cons,List.mem_cons,List.mem_map,not_or]at hn;obtain⟨⟨n1,n2,n3,n4⟩,⟨n5,n6,n7⟩,⟨n8,n9⟩,n10,n11⟩:=hn;refine⟨⟨h.st.keepS hkp (fun e=>n4 ⟨x,hx,e.symm⟩),h.sp.keepS hkp (fun e=>n7 ⟨x,hx,e.symm⟩),?_,?_,h.mu.keepS hkp (fun e=>n10 ⟨x,hx,e.symm⟩),fun y hy=>?_,?_,by rw[setTp_g];exact h.ne⟩,KpS.set w ⟨x.g,j,none⟩ v (by simp only[CusS,List.mem_cons,List.mem_map];exact .inr (.inr (.inr ⟨x,hx,rfl⟩)))⟩
 ·rw[setTp_ent];exact h.mo.keepS hkp (fun e=>n9 ⟨x,hx,e.symm⟩)
 ·rw[setTp_ent];exact h.bn
 ·unfold setTp at hy
  obtain⟨z,hz,rfl⟩:=List.mem_map.1 hy;by_cases e:z.i=x.i
  ·obtain rfl:=key_oneT (h.keys hk) hz hx e
   rw[if_pos rfl];show BoxIs _ z.g (f z.t).cs;rw[hf];exact(h.tr z hx).setj hj v
  ·rw[if_neg e]
   exact(h.tr z hz).keepS hkp (fun e2=>e (by rw[nodup_gT n11 hz hx e2]))
 ·show(c.op.map _)= _
  rw[h.op];unfold setTp;rw[List.map_map,List.map_map];apply List.map_congr_left;intro y _;simp only[Function.comp];split<;>rfl
theorem look_open (h:CusM w fc p gs bo bu n T c) (hk:(c.op.map (·.1)).Nodup) (i:Int):(∃x∈T,x.i=i∧c.trip i=some x.t∧lkV i (kvD (T.map TpE.ent)) (.pointer none)= .pointer (some ⟨x.g,0,none⟩))∨(c.trip i=none∧lkF i (kvD (T.map TpE.ent)) 0=none∧lkV i (kvD (T.map TpE.ent)) (.pointer none)= .pointer none):=by
 have hkt:=h.keys hk;by_cases hex:∃x∈T,x.i=i
 ·obtain⟨x,hx,rfl⟩:=hex
  refine .inl ⟨x,hx,rfl,mem_trip hk (by rw[h.op];exact List.mem_map.2 ⟨x,hx,rfl⟩),?_⟩;obtain⟨j,hj⟩:=List.mem_iff_getElem?.1 hx;have:=lkF_at (x:=x.i) (v:=.pointer (some ⟨x.g,0,none⟩)) (kvD (T.map TpE.ent)) 0 j (by simp[kvD,hj,TpE.ent]) (fun k q hkj hq=>by
   simp only[kvD,List.getElem?_map,Option.map_eq_some_iff]at hq;obtain⟨a,⟨y,hy,rfl⟩,rfl⟩:=hq;intro e;have hxe:y=x:=key_oneT hkt (List.mem_of_getElem? hy) hx e;subst hxe;have h1:=(List.getElem?_eq_some_iff.1 hy)
   have h2:=(List.getElem?_eq_some_iff.1 hj)
   obtain⟨l1,e1⟩:=h1;obtain⟨l2,e2⟩:=h2;have:=(List.pairwise_iff_getElem.1 hkt) k j (by simpa using l1) (by simpa using l2) hkj;simp[e1,e2]at this)
  unfold lkV;rw[this]
 ·have hno:lkF i (kvD (T.map TpE.ent)) 0=none:=lkF_none _ _ fun q hq e=>by
   simp only[kvD,List.mem_map]at hq;obtain⟨a,⟨y,hy,rfl⟩,rfl⟩:=hq;exact hex ⟨y,hy,e⟩
  refine .inr ⟨?_,hno,by unfold lkV;rw[hno]⟩
  cases ht:c.trip i with
  |none=>rfl
  |some t=>
   have:=trip_mem ht
   rw[h.op]at this
   obtain⟨y,hy,e⟩:=List.mem_map.1 this
   exact absurd ⟨y,hy,congrArg Prod.fst e⟩ hex
theorem look_used (us:List Int) (i:Int):lkV i (us.map fun i=>(i,Value.bool true)) (.bool false)= .bool (us.contains i)∧(i∉us→lkF i (us.map fun i=>(i,Value.bool true)) 0=none):=by
 have key:∀(us:List Int) (m:Nat),(match lkF i (us.map fun i=>(i,Value.bool true)) m with|some (_,v)=>v|none=>.bool false)= .bool (us.contains i):=by
  intro us;induction us with
  |nil=>intro m;simp[lkF]
  |cons u us ih=>
   intro m
   simp only[List.map_cons,lkF]
   by_cases e:i=u
   ·rw[if_pos e];simp[e]
   ·rw[if_neg e,ih (m+1)];simp[e]
 refine⟨key us 0,fun hn=>lkF_none _ _ fun q hq e=>?_⟩;obtain⟨y,hy,rfl⟩:=List.mem_map.1 hq;exact hn (e ▸ hy)
end
end Go.Proofs.YtmmlmhnjjfnpnaaGreat
