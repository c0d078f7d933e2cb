/- Texts that belong together. -/
import Derived.Test.YtmmlmhnjjfnpnaaGreatTpMzd
import Derived.Test.YtmmlmhnjjfnpnaaGreatTpMzh
set_option linter.all false
namespace Go.Proofs.YtmmlmhnjjfnpnaaGreat
open Go.RowKit
structure Rw where
 T:TypeId
 k:Nat
 v:Value
 n:Nat
 xs:List Value
structure Bref where
 g:Nat
 v:Value
 id:Int
 rd:Int
 b:Bil
def Bref.blk (x:Bref):List Nat:=x.g :: ob x.v
instance:Inhabited Bref:=⟨⟨0,.slice none 0 0,0,0,⟨[],0⟩⟩⟩
structure Fam (w:World) (B:Nat) (R:List Rw) (L:List Bref):Prop where
 r:∀x∈R,w.ownsRow B x.T x.k x.v x.n x.xs
 nd:∀(i j:Nat) (x y:Rw),R[i]? =some x→R[j]? =some y→i≠j→∀b∈ob x.v,b∉ob y.v
 bl:∀x∈L,BillM w B x.g x.id x.rd x.v x.b
 bb:∀(i j:Nat) (x y:Bref),L[i]? =some x→L[j]? =some y→i≠j→∀b∈x.blk,b∉y.blk
 rb:∀x∈R,∀y∈L,∀b∈ob x.v,b∉y.blk
section
variable {w w1 w2 w':World} {B:Nat} {R:List Rw} {L:List Bref}
theorem Fam.lt (h:Fam w B R L) {b:Nat} (hb:(∃x∈R,b∈ob x.v)∨(∃y∈L,b∈y.blk)):B≤b∧b<w.heap.size:=by
 rcases hb with⟨x,hx,hb⟩|⟨y,hy,hb⟩
 ·exact own_ge (h.r x hx) b hb
 ·exact(h.bl y hy).lt b (by unfold Bref.blk at hb;simpa using hb)
theorem Fam.keep {S:Nat→Prop} (h:Fam w B R L) (hk:KpS S w w') (hn:∀b,((∃x∈R,b∈ob x.v)∨(∃y∈L,b∈y.blk))→¬S b):Fam w' B R L:=
 ⟨fun x hx=>own_keepS (h.r x hx) hk (fun b hb=>hn b (.inl ⟨x,hx,hb⟩)),h.nd,fun x hx=>(h.bl x hx).keepS hk (fun b hb=>hn b (.inr ⟨x,hx,by unfold Bref.blk;simpa using hb⟩)),h.bb,h.rb⟩
theorem Fam.to (h:Fam w B R L) (hW:∃z:Since w,w'=z.w):Fam w' B R L:=by
 obtain⟨z,rfl⟩:=hW;exact h.keep (KpS.of (S:=fun _ =>False) z) fun _ _ h=>h
theorem Fam.push (h:Fam w B R L) {i:Nat} {x:Rw} (hi:R[i]? =some x) (h1:IsSince w w1) {v':Value} {n':Nat} {xs':List Value} (hown:w2.ownsRow B x.T x.k v' n' xs') (hg:w1.grownBy w2 x.v.ownBlock) (hl:∀b,v'.ownBlock=some b→x.v.ownBlock=some b∨b=w1.heap.size):Fam w2 B (R.set i ⟨x.T,x.k,v',n',xs'⟩) L∧KpS (fun b=>b∈ob x.v) w w2:=by
 have hk:KpS (fun b=>b∈ob x.v) w w2:=((KpS.refl _ w).to h1).step ⟨hg.os,hg.tape,hg.output,hg.size,fun j hj hn=>hg.block j hj (fun e=>hn (ob_mem.2 e.symm))⟩;have hil:i<R.length:=(List.getElem?_eq_some_iff.1 hi).1;have hxR:x∈R:=List.mem_of_getElem? hi;have hsz:=IsSince.size h1;have hnew:∀b∈ob v',b∈ob x.v∨w.heap.size≤b:=fun b hb=>by
  rcases hl b (ob_mem.1 hb)with h'|h'
  ·exact .inl (ob_mem.2 h')
  ·exact .inr (by omega)
 have hget:∀(j:Nat) (y:Rw),(R.set i ⟨x.T,x.k,v',n',xs'⟩)[j]? =some y→(j=i∧y=⟨x.T,x.k,v',n',xs'⟩)∨(j≠i∧R[j]? =some y):=fun j y hy=>by
  rw[List.getElem?_set]at hy;by_cases e:i=j
  ·subst e;rw[if_pos rfl,if_pos hil]at hy;exact .inl ⟨rfl,(Option.some.inj hy).symm⟩
  ·rw[if_neg e]at hy;exact .inr ⟨fun e'=>e e'.symm,hy⟩
 have hlt:∀y∈R,∀b∈ob y.v,b<w.heap.size:=fun y hy b hb=>(own_ge (h.r y hy) b hb).2;refine⟨⟨fun y hy=>?_,fun j k y z hy hz hjk=>?_,fun y hy=>?_,h.bb,fun y hy z hz=>?_⟩,hk⟩
 ·obtain⟨j,hj⟩:=List.getElem?_of_mem hy
  rcases hget j y hj with⟨rfl,rfl⟩|⟨hne,hj⟩
  ·exact hown
  ·exact own_keepS (h.r y (List.mem_of_getElem? hj)) hk (fun b hb hb2=>h.nd j i y x hj hi hne b hb hb2)
 ·rcases hget j y hy with⟨rfl,rfl⟩|⟨hne,hj⟩
  ·rcases hget k z hz with⟨e,_⟩|⟨hne',hk'⟩
   ·exact absurd e.symm hjk
   ·intro b hb hb2
    rcases hnew b hb with h'|h'
    ·exact h.nd j k x z hi hk' hjk b h' hb2
    ·have:=hlt z (List.mem_of_getElem? hk') b hb2;omega
  ·rcases hget k z hz with⟨rfl,rfl⟩|⟨hne',hk'⟩
   ·intro b hb hb2
    rcases hnew b hb2 with h'|h'
    ·exact h.nd j k y x hj hi hjk b hb h'
    ·have:=hlt y (List.mem_of_getElem? hj) b hb;omega
   ·exact h.nd j k y z hj hk' hjk
 ·exact(h.bl y hy).keepS hk (fun b hb hb2=>h.rb x hxR y hy b hb2 (by unfold Bref.blk;simpa using hb))
 ·obtain⟨j,hj⟩:=List.getElem?_of_mem hy
  rcases hget j y hj with⟨rfl,rfl⟩|⟨hne,hj⟩
  ·intro b hb hb2
   rcases hnew b hb with h'|h'
   ·exact h.rb x hxR z hz b h' hb2
   ·have:=((h.bl z hz).lt b (by unfold Bref.blk at hb2;simpa using hb2)).2;omega
  ·exact h.rb y (List.mem_of_getElem? hj) z hz
theorem Fam.row (h:Fam w B R L) (h1:IsSince w w') {x:Rw} (hown:w'.ownsRow w.heap.size x.T x.k x.v x.n x.xs) (hB:B≤w.heap.size):Fam w' B (R ++ [x]) L:=by
 have h':=h.to h1;have hx:∀b∈ob x.v,w.heap.size≤b:=fun b hb=>(own_ge hown b hb).1;have hlt:∀y∈R,∀b∈ob y.v,b<w.heap.size:=fun y hy b hb=>(own_ge (h.r y hy) b hb).2;have hget:∀(j:Nat) (y:Rw),(R ++ [x])[j]? =some y→(j=R.length∧y=x)∨R[j]? =some y:=fun j y hy=>by
  by_cases hi:j<R.length
  ·rw[List.getElem?_append_left hi]at hy;exact .inr hy
  ·have hi2:j<(R ++ [x]).length:=(List.getElem?_eq_some_iff.1 hy).1
   rw[List.length_append,List.length_singleton]at hi2;obtain rfl:j=R.length:=by omega
   rw[List.getElem?_append_right (Nat.le_refl _),Nat.sub_self]at hy;exact .inl ⟨rfl,(Option.some.inj hy).symm⟩
 refine⟨fun y hy=>?_,fun j k y z hy hz hjk=>?_,h'.bl,h.bb,fun y hy z hz=>?_⟩
 ·rcases List.mem_append.1 hy with hy|hy
  ·exact h'.r y hy
  ·rw[List.mem_singleton]at hy;subst hy;exact own_down hown hB
 ·rcases hget j y hy with⟨rfl,rfl⟩|hj
  ·rcases hget k z hz with⟨e,_⟩|hk
   ·exact absurd e.symm hjk
   ·intro b hb hb2;have:=hx b hb;have:=hlt z (List.mem_of_getElem? hk) b hb2;omega
  ·rcases hget k z hz with⟨rfl,rfl⟩|hk
   ·intro b hb hb2;have:=hx b hb2;have:=hlt y (List.mem_of_getElem? hj) b hb;omega
   ·exact h.nd j k y z hj hk hjk
 ·rcases List.mem_append.1 hy with hy|hy
  ·exact h.rb y hy z hz
  ·rw[List.mem_singleton]at hy;subst hy
   intro b hb hb2;have:=hx b hb;have:=((h.bl z hz).lt b (by unfold Bref.blk at hb2;simpa using hb2)).2;omega
theorem Fam.bill (h:Fam w B R L) (h1:IsSince w w') {x:Bref} (hb:BillM w' w.heap.size x.g x.id x.rd x.v x.b) (hB:B≤w.heap.size):Fam w' B R (L ++ [x]):=by
 have h':=h.to h1;have hx:∀b∈x.blk,w.heap.size≤b:=fun b hh=>(hb.lt b (by unfold Bref.blk at hh;simpa using hh)).1;have hlt:∀y∈L,∀b∈y.blk,b<w.heap.size:=fun y hy b hh=>((h.bl y hy).lt b (by unfold Bref.blk at hh;simpa using hh)).2;have hget:∀(j:Nat) (y:Bref),(L ++ [x])[j]? =some y→(j=L.length∧y=x)∨L[j]? =some y:=fun j y hy=>by
  by_cases hi:j<L.length
  ·rw[List.getElem?_append_left hi]at hy;exact .inr hy
  ·have hi2:j<(L ++ [x]).length:=(List.getElem?_eq_some_iff.1 hy).1
   rw[List.length_append,List.length_singleton]at hi2;obtain rfl:j=L.length:=by omega
   rw[List.getElem?_append_right (Nat.le_refl _),Nat.sub_self]at hy;exact .inl ⟨rfl,(Option.some.inj hy).symm⟩
 refine⟨h'.r,h.nd,fun y hy=>?_,fun j k y z hy hz hjk=>?_,fun y hy z hz=>?_⟩
 ·rcases List.mem_append.1 hy with hy|hy
  ·exact h'.bl y hy
  ·rw[List.mem_singleton]at hy;subst hy
   exact⟨hb.bx,own_down hb.it hB,Nat.le_trans hB hb.ge,hb.ne⟩
 ·rcases hget j y hy with⟨rfl,rfl⟩|hj
  ·rcases hget k z hz with⟨e,_⟩|hk
   ·exact absurd e.symm hjk
   ·intro b hb hb2;have:=hx b hb;have:=hlt z (List.mem_of_getElem? hk) b hb2;omega
  ·rcases hget k z hz with⟨rfl,rfl⟩|hk
   ·intro b hb hb2;have:=hx b hb2;have:=hlt y (List.mem_of_getElem? hj) b hb;omega
   ·exact h.bb j k y z hj hk hjk
 ·rcases List.mem_append.1 hz with hz|hz
  ·exact h.rb y hy z hz
  ·rw[List.mem_singleton]at hz;subst hz
   intro b hb hb2;have:=hx b hb2;have:=(own_ge (h.r y hy) b hb).2;omega
theorem Fam.add (h:Fam w B R L) {i:Nat} {x:Bref} (hi:L[i]? =some x) {v':Value} {b':Bil} (hb:BillM w' B x.g x.id x.rd v' b') (hk:KpS (fun b=>b=x.g∨b∈ob x.v) w w') (hl:∀b∈ob v',b∈ob x.v∨w.heap.size≤b):Fam w' B R (L.set i {x with v:=v',b:=b'}):=by
 have hil:i<L.length:=(List.getElem?_eq_some_iff.1 hi).1;have hxL:x∈L:=List.mem_of_getElem? hi;have hmb:∀{b:Nat},(b=x.g∨b∈ob x.v)↔b∈x.blk:=by unfold Bref.blk;simp
 have hnew:∀b∈({x with v:=v',b:=b'}:Bref).blk,b∈x.blk∨w.heap.size≤b:=fun b hb=>by
  unfold Bref.blk at hb;rcases List.mem_cons.1 hb with rfl|hb
  ·exact .inl (hmb.1 (.inl rfl))
  ·rcases hl b hb with h'|h'
   ·exact .inl (hmb.1 (.inr h'))
   ·exact .inr h'
 have hget:∀(j:Nat) (y:Bref),(L.set i {x with v:=v',b:=b'})[j]? =some y→(j=i∧y={x with v:=v',b:=b'})∨(j≠i∧L[j]? =some y):=fun j y hy=>by
  rw[List.getElem?_set]at hy;by_cases e:i=j
  ·subst e;rw[if_pos rfl,if_pos hil]at hy;exact .inl ⟨rfl,(Option.some.inj hy).symm⟩
  ·rw[if_neg e]at hy;exact .inr ⟨fun e'=>e e'.symm,hy⟩
 have hlt:∀y∈L,∀b∈y.blk,b<w.heap.size:=fun y hy b hh=>((h.bl y hy).lt b (by unfold Bref.blk at hh;simpa using hh)).2;refine⟨fun y hy=>own_keepS (h.r y hy) hk (fun b hb hb2=>h.rb y hy x hxL b hb (hmb.1 hb2)),h.nd,fun y hy=>?_,fun j k y z hy hz hjk=>?_,fun y hy z hz=>?_⟩
 ·obtain⟨j,hj⟩:=List.getElem?_of_mem hy
  rcases hget j y hj with⟨rfl,rfl⟩|⟨hne,hj⟩
  ·exact hb
  ·exact(h.bl y (List.mem_of_getElem? hj)).keepS hk (fun b hb hb2=>h.bb j i y x hj hi hne b (by unfold Bref.blk;simpa using hb) (hmb.1 hb2))
 ·rcases hget j y hy with⟨rfl,rfl⟩|⟨hne,hj⟩
  ·rcases hget k z hz with⟨e,_⟩|⟨hne',hk'⟩
   ·exact absurd e.symm hjk
   ·intro b hb hb2
    rcases hnew b hb with h'|h'
    ·exact h.bb j k x z hi hk' hjk b h' hb2
    ·have:=hlt z (List.mem_of_getElem? hk') b hb2;omega
  ·rcases hget k z hz with⟨rfl,rfl⟩|⟨hne',hk'⟩
   ·intro b hb hb2
    rcases hnew b hb2 with h'|h'
    ·exact h.bb j k y x hj hi hjk b hb h'
    ·have:=hlt y (List.mem_of_getElem? hj) b hb;omega
   ·exact h.bb j k y z hj hk' hjk
 ·obtain⟨j,hj⟩:=List.getElem?_of_mem hz
  rcases hget j z hj with⟨rfl,rfl⟩|⟨hne,hj⟩
  ·intro b hb hb2
   rcases hnew b hb2 with h'|h'
   ·exact h.rb y hy x hxL b hb h'
   ·have:=(own_ge (h.r y hy) b hb).2;omega
  ·exact h.rb y hy z (List.mem_of_getElem? hj)
theorem Fam.since {wB:World} (h:Fam w wB.heap.size R L) (hX:IsSince wB w) {S:Nat→Prop} (hk:KpS S w w') (hS:∀b,S b→(∃x∈R,b∈ob x.v)∨(∃y∈L,b∈y.blk)):IsSince wB w':=by
 obtain⟨y,rfl⟩:=hX;exact KpS.since y hk (fun b hb=>(h.lt (hS b hb)).1)
end
structure St (S0:Nat→Prop) (w6 w:World) (B:Nat) (R:List Rw) (L:List Bref):Prop where
 f:Fam w B R L
 k:KpS S0 w6 w
section
variable {S0:Nat→Prop} {w6 w w2:World} {B:Nat} {R:List Rw} {L:List Bref}
theorem St.al (h:St S0 w6 w B R L) (o:Obj):St S0 w6 (w.alloc o) B R L:=⟨h.f.to (IsSince.alloc (IsSince.self _) o),h.k.to (IsSince.alloc (IsSince.self _) o)⟩
theorem St.bx (h:St S0 w6 w B R L) (vs:List Value) (T:TypeId):BoxIs (w.alloc (.cells vs.toArray T)) w.heap.size vs∧w6.heap.size≤w.heap.size:=⟨BoxIs.new w vs T,h.k.size⟩
theorem St.push (h:St S0 w6 w B R L) {i:Nat} {x:Rw} (hi:R[i]? =some x) {v':Value} {n':Nat} {xs':List Value} (hown:w2.ownsRow B x.T x.k v' n' xs') (hg:w.grownBy w2 x.v.ownBlock) (hl:∀b,v'.ownBlock=some b→x.v.ownBlock=some b∨b=w.heap.size) (hS:∀b∈ob x.v,S0 b):St S0 w6 w2 B (R.set i ⟨x.T,x.k,v',n',xs'⟩) L:=by
 obtain⟨h1,h2⟩:=h.f.push hi (IsSince.self _) hown hg hl;exact⟨h1,h.k.trans h2 fun b hb=>.inl (hS b hb)⟩
theorem bx_al {g:Nat} {vs:List Value} (h:BoxIs w g vs∧w6.heap.size≤g) (o:Obj):BoxIs (w.alloc o) g vs∧w6.heap.size≤g:=⟨h.1.up o,h.2⟩
theorem bx_gr {g:Nat} {vs:List Value} (h:BoxIs w g vs∧w6.heap.size≤g) {v:Value} (hg:w.grownBy w2 v.ownBlock) (hv:∀b∈ob v,b<w6.heap.size):BoxIs w2 g vs∧w6.heap.size≤g:=
 ⟨h.1.grown hg (fun e=>by have:=hv g (ob_mem.2 e.symm);have:=h.2;omega),h.2⟩
theorem bx_cells {g:Nat} {vs:List Value} (h:BoxIs w g vs∧w6.heap.size≤g):∀j u,vs[j]? =some u→w.cell? ((⟨g,0,none⟩:Addr).add j)=some u:=fun j u hu=>by
 rw[Addr.add_lit,Nat.zero_add];exact h.1.c j u hu
end
section
variable {P:Program} {ops:Array Oper} {Q:Exit→Act→World→Prop} {md:Region.Mode} {S:World→Prop} {m:Nat}
theorem wpAnyM_two {i j:Nat} {oi oj:Oper} {fuel:Nat} {listed:Array Bool} {a:Act} {w:World} (hr:Region.ready md ops listed=[i,j]) (hi:ops[i]? =some oi) (hj:ops[j]? =some oj)
 (h1:∀K':Act→World→Prop,Shut (∀a w,(i=m∨S w)→((i=m∨S w)→wpAnyM P md ops Q S m fuel (listed.setIfInBounds i true) a w)→K' a w)→if Region.wanted oi (yielded ops a.tmps)=true then Oper.wp P oi a w K' Q else K' (a.put oi.dst undef) w)
 (h2:∀K':Act→World→Prop,Shut (∀a w,(j=m∨S w)→((j=m∨S w)→wpAnyM P md ops Q S m fuel (listed.setIfInBounds j true) a w)→K' a w)→if Region.wanted oj (yielded ops a.tmps)=true then Oper.wp P oj a w K' Q else K' (a.put oj.dst undef) w):wpAnyM P md ops Q S m (fuel+1) listed a w:=by
 refine⟨fun h1=>(by rw[h1]at hr;cases hr),fun k hk=>?_⟩;rw[hr]at hk;simp only[List.mem_cons,List.not_mem_nil,or_false]at hk;rcases hk with rfl|rfl
 ·exact wpOp_step hi (fun K' hK=>h1 K' (fun a w hS hW=>hK a w ⟨hS,hW hS⟩))
 ·exact wpOp_step hj (fun K' hK=>h2 K' (fun a w hS hW=>hK a w ⟨hS,hW hS⟩))
theorem wpAnyM_three {i j k:Nat} {oi oj ok:Oper} {fuel:Nat} {listed:Array Bool} {a:Act} {w:World} (hr:Region.ready md ops listed=[i,j,k]) (hi:ops[i]? =some oi) (hj:ops[j]? =some oj) (hk:ops[k]? =some ok)
 (h1:∀K':Act→World→Prop,Shut (∀a w,(i=m∨S w)→((i=m∨S w)→wpAnyM P md ops Q S m fuel (listed.setIfInBounds i true) a w)→K' a w)→if Region.wanted oi (yielded ops a.tmps)=true then Oper.wp P oi a w K' Q else K' (a.put oi.dst undef) w)
 (h2:∀K':Act→World→Prop,Shut (∀a w,(j=m∨S w)→((j=m∨S w)→wpAnyM P md ops Q S m fuel (listed.setIfInBounds j true) a w)→K' a w)→if Region.wanted oj (yielded ops a.tmps)=true then Oper.wp P oj a w K' Q else K' (a.put oj.dst undef) w)
 (h3:∀K':Act→World→Prop,Shut (∀a w,(k=m∨S w)→((k=m∨S w)→wpAnyM P md ops Q S m fuel (listed.setIfInBounds k true) a w)→K' a w)→if Region.wanted ok (yielded ops a.tmps)=true then Oper.wp P ok a w K' Q else K' (a.put ok.dst undef) w):wpAnyM P md ops Q S m (fuel+1) listed a w:=by
 refine⟨fun h1=>(by rw[h1]at hr;cases hr),fun n hn=>?_⟩;rw[hr]at hn;simp only[List.mem_cons,List.not_mem_nil,or_false]at hn;rcases hn with rfl|rfl|rfl
 ·exact wpOp_step hi (fun K' hK=>h1 K' (fun a w hS hW=>hK a w ⟨hS,hW hS⟩))
 ·exact wpOp_step hj (fun K' hK=>h2 K' (fun a w hS hW=>hK a w ⟨hS,hW hS⟩))
 ·exact wpOp_step hk (fun K' hK=>h3 K' (fun a w hS hW=>hK a w ⟨hS,hW hS⟩))
end
end Go.Proofs.YtmmlmhnjjfnpnaaGreat
namespace Go.Proofs.YtmmlmhnjjfnpnaaGreat
open Go.RowKit Go.ChangeMaps
set_option maxHeartbeats 4000000 in
theorem verd0_calls (w:World) (x:Since w):Calls Tryz.prog 49 #[.slice none 0 0] x.w fun o w'=>o= .returned (.int .i64 0)∧∃y:Since w,w'=y.w:=by
 have hmm:=@run_makeMap Tryz.prog;go_enter Tryz.func49,Tryz.ntmps49;go_wp2_with fail;refine wp_loop_rounds 1 ?_;rw[rounds_succ];go_wp2_with fail;first
  |exact⟨rfl,x.alloc _⟩
  |(go_ret;exact⟨rfl,x.alloc _⟩)
set_option maxHeartbeats 4000000 in
theorem vidx0_calls (w:World) (x:Since w) (fv:Value):Calls Tryz.prog 57 #[.slice none 0 0,fv] x.w fun o w'=>o= .returned (.int .i64 (-1))∧∃y:Since w,w'=y.w:=by
 go_enter Tryz.func57,Tryz.ntmps57;go_wp2_with fail;refine wp_loop_rounds 1 ?_;rw[rounds_succ];go_wp2_with fail;first
  |exact⟨rfl,x,rfl⟩
  |(go_ret;exact⟨rfl,x,rfl⟩)
set_option maxHeartbeats 4000000 in
theorem fined0_calls (w:World) (x:Since w) (g5 g7 gb:Nat) (h7:∀y:Since w,y.w.cell? ⟨g7,0,none⟩=some (.slice none 0 0)):Calls Tryz.prog 56 #[.pointer (some ⟨gb,0,none⟩),.pointer (some ⟨g7,0,none⟩),.pointer (some ⟨g5,0,none⟩)] x.w fun o w'=>o= .returned (.tuple #[])∧∃y:Since w,w'=y.w:=by
 go_enter Tryz.func56,Tryz.ntmps56;go_upto_region 1 with fail;obtain⟨y1,e2,hst0,hsz0,hlt0,HX0⟩:=grow1 x [.pointer (some ⟨gb,0,none⟩)] 136;rw[e2];obtain⟨hx0,hxf⟩:=cx1 HX0;skip;clear e2 hst0;generalize x.w.heap.size=g at *;obtain⟨Hhx0,Hhxf⟩:=bx1 HX0;have Hhxg:=Lib.hid (And.intro hsz0 hlt0);clear hlt0 hsz0 HX0;have HC:=fun fv=>vidx0_calls w y1 fv;go_wp2_with(go_at_call 57;(with_reducible refine(HC _).mono ?_);rintro _ _ ⟨rfl,y2,rfl⟩);first
  |exact⟨rfl,y2,rfl⟩
  |exact bodyPost_ret (v:=.tuple #[]) (by simp[results,Tryz.results56,go_sem]) rfl ⟨rfl,y2,rfl⟩
end Go.Proofs.YtmmlmhnjjfnpnaaGreat
namespace Go.Proofs.YtmmlmhnjjfnpnaaGreat
open Go.RowKit
def ptrs (L:List Bref):List Value:=L.map fun x=>.pointer (some ⟨x.g,0,none⟩)
def rsL (C:List Ride) (k:Nat):List Int:=(List.range k).map fun i=>(rAt C i).rd
def dsL (C:List Ride) (k:Nat):List Int:=(List.range k).map fun i=>day (rAt C i)
noncomputable def ssL (p:Prc) (C:List Ride) (u:Nat→Int) (k:Nat):List Int:=(List.range k).map fun i=>(bilL p (rAt C i) (u i)).tt
theorem rsL_len (C:List Ride) (k:Nat):(rsL C k).length=k:=by simp[rsL]
theorem dsL_len (C:List Ride) (k:Nat):(dsL C k).length=k:=by simp[dsL]
theorem ssL_len (p:Prc) (C:List Ride) (u:Nat→Int) (k:Nat):(ssL p C u k).length=k:=by simp[ssL]
theorem rsL_next (C:List Ride) (k:Nat):rsL C (k+1)=rsL C k ++ [(rAt C k).rd]:=by simp[rsL,List.range_succ]
theorem dsL_next (C:List Ride) (k:Nat):dsL C (k+1)=dsL C k ++ [day (rAt C k)]:=by simp[dsL,List.range_succ]
theorem ssL_next (p:Prc) (C:List Ride) (u:Nat→Int) (k:Nat):ssL p C u (k+1)=ssL p C u k ++ [(bilL p (rAt C k) (u k)).tt]:=by simp[ssL,List.range_succ]
structure LOk (p:Prc) (C:List Ride) (u:Nat→Int) (k:Nat) (L:List Bref):Prop where
 len:L.length=k
 a:∀(i:Nat) (x:Bref),L[i]? =some x→x.id=(rAt C i).id∧x.rd=(rAt C i).rd∧x.b=bilL p (rAt C i) (u i)
theorem lOk_nil (p:Prc) (C:List Ride) (u:Nat→Int):LOk p C u 0 []:=⟨rfl,fun i x h=>by simp at h⟩
theorem LOk.next {p:Prc} {C:List Ride} {u:Nat→Int} {k:Nat} {L:List Bref} (h:LOk p C u k L) (g:Nat) (v:Value):LOk p C u (k+1) (L ++ [⟨g,v,(rAt C k).id,(rAt C k).rd,bilL p (rAt C k) (u k)⟩]):=by
 refine⟨by simp[h.len],fun i x hx=>?_⟩;by_cases hi:i<L.length
 ·rw[List.getElem?_append_left hi]at hx;exact h.a i x hx
 ·have hi2:i<(L ++ [(⟨g,v,(rAt C k).id,(rAt C k).rd,bilL p (rAt C k) (u k)⟩:Bref)]).length:=(List.getElem?_eq_some_iff.1 hx).1
  rw[List.length_append,List.length_singleton]at hi2;obtain rfl:i=L.length:=by omega
  rw[List.getElem?_append_right (Nat.le_refl _),Nat.sub_self]at hx;have e:_ =x:=Option.some.inj hx;subst e;rw[h.len];exact⟨rfl,rfl,rfl⟩
noncomputable def R4 (p:Prc) (C:List Ride) (u:Nat→Int) (k:Nat) (L:List Bref) (bv rv dv sv:Value):List Rw:=
 [⟨136,1,bv,k,ptrs L⟩,⟨3,1,rv,k,(rsL C k).map (Value.int .i64)⟩,⟨3,1,dv,k,(dsL C k).map (Value.int .i64)⟩,⟨3,1,sv,k,(ssL p C u k).map (Value.int .i64)⟩]
theorem sBil:SliceOf Tryz.prog 135 136 (.pointer none) 1 8:=SliceOf.mk' Tryz.underlying135 (by kernel_rfl) rfl (by decide)
theorem sFar:SliceOf Tryz.prog 67 76 (.agg #[.int .i64 0,.int .i64 0,.slice none 0 0,.int .i64 0]) 4 48:=SliceOf.mk' Tryz.underlying67 (by kernel_rfl) rfl (by decide)
theorem day_bd {r:Ride} (h:rideE r=0):0≤day r∧day r≤49709:=by
 have:=rangedB_head (rideE_rng h);unfold day;omega
theorem grpG_L (p:Prc) (C:List Ride) (u:Nat→Int):grpG C.length (rsL C C.length) (dsL C C.length) (ssL p C u C.length)=grpL p C u:=by
 unfold grpG grpL;refine List.map_congr_left fun i hi=>?_;have hi':=List.mem_range.1 hi;unfold rsL dsL ssL;rw[at0_range _ _ _ hi',at0_range _ _ _ hi',at0_range _ _ _ hi']
theorem dcOk_of {p:Prc} (hk:PrcOk p) {C:List Ride} {u:Nat→Int} (hn:C.length≤256) (hC:∀r∈C,rideE r=0) (hb:bilsE p C u C.length=0):DcOk p.cap (rsL C C.length) (dsL C C.length) (ssL p C u C.length) C.length:=by
 have hr:∀i,i<C.length→rideE (rAt C i)=0:=fun i hi=>hC _ (by
  unfold rAt;rw[List.getD_eq_getElem?_getD,List.getElem?_eq_getElem hi];exact List.getElem_mem hi)
 refine⟨hk.c,rsL_len _ _,dsL_len _ _,ssL_len _ _ _ _,hn,fun i hi=>?_,fun i hi=>?_,fun i hi=>?_⟩
 ·unfold rsL
  rw[at0_range _ _ _ hi];have:=rangedB_head (rideE_rng (hr i hi));omega
 ·unfold dsL
  rw[at0_range _ _ _ hi];exact day_bd (hr i hi)
 ·unfold ssL
  rw[at0_range _ _ _ hi];have h1:=bilE_zero (bilsE_at hb i hi);have h2:=bilL_bd hk (rAt C i) (u i) h1.1 h1.2.1;omega
structure L3Ok (p:Prc) (C:List Ride) (u:Nat→Int) (k:Nat) (L:List Bref):Prop where
 len:L.length=C.length
 a:∀(i:Nat) (x:Bref),L[i]? =some x→x.id=(rAt C i).id∧x.rd=(rAt C i).rd∧x.b=if i<k then(farI p C u i).b else bilL p (rAt C i) (u i)
theorem LOk.three {p:Prc} {C:List Ride} {u:Nat→Int} {L:List Bref} (h:LOk p C u C.length L):L3Ok p C u 0 L:=
 ⟨h.len,fun i x hx=>by obtain⟨h1,h2,h3⟩:=h.a i x hx;exact⟨h1,h2,by rw[if_neg (by omega)];exact h3⟩⟩
theorem L3Ok.next {p:Prc} {C:List Ride} {u:Nat→Int} {k:Nat} {L:List Bref} (h:L3Ok p C u k L) {x:Bref} (hx:L[k]? =some x) (v:Value):L3Ok p C u (k+1) (L.set k {x with v:=v,b:=(farI p C u k).b}):=by
 refine⟨by rw[List.length_set];exact h.len,fun i y hy=>?_⟩;rw[List.getElem?_set]at hy;by_cases e:k=i
 ·subst e
  rw[if_pos rfl,if_pos (List.getElem?_eq_some_iff.1 hx).1]at hy;have e2:_ =y:=Option.some.inj hy;subst e2;obtain⟨h1,h2,_⟩:=h.a k x hx;exact⟨h1,h2,by rw[if_pos (by omega)]⟩
 ·rw[if_neg e]at hy
  obtain⟨h1,h2,h3⟩:=h.a i y hy;refine⟨h1,h2,h3.trans ?_⟩;by_cases h4:i<k
  ·rw[if_pos h4,if_pos (by omega)]
  ·rw[if_neg h4,if_neg (by omega)]
structure F3Ok (p:Prc) (C:List Ride) (u:Nat→Int) (k:Nat) (L:List Bref) (F:List Fre):Prop where
 len:F.length=k
 a:∀(i:Nat) (x:Fre),F[i]? =some x→x.far=farI p C u i∧∃y,L[i]? =some y∧x.iv=y.v
theorem f3Ok_nil (p:Prc) (C:List Ride) (u:Nat→Int) (L:List Bref):F3Ok p C u 0 L []:=⟨rfl,fun i x h=>by simp at h⟩
theorem F3Ok.next {p:Prc} {C:List Ride} {u:Nat→Int} {k:Nat} {L:List Bref} {F:List Fre} (h:F3Ok p C u k L F) {y y':Bref} (hy:L[k]? =some y) {x:Fre} (hx:x.far=farI p C u k) (hv:x.iv=y'.v):F3Ok p C u (k+1) (L.set k y') (F ++ [x]):=by
 have hkl:k<L.length:=(List.getElem?_eq_some_iff.1 hy).1;refine⟨by simp[h.len],fun i z hz=>?_⟩;by_cases hi:i<F.length
 ·rw[List.getElem?_append_left hi]at hz
  obtain⟨h1,y2,h2,h3⟩:=h.a i z hz;refine⟨h1,y2,?_,h3⟩;rw[List.getElem?_set,if_neg (by have:=h.len;omega)];exact h2
 ·have hi2:i<(F ++ [x]).length:=(List.getElem?_eq_some_iff.1 hz).1
  rw[List.length_append,List.length_singleton]at hi2;obtain rfl:i=F.length:=by omega
  rw[List.getElem?_append_right (Nat.le_refl _),Nat.sub_self]at hz;have e:x=z:=Option.some.inj hz;subst e;refine⟨by rw[h.len];exact hx,y',?_,hv⟩;rw[h.len,List.getElem?_set,if_pos rfl,if_pos hkl]
theorem F3Ok.all {p:Prc} {C:List Ride} {u:Nat→Int} {L:List Bref} {F:List Fre} (h:F3Ok p C u C.length L F):F.map Fre.far=farL p C u:=by
 refine List.ext_getElem? fun i=>?_;unfold farL;rw[List.getElem?_map,List.getElem?_map];by_cases hi:i<C.length
 ·have hf:i<F.length:=by rw[h.len];exact hi
  rw[List.getElem?_range hi,List.getElem?_eq_getElem hf];show some (F[i].far)=some (farI p C u i);rw[(h.a i _ (List.getElem?_eq_getElem hf)).1]
 ·rw[List.getElem?_eq_none (by rw[h.len];omega),List.getElem?_eq_none (by simp;omega)]
  rfl
structure FarsOk (w:World) (B:Nat) (p:Prc) (l:List Ride) (u:Nat→Int) (v:Value) (F:List Fre):Prop where
 r:w.ownsRow B 76 4 v F.length (flat Fre.cs F)
 i:∀x∈F,w.ownsRow B 217 3 x.iv x.it.length (flat Itm.cs x.it)
 f:(F.map Fre.far).Perm (farL p (cntL l) u)
 s:F.Pairwise fun x y=>x.id≤y.id
def FaresRes (w:World) (f:Flt) (p:Prc) (l:List Ride) (o:Ending) (w':World):Prop:=
 ∃(v:Value) (e:Int) (y:Since w) (u:Nat→Int),o= .returned (.tuple #[v,.int .i64 e])∧w'=y.w∧e=faresE f p l u∧(prcsE f p=0→ridesE l=0→IsUse p.ps (cntL l) u)∧((e≠0∧v= .slice none 0 0)∨(e=0∧∃F,FarsOk y.w w.heap.size p l u v F))
theorem cnt_ok {l:List Ride} (h:ridesE l=0):(cntL l).length≤256∧(∀r∈cntL l,rideE r=0∧r.op=false∧r∈l)∧ridesE (cntL l)=0∧(l.filter fun r=>!r.op).Pairwise (fun x y=>x.id≠y.id):=by
 obtain⟨h1,h2,h3⟩:=ridesE_zero h;have hp:(cntL l).Perm (l.filter fun r=>!r.op):=sortB_perm _;have hlen:(cntL l).length≤256:=by
  rw[hp.length_eq];have:=List.length_filter_le (fun r:Ride=>!r.op) l;omega
 have hm:∀r∈cntL l,rideE r=0∧r.op=false∧r∈l:=fun r hr=>by
  obtain⟨q1,q2⟩:=cntL_mem.1 hr;exact⟨h3 r q1,q2,q1⟩
 have hn:((l.filter fun r=>!r.op).map fun r:Ride=>r.id).Nodup:=h2.sublist (List.filter_sublist.map _);refine⟨hlen,hm,?_,?_⟩
 ·rw[ridesE_ok hlen (fun j hj x hx=>(hm x (List.mem_of_getElem? hx)).1),dupB_false ((hp.map _).nodup_iff.2 hn)]
  rfl
 ·unfold List.Nodup at hn
  rwa[List.pairwise_map]at hn
theorem own_nil (w:World) (B:Nat) (e:TypeId) (k:Nat):w.ownsRow B e k (.slice none 0 0) 0 []:=⟨by simp,.inl ⟨rfl,rfl⟩⟩
theorem fam_start (w:World) (B:Nat) (p:Prc) (C:List Ride) (u:Nat→Int):Fam w B (R4 p C u 0 [] (.slice none 0 0) (.slice none 0 0) (.slice none 0 0) (.slice none 0 0)) []:=by
 have hm:∀x∈R4 p C u 0 [] (.slice none 0 0) (.slice none 0 0) (.slice none 0 0) (.slice none 0 0),x.v= .slice none 0 0∧x.n=0∧x.xs=[]:=fun x hx=>by
  simp only[R4,List.mem_cons,List.not_mem_nil,or_false]at hx;rcases hx with rfl|rfl|rfl|rfl<;>exact⟨rfl,rfl,rfl⟩
 refine⟨fun x hx=>?_,fun i j x y hx hy hij b hb=>?_,fun x hx=>(by cases hx),fun i j x y hx=>(by simp at hx),fun x hx y hy=>(by cases hy)⟩
 ·obtain⟨h1,h2,h3⟩:=hm x hx
  rw[h1,h2,h3];exact own_nil _ _ _ _
 ·rw[(hm x (List.mem_of_getElem? hx)).1]at hb
  simp[ob_slice]at hb
section
variable (p:Prc) (C:List Ride) (u:Nat→Int) (k:Nat) (L:List Bref) (bv rv dv sv:Value)
theorem r4_0:(R4 p C u k L bv rv dv sv)[0]? =some ⟨136,1,bv,k,ptrs L⟩:=rfl
theorem r4_1:(R4 p C u k L bv rv dv sv)[1]? =some ⟨3,1,rv,k,(rsL C k).map (Value.int .i64)⟩:=rfl
theorem r4_2:(R4 p C u k L bv rv dv sv)[2]? =some ⟨3,1,dv,k,(dsL C k).map (Value.int .i64)⟩:=rfl
theorem r4_3:(R4 p C u k L bv rv dv sv)[3]? =some ⟨3,1,sv,k,(ssL p C u k).map (Value.int .i64)⟩:=rfl
theorem r4_end (g:Nat) (v:Value) {r:Ride} (hr:rAt C k=r):[(⟨136,1,bv,k+1,ptrs L ++ [.pointer (some ⟨g,0,none⟩)]⟩:Rw),⟨3,1,rv,k+1,(rsL C k).map (Value.int .i64) ++ [.int .i64 r.rd]⟩,⟨3,1,dv,k+1,(dsL C k).map (Value.int .i64) ++ [.int .i64 (day r)]⟩,⟨3,1,sv,k+1,(ssL p C u k).map (Value.int .i64) ++ [.int .i64 (bilL p r (u k)).tt]⟩]=R4 p C u (k+1) (L ++ [⟨g,v,r.id,r.rd,bilL p r (u k)⟩]) bv rv dv sv:=by
 subst hr;unfold R4;rw[rsL_next,dsL_next,ssL_next];simp[ptrs]
end
theorem use_rng {lp:List Pass} {R:List Ride} {u:Nat→Int} (hU:IsUse lp R u) {i:Nat} (hi:i<R.length):-1≤u i∧u i<lp.length:=by
 rcases firstP_cases lp (rAt R i) (cntB R u (rAt R i))with⟨k,hk,he,_⟩|⟨he,_⟩
 ·rw[hU i hi,he];omega
 ·rw[hU i hi,he];omega
theorem own_n {w:World} {B:Nat} {e:TypeId} {k:Nat} {a:Option Addr} {n c m:Nat} {xs:List Value} (h:w.ownsRow B e k (.slice a n c) m xs):n=m:=by
 obtain⟨_,⟨e2,e3⟩|⟨_,_,_,e2,_⟩⟩:=h
 ·simp only[Value.slice.injEq]at e2;omega
 ·simp only[Value.slice.injEq]at e2;exact e2.2.1
theorem grpL_len (p:Prc) (C:List Ride) (u:Nat→Int):(grpL p C u).length=C.length:=by simp[grpL]
theorem pL_len (p:Prc) (C:List Ride) (u:Nat→Int):(paidL p.cap (grpL p C u)).length=C.length:=by rw[paidL_len,grpL_len]
noncomputable def R6 (p:Prc) (C:List Ride) (u:Nat→Int) (L:List Bref) (bv rv dv sv pv ov:Value) (F:List Fre):List Rw:=
 R4 p C u C.length L bv rv dv sv ++ [⟨3,1,pv,C.length,(paidL p.cap (grpL p C u)).map (Value.int .i64)⟩,⟨76,4,ov,F.length,flat Fre.cs F⟩]
section
variable (p:Prc) (C:List Ride) (u:Nat→Int) (L:List Bref) (bv rv dv sv pv ov:Value) (F:List Fre)
theorem r6_0:(R6 p C u L bv rv dv sv pv ov F)[0]? =some ⟨136,1,bv,C.length,ptrs L⟩:=rfl
theorem r6_3:(R6 p C u L bv rv dv sv pv ov F)[3]? =some ⟨3,1,sv,C.length,(ssL p C u C.length).map (Value.int .i64)⟩:=rfl
theorem r6_4:(R6 p C u L bv rv dv sv pv ov F)[4]? =some ⟨3,1,pv,C.length,(paidL p.cap (grpL p C u)).map (Value.int .i64)⟩:=rfl
theorem r6_5:(R6 p C u L bv rv dv sv pv ov F)[5]? =some ⟨76,4,ov,F.length,flat Fre.cs F⟩:=rfl
theorem r6_next (ov':Value) (x:Fre):(R6 p C u L bv rv dv sv pv ov F).set 5 ⟨76,4,ov',F.length+1,flat Fre.cs F ++ x.cs⟩=R6 p C u L bv rv dv sv pv ov' (F ++ [x]):=by
 unfold R6 R4;rw[flat_append,flat_one,List.length_append];rfl
end
theorem far_tt {p:Prc} (hk:PrcOk p) {C:List Ride} {u:Nat→Int} (hb:bilsE p C u C.length=0) {k:Nat} (h:k<C.length):
 (0≤at0 (paidL p.cap (grpL p C u)) k∧at0 (paidL p.cap (grpL p C u)) k≤(bilL p (rAt C k) (u k)).tt∧(bilL p (rAt C k) (u k)).tt≤1000000000000)∧(farI p C u k).b.tt=at0 (paidL p.cap (grpL p C u)) k:=by
 have hg:(grpL p C u)[k]? =some ((rAt C k).rd,day (rAt C k),(bilL p (rAt C k) (u k)).tt):=by
  unfold grpL;rw[List.getElem?_map,List.getElem?_range h];rfl
 have hG:∀x∈grpL p C u,0≤x.2.2∧x.2.2≤1000000000000:=fun x hx=>by
  unfold grpL at hx;obtain⟨i,hi,rfl⟩:=List.mem_map.1 hx;have h1:=bilE_zero (bilsE_at hb i (List.mem_range.1 hi));exact⟨(bilL_bd hk _ _ h1.1 h1.2.1).1,h1.2.2⟩
 have h2:=paidL_le hk.c.1 hG hg;have h3:=hG _ (List.mem_of_getElem? hg);refine⟨⟨h2.1,h2.2,h3.2⟩,?_⟩;unfold farI;rw[Bil.add_tt];omega
end Go.Proofs.YtmmlmhnjjfnpnaaGreat
namespace Go.Proofs.YtmmlmhnjjfnpnaaGreat
open Go.RowKit
theorem own_get {w:World} {B:Nat} {e:TypeId} {a:Option Addr} {m c n:Nat} {xs:List Value} (h:w.ownsRow B e 1 (.slice a m c) n xs) {i:Nat} {u:Value} (hx:xs[i]? =some u):∃b off,a=some ⟨b,off,none⟩∧b<w.heap.size∧w.cell? ⟨b,off+i,none⟩=some u:=by
 have hl:=h.1;obtain⟨a',c',e1,_,hr,_⟩:=own_row h;have e2:a=a':=by simp only[Value.slice.injEq]at e1;exact e1.1
 subst e2;have hi:i<xs.length:=(List.getElem?_eq_some_iff.1 hx).1;obtain⟨b,off,h1,h2,h3⟩:=hr i (by omega);refine⟨b,off,h1,h2,?_⟩;rw[h3];show some (xs.getD i undef)=some u;rw[List.getD_eq_getElem?_getD,hx];rfl
theorem ints_get {l:List Int} {i:Nat} (h:i<l.length):(l.map (Value.int .i64))[i]? =some (.int .i64 (at0 l i)):=by
 unfold at0;rw[List.getElem?_map,List.getD_eq_getElem?_getD,List.getElem?_eq_getElem h];rfl
theorem ptrs_get {L:List Bref} {i:Nat} {x:Bref} (h:L[i]? =some x):(ptrs L)[i]? =some (.pointer (some ⟨x.g,0,none⟩)):=by
 unfold ptrs;rw[List.getElem?_map,h];rfl
theorem ptrs_set {L:List Bref} {i:Nat} {x:Bref} (h:L[i]? =some x) (v:Value) (b:Bil):ptrs (L.set i {x with v:=v,b:=b})=ptrs L:=by
 have hil:i<L.length:=(List.getElem?_eq_some_iff.1 h).1;unfold ptrs;refine List.ext_getElem? fun j=>?_;rw[List.getElem?_map,List.getElem?_map,List.getElem?_set];by_cases e:i=j
 ·subst e;rw[if_pos rfl,if_pos hil,h];rfl
 ·rw[if_neg e]
theorem kps_grown {w w':World} {v:Value} (hg:w.grownBy w' v.ownBlock):KpS (fun b=>b∈ob v) w w':=
 (KpS.refl _ w).step ⟨hg.os,hg.tape,hg.output,hg.size,fun j hj hn=>hg.block j hj (fun e=>hn (ob_mem.2 e.symm))⟩
theorem L3Ok.at {p:Prc} {C:List Ride} {u:Nat→Int} {k:Nat} {L:List Bref} (h:L3Ok p C u k L) (hk:k<C.length):∃x,L[k]? =some x∧x.id=(rAt C k).id∧x.rd=(rAt C k).rd∧x.b=bilL p (rAt C k) (u k):=by
 have hl:k<L.length:=by rw[h.len];exact hk
 obtain⟨h1,h2,h3⟩:=h.a k _ (List.getElem?_eq_getElem hl);exact⟨_,List.getElem?_eq_getElem hl,h1,h2,by rw[h3,if_neg (by omega)]⟩
theorem fre_of {w:World} {B g:Nat} {id rd:Int} {v:Value} {b:Bil} (h:BillM w B g id rd v b):∃x:Fre,x.cs=[.int .i64 id,.int .i64 rd,v,.int .i64 b.tt]∧x.far=⟨id,rd,b⟩∧x.iv=v:=by
 obtain⟨a,n,c,rfl⟩:=own_slice h.it;obtain rfl:n=b.it.length:=own_n h.it;exact⟨⟨id,rd,a,b.it,c,b.tt⟩,rfl,rfl,rfl⟩
theorem farsOk_of {w w':World} {B B':Nat} {p:Prc} {l C:List Ride} (hC:cntL l=C) {u:Nat→Int} {L0 L:List Bref} {bv rv dv sv pv ov:Value} {F F':List Fre} (hF:Fam w B (R6 p C u L0 bv rv dv sv pv ov F) L) (h3:L3Ok p C u C.length L) (h4:F3Ok p C u C.length L F) (hg:w.grownBy w' ov.ownBlock) (hp:F'.Perm F) (hs:F'.Pairwise fun x y=>x.id≤y.id) (ho:w'.ownsRow B 76 4 ov F.length (flat Fre.cs F')) (hB:B'≤B):FarsOk w' B' p l u ov F':=by
 subst hC;refine⟨?_,fun x hx=>?_,?_,hs⟩
 ·rw[hp.length_eq];exact own_down ho hB
 ·obtain⟨i,hi⟩:=List.getElem?_of_mem (hp.mem_iff.1 hx)
  obtain⟨h5,y,h6,h7⟩:=h4.a i x hi;have hil:i<(cntL l).length:=by have:=(List.getElem?_eq_some_iff.1 h6).1;rw[h3.len]at this;exact this
  obtain⟨_,_,h8⟩:=h3.a i y h6;rw[if_pos hil]at h8;have h9:x.it=y.b.it:=by rw[h8,←h5];rfl
  have h10:=hF.bl y (List.mem_of_getElem? h6);rw[h7,h9];exact own_down (own_keepS h10.it (kps_grown hg) fun b hb hb2=>hF.rb _ (List.mem_of_getElem? (r6_5 p (cntL l) u L0 bv rv dv sv pv ov F)) y (List.mem_of_getElem? h6) b hb2 (List.mem_cons_of_mem _ hb)) hB
 ·rw[←h4.all];exact hp.map _
end Go.Proofs.YtmmlmhnjjfnpnaaGreat
