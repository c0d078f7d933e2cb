/- Texts that belong together. -/
import Derived.Test.YtmmlmhnjjfnpnaaGreatTpQzh
import Derived.Test.YtmmlmhnjjfnpnaaGreatTpQzm
set_option linter.all false
namespace Go.Proofs.YtmmlmhnjjfnpnaaGreat
set_option maxRecDepth 200000
set_option maxHeartbeats 64000000
section
open Go.RowKit
structure Rw where
 T:TypeId
 k:Nat
 v:Value
 n:Nat
 xs:List Value
structure K8 where
 g:Nat
 v:Value
 id:Int
 rd:Int
 b:L7
def K8.blk (x:K8):List Nat:=x.g :: ob x.v
instance:Inhabited K8:=⟨⟨0,.slice none 0 0,0,0,⟨[],0⟩⟩⟩
structure U3 (w:World) (B:Nat) (R:List Rw) (L:List K8):Prop where
 r:∀x∈R,w.ownsRow B x.T x.k x.v x.n x.xs
 nd:∀(i j:Nat) (x y:Rw),R[i]? =some x→R[j]? =some y→i≠j→∀b∈ob x.v,b∉ob y.v
 bl:∀x∈L,p5 w B x.g x.id x.rd x.v x.b
 bb:∀(i j:Nat) (x y:K8),L[i]? =some x→L[j]? =some y→i≠j→∀b∈x.blk,b∉y.blk
 rb:∀x∈R,∀y∈L,∀b∈ob x.v,b∉y.blk
section
variable {w w1 w2 w':World} {B:Nat} {R:List Rw} {L:List K8}
theorem U3.lt (h:U3 w B R L) {b:Nat} (hb:(∃x∈R,b∈ob x.v)∨(∃y∈L,b∈y.blk)):B≤b∧b<w.heap.size:=by
 rcases hb with⟨x,hx,hb⟩|⟨y,hy,hb⟩
 ·exact bH (h.r x hx) b hb
 ·exact(h.bl y hy).lt b (by unfold K8.blk at hb;simpa using hb)
theorem U3.keep {S:Nat→Prop} (h:U3 w B R L) (hk:B7 S w w') (hn:∀b,((∃x∈R,b∈ob x.v)∨(∃y∈L,b∈y.blk))→¬S b):U3 w' B R L:=
 ⟨fun x hx=>X4 (h.r x hx) hk (fun b hb=>hn b (.inl ⟨x,hx,hb⟩)),h.nd,fun x hx=>(h.bl x hx).keepS hk (fun b hb=>hn b (.inr ⟨x,hx,by unfold K8.blk;simpa using hb⟩)),h.bb,h.rb⟩
theorem U3.to (h:U3 w B R L) (hW:∃z:A7 w,w'=z.w):U3 w' B R L:=by
 obtain⟨z,rfl⟩:=hW;exact h.keep (B7.of (S:=fun _ =>False) z) fun _ _ h=>h
theorem U3.push (h:U3 w B R L) {i:Nat} {x:Rw} (hi:R[i]? =some x) (h1:A8 w w1) {v':Value} {n':Nat} {xs':List Value} (hown:w2.ownsRow B x.T x.k v' n' xs') (hg:w1.grownBy w2 x.v.ownBlock) (hl:∀b,v'.ownBlock=some b→x.v.ownBlock=some b∨b=w1.heap.size):U3 w2 B (R.set i ⟨x.T,x.k,v',n',xs'⟩) L∧B7 (fun b=>b∈ob x.v) w w2:=by
 have hk:B7 (fun b=>b∈ob x.v) w w2:=((B7.refl _ w).to h1).step ⟨hg.os,hg.tape,hg.output,hg.size,fun j hj hn=>hg.block j hj (fun e=>hn (O2.2 e.symm))⟩;have hil:i<R.length:=(A5 hi).1;have hxR:x∈R:=A0 hi;have hsz:=A8.size h1;have hnew:∀b∈ob v',b∈ob x.v∨w.heap.size≤b:=fun b hb=>by
  rcases hl b (O2.1 hb)with h'|h'
  ·exact .inl (O2.2 h')
  ·exact .inr (by omega)
 have hget:∀(j:Nat) (y:Rw),(R.set i ⟨x.T,x.k,v',n',xs'⟩)[j]? =some y→(j=i∧y=⟨x.T,x.k,v',n',xs'⟩)∨(j≠i∧R[j]? =some y):=fun j y hy=>by
  rw[List.getElem?_set]at hy;by_cases e:i=j
  ·subst e;rw[if_pos rfl,if_pos hil]at hy;exact .inl ⟨rfl,(Option.some.inj hy).symm⟩
  ·rw[if_neg e]at hy;exact .inr ⟨fun e'=>e e'.symm,hy⟩
 have hlt:∀y∈R,∀b∈ob y.v,b<w.heap.size:=fun y hy b hb=>(bH (h.r y hy) b hb).2;refine⟨⟨fun y hy=>?_,fun j k y z hy hz hjk=>?_,fun y hy=>?_,h.bb,fun y hy z hz=>?_⟩,hk⟩
 ·obtain⟨j,hj⟩:=List.getElem?_of_mem hy
  rcases hget j y hj with⟨rfl,rfl⟩|⟨hne,hj⟩
  ·exact hown
  ·exact X4 (h.r y (A0 hj)) hk (fun b hb hb2=>h.nd j i y x hj hi hne b hb hb2)
 ·rcases hget j y hy with⟨rfl,rfl⟩|⟨hne,hj⟩
  ·rcases hget k z hz with⟨e,_⟩|⟨hne',hk'⟩
   ·exact absurd e.symm hjk
   ·intro b hb hb2
    rcases hnew b hb with h'|h'
    ·exact h.nd j k x z hi hk' hjk b h' hb2
    ·have:=hlt z (A0 hk') b hb2;omega
  ·rcases hget k z hz with⟨rfl,rfl⟩|⟨hne',hk'⟩
   ·intro b hb hb2
    rcases hnew b hb2 with h'|h'
    ·exact h.nd j k y x hj hi hjk b hb h'
    ·have:=hlt y (A0 hj) b hb;omega
   ·exact h.nd j k y z hj hk' hjk
 ·exact(h.bl y hy).keepS hk (fun b hb hb2=>h.rb x hxR y hy b hb2 (by unfold K8.blk;simpa using hb))
 ·obtain⟨j,hj⟩:=List.getElem?_of_mem hy
  rcases hget j y hj with⟨rfl,rfl⟩|⟨hne,hj⟩
  ·intro b hb hb2
   rcases hnew b hb with h'|h'
   ·exact h.rb x hxR z hz b h' hb2
   ·have:=((h.bl z hz).lt b (by unfold K8.blk at hb2;simpa using hb2)).2;omega
  ·exact h.rb y (A0 hj) z hz
theorem U3.row (h:U3 w B R L) (h1:A8 w w') {x:Rw} (hown:w'.ownsRow w.heap.size x.T x.k x.v x.n x.xs) (hB:B≤w.heap.size):U3 w' B (R ++ [x]) L:=by
 have h':=h.to h1;have hx:∀b∈ob x.v,w.heap.size≤b:=fun b hb=>(bH hown b hb).1;have hlt:∀y∈R,∀b∈ob y.v,b<w.heap.size:=fun y hy b hb=>(bH (h.r y hy) b hb).2;have hget:∀(j:Nat) (y:Rw),(R ++ [x])[j]? =some y→(j=R.length∧y=x)∨R[j]? =some y:=fun j y hy=>by
  by_cases hi:j<R.length
  ·rw[List.getElem?_append_left hi]at hy;exact .inr hy
  ·have hi2:j<(R ++ [x]).length:=(A5 hy).1
   rw[List.length_append,List.length_singleton]at hi2;obtain rfl:j=R.length:=by omega
   rw[List.getElem?_append_right (Nat.le_refl _),Nat.sub_self]at hy;exact .inl ⟨rfl,(Option.some.inj hy).symm⟩
 refine⟨fun y hy=>?_,fun j k y z hy hz hjk=>?_,h'.bl,h.bb,fun y hy z hz=>?_⟩
 ·rcases List.mem_append.1 hy with hy|hy
  ·exact h'.r y hy
  ·rw[List.mem_singleton]at hy;subst hy;exact jI hown hB
 ·rcases hget j y hy with⟨rfl,rfl⟩|hj
  ·rcases hget k z hz with⟨e,_⟩|hk
   ·exact absurd e.symm hjk
   ·intro b hb hb2;have:=hx b hb;have:=hlt z (A0 hk) b hb2;omega
  ·rcases hget k z hz with⟨rfl,rfl⟩|hk
   ·intro b hb hb2;have:=hx b hb2;have:=hlt y (A0 hj) b hb;omega
   ·exact h.nd j k y z hj hk hjk
 ·rcases List.mem_append.1 hy with hy|hy
  ·exact h.rb y hy z hz
  ·rw[List.mem_singleton]at hy;subst hy
   intro b hb hb2;have:=hx b hb;have:=((h.bl z hz).lt b (by unfold K8.blk at hb2;simpa using hb2)).2;omega
theorem U3.bill (h:U3 w B R L) (h1:A8 w w') {x:K8} (hb:p5 w' w.heap.size x.g x.id x.rd x.v x.b) (hB:B≤w.heap.size):U3 w' B R (L ++ [x]):=by
 have h':=h.to h1;have hx:∀b∈x.blk,w.heap.size≤b:=fun b hh=>(hb.lt b (by unfold K8.blk at hh;simpa using hh)).1;have hlt:∀y∈L,∀b∈y.blk,b<w.heap.size:=fun y hy b hh=>((h.bl y hy).lt b (by unfold K8.blk at hh;simpa using hh)).2;have hget:∀(j:Nat) (y:K8),(L ++ [x])[j]? =some y→(j=L.length∧y=x)∨L[j]? =some y:=fun j y hy=>by
  by_cases hi:j<L.length
  ·rw[List.getElem?_append_left hi]at hy;exact .inr hy
  ·have hi2:j<(L ++ [x]).length:=(A5 hy).1
   rw[List.length_append,List.length_singleton]at hi2;obtain rfl:j=L.length:=by omega
   rw[List.getElem?_append_right (Nat.le_refl _),Nat.sub_self]at hy;exact .inl ⟨rfl,(Option.some.inj hy).symm⟩
 refine⟨h'.r,h.nd,fun y hy=>?_,fun j k y z hy hz hjk=>?_,fun y hy z hz=>?_⟩
 ·rcases List.mem_append.1 hy with hy|hy
  ·exact h'.bl y hy
  ·rw[List.mem_singleton]at hy;subst hy
   exact⟨hb.bx,jI hb.it hB,Nat.le_trans hB hb.ge,hb.ne⟩
 ·rcases hget j y hy with⟨rfl,rfl⟩|hj
  ·rcases hget k z hz with⟨e,_⟩|hk
   ·exact absurd e.symm hjk
   ·intro b hb hb2;have:=hx b hb;have:=hlt z (A0 hk) b hb2;omega
  ·rcases hget k z hz with⟨rfl,rfl⟩|hk
   ·intro b hb hb2;have:=hx b hb2;have:=hlt y (A0 hj) b hb;omega
   ·exact h.bb j k y z hj hk hjk
 ·rcases List.mem_append.1 hz with hz|hz
  ·exact h.rb y hy z hz
  ·rw[List.mem_singleton]at hz;subst hz
   intro b hb hb2;have:=hx b hb2;have:=(bH (h.r y hy) b hb).2;omega
theorem U3.add (h:U3 w B R L) {i:Nat} {x:K8} (hi:L[i]? =some x) {v':Value} {b':L7} (hb:p5 w' B x.g x.id x.rd v' b') (hk:B7 (fun b=>b=x.g∨b∈ob x.v) w w') (hl:∀b∈ob v',b∈ob x.v∨w.heap.size≤b):U3 w' B R (L.set i {x with v:=v',b:=b'}):=by
 have hil:i<L.length:=(A5 hi).1;have hxL:x∈L:=A0 hi;have hmb:∀{b:Nat},(b=x.g∨b∈ob x.v)↔b∈x.blk:=by unfold K8.blk;simp
 have hnew:∀b∈({x with v:=v',b:=b'}:K8).blk,b∈x.blk∨w.heap.size≤b:=fun b hb=>by
  unfold K8.blk at hb;rcases List.mem_cons.1 hb with rfl|hb
  ·exact .inl (hmb.1 (.inl rfl))
  ·rcases hl b hb with h'|h'
   ·exact .inl (hmb.1 (.inr h'))
   ·exact .inr h'
 have hget:∀(j:Nat) (y:K8),(L.set i {x with v:=v',b:=b'})[j]? =some y→(j=i∧y={x with v:=v',b:=b'})∨(j≠i∧L[j]? =some y):=fun j y hy=>by
  rw[List.getElem?_set]at hy;by_cases e:i=j
  ·subst e;rw[if_pos rfl,if_pos hil]at hy;exact .inl ⟨rfl,(Option.some.inj hy).symm⟩
  ·rw[if_neg e]at hy;exact .inr ⟨fun e'=>e e'.symm,hy⟩
 have hlt:∀y∈L,∀b∈y.blk,b<w.heap.size:=fun y hy b hh=>((h.bl y hy).lt b (by unfold K8.blk at hh;simpa using hh)).2;refine⟨fun y hy=>X4 (h.r y hy) hk (fun b hb hb2=>h.rb y hy x hxL b hb (hmb.1 hb2)),h.nd,fun y hy=>?_,fun j k y z hy hz hjk=>?_,fun y hy z hz=>?_⟩
 ·obtain⟨j,hj⟩:=List.getElem?_of_mem hy
  rcases hget j y hj with⟨rfl,rfl⟩|⟨hne,hj⟩
  ·exact hb
  ·exact(h.bl y (A0 hj)).keepS hk (fun b hb hb2=>h.bb j i y x hj hi hne b (by unfold K8.blk;simpa using hb) (hmb.1 hb2))
 ·rcases hget j y hy with⟨rfl,rfl⟩|⟨hne,hj⟩
  ·rcases hget k z hz with⟨e,_⟩|⟨hne',hk'⟩
   ·exact absurd e.symm hjk
   ·intro b hb hb2
    rcases hnew b hb with h'|h'
    ·exact h.bb j k x z hi hk' hjk b h' hb2
    ·have:=hlt z (A0 hk') b hb2;omega
  ·rcases hget k z hz with⟨rfl,rfl⟩|⟨hne',hk'⟩
   ·intro b hb hb2
    rcases hnew b hb2 with h'|h'
    ·exact h.bb j k y x hj hi hjk b hb h'
    ·have:=hlt y (A0 hj) b hb;omega
   ·exact h.bb j k y z hj hk' hjk
 ·obtain⟨j,hj⟩:=List.getElem?_of_mem hz
  rcases hget j z hj with⟨rfl,rfl⟩|⟨hne,hj⟩
  ·intro b hb hb2
   rcases hnew b hb2 with h'|h'
   ·exact h.rb y hy x hxL b hb h'
   ·have:=(bH (h.r y hy) b hb).2;omega
  ·exact h.rb y hy z (A0 hj)
theorem U3.since {wB:World} (h:U3 w wB.heap.size R L) (hX:A8 wB w) {S:Nat→Prop} (hk:B7 S w w') (hS:∀b,S b→(∃x∈R,b∈ob x.v)∨(∃y∈L,b∈y.blk)):A8 wB w':=by
 obtain⟨y,rfl⟩:=hX;exact B7.since y hk (fun b hb=>(h.lt (hS b hb)).1)
end
structure St (S0:Nat→Prop) (w6 w:World) (B:Nat) (R:List Rw) (L:List K8):Prop where
 f:U3 w B R L
 k:B7 S0 w6 w
section
variable {S0:Nat→Prop} {w6 w w2:World} {B:Nat} {R:List Rw} {L:List K8}
theorem St.al (h:St S0 w6 w B R L) (o:Obj):St S0 w6 (w.alloc o) B R L:=⟨h.f.to (A8.alloc (A8.self _) o),h.k.to (A8.alloc (A8.self _) o)⟩
theorem St.bx (h:St S0 w6 w B R L) (vs:List Value) (T:TypeId):C4 (w.alloc (.cells vs.toArray T)) w.heap.size vs∧w6.heap.size≤w.heap.size:=⟨C4.new w vs T,h.k.size⟩
theorem St.push (h:St S0 w6 w B R L) {i:Nat} {x:Rw} (hi:R[i]? =some x) {v':Value} {n':Nat} {xs':List Value} (hown:w2.ownsRow B x.T x.k v' n' xs') (hg:w.grownBy w2 x.v.ownBlock) (hl:∀b,v'.ownBlock=some b→x.v.ownBlock=some b∨b=w.heap.size) (hS:∀b∈ob x.v,S0 b):St S0 w6 w2 B (R.set i ⟨x.T,x.k,v',n',xs'⟩) L:=by
 obtain⟨h1,h2⟩:=h.f.push hi (A8.self _) hown hg hl;exact⟨h1,h.k.trans h2 fun b hb=>.inl (hS b hb)⟩
theorem X1 {g:Nat} {vs:List Value} (h:C4 w g vs∧w6.heap.size≤g) (o:Obj):C4 (w.alloc o) g vs∧w6.heap.size≤g:=⟨h.1.up o,h.2⟩
theorem U4 {g:Nat} {vs:List Value} (h:C4 w g vs∧w6.heap.size≤g) {v:Value} (hg:w.grownBy w2 v.ownBlock) (hv:∀b∈ob v,b<w6.heap.size):C4 w2 g vs∧w6.heap.size≤g:=
 ⟨h.1.grown hg (fun e=>by have:=hv g (O2.2 e.symm);have:=h.2;omega),h.2⟩
theorem N9 {g:Nat} {vs:List Value} (h:C4 w g vs∧w6.heap.size≤g):∀j u,vs[j]? =some u→w.cell? ((⟨g,0,none⟩:Addr).add j)=some u:=fun j u hu=>by
 rw[Addr.add_lit,Nat.zero_add];exact h.1.c j u hu
end
section
variable {P:Program} {ops:Array Oper} {Q:Exit→Act→World→Prop} {md:Region.Mode} {S:World→Prop} {m:Nat}
theorem fF {i j:Nat} {oi oj:Oper} {fuel:Nat} {listed:Array Bool} {a:Act} {w:World} (hr:Region.ready md ops listed=[i,j]) (hi:ops[i]? =some oi) (hj:ops[j]? =some oj)
 (h1:∀K':Act→World→Prop,Shut (∀a w,(m≤i∨S w)→((m≤i∨S w)→S4 P md ops Q S m fuel (listed.setIfInBounds i true) a w)→K' a w)→if Region.wanted oi (yielded ops a.tmps)=true then Oper.wp P oi a w K' Q else K' (a.put oi.dst undef) w)
 (h2:∀K':Act→World→Prop,Shut (∀a w,(m≤j∨S w)→((m≤j∨S w)→S4 P md ops Q S m fuel (listed.setIfInBounds j true) a w)→K' a w)→if Region.wanted oj (yielded ops a.tmps)=true then Oper.wp P oj a w K' Q else K' (a.put oj.dst undef) w):S4 P md ops Q S m (fuel+1) listed a w:=by
 refine⟨fun h1=>(by rw[h1]at hr;cases hr),fun k hk=>?_⟩;rw[hr]at hk;simp only[List.mem_cons,List.not_mem_nil,or_false]at hk;rcases hk with rfl|rfl
 ·exact wpOp_step hi (fun K' hK=>h1 K' (fun a w hS hW=>hK a w ⟨hS,hW hS⟩))
 ·exact wpOp_step hj (fun K' hK=>h2 K' (fun a w hS hW=>hK a w ⟨hS,hW hS⟩))
theorem Aq3 {i j k:Nat} {oi oj ok:Oper} {fuel:Nat} {listed:Array Bool} {a:Act} {w:World} (hr:Region.ready md ops listed=[i,j,k]) (hi:ops[i]? =some oi) (hj:ops[j]? =some oj) (hk:ops[k]? =some ok)
 (h1:∀K':Act→World→Prop,Shut (∀a w,(m≤i∨S w)→((m≤i∨S w)→S4 P md ops Q S m fuel (listed.setIfInBounds i true) a w)→K' a w)→if Region.wanted oi (yielded ops a.tmps)=true then Oper.wp P oi a w K' Q else K' (a.put oi.dst undef) w)
 (h2:∀K':Act→World→Prop,Shut (∀a w,(m≤j∨S w)→((m≤j∨S w)→S4 P md ops Q S m fuel (listed.setIfInBounds j true) a w)→K' a w)→if Region.wanted oj (yielded ops a.tmps)=true then Oper.wp P oj a w K' Q else K' (a.put oj.dst undef) w)
 (h3:∀K':Act→World→Prop,Shut (∀a w,(m≤k∨S w)→((m≤k∨S w)→S4 P md ops Q S m fuel (listed.setIfInBounds k true) a w)→K' a w)→if Region.wanted ok (yielded ops a.tmps)=true then Oper.wp P ok a w K' Q else K' (a.put ok.dst undef) w):S4 P md ops Q S m (fuel+1) listed a w:=by
 refine⟨fun h1=>(by rw[h1]at hr;cases hr),fun n hn=>?_⟩;rw[hr]at hn;simp only[List.mem_cons,List.not_mem_nil,or_false]at hn;rcases hn with rfl|rfl|rfl
 ·exact wpOp_step hi (fun K' hK=>h1 K' (fun a w hS hW=>hK a w ⟨hS,hW hS⟩))
 ·exact wpOp_step hj (fun K' hK=>h2 K' (fun a w hS hW=>hK a w ⟨hS,hW hS⟩))
 ·exact wpOp_step hk (fun K' hK=>h3 K' (fun a w hS hW=>hK a w ⟨hS,hW hS⟩))
end
end
section
open Go.RowKit Go.ChangeMaps
theorem Bl0 (w:World) (x:A7 w):Calls Tryz.prog 49 #[.slice none 0 0] x.w fun o w'=>o= .returned (.int .i64 0)∧∃y:A7 w,w'=y.w:=by
 have hmm:=@run_makeMap Tryz.prog;go_enter Tryz.func49,Tryz.ntmps49;go_wp2_with fail;refine wp_loop_rounds 1 ?_;rw[rounds_succ];go_wp2_with fail;first
  |exact⟨rfl,x.alloc _⟩
  |(go_ret;exact⟨rfl,x.alloc _⟩)
theorem Bl1 (w:World) (x:A7 w) (fv:Value):Calls Tryz.prog 57 #[.slice none 0 0,fv] x.w fun o w'=>o= .returned (.int .i64 (-1))∧∃y:A7 w,w'=y.w:=by
 go_enter Tryz.func57,Tryz.ntmps57;go_wp2_with fail;refine wp_loop_rounds 1 ?_;rw[rounds_succ];go_wp2_with fail;first
  |exact⟨rfl,x,rfl⟩
  |(go_ret;exact⟨rfl,x,rfl⟩)
theorem Bl2 (w:World) (x:A7 w) (g5 g7 gb:Nat) (h7:∀y:A7 w,y.w.cell? ⟨g7,0,none⟩=some (.slice none 0 0)):Calls Tryz.prog 56 #[.pointer (some ⟨gb,0,none⟩),.pointer (some ⟨g7,0,none⟩),.pointer (some ⟨g5,0,none⟩)] x.w fun o w'=>o= .returned (.tuple #[])∧∃y:A7 w,w'=y.w:=by
 go_enter Tryz.func56,Tryz.ntmps56;go_upto_region 1 with fail;obtain⟨y1,e2,C9,hsz0,hlt0,HX0⟩:=L8 x [.pointer (some ⟨gb,0,none⟩)] 136;rw[e2];obtain⟨hx0,hxf⟩:=cx1 HX0;skip;clear e2 C9;generalize x.w.heap.size=g at *;obtain⟨E6,I3⟩:=sX HX0;have I9:=A3 (And.intro hsz0 hlt0);clear hlt0 hsz0 HX0;have HC:=fun fv=>Bl1 w y1 fv;go_wp2_with(go_at_call 57;(with_reducible refine(HC _).mono ?_);rintro _ _ ⟨rfl,y2,rfl⟩);first
  |exact⟨rfl,y2,rfl⟩
  |exact bodyPost_ret (v:=.tuple #[]) (by simp[results,Tryz.results56,go_sem]) rfl ⟨rfl,y2,rfl⟩
end
section
open Go.RowKit
def cG (L:List K8):List Value:=L.map fun x=>.pointer (some ⟨x.g,0,none⟩)
def M3 (C:List A9) (k:Nat):List Int:=(List.range k).map fun i=>(D3 C i).rd
def J7 (C:List A9) (k:Nat):List Int:=(List.range k).map fun i=>J2 (D3 C i)
noncomputable def J3 (p:G5) (C:List A9) (u:Nat→Int) (k:Nat):List Int:=(List.range k).map fun i=>(O7 p (D3 C i) (u i)).tt
theorem Bl3 (C:List A9) (k:Nat):(M3 C k).length=k:=by simp[M3]
theorem Bl4 (C:List A9) (k:Nat):(J7 C k).length=k:=by simp[J7]
theorem Aq4 (p:G5) (C:List A9) (u:Nat→Int) (k:Nat):(J3 p C u k).length=k:=by simp[J3]
theorem Bl5 (C:List A9) (k:Nat):M3 C (k+1)=M3 C k ++ [(D3 C k).rd]:=by simp[M3,List.range_succ]
theorem Bl6 (C:List A9) (k:Nat):J7 C (k+1)=J7 C k ++ [J2 (D3 C k)]:=by simp[J7,List.range_succ]
theorem Bl7 (p:G5) (C:List A9) (u:Nat→Int) (k:Nat):J3 p C u (k+1)=J3 p C u k ++ [(O7 p (D3 C k) (u k)).tt]:=by simp[J3,List.range_succ]
structure jL (p:G5) (C:List A9) (u:Nat→Int) (k:Nat) (L:List K8):Prop where
 len:L.length=k
 a:∀(i:Nat) (x:K8),L[i]? =some x→x.id=(D3 C i).id∧x.rd=(D3 C i).rd∧x.b=O7 p (D3 C i) (u i)
theorem Bl8 (p:G5) (C:List A9) (u:Nat→Int):jL p C u 0 []:=⟨rfl,fun i x h=>by simp at h⟩
theorem jL.next {p:G5} {C:List A9} {u:Nat→Int} {k:Nat} {L:List K8} (h:jL p C u k L) (g:Nat) (v:Value):jL p C u (k+1) (L ++ [⟨g,v,(D3 C k).id,(D3 C k).rd,O7 p (D3 C k) (u k)⟩]):=by
 refine⟨by simp[h.len],fun i x hx=>?_⟩;by_cases hi:i<L.length
 ·rw[List.getElem?_append_left hi]at hx;exact h.a i x hx
 ·have hi2:i<(L ++ [(⟨g,v,(D3 C k).id,(D3 C k).rd,O7 p (D3 C k) (u k)⟩:K8)]).length:=(A5 hx).1
  rw[List.length_append,List.length_singleton]at hi2;obtain rfl:i=L.length:=by omega
  rw[List.getElem?_append_right (Nat.le_refl _),Nat.sub_self]at hx;have e:_ =x:=Option.some.inj hx;subst e;rw[h.len];exact⟨rfl,rfl,rfl⟩
noncomputable def R4 (p:G5) (C:List A9) (u:Nat→Int) (k:Nat) (L:List K8) (bv rv dv sv:Value):List Rw:=
 [⟨136,1,bv,k,cG L⟩,⟨3,1,rv,k,(M3 C k).map (Value.int .i64)⟩,⟨3,1,dv,k,(J7 C k).map (Value.int .i64)⟩,⟨3,1,sv,k,(J3 p C u k).map (Value.int .i64)⟩]
theorem Bl9:M6 Tryz.prog 135 136 (.pointer none) 1 8:=M6.mk' Tryz.underlying135 (by kernel_rfl) rfl (by decide)
theorem Aq5:M6 Tryz.prog 67 76 (.agg #[.int .i64 0,.int .i64 0,.slice none 0 0,.int .i64 0]) 4 48:=M6.mk' Tryz.underlying67 (by kernel_rfl) rfl (by decide)
theorem Aq6 {r:A9} (h:J9 r=0):0≤J2 r∧J2 r≤49709:=by
 have:=pC (pB h);unfold J2;omega
theorem Bm0 (p:G5) (C:List A9) (u:Nat→Int):p6 C.length (M3 C C.length) (J7 C C.length) (J3 p C u C.length)=Z2 p C u:=by
 unfold p6 Z2;refine List.map_congr_left fun i hi=>?_;have hi':=List.mem_range.1 hi;unfold M3 J7 J3;rw[fU _ _ _ hi',fU _ _ _ hi',fU _ _ _ hi']
theorem Bm1 {p:G5} (hk:dO p) {C:List A9} {u:Nat→Int} (hn:C.length≤256) (hC:∀r∈C,J9 r=0) (hb:j6 p C u C.length=0):rD p.cap (M3 C C.length) (J7 C C.length) (J3 p C u C.length) C.length:=by
 have hr:∀i,i<C.length→J9 (D3 C i)=0:=fun i hi=>hC _ (by
  unfold D3;rw[A6,A4 hi];exact List.getElem_mem hi)
 refine⟨hk.c,Bl3 _ _,Bl4 _ _,Aq4 _ _ _ _,hn,fun i hi=>?_,fun i hi=>?_,fun i hi=>?_⟩
 ·unfold M3
  rw[fU _ _ _ hi];have:=pC (pB (hr i hi));omega
 ·unfold J7
  rw[fU _ _ _ hi];exact Aq6 (hr i hi)
 ·unfold J3
  rw[fU _ _ _ hi];have h1:=wF (wC hb i hi);have h2:=qT hk (D3 C i) (u i) h1.1 h1.2.1;omega
structure iH (p:G5) (C:List A9) (u:Nat→Int) (k:Nat) (L:List K8):Prop where
 len:L.length=C.length
 a:∀(i:Nat) (x:K8),L[i]? =some x→x.id=(D3 C i).id∧x.rd=(D3 C i).rd∧x.b=if i<k then(eH p C u i).b else O7 p (D3 C i) (u i)
theorem jL.three {p:G5} {C:List A9} {u:Nat→Int} {L:List K8} (h:jL p C u C.length L):iH p C u 0 L:=
 ⟨h.len,fun i x hx=>by obtain⟨h1,h2,h3⟩:=h.a i x hx;exact⟨h1,h2,by rw[if_neg (by omega)];exact h3⟩⟩
theorem iH.next {p:G5} {C:List A9} {u:Nat→Int} {k:Nat} {L:List K8} (h:iH p C u k L) {x:K8} (hx:L[k]? =some x) (v:Value):iH p C u (k+1) (L.set k {x with v:=v,b:=(eH p C u k).b}):=by
 refine⟨by rw[List.length_set];exact h.len,fun i y hy=>?_⟩;rw[List.getElem?_set]at hy;by_cases e:k=i
 ·subst e
  rw[if_pos rfl,if_pos (A5 hx).1]at hy;have e2:_ =y:=Option.some.inj hy;subst e2;obtain⟨h1,h2,_⟩:=h.a k x hx;exact⟨h1,h2,by rw[if_pos (by omega)]⟩
 ·rw[if_neg e]at hy
  obtain⟨h1,h2,h3⟩:=h.a i y hy;refine⟨h1,h2,h3.trans ?_⟩;by_cases h4:i<k
  ·rw[if_pos h4,if_pos (by omega)]
  ·rw[if_neg h4,if_neg (by omega)]
structure iI (p:G5) (C:List A9) (u:Nat→Int) (k:Nat) (L:List K8) (F:List M2):Prop where
 len:F.length=k
 a:∀(i:Nat) (x:M2),F[i]? =some x→x.far=eH p C u i∧∃y,L[i]? =some y∧x.iv=y.v
theorem Bm2 (p:G5) (C:List A9) (u:Nat→Int) (L:List K8):iI p C u 0 L []:=⟨rfl,fun i x h=>by simp at h⟩
theorem iI.next {p:G5} {C:List A9} {u:Nat→Int} {k:Nat} {L:List K8} {F:List M2} (h:iI p C u k L F) {y y':K8} (hy:L[k]? =some y) {x:M2} (hx:x.far=eH p C u k) (hv:x.iv=y'.v):iI p C u (k+1) (L.set k y') (F ++ [x]):=by
 have hkl:k<L.length:=(A5 hy).1;refine⟨by simp[h.len],fun i z hz=>?_⟩;by_cases hi:i<F.length
 ·rw[List.getElem?_append_left hi]at hz
  obtain⟨h1,y2,h2,h3⟩:=h.a i z hz;refine⟨h1,y2,?_,h3⟩;rw[List.getElem?_set,if_neg (by have:=h.len;omega)];exact h2
 ·have hi2:i<(F ++ [x]).length:=(A5 hz).1
  rw[List.length_append,List.length_singleton]at hi2;obtain rfl:i=F.length:=by omega
  rw[List.getElem?_append_right (Nat.le_refl _),Nat.sub_self]at hz;have e:x=z:=Option.some.inj hz;subst e;refine⟨by rw[h.len];exact hx,y',?_,hv⟩;rw[h.len,List.getElem?_set,if_pos rfl,if_pos hkl]
theorem iI.all {p:G5} {C:List A9} {u:Nat→Int} {L:List K8} {F:List M2} (h:iI p C u C.length L F):F.map M2.far=qR p C u:=by
 refine List.ext_getElem? fun i=>?_;unfold qR;rw[List.getElem?_map,List.getElem?_map];by_cases hi:i<C.length
 ·have hf:i<F.length:=by rw[h.len];exact hi
  rw[List.getElem?_range hi,A4 hf];show some (F[i].far)=some (eH p C u i);rw[(h.a i _ (A4 hf)).1]
 ·rw[List.getElem?_eq_none (by rw[h.len];omega),List.getElem?_eq_none (by simp;omega)]
  rfl
structure wN (w:World) (B:Nat) (p:G5) (l:List A9) (u:Nat→Int) (v:Value) (F:List M2):Prop where
 r:w.ownsRow B 76 4 v F.length (B4 M2.cs F)
 i:∀x∈F,w.ownsRow B 217 3 x.iv x.it.length (B4 aP.cs x.it)
 f:(F.map M2.far).Perm (qR p (Q5 l) u)
 s:F.Pairwise fun x y=>x.id≤y.id
def nI (w:World) (f:G4) (p:G5) (l:List A9) (o:Ending) (w':World):Prop:=
 ∃(v:Value) (e:Int) (y:A7 w) (u:Nat→Int),o= .returned (.tuple #[v,.int .i64 e])∧w'=y.w∧e=nD f p l u∧(o7 f p=0→U9 l=0→dX p.ps (Q5 l) u)∧((e≠0∧v= .slice none 0 0)∨(e=0∧∃F,wN y.w w.heap.size p l u v F))
theorem Aq7 {l:List A9} (h:U9 l=0):(Q5 l).length≤256∧(∀r∈Q5 l,J9 r=0∧r.op=false∧r∈l)∧U9 (Q5 l)=0∧(l.filter fun r=>!r.op).Pairwise (fun x y=>x.id≠y.id):=by
 obtain⟨h1,h2,h3⟩:=mI h;have hp:(Q5 l).Perm (l.filter fun r=>!r.op):=nC _;have hlen:(Q5 l).length≤256:=by
  rw[hp.length_eq];have:=List.length_filter_le (fun r:A9=>!r.op) l;omega
 have hm:∀r∈Q5 l,J9 r=0∧r.op=false∧r∈l:=fun r hr=>by
  obtain⟨q1,q2⟩:=Bd4.1 hr;exact⟨h3 r q1,q2,q1⟩
 have hn:((l.filter fun r=>!r.op).map fun r:A9=>r.id).Nodup:=h2.sublist (List.filter_sublist.map _);refine⟨hlen,hm,?_,?_⟩
 ·rw[tQ hlen (fun j hj x hx=>(hm x (A0 hx)).1),mD ((hp.map _).nodup_iff.2 hn)]
  rfl
 ·unfold List.Nodup at hn
  rwa[List.pairwise_map]at hn
theorem Bm3 (w:World) (B:Nat) (e:TypeId) (k:Nat):w.ownsRow B e k (.slice none 0 0) 0 []:=⟨by simp,.inl ⟨rfl,rfl⟩⟩
theorem Bm4 (w:World) (B:Nat) (p:G5) (C:List A9) (u:Nat→Int):U3 w B (R4 p C u 0 [] (.slice none 0 0) (.slice none 0 0) (.slice none 0 0) (.slice none 0 0)) []:=by
 have hm:∀x∈R4 p C u 0 [] (.slice none 0 0) (.slice none 0 0) (.slice none 0 0) (.slice none 0 0),x.v= .slice none 0 0∧x.n=0∧x.xs=[]:=fun x hx=>by
  simp only[R4,List.mem_cons,List.not_mem_nil,or_false]at hx;rcases hx with rfl|rfl|rfl|rfl<;>exact⟨rfl,rfl,rfl⟩
 refine⟨fun x hx=>?_,fun i j x y hx hy hij b hb=>?_,fun x hx=>(by cases hx),fun i j x y hx=>(by simp at hx),fun x hx y hy=>(by cases hy)⟩
 ·obtain⟨h1,h2,h3⟩:=hm x hx
  rw[h1,h2,h3];exact Bm3 _ _ _ _
 ·rw[(hm x (A0 hx)).1]at hb
  simp[V3]at hb
section
variable (p:G5) (C:List A9) (u:Nat→Int) (k:Nat) (L:List K8) (bv rv dv sv:Value)
theorem nJ:(R4 p C u k L bv rv dv sv)[0]? =some ⟨136,1,bv,k,cG L⟩:=rfl
theorem rI:(R4 p C u k L bv rv dv sv)[1]? =some ⟨3,1,rv,k,(M3 C k).map (Value.int .i64)⟩:=rfl
theorem rJ:(R4 p C u k L bv rv dv sv)[2]? =some ⟨3,1,dv,k,(J7 C k).map (Value.int .i64)⟩:=rfl
theorem rK:(R4 p C u k L bv rv dv sv)[3]? =some ⟨3,1,sv,k,(J3 p C u k).map (Value.int .i64)⟩:=rfl
theorem bI (g:Nat) (v:Value) {r:A9} (hr:D3 C k=r):[(⟨136,1,bv,k+1,cG L ++ [.pointer (some ⟨g,0,none⟩)]⟩:Rw),⟨3,1,rv,k+1,(M3 C k).map (Value.int .i64) ++ [.int .i64 r.rd]⟩,⟨3,1,dv,k+1,(J7 C k).map (Value.int .i64) ++ [.int .i64 (J2 r)]⟩,⟨3,1,sv,k+1,(J3 p C u k).map (Value.int .i64) ++ [.int .i64 (O7 p r (u k)).tt]⟩]=R4 p C u (k+1) (L ++ [⟨g,v,r.id,r.rd,O7 p r (u k)⟩]) bv rv dv sv:=by
 subst hr;unfold R4;rw[Bl5,Bl6,Bl7];simp[cG]
end
theorem Bm5 {lp:List J1} {R:List A9} {u:Nat→Int} (hU:dX lp R u) {i:Nat} (hi:i<R.length):-1≤u i∧u i<lp.length:=by
 rcases AH0 lp (D3 R i) (bR R u (D3 R i))with⟨k,hk,he,_⟩|⟨he,_⟩
 ·rw[hU i hi,he];omega
 ·rw[hU i hi,he];omega
theorem jM {w:World} {B:Nat} {e:TypeId} {k:Nat} {a:Option Addr} {n c m:Nat} {xs:List Value} (h:w.ownsRow B e k (.slice a n c) m xs):n=m:=by
 obtain⟨_,⟨e2,e3⟩|⟨_,_,_,e2,_⟩⟩:=h
 ·simp only[Value.slice.injEq]at e2;omega
 ·simp only[Value.slice.injEq]at e2;exact e2.2.1
theorem Bm6 (p:G5) (C:List A9) (u:Nat→Int):(Z2 p C u).length=C.length:=by simp[Z2]
theorem wO (p:G5) (C:List A9) (u:Nat→Int):(U2 p.cap (Z2 p C u)).length=C.length:=by rw[Bd5,Bm6]
noncomputable def R6 (p:G5) (C:List A9) (u:Nat→Int) (L:List K8) (bv rv dv sv pv ov:Value) (F:List M2):List Rw:=
 R4 p C u C.length L bv rv dv sv ++ [⟨3,1,pv,C.length,(U2 p.cap (Z2 p C u)).map (Value.int .i64)⟩,⟨76,4,ov,F.length,B4 M2.cs F⟩]
section
variable (p:G5) (C:List A9) (u:Nat→Int) (L:List K8) (bv rv dv sv pv ov:Value) (F:List M2)
theorem Bm7:(R6 p C u L bv rv dv sv pv ov F)[0]? =some ⟨136,1,bv,C.length,cG L⟩:=rfl
theorem Bm8:(R6 p C u L bv rv dv sv pv ov F)[3]? =some ⟨3,1,sv,C.length,(J3 p C u C.length).map (Value.int .i64)⟩:=rfl
theorem Bm9:(R6 p C u L bv rv dv sv pv ov F)[4]? =some ⟨3,1,pv,C.length,(U2 p.cap (Z2 p C u)).map (Value.int .i64)⟩:=rfl
theorem jN:(R6 p C u L bv rv dv sv pv ov F)[5]? =some ⟨76,4,ov,F.length,B4 M2.cs F⟩:=rfl
theorem Bn0 (ov':Value) (x:M2):(R6 p C u L bv rv dv sv pv ov F).set 5 ⟨76,4,ov',F.length+1,B4 M2.cs F ++ x.cs⟩=R6 p C u L bv rv dv sv pv ov' (F ++ [x]):=by
 unfold R6 R4;rw[U6,Y1,List.length_append];rfl
end
theorem Bn1 {p:G5} (hk:dO p) {C:List A9} {u:Nat→Int} (hb:j6 p C u C.length=0) {k:Nat} (h:k<C.length):
 (0≤B0 (U2 p.cap (Z2 p C u)) k∧B0 (U2 p.cap (Z2 p C u)) k≤(O7 p (D3 C k) (u k)).tt∧(O7 p (D3 C k) (u k)).tt≤1000000000000)∧(eH p C u k).b.tt=B0 (U2 p.cap (Z2 p C u)) k:=by
 have hg:(Z2 p C u)[k]? =some ((D3 C k).rd,J2 (D3 C k),(O7 p (D3 C k) (u k)).tt):=by
  unfold Z2;rw[List.getElem?_map,List.getElem?_range h];rfl
 have hG:∀x∈Z2 p C u,0≤x.2.2∧x.2.2≤1000000000000:=fun x hx=>by
  unfold Z2 at hx;obtain⟨i,hi,rfl⟩:=List.mem_map.1 hx;have h1:=wF (wC hb i (List.mem_range.1 hi));exact⟨(qT hk _ _ h1.1 h1.2.1).1,h1.2.2⟩
 have h2:=Am9 hk.c.1 hG hg;have h3:=hG _ (A0 hg);refine⟨⟨h2.1,h2.2,h3.2⟩,?_⟩;unfold eH;rw[L7.add_tt];omega
end
section
open Go.RowKit
theorem wP {w:World} {B:Nat} {e:TypeId} {a:Option Addr} {m c n:Nat} {xs:List Value} (h:w.ownsRow B e 1 (.slice a m c) n xs) {i:Nat} {u:Value} (hx:xs[i]? =some u):∃b off,a=some ⟨b,off,none⟩∧b<w.heap.size∧w.cell? ⟨b,off+i,none⟩=some u:=by
 have hl:=h.1;obtain⟨a',c',e1,_,hr,_⟩:=oH h;have e2:a=a':=by simp only[Value.slice.injEq]at e1;exact e1.1
 subst e2;have hi:i<xs.length:=(A5 hx).1;obtain⟨b,off,h1,h2,h3⟩:=hr i (by omega);refine⟨b,off,h1,h2,?_⟩;rw[h3];show some (xs.getD i undef)=some u;rw[A6,hx];rfl
theorem Aq8 {l:List Int} {i:Nat} (h:i<l.length):(l.map (Value.int .i64))[i]? =some (.int .i64 (B0 l i)):=by
 unfold B0;rw[List.getElem?_map,A6,A4 h];rfl
theorem Bn2 {L:List K8} {i:Nat} {x:K8} (h:L[i]? =some x):(cG L)[i]? =some (.pointer (some ⟨x.g,0,none⟩)):=by
 unfold cG;rw[List.getElem?_map,h];rfl
theorem Bn3 {L:List K8} {i:Nat} {x:K8} (h:L[i]? =some x) (v:Value) (b:L7):cG (L.set i {x with v:=v,b:=b})=cG L:=by
 have hil:i<L.length:=(A5 h).1;unfold cG;refine List.ext_getElem? fun j=>?_;rw[List.getElem?_map,List.getElem?_map,List.getElem?_set];by_cases e:i=j
 ·subst e;rw[if_pos rfl,if_pos hil,h];rfl
 ·rw[if_neg e]
theorem Aq9 {w w':World} {v:Value} (hg:w.grownBy w' v.ownBlock):B7 (fun b=>b∈ob v) w w':=
 (B7.refl _ w).step ⟨hg.os,hg.tape,hg.output,hg.size,fun j hj hn=>hg.block j hj (fun e=>hn (O2.2 e.symm))⟩
theorem iH.at {p:G5} {C:List A9} {u:Nat→Int} {k:Nat} {L:List K8} (h:iH p C u k L) (hk:k<C.length):∃x,L[k]? =some x∧x.id=(D3 C k).id∧x.rd=(D3 C k).rd∧x.b=O7 p (D3 C k) (u k):=by
 have hl:k<L.length:=by rw[h.len];exact hk
 obtain⟨h1,h2,h3⟩:=h.a k _ (A4 hl);exact⟨_,A4 hl,h1,h2,by rw[h3,if_neg (by omega)]⟩
theorem Bn4 {w:World} {B g:Nat} {id rd:Int} {v:Value} {b:L7} (h:p5 w B g id rd v b):∃x:M2,x.cs=[.int .i64 id,.int .i64 rd,v,.int .i64 b.tt]∧x.far=⟨id,rd,b⟩∧x.iv=v:=by
 obtain⟨a,n,c,rfl⟩:=I4 h.it;obtain rfl:n=b.it.length:=jM h.it;exact⟨⟨id,rd,a,b.it,c,b.tt⟩,rfl,rfl,rfl⟩
theorem Bn5 {w w':World} {B B':Nat} {p:G5} {l C:List A9} (hC:Q5 l=C) {u:Nat→Int} {L0 L:List K8} {bv rv dv sv pv ov:Value} {F F':List M2} (hF:U3 w B (R6 p C u L0 bv rv dv sv pv ov F) L) (h3:iH p C u C.length L) (h4:iI p C u C.length L F) (hg:w.grownBy w' ov.ownBlock) (hp:F'.Perm F) (hs:F'.Pairwise fun x y=>x.id≤y.id) (ho:w'.ownsRow B 76 4 ov F.length (B4 M2.cs F')) (hB:B'≤B):wN w' B' p l u ov F':=by
 subst hC;refine⟨?_,fun x hx=>?_,?_,hs⟩
 ·rw[hp.length_eq];exact jI ho hB
 ·obtain⟨i,hi⟩:=List.getElem?_of_mem (hp.mem_iff.1 hx)
  obtain⟨h5,y,h6,h7⟩:=h4.a i x hi;have hil:i<(Q5 l).length:=by have:=(A5 h6).1;rw[h3.len]at this;exact this
  obtain⟨_,_,h8⟩:=h3.a i y h6;rw[if_pos hil]at h8;have h9:x.it=y.b.it:=by rw[h8,←h5];rfl
  have h10:=hF.bl y (A0 h6);rw[h7,h9];exact jI (X4 h10.it (Aq9 hg) fun b hb hb2=>hF.rb _ (A0 (jN p (Q5 l) u L0 bv rv dv sv pv ov F)) y (A0 h6) b hb2 (List.mem_cons_of_mem _ hb)) hB
 ·rw[←h4.all];exact hp.map _
end
end Go.Proofs.YtmmlmhnjjfnpnaaGreat
