/- Texts that belong together. -/
import Derived.Test.YtmmlmhnjjfnpnaaGreatTpQb
import Derived.Laws.OwnMore
set_option linter.all false
namespace Go.Proofs.YtmmlmhnjjfnpnaaGreat
section
open Go.RowKit Go.ChangeMaps
structure B7 (S:Nat→Prop) (w w':World):Prop where
 os:w'.os=w.os
 tape:w'.tape=w.tape
 output:w'.output=w.output
 size:w.heap.size≤w'.heap.size
 block:∀g,g<w.heap.size→¬S g→w'.heap[g]? =w.heap[g]?
theorem B7.refl (S:Nat→Prop) (w:World):B7 S w w:=⟨rfl,rfl,rfl,Nat.le_refl _,fun _ _ _ =>rfl⟩
theorem B7.trans {S S':Nat→Prop} {a b c:World} (h:B7 S a b) (k:B7 S' b c) (hs:∀g,S' g→S g∨a.heap.size≤g):B7 S a c:=
 ⟨k.os.trans h.os,k.tape.trans h.tape,k.output.trans h.output,Nat.le_trans h.size k.size,fun g hg hn=>(k.block g (Nat.lt_of_lt_of_le hg h.size) (fun hg'=>by
  rcases hs g hg' with h'|h'
  ·exact hn h'
  ·omega)).trans (h.block g hg hn)⟩
theorem B7.step {S:Nat→Prop} {a b c:World} (h:B7 S a b) (k:B7 S b c):B7 S a c:=h.trans k fun _ h=>.inl h
theorem B7.of {S:Nat→Prop} {w:World} (y:A7 w):B7 S w y.w:=⟨y.b.os,y.b.tape,y.b.output,y.b.size,fun g hg _ =>y.b.block g hg⟩
theorem B7.to {S:Nat→Prop} {a w W:World} (h:B7 S a w) (hW:∃z:A7 w,W=z.w):B7 S a W:=by
 obtain⟨z,rfl⟩:=hW;exact h.step (B7.of z)
theorem B7.grown {S:Nat→Prop} {w w':World} {r:Nat} (h:w.grownBy w' (some r)) (hr:S r):B7 S w w':=
 ⟨h.os,h.tape,h.output,h.size,fun g hg hn=>h.block g hg (fun e=>by cases e;exact hn hr)⟩
theorem B7.set {S:Nat→Prop} (w:World) (a:Addr) (v:Value) (h:S a.block):B7 S w (w.setCell a v):=
 ⟨rfl,rfl,rfl,by simp[World.setCell],fun g _ hn=>Below.heap_setCell w a v g (fun e=>hn (e ▸ h))⟩
theorem B7.sets {S:Nat→Prop} (g:Nat) (h:S g):∀(vs:List Value) (o:Nat) (w:World),B7 S w (w.setCells g o vs)
 |[],_,w=>B7.refl S w
 |v :: vs,o,w=>(B7.set w ⟨g,o,none⟩ v h).step (B7.sets g h vs (o+1) _)
theorem B7.since {S:Nat→Prop} {w0 w':World} (x:A7 w0) (h:B7 S x.w w') (hS:∀g,S g→w0.heap.size≤g):∃y:A7 w0,w'=y.w:=
 ⟨⟨w',⟨h.os.trans x.b.os,h.tape.trans x.b.tape,h.output.trans x.b.output,Nat.le_trans x.b.size h.size,fun b hb=>(h.block b (Nat.lt_of_lt_of_le hb x.b.size) (fun hs=>by have:=hS b hs;omega)).trans (x.b.block b hb)⟩⟩,rfl⟩
theorem C4.keepS {S:Nat→Prop} {w w':World} {g:Nat} {vs:List Value} (h:C4 w g vs) (hk:B7 S w w') (hn:¬S g):C4 w' g vs:=by
 have hb:=hk.block g h.lt hn;refine⟨Nat.lt_of_lt_of_le h.lt hk.size,fun j v hv=>?_,fun o=>?_⟩
 ·rw[World.cell?_of_block (w:=w) (a:=⟨g,j,none⟩) hb];exact h.c j v hv
 ·have:=h.f o
  simp only[World.frozen?]at this⊢;rw[hb];exact this
theorem P0.lt {κ:Type} {ek:κ→Value} {w:World} {b n:Nat} {l:List (Nat×κ×Value)} (h:P0 ek w b l n):b<w.heap.size:=(Array.getElem?_eq_some_iff.1 h).1
theorem J0.lt {κ:Type} {ek:κ→Value} {w:World} {b:Nat} {l:List (κ×Value)} (h:J0 ek w b l):b<w.heap.size:=(Array.getElem?_eq_some_iff.1 h).1
theorem P0.keepS {S:Nat→Prop} {κ:Type} {ek:κ→Value} {w w':World} {b n:Nat} {l:List (Nat×κ×Value)} (h:P0 ek w b l n) (hk:B7 S w w') (hn:¬S b):P0 ek w' b l n:=(hk.block b h.lt hn).trans h
theorem J0.keepS {S:Nat→Prop} {κ:Type} {ek:κ→Value} {w w':World} {b:Nat} {l:List (κ×Value)} (h:J0 ek w b l) (hk:B7 S w w') (hn:¬S b):J0 ek w' b l:=(hk.block b h.lt hn).trans h
theorem D0.keepS {S:Nat→Prop} {α:Type} {enc:α→List Value} {k:Nat} {w w':World} {a:Option Addr} {l:List α} (h:D0 enc k w a l) (hk:B7 S w w') (hn:∀b off,a=some ⟨b,off,none⟩→¬S b):D0 enc k w' a l:=by
 intro i x hx;obtain⟨b,off,e,hb,hc⟩:=h i x hx;refine⟨b,off,e,Nat.lt_of_lt_of_le hb hk.size,fun j v hv=>?_⟩;rw[World.cell?_of_block (w:=w) (a:=⟨b,off+i*k+j,none⟩) (hk.block b hb (hn b off e))];exact hc j v hv
end
section
open Go.RowKit
theorem AD9 {α:Type} {enc:α→List Value} {k:Nat} (hk:∀x,(enc x).length=k) (h0:0<k) (x:α) (z:Array Value) (hz:z=(enc x).toArray) (n:Nat):madeCells z (n*k)=(B4 enc (List.replicate n x)).toArray:=by
 subst hz;apply Array.toList_inj.1;have hfl:(B4 enc (List.replicate n x)).length=n*k:=by rw[U7 hk,List.length_replicate]
 refine List.ext_getElem? fun j=>?_;by_cases hj:j<n*k
 ·have hi:j/k<n:=Nat.div_lt_of_lt_mul (by rw[Nat.mul_comm];exact hj)
  have hm:j % k<(enc x).length:=by rw[hk];exact Nat.mod_lt _ h0
  have h1:=H7 hk (List.replicate n x) (j/k) x (j % k) _ (by simp[hi]) (A4 hm);rw[Nat.mul_comm,Nat.div_add_mod]at h1;have hl:(madeCells (enc x).toArray (n*k)).toList[j]? =some ((enc x)[j % k]):=by
   simp only[madeCells,Array.toList_map,Array.toList_range,List.getElem?_map,List.getElem?_range hj,Option.map_some,List.size_toArray,hk];rw[getElem!_pos _ _ (by simpa using hm)];simp
  rw[hl];simpa using h1.symm
 ·rw[List.getElem?_eq_none (by simp[madeCells];omega),List.getElem?_eq_none (by simp[hfl];omega)]
theorem zW {α:Type} {enc:α→List Value} {k:Nat} {P:Program} {t e:TypeId} {z:Value} {bytes:Nat} (ht:M6 P t e z k bytes) (hk:∀x,(enc x).length=k) (x:α) (hz:z.cells=(enc x).toArray) (n:Nat) (hb:bytes*n≤281474976710656) (h63:n≤9223372036854775807) (w:World):
 (Instr.makeSlice t (.int .i64 (n:Int)) (.int .i64 (n:Int))).run P w= .ok (.slice (some ⟨w.heap.size,0,none⟩) n n) (w.alloc (.cells (B4 enc (List.replicate n x)).toArray e)):=by
 obtain⟨i,hi,hz0,hsz,hby⟩:=ht.e;subst hby;have hb':(i.bytes:Int)*(n:Int)≤281474976710656:=by
  have h:((i.bytes*n:Nat):Int)≤281474976710656:=by omega
  rwa[Int.natCast_mul]at h
 have hr:=run_make (P:=P) w t e i z ht.t hi hz0 .i64 .i64 n n (by omega) (Int.le_refl _) hb' (by omega);simp only[Int.toNat_natCast]at hr;rw[hr,hsz,AD9 hk ht.s x _ hz]
theorem C4.heap {w:World} {g:Nat} {vs:List Value} {T:TypeId} (h:w.heap[g]? =some (.cells vs.toArray T)):C4 w g vs:=
 ⟨(Array.getElem?_eq_some_iff.1 h).1,fun j v hv=>by simp only[World.cell?,h];simpa using hv,fun o=>by simp only[World.frozen?,h];simp⟩
end
section
open Go.RowKit
section
variable {P:Program} {ops:Array Oper} {Q:Exit→Act→World→Prop} {md:Region.Mode} {S:World→Prop} {m:Nat}
def S4 (P:Program) (md:Region.Mode) (ops:Array Oper) (Q:Exit→Act→World→Prop) (S:World→Prop) (m:Nat):Nat→Array Bool→Act→World→Prop
 |0,listed,a,w=>Region.ready md ops listed=[]∧Q .normal a w
 |fuel+1,listed,a,w=>
  (Region.ready md ops listed=[]→Q .normal a w)∧
  ∀i∈Region.ready md ops listed,wpOp P ops Q i (fun a' w'=>(m≤i∨S w')∧S4 P md ops Q S m fuel (listed.setIfInBounds i true) a' w') a w
theorem zX:∀(fuel:Nat) (listed:Array Bool) (a:Act) (w:World),S4 P md ops Q S m fuel listed a w→wpAny P md ops Q fuel listed a w
 |0,_,_,_,h=>h
 |fuel+1,_,_,_,h=>⟨h.1,fun i hi=>wpOp_mono (fun a' w' h'=>zX fuel _ a' w' h'.2) (h.2 i hi)⟩
theorem AE0 {i:Nat} {listed:Array Bool} (hw:Region.waitsFor md ops m i=true) (hu:listed.getD i true=false):m∉Region.ready md ops listed:=by
 intro hr;obtain⟨_,ot,hot,hall⟩:=mem_ready.1 hr;obtain⟨oj,hoj,e,he,hb,hon⟩:=Region.waitsFor_spec hw;have:oj=ot:=Option.some.inj (hoj.symm.trans hot);subst this;have h2:=hall e he hb;rw[hon,getD_both hu]at h2
 cases h2
theorem N6 {i:Nat} {o:Oper} {fuel:Nat} {listed:Array Bool} {a:Act} {w:World} (hr:Region.ready md ops listed=[i]) (ho:ops[i]? =some o)
 (h:∀K':Act→World→Prop,Shut (∀a w,(m≤i∨S w)→((m≤i∨S w)→S4 P md ops Q S m fuel (listed.setIfInBounds i true) a w)→K' a w)→if Region.wanted o (yielded ops a.tmps)=true then Oper.wp P o a w K' Q else K' (a.put o.dst undef) w):S4 P md ops Q S m (fuel+1) listed a w:=by
 refine⟨fun h1=>(by rw[h1]at hr;cases hr),fun j hj=>?_⟩;rw[hr]at hj;obtain rfl:j=i:=by simpa using hj
 exact wpOp_step ho (fun K' hK=>h K' (fun a w hS hW=>hK a w ⟨hS,hW hS⟩))
theorem AE1 {fuel:Nat} {listed:Array Bool} {a:Act} {w:World} (hr:Region.ready md ops listed=[]) (h:Q .normal a w):S4 P md ops Q S m fuel listed a w:=by
 cases fuel with
 |zero=>exact⟨hr,h⟩
 |succ f=>exact⟨fun _ =>h,fun i hi=>by rw[hr]at hi;cases hi⟩
theorem R7 {id:Nat} {a:Act} {w:World} (S:World→Prop) (m:Nat) (hm:P.follows .mixedOrders=true) (hS:S w.drew)
 (h:S w.drew→S4 P .any ops Q S m ops.size (Array.replicate ops.size false) a w.drew):(Code.region id ops true).wp P Q a w:=
 wp_region_any hm (zX _ _ _ _ (h hS))
end
theorem M8 {k:Nat} {P:Program} {ops:Array Oper} {o:Oper} {a:Act} {K:Act→World→Prop} {Q:Exit→Act→World→Prop} {E:Prop} {w0 w:World} (hw:A8 w0 w) (hgd:o.guard=none) (s x:Operand) (t:TypeId)
 (ho:o.op= .call {callee:=.builtin .append,args:=#[s,x],argTypes:=#[t,t]})
 (base:Nat) (hbase:w0.heap.size≤base) (hbase':base≤w.heap.size) (e:TypeId) (z:Value) (bytes:Nat) (ht:M6 P t e z k bytes) (v:Value) (n:Nat) (xs:List Value) (hs:a.eval s=v) (hown:w.ownsRow base e k v n xs)
 (ad:Addr) (m c:Nat) (news:List Value) (hx:a.eval x= .slice (some ad) m c) (hn:news.length=m*k) (hc:∀j u,news[j]? =some u→w.cell? (ad.add j)=some u) (h1:∀u∈news,u.oneCell'=true) (hm:0<m)
 (h63:n+m≤maxLen) (hbytes:(n+m)*bytes≤140737488355328)
 (h:∀v' (q:A7 w0),q.w.ownsRow base e k v' (n+m) (xs ++ news)→w.grownBy q.w v.ownBlock→(∀b,v'.ownBlock=some b→v.ownBlock=some b∨b=w.heap.size)→K (a.put o.dst v') q.w):
 if Region.wanted o (yielded ops a.tmps)=true then Oper.wp P o a w K Q else E:=by
 have hwn:Region.wanted o (yielded ops a.tmps)=true:=by simp[Region.wanted,hgd]
 rw[if_pos hwn];obtain⟨y,rfl⟩:=hw;obtain⟨i,hi,hz,hsize,hby⟩:=ht.e;refine wp_append_lies y.w s x t ho base e i z k bytes ht.t hi hz hsize hby ht.z ht.s v n xs hs hown ad m c news hx hn hc h1 hm h63 hbytes hbase' y.w.heap.size rfl ?_;intro g cap w' hown' hg hl _;obtain⟨q,rfl⟩:=y.grown hg (fun k hk=>Nat.le_trans hbase (aZ hown k hk));exact h _ q hown' hg fun b hb=>by
  have hb':g=b:=by simpa[Value.ownBlock]using hb
  subst hb';exact hl
theorem sZ {w:World} {g:Nat} (cs:List Value) (T:TypeId) (hg:w.heap.size=g):∀j u,cs[j]? =some u→(w.alloc (.cells cs.toArray T)).cell? ((⟨g,0,none⟩:Addr).add j)=some u:=by
 subst hg;exact(cZ.new w _).cells
theorem B9 {α:Type}:(∀(l:List α) (i:Nat) (a:α),l.toArray.setIfInBounds i a=(l.set i a).toArray)∧(∀(a b:α) (l:List α),(a :: l).set 0 b=b :: l)∧(∀(a b:α) (l:List α) (n:Nat),(a :: l).set (n+1) b=a :: l.set n b)∧(∀(l:List α) (i:Nat) (h:i<l.toArray.size),l.toArray[i]=l[i]'(by simpa using h))∧(∀(a:α) (l:List α) (h:0<(a :: l).length),(a :: l)[0]=a)∧(∀(a:α) (l:List α) (n:Nat) (h:n+1<(a :: l).length),(a :: l)[n+1]=l[n]'(by simpa using h)):=
 ⟨fun l i a=>List.setIfInBounds_toArray ..,fun _ _ _ =>rfl,fun _ _ _ _ =>rfl,fun _ _ _ =>rfl,fun _ _ _ =>rfl,fun _ _ _ _ =>rfl⟩
end
section
open Go.RowKit
def lX (md:Region.Mode) (ops:Array Oper) (i:Nat):List Nat:=
 (List.range ops.size).foldl (fun acc j=>if decide (i<j) && acc.any (fun u=>Region.waitsFor md ops j u)then acc ++ [j]else acc) [i]
def lY (md:Region.Mode) (ops:Array Oper) (m:Nat) (listed:Array Bool) (i:Nat):Bool:=
 ((List.range ops.size).all fun u=>decide (u<m) || (lX md ops i).contains u) && (lX md ops i).all (fun u=>!(listed.getD u true)) && (lX md ops i).all (fun u=>u == i || (lX md ops i).any (fun v=>Region.waitsFor md ops u v))
section
variable {P:Program} {ops:Array Oper} {Q:Exit→Act→World→Prop} {md:Region.Mode} {S:World→Prop} {m:Nat}
theorem AE2 {i:Nat} {oi:Oper} {v:Value} (U:List Nat) (hmU:∀u,m≤u→u<ops.size→u∈U) (hw:∀u∈U,u≠i→∃t∈U,Region.waitsFor md ops u t=true) (hi:ops[i]? =some oi) (hsel:∀(j:Nat) (o:Oper) cs b,ops[j]? =some o→o.op≠.select cs b)
 (hQ:∀c a w,Q (.panic c) (a.put oi.dst v) w→Q (.panic c) a w):
 ∀(fuel:Nat) (listed:Array Bool) (a:Act) (w:World),
  (∀u∈U,listed.getD u true=false)→
  (∀j oj,ops[j]? =some oj→j≠i→listed.getD j true=false→(∀e∈oj.after,Region.binds md e=true→e.on≠i)→oi.apart ops oj=true)→
  i∈Region.ready md ops listed→YieldsIf P ops S oi v a→S w→
  S4 P md ops Q S m fuel (listed.setIfInBounds i true) (a.put oi.dst v) w→S4 P md ops Q S m (fuel+1) listed a w:=by
 intro fuel;induction fuel with
 |zero=>
  intro listed a w _ _ hr hy hS H
  refine⟨fun h=>(by rw[h]at hr;cases hr),fun j hj=>?_⟩
  by_cases hji:j=i
  ·subst hji;exact hy.wpOp hi hS ⟨.inr hS,H⟩
  ·have:=ready_mono hj hji
   rw[H.1]at this
   cases this
 |succ fuel ih=>
  intro listed a w hU hfree hr hy hS H
  refine⟨fun h=>(by rw[h]at hr;cases hr),fun j hj=>?_⟩
  by_cases hji:j=i
  ·subst hji;exact hy.wpOp hi hS ⟨.inr hS,H⟩
  ·have hjU:j∉U:=fun h=>by
    obtain⟨t,ht,hwt⟩:=hw j h hji;exact AE0 hwt (hU t ht) hj
   have h1:=H.2 j (ready_mono hj hji);obtain⟨hjun,oj,hoj,hall⟩:=mem_ready.1 hj;have hjm:¬m≤j:=fun h=>hjU (hmU j h (Array.getElem?_eq_some_iff.1 hoj).1);have hnot:∀e∈oj.after,Region.binds md e=true→e.on≠i:=fun e he hb heq=>by
    have h1:=hall e he hb;have h0:=(mem_ready.1 hr).1;rw[heq]at h1;rcases Nat.lt_or_ge i listed.size with h'|h'
    ·simp[h']at h0 h1;rw[h0]at h1;cases h1
    ·simp[Array.getElem?_eq_none h']at h1
   have h2:=wpOp_putIf hoj (hfree j oj hoj hji hjun hnot) (fun cs b=>hsel i oi cs b hi) (fun cs b=>hsel j oj cs b hoj) hQ hy h1;have hfree':∀k ok,ops[k]? =some ok→k≠i→(listed.setIfInBounds j true).getD k true=false→
    (∀e∈ok.after,Region.binds md e=true→e.on≠i)→oi.apart ops ok=true:=fun k ok hk hki hun hno=>by
    refine hfree k ok hk hki ?_ hno;by_cases hjk:j=k
    ·subst hjk;exact hjun
    ·rw[getD_set_ne true hjk]at hun;exact hun
   refine wpOp_mono (fun a' w' h3=>?_) h2;have hS':S w':=by
    rcases h3.2.1 with h|h
    ·exact absurd h hjm
    ·exact h
   refine⟨.inr hS',ih (listed.setIfInBounds j true) a' w' (fun u hu=>?_) hfree' (ready_mono hr (Ne.symm hji)) h3.1 hS' ?_⟩
   ·rw[getD_set_ne true (show j≠u from fun h=>hjU (h ▸ hu))];exact hU u hu
   ·rw[Array.setIfInBounds_comm _ _ hji]
    exact h3.2.2
theorem AE3 {i:Nat} {oi:Oper} {v:Value} {fuel:Nat} {listed:Array Bool} {a:Act} {w:World} (hi:ops[i]? =some oi)
 (hs:Region.noSelect ops=true) (hm:lY md ops m listed i=true) (hf:Region.free md ops listed i=true) (hr:(Region.ready md ops listed).contains i=true)
 (hQ:∀c a w,Q (.panic c) (a.put oi.dst v) w→Q (.panic c) a w) (hS:S w) (hy:YieldsIf P ops S oi v a)
 (h:S4 P md ops Q S m fuel (listed.setIfInBounds i true) (a.put oi.dst v) w):S4 P md ops Q S m (fuel+1) listed a w:=by
 unfold lY at hm;rw[Bool.and_eq_true,Bool.and_eq_true,List.all_eq_true,List.all_eq_true,List.all_eq_true]at hm;obtain⟨⟨h1,h2⟩,h3⟩:=hm;refine AE2 (lX md ops i) (fun u h4 h5=>?_) (fun u hu hne=>?_) hi (Region.noSelect_spec hs) hQ fuel listed a w (fun u hu=>?_) (Region.free_spec hi hf) (by simpa using hr) hy hS h
 ·have:=h1 u (by simpa using h5)
  rw[Bool.or_eq_true]at this;rcases this with h|h
  ·have:=of_decide_eq_true h;omega
  ·simpa using h
 ·have:=h3 u hu
  rw[Bool.or_eq_true]at this;rcases this with h|h
  ·exact absurd (by simpa using h) hne
  ·obtain⟨t,ht,hw⟩:=List.any_eq_true.1 h
   exact⟨t,ht,hw⟩
 ·have:=h2 u hu
  simpa using this
theorem tkU {i:Nat} {oi:Oper} {v:Value} {fuel:Nat} {listed:Array Bool} {a:Act} {w:World} (hi:ops[i]? =some oi)
 (hb:(Region.noSelect ops && lY md ops m listed i && Region.free md ops listed i && (Region.ready md ops listed).contains i)=true)
 (hQ:∀c a w,Q (.panic c) (a.put oi.dst v) w→Q (.panic c) a w) (hS:S w) (hw:Region.wanted oi (yielded ops a.tmps)=true) (hy:∀w,S w→(execOp a.eval oi).run P w= .ok (.value v) w)
 (h:S4 P md ops Q S m fuel (listed.setIfInBounds i true) (a.put oi.dst v) w):S4 P md ops Q S m (fuel+1) listed a w:=by
 rw[Bool.and_eq_true,Bool.and_eq_true,Bool.and_eq_true]at hb;exact AE3 hi hb.1.1.1 hb.1.1.2 hb.1.2 hb.2 hQ hS (Or.inl ⟨hw,hy⟩) h
theorem tk (i:Nat) (v:Value) {oi:Oper} {fuel:Nat} {listed:Array Bool} {a:Act} {w:World} (hi:ops[i]? =some oi)
 (hb:(Region.noSelect ops && lY md ops m listed i && Region.free md ops listed i && (Region.ready md ops listed).contains i && Region.wanted oi (yielded ops a.tmps))=true)
 (hS:S w) (hQ:∀c a w,Q (.panic c) (a.put oi.dst v) w→Q (.panic c) a w) (hy:∀w,S w→(execOp a.eval oi).run P w= .ok (.value v) w)
 (h:S4 P md ops Q S m fuel (listed.setIfInBounds i true) (a.put oi.dst v) w):S4 P md ops Q S m (fuel+1) listed a w:=by
 rw[Bool.and_eq_true]at hb;exact tkU hi hb.1 hQ hS hb.2 hy h
def AE5 (s:Nat) (listed:Array Bool):Option Nat:=(List.range listed.size).find? fun j=>decide (s≤j) && !listed.getD j true
theorem J4 (s:Nat) (v:Value) {i:Nat} {oi:Oper} {fuel:Nat} {listed:Array Bool} {a:Act} {w:World} (_:AE5 s listed=some i) (hi:ops[i]? =some oi)
 (hb:(Region.noSelect ops && lY md ops m listed i && Region.free md ops listed i && (Region.ready md ops listed).contains i && Region.wanted oi (yielded ops a.tmps))=true)
 (hS:S w) (hQ:∀c a w,Q (.panic c) (a.put oi.dst v) w→Q (.panic c) a w) (hy:∀w,S w→(execOp a.eval oi).run P w= .ok (.value v) w)
 (h:S4 P md ops Q S m fuel (listed.setIfInBounds i true) (a.put oi.dst v) w):S4 P md ops Q S m (fuel+1) listed a w:=tk i v hi hb hS hQ hy h
theorem I0 (i:Nat) {o:Oper} {fuel:Nat} {listed:Array Bool} {a:Act} {w:World} (hr:Region.ready md ops listed=[i]) (ho:ops[i]? =some o)
 (h:∀K':Act→World→Prop,Shut (∀a w,(m≤i∨S w)→((m≤i∨S w)→S4 P md ops Q S m fuel (listed.setIfInBounds i true) a w)→K' a w)→if Region.wanted o (yielded ops a.tmps)=true then Oper.wp P o a w K' Q else K' (a.put o.dst undef) w):S4 P md ops Q S m (fuel+1) listed a w:=N6 hr ho h
theorem E5 {i fuel:Nat} {listed:Array Bool} {a:Act} {w:World} {K:Act→World→Prop} (hK:Shut (∀a w,(m≤i∨S w)→((m≤i∨S w)→S4 P md ops Q S m fuel (listed.setIfInBounds i true) a w)→K a w)) (hs:S w) (h:S w→S4 P md ops Q S m fuel (listed.setIfInBounds i true) a w):K a w:=
 hK.out _ _ (.inr hs) fun _ =>h hs
theorem M9 {i fuel:Nat} {listed:Array Bool} {a:Act} {w:World} {K:Act→World→Prop} (hK:Shut (∀a w,(m≤i∨S w)→((m≤i∨S w)→S4 P md ops Q S m fuel (listed.setIfInBounds i true) a w)→K a w)) (hi:(decide (m≤i) && (Region.ready md ops (listed.setIfInBounds i true)).isEmpty)=true) (h:Q .normal a w):K a w:=by
 rw[Bool.and_eq_true,decide_eq_true_eq,List.isEmpty_iff]at hi;exact hK.out _ _ (.inl hi.1) fun _ =>AE1 hi.2 h
theorem zY {i fuel:Nat} {listed:Array Bool} {a:Act} {w:World} {K:Act→World→Prop} (hK:Shut (∀a w,(m≤i∨S w)→((m≤i∨S w)→S4 P md ops Q S m fuel (listed.setIfInBounds i true) a w)→K a w)) (hi:decide (m≤i)=true) (h:S4 P md ops Q S m fuel (listed.setIfInBounds i true) a w):K a w:=
 hK.out _ _ (.inl (of_decide_eq_true hi)) fun _ =>h
end
end
section
open Go.RowKit Go.ChangeMaps
section
variable {κ:Type} {ek:κ→Value} {P:Program} {ops:Array Oper} {o:Oper} {a:Act} {K':Act→World→Prop} {Q:Exit→Act→World→Prop} {E:Prop} {w:World} {kt et:TypeId} {b n:Nat}
theorem AE6 [DecidableEq κ] {l:List (Nat×κ×Value)} {now:Bool} (K:Y2 P kt ek now) (hgd:o.guard=none) (m x:Operand) (t k':TypeId) (hop:o.op=Op.call {callee:=Callee.builtin Builtin.delete,args:=#[m,x],argTypes:=#[t,k']}) (ht:P.underlying t=some (.map kt et)) (hm:a.eval m= .map (some b)) (key:κ) (hx:a.eval x=ek key) (h:P0 ek w b l n)
 (hK:∀w',P0 ek w' b (gN key l) n→w.grownBy w' (some b)→K' (a.put o.dst (.tuple #[])) w'):if Region.wanted o (yielded ops a.tmps)=true then Oper.wp P o a w K' Q else E:=by
 have hwn:Region.wanted o (yielded ops a.tmps)=true:=by simp[Region.wanted,hgd]
 rw[if_pos hwn];have hrun:=AC6 K h ht key k' o.type;unfold Oper.wp;simp[execOp,hop,resolve,invoke,builtin,hm,hx,hrun,Result.andThen];have hb:b<w.heap.size:=(Array.getElem?_eq_some_iff.1 h).1;exact hK _ (cM hb) (oP _ _ _)
theorem AE7 [DecidableEq κ] {l:List (Nat×κ×Value)} {now:Bool} (K:Y2 P kt ek now) (hgd:o.guard=none) (m x v:Operand) (t:TypeId) (hop:o.op=Op.mapUpdate t m x v) (ht:P.underlying t=some (.map kt et)) (hm:a.eval m= .map (some b)) (key:κ) (hx:a.eval x=ek key) (val:Value) (hv:a.eval v=val) (h:P0 ek w b l n) (hnew:E8 key (P1 l) 0=none)
 (hK:∀w',P0 ek w' b (l ++ [(n,key,val)]) (n+1)→w.grownBy w' (some b)→K' (a.put o.dst undef) w'):if Region.wanted o (yielded ops a.tmps)=true then Oper.wp P o a w K' Q else E:=by
 have hwn:Region.wanted o (yielded ops a.tmps)=true:=by simp[Region.wanted,hgd]
 rw[if_pos hwn];have hrun:=AC4 K h ht key val hnew;unfold Oper.wp;simp only[execOp,hop,hm,hx,hv,Sem.run_bind,hrun,Result.andThen];have hb:b<w.heap.size:=(Array.getElem?_eq_some_iff.1 h).1;exact hK _ (cM hb) (oP _ _ _)
theorem zZ [DecidableEq κ] {l:List (κ×Value)} {now:Bool} (K:Y2 P kt ek now) (hgd:o.guard=none) (m x v:Operand) (t:TypeId) (hop:o.op=Op.mapUpdate t m x v) (ht:P.underlying t=some (.map kt et)) (hm:a.eval m= .map (some b)) (key:κ) (hx:a.eval x=ek key) (val:Value) (hv:a.eval v=val) (h:J0 ek w b l) (hnew:E8 key l 0=none)
 (hK:∀w',J0 ek w' b (l ++ [(key,val)])→w.grownBy w' (some b)→K' (a.put o.dst undef) w'):if Region.wanted o (yielded ops a.tmps)=true then Oper.wp P o a w K' Q else E:=by
 have hwn:Region.wanted o (yielded ops a.tmps)=true:=by simp[Region.wanted,hgd]
 rw[if_pos hwn];obtain⟨w',hrun,e⟩:=oO K h ht key val hnew;unfold Oper.wp;simp only[execOp,hop,hm,hx,hv,Sem.run_bind,hrun,Result.andThen];have hb:b<w.heap.size:=(Array.getElem?_eq_some_iff.1 h).1;have h1:J0 ek w' b (l ++ [(key,val)]):=by rw[e];exact cM hb
 have h2:w.grownBy w' (some b):=by rw[e];exact oP _ _ _
 exact hK w' h1 h2
end
theorem M7 {P:Program} {fn:Func} {R:Ending→World→Prop} {a:Act} {w:World} {v:Value} (hr:(results fn a.tmps).run P w= .ok v w) (hd:a.defers=[]) (hR:R (.returned v) w):bodyPost P fn R .normal a w:=⟨hd,v,hr,hR⟩
theorem J0.drew {κ:Type} {ek:κ→Value} {w:World} {b:Nat} {l:List (κ×Value)} (h:J0 ek w b l):J0 ek w.drew b l:=h
theorem P0.drew {κ:Type} {ek:κ→Value} {w:World} {b n:Nat} {l:List (Nat×κ×Value)} (h:P0 ek w b l n):P0 ek w.drew b l n:=h
end
section
open Go.RowKit
theorem Aa0 {w:World} {g i j:Nat} (h:i≠j) (v:Value):(w.setCell ⟨g,i,none⟩ v).cell? ⟨g,j,none⟩=w.cell? ⟨g,j,none⟩:=by
 show((w.setCells g i [v]).cell? _)= _;rw[World.cell?_setCells_out g [v] i w ⟨g,j,none⟩ (fun _ _ =>by simp;omega)]
theorem oS {W w:World} (y:A7 W) {g:Nat} {a b:Value} (h0:y.w.cell? ⟨g,0,none⟩=some a) (h1:y.w.cell? ⟨g,1,none⟩=some b) (hup:∃z:A7 w,y.w=z.w) (hg:w.heap.size≤g) (u v:Value):
 ∃z:A7 w,(y.w.setCell ⟨g,0,none⟩ u).setCell ⟨g,1,none⟩ v=z.w∧z.w.cell? ⟨g,0,none⟩=some u∧z.w.cell? ⟨g,1,none⟩=some v:=by
 obtain⟨z0,hz0⟩:=hup;obtain⟨z1,hz1⟩:=z0.set ⟨g,0,none⟩ hg u;obtain⟨z2,hz2⟩:=z1.set ⟨g,1,none⟩ hg v;rw[←hz1,←hz0]at hz2;refine⟨z2,hz2,?_,?_⟩
 ·rw[←hz2,Aa0 (by decide),World.cell?_setCell_same _ _ _ h0]
 ·rw[←hz2,World.cell?_setCell_same _ _ _ (show(y.w.setCell ⟨g,0,none⟩ u).cell? ⟨g,1,none⟩=some b by rw[Aa0 (by decide),h1])]
theorem tA {W w:World} (y:A7 W) {g:Nat} (vs:List Value) (h:∀j,j<vs.length→(y.w.cell? ⟨g,j,none⟩).isSome=true) (hup:∃z:A7 w,y.w=z.w) (hg:w.heap.size≤g):
 ∃z:A7 w,y.w.setCells g 0 vs=z.w∧∀j v,vs[j]? =some v→z.w.cell? ⟨g,j,none⟩=some v:=by
 obtain⟨z0,hz0⟩:=hup;obtain⟨z,hz⟩:=z0.sets g hg vs 0;rw[←hz0]at hz;refine⟨z,hz,fun j v hv=>?_⟩;obtain⟨hj,he⟩:=A5 hv;have:=World.cell?_setCells_in g vs 0 y.w (fun j hj=>by rw[Nat.zero_add];exact h j hj) j hj;rw[Nat.zero_add,hz,he]at this;exact this
end
end Go.Proofs.YtmmlmhnjjfnpnaaGreat
