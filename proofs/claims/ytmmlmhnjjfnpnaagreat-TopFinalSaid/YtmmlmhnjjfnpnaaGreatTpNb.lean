/- Texts that belong together. -/
import Derived.Test.YtmmlmhnjjfnpnaaGreatTpNa
import Derived.Maps.RangeRun
import Derived.Maps.OwnSet
import Derived.Maps.RangeWalk
import Derived.Laws.IdiomCopy
import Derived.Lib.Hide
set_option linter.all false
namespace Go.Proofs.YtmmlmhnjjfnpnaaGreat
section
open Go.RowKit Go.ChangeMaps
structure V6 (P:Program) (kt:TypeId) {κ:Type} [DecidableEq κ] (ek:κ→Value) (now:Bool):Prop where
 chk:∀em w x,(Instr.checkKey em 10000 kt (ek x)).run P w= .ok () w
 eq:∀w x y,(Op.equal kt (ek x) (ek y)).run P w= .ok (decide (x=y)) w
 und:∃d,P.underlying kt=some d∧∀x y,Instr.sameNow d (ek x) (ek y)=if now then some (decide (x=y))else none
 bits:∀x,Instr.sameBits 10000 (ek x) (ek x)=true
section
variable {κ:Type}
def I3 (ek:κ→Value):List (κ×Value)→Nat→List MapEntry
 |[],_ =>[]
 |p :: l,i=>⟨ek p.1,p.2,i⟩ :: I3 ek l (i+1)
variable (ek:κ→Value)
theorem tO:∀(l:List (κ×Value)) (i:Nat),(I3 ek l i).length=l.length
 |[],_ =>rfl
 | _ :: l,i=>by simp[I3,tO l (i+1)]
theorem eD:∀(l:List (κ×Value)) (i j:Nat),(I3 ek l i)[j]? =(l[j]?).map fun p=>⟨ek p.1,p.2,i+j⟩
 |[],_,_ =>by simp[I3]
 |p :: l,i,0=>by simp[I3]
 |p :: l,i,j+1=>by
  simp only[I3,List.getElem?_cons_succ];rw[eD l (i+1) j,show i+1+j=i+(j+1) by omega]
theorem tP:∀(l m:List (κ×Value)) (i:Nat),I3 ek (l ++ m) i=I3 ek l i ++ I3 ek m (i+l.length)
 |[],m,i=>by simp[I3]
 |p :: l,m,i=>by
  simp only[List.cons_append,I3,List.length_cons];rw[tP l m (i+1),show i+1+l.length=i+(l.length+1) by omega]
theorem AH1 (l:List (κ×Value)) (x:MapEntry) (h:x∈(I3 ek l 0).toArray.toList):x.born<l.length:=by
 simp only at h;obtain⟨j,hj⟩:=List.mem_iff_getElem?.1 h;rw[eD]at hj
 cases hp:l[j]? with
 |none=>rw[hp]at hj;cases hj
 |some p=>
  rw[hp]at hj
  simp only[Option.map_some,Option.some.injEq]at hj
  rw[←hj]
  simpa using(A4 hp).1
theorem zX:∀(l:List (κ×Value)) (i:Nat),(I3 ek l i).map (·.born)=(List.range' i l.length)
 |[],_ =>rfl
 |p :: l,i=>by simp[I3,zX l (i+1),List.range'_succ]
def F6 (w:World) (b:Nat) (l:List (κ×Value)):Prop:=w.heap[b]? =some (.map (I3 ek l 0).toArray l.length)
end
section
variable {κ:Type} [DecidableEq κ]
def D8 (x:κ):List (κ×Value)→Nat→Option (Nat×Value)
 |[],_ =>none
 |p :: l,i=>if x=p.1 then some (i,p.2)else D8 x l (i+1)
theorem pC {x:κ}:∀(l:List (κ×Value)) (i:Nat),(∀p∈l,p.1≠x)→D8 x l i=none
 |[],_,_ =>rfl
 |p :: l,i,h=>by
  unfold D8;rw[if_neg (fun e=>h p (by simp) e.symm)];exact pC l (i+1) (fun q hq=>h q (by simp[hq]))
theorem zY {x:κ} {v:Value}:∀(l:List (κ×Value)) (i j:Nat),l[j]? =some (x,v)→(∀k p,k<j→l[k]? =some p→p.1≠x)→D8 x l i=some (i+j,v)
 |[],_,_,h,_ =>by simp at h
 |p :: l,i,0,h,_ =>by
  simp at h;subst h;unfold D8;rw[if_pos rfl];rfl
 |p :: l,i,j+1,h,hn=>by
  unfold D8;rw[if_neg (fun e=>hn 0 p (by omega) rfl e.symm),zY l (i+1) j (by simpa using h) (fun k q hk hq=>hn (k+1) q (by omega) (by simpa using hq))];congr 2;omega
variable {ek:κ→Value} {P:Program} {kt:TypeId} {now:Bool}
theorem zZ (K:V6 P kt ek now) (w:World) (x:κ):∀(l:List (κ×Value)) (i:Nat),(Instr.findAsking kt (ek x) (I3 ek l i) i).run P w= .ok (D8 x l i) w
 |[],_ =>by simp[I3,Instr.findAsking,D8]
 |p :: l,i=>by
  simp only[I3,Instr.findAsking,Sem.run_bind,K.eq,Result.andThen_ok];by_cases h:x=p.1
  ·simp[h,D8]
  ·simp only[h,decide_false,Bool.false_eq_true,if_false]
   rw[zZ K w x l (i+1)];simp[D8,h]
theorem Aa0 (K:V6 P kt ek true) {d:TypeDesc} (hd:∀x y,Instr.sameNow d (ek x) (ek y)=some (decide (x=y))) (x:κ):∀(l:List (κ×Value)) (i:Nat),Instr.findNow d (ek x) (I3 ek l i) i=some (D8 x l i)
 |[],_ =>rfl
 |p :: l,i=>by
  simp only[I3,Instr.findNow,hd];by_cases h:x=p.1
  ·simp[h,D8]
  ·simp only[h,decide_false]
   rw[Aa0 K hd x l (i+1)];simp[D8,h]
theorem lY (K:V6 P kt ek now) (w:World) (x:κ) (l:List (κ×Value)):(Instr.findKey kt (ek x) (I3 ek l 0)).run P w= .ok (D8 x l 0) w:=by
 obtain⟨d,hu,hd⟩:=K.und;unfold Instr.findKey;simp only[Sem.run_bind,run_underlying hu,Result.andThen_ok]
 cases now with
 |true=>
  rw[Aa0 K (fun x y=>by rw[hd];rfl) x l 0]
  simp
 |false=>
  cases l with
  |nil=>simp[I3,Instr.findNow,D8]
  |cons p l=>
   have:Instr.findNow d (ek x) (I3 ek (p :: l) 0) 0=none:=by simp[I3,Instr.findNow,hd]
   rw[this]
   exact zZ K w x (p :: l) 0
def N7 (x:κ) (l:List (κ×Value)) (z:Value):Value:=match D8 x l 0 with|some (_,v)=>v|none=>z
def eE (x:κ) (l:List (κ×Value)):Bool:=(D8 x l 0).isSome
theorem bD {w:World} {b:Nat} {l:List (κ×Value)} {t et:TypeId} {z:Value} (K:V6 P kt ek now) (h:F6 ek w b l) (ht:P.underlying t=some (.map kt et)) (hz:(zeroValue et).run P w= .ok z w) (x:κ) (ok:Bool):
 (Instr.lookup t (.map (some b)) (ek x) ok).run P w= .ok (if ok then .tuple #[N7 x l z,.bool (eE x l)]else N7 x l z) w:=by
 unfold F6 at h;unfold N7 eE;simp only[Instr.lookup,Sem.run_bind,run_underlying ht,Result.andThen_ok,MapKept.run_getObj_map h,Sem.run_pure,K.chk,lY K]
 cases D8 x l 0 with
 |none=>simp[hz]
 |some r=>obtain⟨i,v⟩:=r;simp
theorem lZ {w:World} {b:Nat} {l:List (κ×Value)} {t et:TypeId} (K:V6 P kt ek now) (h:F6 ek w b l) (ht:P.underlying t=some (.map kt et)) (x:κ) (v:Value) (hx:D8 x l 0=none):
 ∃w',(Instr.mapUpdate t (.map (some b)) (ek x) v).run P w= .ok () w'∧w'=setBlock w b (.map (I3 ek (l ++ [(x,v)]) 0).toArray (l ++ [(x,v)]).length):=by
 unfold F6 at h;refine⟨_,?_,rfl⟩;simp only[Instr.mapUpdate,Sem.run_bind,run_underlying ht,Result.andThen_ok,MapKept.run_getObj_map h,K.chk,lY K,hx,MapKept.run_setObj_map _ h];simp[setBlock,tP,I3]
end
theorem AH2 {κ:Type} {ek:κ→Value} {P:Program} {kt:TypeId} {w:World} {b:Nat} {l:List (κ×Value)} {t et:TypeId} (h:F6 ek w b l) (ht:P.underlying t=some (.map kt et)) (ty:TypeId):
 (Builtin.len_ #[t] ty #[.map (some b)]).run P w= .ok (.int .i64 l.length) w:=by
 unfold F6 at h;simp[Builtin.len_,run_underlying ht,MapKept.run_getObj_map h,tO,goInt,Result.andThen]
def L5 (w:World) (b r n:Nat) (seen:Array Nat):Prop:=w.heap[r]? =some (.mapIter (some b) n seen n)
theorem AH3 {κ:Type} [DecidableEq κ] {ek:κ→Value} {P:Program} {w:World} {b r:Nat} {l:List (κ×Value)} {seen:Array Nat} (ty:TypeId) (h:F6 ek w b l) (hr:L5 w b r l.length seen):
 ((∀i,i<l.length→i∈seen)∧(Instr.next (.pointer (some ⟨r,0,none⟩)) false ty).run P w= .ok (.tuple #[.bool false]) w)∨
 ∃(i:Nat) (x:κ) (v:Value) (w1:World),l[i]? =some (x,v)∧i∉seen∧(w1=w∨w1=w.drew)∧
  (Instr.next (.pointer (some ⟨r,0,none⟩)) false ty).run P w= .ok (.tuple #[.bool true,ek x,v]) (setBlock w1 r (.mapIter (some b) l.length (seen.push i) l.length)):=by
 rcases run_next_at (P:=P) w ty r b l.length l.length seen _ l.length hr h (AH1 ek l) (Nat.le_refl _)with⟨h0,hrun⟩|⟨e,he,w1,hw1,hrun⟩
 ·refine .inl ⟨fun i hi=>?_,hrun⟩
  cases hc:seen.contains i with
  |true=>exact Array.contains_iff_mem.1 hc
  |false=>
   exfalso
   have hmem:(⟨ek (l[i]).1,(l[i]).2,i⟩:MapEntry)∈(I3 ek l 0).toArray:=by
    simp only[List.mem_toArray];refine List.mem_iff_getElem?.2 ⟨i,?_⟩;rw[eD,A3 hi,Nat.zero_add];rfl
   have:(⟨ek (l[i]).1,(l[i]).2,i⟩:MapEntry)∈leftOf (I3 ek l 0).toArray seen:=by
    unfold leftOf;rw[Array.mem_filter];exact⟨hmem,by show(!seen.contains i)=true;rw[hc];rfl⟩
   have hs:leftOf (I3 ek l 0).toArray seen=#[]:=Array.eq_empty_of_size_eq_zero h0
   rw[hs]at this
   simp at this
 ·unfold leftOf at he
  have he':e∈Array.filter (fun e=>!seen.contains e.born) (I3 ek l 0).toArray:=by simpa using he
  rw[Array.mem_filter]at he';obtain⟨hm,hs⟩:=he';simp only[List.mem_toArray]at hm;obtain⟨i,hi⟩:=List.mem_iff_getElem?.1 hm;rw[eD]at hi
  cases hp:l[i]? with
  |none=>rw[hp]at hi;cases hi
  |some p=>
   rw[hp]at hi
   simp only[Option.map_some,Option.some.injEq,Nat.zero_add]at hi
   subst hi
   refine .inr ⟨i,p.1,p.2,w1,hp,fun hin=>?_,hw1,hrun⟩
   have:seen.contains i=true:=Array.contains_iff_mem.2 hin
   simp only[this]at hs
   cases hs
theorem AH4 {κ:Type} [DecidableEq κ] {ek:κ→Value} {P:Program} {w:World} {b r i:Nat} {l:List (κ×Value)} {seen:Array Nat} {x:κ} {v:Value} (h:F6 ek w b l) (hr:L5 w b r l.length (seen.push i)) (hi:l[i]? =some (x,v)):
 (Instr.entry (.pointer (some ⟨r,0,none⟩))).run P w= .ok (.tuple #[ek x,v]) w:=by
 have he:(⟨ek x,v,i⟩:MapEntry)∈(I3 ek l 0).toArray.toList:=by
  simp only;refine List.mem_iff_getElem?.2 ⟨i,?_⟩;rw[eD,hi];simp
 exact run_entry_at (P:=P) w r b l.length seen (I3 ek l 0).toArray l.length ⟨ek x,v,i⟩ hr h he (by simp only[zX];exact List.nodup_range')
theorem aK {w:World} {r:Nat} {o:Obj} (h:r<w.heap.size):(setBlock w r o).heap[r]? =some o:=by simp[setBlock,h]
theorem tQ {w:World} {r j:Nat} {o:Obj} (h:j≠r):(setBlock w r o).heap[j]? =w.heap[j]? :=by simp[setBlock,Ne.symm h]
theorem mA (w:World) (r:Nat) (o:Obj):(setBlock w r o).heap.size=w.heap.size:=by simp[setBlock]
theorem A6.block {w0:World} (x:A6 w0) {r:Nat} (h:w0.heap.size≤r) (o:Obj):∃y:A6 w0,setBlock x.w r o=y.w:=
 ⟨⟨setBlock x.w r o,⟨x.b.os,x.b.tape,x.b.output,by rw[mA];exact x.b.size,fun b hb=>by rw[tQ (by omega)];exact x.b.block b hb⟩⟩,rfl⟩
theorem A6.heap {w0:World} {b:Nat} {o:Obj} (h:w0.heap[b]? =some o) (y:A6 w0):y.w.heap[b]? =some o:=by
 rw[y.b.block b (Array.getElem?_eq_some_iff.1 h).1];exact h
end
section
open Go.RowKit Go.ChangeMaps
structure o7 (n:Nat) (seen:Array Nat):Prop where
 nodup:seen.toList.Nodup
 lt:∀i∈seen,i<n
theorem tR (n:Nat):o7 n #[]:=⟨by simp,by simp⟩
theorem o7.push {n i:Nat} {seen:Array Nat} (h:o7 n seen) (hi:i<n) (hn:i∉seen):o7 n (seen.push i):=by
 refine⟨?_,fun j hj=>?_⟩
 ·rw[Array.toList_push,List.nodup_append]
  refine⟨h.nodup,by simp,fun x hx y hy hxy=>?_⟩;simp at hy;subst hy;subst hxy;exact hn (by simpa using hx)
 ·rcases Array.mem_push.1 hj with hj|rfl
  ·exact h.lt j hj
  ·exact hi
theorem tS:∀(n:Nat) (l:List Nat),l.Nodup→(∀x∈l,x<n)→l.length≤n
 |0,[],_,_ =>Nat.le_refl _
 |0,x :: l,_,h=>by have:=h x (by simp);omega
 |n+1,l,hn,h=>by
  by_cases hm:n∈l
  ·have h1:=tS n (l.erase n) (hn.erase n) (fun x hx=>by
    have:=h x (List.mem_of_mem_erase hx);have hne:x≠n:=by rintro rfl;exact hn.not_mem_erase hx
    omega)
   have:=List.length_erase_of_mem hm;omega
  ·have h1:=tS n l hn (fun x hx=>by
    have:=h x hx;have hne:x≠n:=by rintro rfl;exact hm hx
    omega)
   omega
theorem o7.size {n:Nat} {seen:Array Nat} (h:o7 n seen):seen.size≤n:=by
 have:=tS n seen.toList h.nodup (fun x hx=>h.lt x (by simpa using hx));simpa using this
def f9 {α:Type} (l:List α) (seen:Array Nat):List α:=seen.toList.filterMap fun i=>l[i]?
theorem AH5 {α:Type} {l:List α} {seen:Array Nat} {i:Nat} {x:α} (h:l[i]? =some x):f9 l (seen.push i)=f9 l seen ++ [x]:=by simp[f9,h]
theorem Aa1 {α:Type}:∀l:List α,(List.range l.length).filterMap (fun i=>l[i]?)=l
 |[]=>rfl
 |x :: l=>by
  rw[List.length_cons,List.range_succ_eq_map,List.filterMap_cons];simp only[List.getElem?_cons_zero,List.filterMap_map];exact congrArg (x :: ·) (Aa1 l)
theorem AH6 {α:Type} {l:List α} {seen:Array Nat} (h:o7 l.length seen) (hall:∀i,i<l.length→i∈seen):(f9 l seen).Perm l:=by
 have hp:seen.toList.Perm (List.range l.length):=by
  rw[List.perm_ext_iff_of_nodup h.nodup List.nodup_range];intro i;rw[List.mem_range];exact⟨fun hi=>h.lt i (by simpa using hi),fun hi=>by simpa using hall i hi⟩
 have:=hp.filterMap (fun i=>l[i]?);rw[Aa1]at this;exact this
theorem Aa2 {α:Type} (l:List α) (seen:Array Nat):(f9 l seen).length≤seen.size:=by
 have:=List.length_filterMap_le (fun i=>l[i]?) seen.toList;simpa[f9]using this
def dK (w:World) (r:Nat):Nat:=match w.heap[r]? with|some (.mapIter _ n seen _)=>n-seen.size| _ =>0
theorem L5.n {w:World} {b r n:Nat} {seen:Array Nat} (h:L5 w b r n seen):dK w r=n-seen.size:=by
 unfold L5 at h;unfold dK;rw[h]
theorem pD {w w':World} {b r n i:Nat} {seen:Array Nat} (h:L5 w b r n seen) (h':L5 w' b r n (seen.push i)) (hs:o7 n (seen.push i)):dK w' r<dK w r:=by
 have:=hs.size;rw[h.n,h'.n];simp only[Array.size_push]at *;omega
theorem L5.since {w:World} {b r n:Nat} {seen:Array Nat} (h:L5 w b r n seen) (y:A6 w):L5 y.w b r n seen:=A6.heap h y
theorem L5.to {w W:World} {b r n:Nat} {seen:Array Nat} (h:L5 w b r n seen) (hW:∃z:A6 w,W=z.w):L5 W b r n seen:=by
 obtain⟨z,rfl⟩:=hW;exact h.since z
theorem F6.to {κ:Type} {ek:κ→Value} {w W:World} {b:Nat} {l:List (κ×Value)} (h:F6 ek w b l) (hW:∃z:A6 w,W=z.w):F6 ek W b l:=by
 obtain⟨z,rfl⟩:=hW;exact A6.heap h z
theorem L5.keep {w w':World} {b r n:Nat} {seen:Array Nat} {row:Option Nat} (h:L5 w b r n seen) (hg:w.grownBy w' row) (hr:some r≠row):L5 w' b r n seen:=
 (hg.block r (Array.getElem?_eq_some_iff.1 h).1 hr).trans h
theorem F6.since {κ:Type} {ek:κ→Value} {w:World} {b:Nat} {l:List (κ×Value)} (h:F6 ek w b l) (y:A6 w):F6 ek y.w b l:=A6.heap h y
theorem F6.keep {κ:Type} {ek:κ→Value} {w w':World} {b:Nat} {l:List (κ×Value)} {row:Option Nat} (h:F6 ek w b l) (hg:w.grownBy w' row) (hr:some b≠row):F6 ek w' b l:=
 (hg.block b (Array.getElem?_eq_some_iff.1 h).1 hr).trans h
theorem kF (w:World) (r:Nat) (o:Obj):w.grownBy (setBlock w r o) (some r):=
 ⟨rfl,rfl,rfl,by rw[mA];exact Nat.le_refl _,fun i _ hi=>tQ (by intro e;subst e;exact hi rfl)⟩
section
variable {κ:Type} {ek:κ→Value} {P:Program} {ops:Array Oper} {rest:List Oper} {o:Oper} {a:Act} {Q:Exit→Act→World→Prop} {w0 w:World} {kt et:TypeId} {b:Nat} {l:List (κ×Value)}
theorem Aa3 (hw:∃y:A6 w0,w=y.w) (hg:o.guard=none) (m:Operand) (t:TypeId) (hop:o.op=Op.range t m) (ht:P.underlying t=some (.map kt et)) (hm:a.eval m= .map (some b)) (h:F6 ek w b l)
 (hK:∀(q:A6 w0) (r:Nat),F6 ek q.w b l→L5 q.w b r l.length #[]→w0.heap.size≤r→w.heap.size=r→w.grownBy q.w none→wpList P ops Q rest (a.put o.dst (.pointer (some ⟨r,0,none⟩))) q.w):
 wpList P ops Q (o :: rest) a w:=by
 obtain⟨y,rfl⟩:=hw;refine wpList_plain hg fun K' hK'=>?_;have hrun:(Instr.range t (.map (some b))).run P y.w= .ok (.pointer (some ⟨y.w.heap.size,0,none⟩)) (y.w.alloc (.mapIter (some b) l.length #[] l.length)):=by
  simp[Instr.range,Sem.run_bind,run_underlying ht,MapKept.run_getObj_map h,Result.andThen,go_sem]
 unfold Oper.wp;simp only[execOp,hop,hm,Sem.run_bind,hrun,Result.andThen];obtain⟨q,hq⟩:=y.alloc (.mapIter (some b) l.length #[] l.length);have hgr:y.w.grownBy (y.w.alloc (.mapIter (some b) l.length #[] l.length)) none:=World.grownBy_alloc y.w _ none;have hit:L5 (y.w.alloc (.mapIter (some b) l.length #[] l.length)) b y.w.heap.size l.length #[]:=by unfold L5;exact heap_alloc_new _ _
 rw[hq]at hgr hit⊢;exact hK' _ _ (hK q _ (h.keep hgr (by simp)) hit y.b.size rfl hgr)
theorem Aa4 [DecidableEq κ] (hw:∃y:A6 w0,w=y.w) (hg:o.guard=none) (it:Operand) (hop:o.op=Op.next it false) {r:Nat} (hr0:w0.heap.size≤r) (hit:a.eval it= .pointer (some ⟨r,0,none⟩)) {seen:Array Nat} (h:F6 ek w b l) (hr:L5 w b r l.length seen) (hs:o7 l.length seen)
 (hDone:(∀i,i<l.length→i∈seen)→wpList P ops Q rest (a.put o.dst (.tuple #[.bool false])) w)
 (hMore:∀(i:Nat) (x:κ) (v:Value) (q:A6 w0),l[i]? =some (x,v)→i∉seen→F6 ek q.w b l→L5 q.w b r l.length (seen.push i)→o7 l.length (seen.push i)→w.grownBy q.w (some r)→(Instr.entry (.pointer (some ⟨r,0,none⟩))).run P q.w= .ok (.tuple #[ek x,v]) q.w→wpList P ops Q rest (a.put o.dst (.tuple #[.bool true,ek x,v])) q.w):
 wpList P ops Q (o :: rest) a w:=by
 obtain⟨y,rfl⟩:=hw;refine wpList_plain hg fun K' hK'=>?_;unfold Oper.wp;rcases AH3 (P:=P) o.type h hr with⟨hall,hrun⟩|⟨i,x,v,w1,hi,hn,hw1,hrun⟩
 ·simp only[execOp,hop,hit,Sem.run_bind,hrun,Result.andThen]
  exact hK' _ _ (hDone hall)
 ·simp only[execOp,hop,hit,Sem.run_bind,hrun,Result.andThen]
  have hne:b≠r:=by
   rintro rfl;unfold F6 at h;unfold L5 at hr;rw[h]at hr;cases hr
  have hrl:r<y.w.heap.size:=(Array.getElem?_eq_some_iff.1 hr).1;have hg1:y.w.grownBy w1 (some r):=by
   rcases hw1 with rfl|rfl
   ·exact World.grownBy.refl _ _
   ·exact⟨rfl,rfl,rfl,Nat.le_refl _,fun _ _ _ =>rfl⟩
  have zM:r<w1.heap.size:=Nat.lt_of_lt_of_le hrl hg1.size;have hgr:y.w.grownBy (setBlock w1 r (.mapIter (some b) l.length (seen.push i) l.length)) (some r):=by
   have h2:=kF w1 r (.mapIter (some b) l.length (seen.push i) l.length);exact⟨h2.os.trans hg1.os,h2.tape.trans hg1.tape,h2.output.trans hg1.output,Nat.le_trans hg1.size h2.size,fun j hj hjr=>(h2.block j (Nat.lt_of_lt_of_le hj hg1.size) hjr).trans (hg1.block j hj hjr)⟩
  have hit2:L5 (setBlock w1 r (.mapIter (some b) l.length (seen.push i) l.length)) b r l.length (seen.push i):=by unfold L5;exact aK zM
  have hm2:F6 ek (setBlock w1 r (.mapIter (some b) l.length (seen.push i) l.length)) b l:=h.keep hgr (by simpa using hne);obtain⟨q,hq⟩:=y.grown hgr (fun k hk=>by cases hk;exact hr0);rw[hq]at hgr hit2 hm2⊢;exact hK' _ _ (hMore i x v q hi hn hm2 hit2 (hs.push (A4 hi).1 hn) hgr (AH4 hm2 hit2 hi))
theorem AH7 [DecidableEq κ] {now:Bool} (K:V6 P kt ek now) (hg:o.guard=none) (m x v:Operand) (t:TypeId) (hop:o.op=Op.mapUpdate t m x v) (ht:P.underlying t=some (.map kt et)) (hm:a.eval m= .map (some b)) (key:κ) (hx:a.eval x=ek key) (val:Value) (hv:a.eval v=val) (h:F6 ek w b l) (hnew:D8 key l 0=none)
 (hK:∀w',F6 ek w' b (l ++ [(key,val)])→w.grownBy w' (some b)→wpList P ops Q rest (a.put o.dst undef) w'):wpList P ops Q (o :: rest) a w:=by
 refine wpList_plain hg fun K' hK'=>?_;obtain⟨w',hrun,e⟩:=lZ K h ht key val hnew;unfold Oper.wp;simp only[execOp,hop,hm,hx,hv,Sem.run_bind,hrun,Result.andThen];have hb:b<w.heap.size:=(Array.getElem?_eq_some_iff.1 h).1;have h1:F6 ek w' b (l ++ [(key,val)]):=by rw[e];exact aK hb
 have h2:w.grownBy w' (some b):=by rw[e];exact kF _ _ _
 exact hK' _ _ (hK w' h1 h2)
end
end
section
open Go.RowKit Go.ChangeMaps
section
variable {κ:Type} [DecidableEq κ] {ek:κ→Value} {P:Program} {kt:TypeId} {now:Bool}
theorem kG {x:κ} {v:Value}:∀(l:List (κ×Value)) (i j:Nat),D8 x l i=some (j,v)→i≤j∧l[j-i]? =some (x,v)∧∀k p,k<j-i→l[k]? =some p→p.1≠x
 |[],_,_,h=>by simp[D8]at h
 |p :: l,i,j,h=>by
  unfold D8 at h;split at h
  ·rename_i hx
   simp only[Option.some.injEq,Prod.mk.injEq]at h;obtain⟨rfl,rfl⟩:=h;exact⟨Nat.le_refl _,by simp[hx],fun k p hk=>by omega⟩
  ·rename_i hx
   obtain⟨h1,h2,h3⟩:=kG l (i+1) j h;refine⟨by omega,by rw[show j-i=(j-(i+1))+1 by omega];simpa using h2,fun k q hk hq=>?_⟩
   cases k with
   |zero=>simp at hq;subst hq;exact fun e=>hx e.symm
   |succ k=>exact h3 k q (by omega) (by simpa using hq)
theorem Aa5 {w:World} {b:Nat} {o:Obj} (h:w.heap[b]? =some o):setBlock w b o=w:=by
 unfold setBlock;have:w.heap.setIfInBounds b o=w.heap:=by
  apply Array.ext_getElem?;intro i;rw[Array.getElem?_setIfInBounds];split
  ·rename_i hi;subst hi
   split
   ·exact h.symm
   ·rename_i hlt;rw[Array.getElem?_eq_none (by omega)]
  ·rfl
 rw[this]
theorem Aa6 {w:World} {b i:Nat} {l:List (κ×Value)} {t et:TypeId} {v:Value} (K:V6 P kt ek now) (h:F6 ek w b l) (ht:P.underlying t=some (.map kt et)) (x:κ) (hx:D8 x l 0=some (i,v)):
 (Instr.mapEntry t (.map (some b)) (ek x)).run P w= .ok (.tuple #[v,.int .i64 i]) w:=by
 obtain⟨-,hl,-⟩:=kG l 0 i hx;rw[Nat.sub_zero]at hl;have h':=h;unfold F6 at h;have he:(I3 ek l 0).toArray[i]? =some ⟨ek x,v,i⟩:=by simp[eD,hl]
 have hm:((I3 ek l 0).toArray.modify i fun e=>{e with key:=ek x})=(I3 ek l 0).toArray:=by
  apply Array.ext_getElem?;intro j;rw[Array.getElem?_modify];split
  ·rename_i hj;subst hj;rw[he];rfl
  ·rfl
 have hs:(Instr.keyThatStays (ek x) (ek x)).run P w= .ok (ek x) w:=by
  unfold Instr.keyThatStays;rw[K.bits x];rfl
 simp only[Instr.mapEntry,Sem.run_bind,run_underlying ht,Result.andThen_ok,MapKept.run_getObj_map h,K.chk,lY K,hx,he,Option.map_some,Option.getD_some,hs,MapKept.run_setObj_map _ h,hm];have:{w with heap:=w.heap.setIfInBounds b (.map (I3 ek l 0).toArray l.length)}=w:=Aa5 h';rw[this];rfl
theorem Aa7 {w:World} {b:Nat} {l:List (κ×Value)} {t et:TypeId} {z:Value} (K:V6 P kt ek now) (h:F6 ek w b l) (ht:P.underlying t=some (.map kt et)) (hz:∀w,(zeroValue et).run P w= .ok z w) (x:κ) (hx:D8 x l 0=none):
 (Instr.mapEntry t (.map (some b)) (ek x)).run P w= .ok (.tuple #[z,.int .i64 l.length]) (setBlock w b (.map (I3 ek (l ++ [(x,z)]) 0).toArray (l ++ [(x,z)]).length)):=by
 unfold F6 at h;simp only[Instr.mapEntry,Sem.run_bind,run_underlying ht,Result.andThen_ok,MapKept.run_getObj_map h,K.chk,lY K,hx,hz,MapKept.run_setObj_map _ h];simp[setBlock,tP,I3,goInt]
theorem AH8 {κ':Type} {ek':κ'→Value} {l:List (κ'×Value)} {i:Nat} (hi:i<l.length):(I3 ek' l 0).toArray.findIdx? (fun e=>(e.born:Int) == (i:Int))=some i:=by
 rw[Array.findIdx?_eq_some_iff_getElem];refine⟨by simp[tO,hi],?_,fun j hj=>?_⟩
 ·have:=eD ek' l 0 i
  rw[A3 hi]at this;have h2:=(A4 this).2;simp only[List.getElem_toArray];rw[h2];simp
 ·have:=eD ek' l 0 j
  rw[A3 (show j<l.length by omega)]at this;have h2:=(A4 this).2;simp only[List.getElem_toArray];rw[h2];simp only[Nat.zero_add,beq_iff_eq];omega
theorem AH9 {κ':Type} {ek':κ'→Value} (l:List (κ'×Value)) (i:Nat) (x:κ') (v0 v:Value) (hi:l[i]? =some (x,v0)):(I3 ek' l 0).toArray.modify i (fun e=>{e with val:=v})=(I3 ek' (l.set i (x,v)) 0).toArray:=by
 apply Array.ext_getElem?;intro j;rw[Array.getElem?_modify];simp only[List.getElem?_toArray,eD,List.getElem?_set];have hlt:=(A4 hi).1;by_cases hj:i=j
 ·subst hj
  have h9:=(A4 hi).2;simp[hlt,h9]
 ·rw[if_neg hj,if_neg hj]
theorem pE {κ':Type} {ek':κ'→Value} {w:World} {b i:Nat} {l:List (κ'×Value)} {t:TypeId} {x:κ'} {v0:Value} (h:F6 ek' w b l) (hi:l[i]? =some (x,v0)) (v:Value):
 (Instr.entryStore t (.map (some b)) (.int .i64 (i:Int)) v).run P w= .ok () (setBlock w b (.map (I3 ek' (l.set i (x,v)) 0).toArray (l.set i (x,v)).length)):=by
 unfold F6 at h;have hlt:=(A4 hi).1;simp only[Instr.entryStore,Sem.run_bind,MapKept.run_getObj_map h,Result.andThen_ok,asInt,asIntOf];simp only[Sem.run_pure,Result.andThen_ok,AH8 (ek':=ek') hlt,MapKept.run_setObj_map _ h,AH9 l i x v0 v hi,List.length_set];rfl
def bT (x:κ) (v:Value) (l:List (κ×Value)):List (κ×Value):=match D8 x l 0 with|some (i,_)=>l.set i (x,v)|none=>l ++ [(x,v)]
theorem mB {x:κ}:∀(l m:List (κ×Value)) (i:Nat),D8 x l i=none→D8 x (l ++ m) i=D8 x m (i+l.length)
 |[],m,i,_ =>by simp
 |p :: l,m,i,h=>by
  unfold D8 at h;split at h
  ·cases h
  ·rename_i hx
   simp only[List.cons_append,D8,if_neg hx,List.length_cons];rw[mB l m (i+1) h,show i+1+l.length=i+(l.length+1) by omega]
theorem Aa8 {x:κ} {r:Nat×Value}:∀(l m:List (κ×Value)) (i:Nat),D8 x l i=some r→D8 x (l ++ m) i=some r
 |[],_,_,h=>by simp[D8]at h
 |p :: l,m,i,h=>by
  simp only[List.cons_append];unfold D8 at h⊢;split at h
  ·rename_i hx;rw[if_pos hx];exact h
  ·rename_i hx;rw[if_neg hx];exact Aa8 l m (i+1) h
theorem Aa9 {x y:κ} {v z v0:Value}:∀(l:List (κ×Value)) (i j:Nat),l[i]? =some (x,v0)→(∀k p,k<i→l[k]? =some p→p.1≠x)→((D8 y (l.set i (x,v)) j).map (·.2)).getD z=if y=x then v else((D8 y l j).map (·.2)).getD z
 |[],_,_,h,_ =>by simp at h
 |p :: l,0,j,h,_ =>by
  simp at h;subst h;simp only[List.set_cons_zero];unfold D8;split<;>simp
 |p :: l,i+1,j,h,hn=>by
  simp only[List.set_cons_succ];unfold D8;by_cases hy:y=p.1
  ·have hp:p.1≠x:=hn 0 p (by omega) rfl
   rw[if_pos hy,if_pos hy,if_neg (fun e=>hp (hy ▸ e))]
  ·rw[if_neg hy,if_neg hy]
   exact Aa9 l i (j+1) (by simpa using h) (fun k q hk hq=>hn (k+1) q (by omega) (by simpa using hq))
theorem fW (x:κ) (l:List (κ×Value)) (z:Value):N7 x l z=((D8 x l 0).map (·.2)).getD z:=by
 unfold N7;cases D8 x l 0 with
 |none=>rfl
 |some r=>rfl
theorem tT (x y:κ) (v z:Value) (l:List (κ×Value)):N7 y (bT x v l) z=if y=x then v else N7 y l z:=by
 unfold bT
 cases hx:D8 x l 0 with
 |some r=>
  obtain⟨i,v0⟩:=r
  obtain⟨-,h1,h2⟩:=kG l 0 i hx
  rw[Nat.sub_zero]at h1 h2
  simp only[fW]
  exact Aa9 l i 0 h1 h2
 |none=>
  simp only[fW]
  by_cases hy:y=x
  ·subst hy
   rw[mB l _ 0 hx,if_pos rfl];simp[D8]
  ·rw[if_neg hy]
   cases hl:D8 y l 0 with
   |some r=>rw[Aa8 l _ 0 hl]
   |none=>rw[mB l _ 0 hl];simp[D8,hy]
end
end
section
open Go.RowKit Go.ChangeMaps
section
variable {κ:Type}
def T5 (ek:κ→Value) (l:List (Nat×κ×Value)):List MapEntry:=l.map fun p=>⟨ek p.2.1,p.2.2,p.1⟩
structure aO (l:List (Nat×κ×Value)) (n:Nat):Prop where
 nodup:(l.map (·.1)).Nodup
 lt:∀p∈l,p.1<n
def N8 (ek:κ→Value) (w:World) (b:Nat) (l:List (Nat×κ×Value)) (n:Nat):Prop:=w.heap[b]? =some (.map (T5 ek l).toArray n)
def N9 (l:List (Nat×κ×Value)):List (κ×Value):=l.map (·.2)
theorem AI0 (n:Nat):aO ([]:List (Nat×κ×Value)) n:=⟨by simp,by simp⟩
theorem aO.snoc {l:List (Nat×κ×Value)} {n:Nat} (h:aO l n) (x:κ) (v:Value):aO (l ++ [(n,x,v)]) (n+1):=by
 refine⟨?_,fun p hp=>?_⟩
 ·rw[List.map_append,List.nodup_append]
  refine⟨h.nodup,by simp,fun a ha b hb hab=>?_⟩;simp at hb;subst hb;subst hab;obtain⟨p,hp,e⟩:=List.mem_map.1 ha;have:=h.lt p hp;omega
 ·rcases List.mem_append.1 hp with hp|hp
  ·have:=h.lt p hp;omega
  ·simp at hp;subst hp;exact Nat.lt_succ_self _
theorem aO.erase {l:List (Nat×κ×Value)} {n:Nat} (h:aO l n) (i:Nat):aO (l.eraseIdx i) n:=
 ⟨(List.Sublist.map _ (List.eraseIdx_sublist l i)).nodup h.nodup,fun p hp=>h.lt p (List.mem_of_mem_eraseIdx hp)⟩
end
section
variable {κ:Type} [DecidableEq κ] {ek:κ→Value} {P:Program} {kt:TypeId} {now:Bool}
theorem Ab0 (K:V6 P kt ek now) (w:World) (x:κ):∀(l:List (Nat×κ×Value)) (i:Nat),(Instr.findAsking kt (ek x) (T5 ek l) i).run P w= .ok (D8 x (N9 l) i) w
 |[],_ =>by simp[T5,N9,Instr.findAsking,D8]
 |p :: l,i=>by
  have ih:=Ab0 K w x l (i+1);simp only[T5,N9,List.map_cons,Instr.findAsking,Sem.run_bind,K.eq,Result.andThen_ok]at ih⊢;by_cases h:x=p.2.1
  ·simp[h,D8]
  ·simp only[h,decide_false,Bool.false_eq_true,if_false]
   rw[ih];simp[D8,h]
theorem Ab1 (K:V6 P kt ek true) {d:TypeDesc} (hd:∀x y,Instr.sameNow d (ek x) (ek y)=some (decide (x=y))) (x:κ):∀(l:List (Nat×κ×Value)) (i:Nat),Instr.findNow d (ek x) (T5 ek l) i=some (D8 x (N9 l) i)
 |[],_ =>rfl
 |p :: l,i=>by
  have ih:=Ab1 K hd x l (i+1);simp only[T5,N9,List.map_cons,Instr.findNow,hd]at ih⊢;by_cases h:x=p.2.1
  ·simp[h,D8]
  ·simp only[h,decide_false]
   rw[ih];simp[D8,h]
theorem tU (K:V6 P kt ek now) (w:World) (x:κ) (l:List (Nat×κ×Value)):(Instr.findKey kt (ek x) (T5 ek l)).run P w= .ok (D8 x (N9 l) 0) w:=by
 obtain⟨d,hu,hd⟩:=K.und;unfold Instr.findKey;simp only[Sem.run_bind,run_underlying hu,Result.andThen_ok]
 cases now with
 |true=>
  rw[Ab1 K (fun x y=>by rw[hd];rfl) x l 0]
  simp
 |false=>
  cases l with
  |nil=>simp[T5,N9,Instr.findNow,D8]
  |cons p l=>
   have:Instr.findNow d (ek x) (T5 ek (p :: l)) 0=none:=by simp[T5,Instr.findNow,hd]
   rw[this]
   exact Ab0 K w x (p :: l) 0
theorem tV {w:World} {b n:Nat} {l:List (Nat×κ×Value)} {t et:TypeId} {z:Value} (K:V6 P kt ek now) (h:N8 ek w b l n) (ht:P.underlying t=some (.map kt et)) (hz:(zeroValue et).run P w= .ok z w) (x:κ) (ok:Bool):
 (Instr.lookup t (.map (some b)) (ek x) ok).run P w= .ok (if ok then .tuple #[N7 x (N9 l) z,.bool (eE x (N9 l))]else N7 x (N9 l) z) w:=by
 unfold N8 at h;unfold N7 eE;simp only[Instr.lookup,Sem.run_bind,run_underlying ht,Result.andThen_ok,MapKept.run_getObj_map h,Sem.run_pure,K.chk,tU K]
 cases D8 x (N9 l) 0 with
 |none=>simp[hz]
 |some r=>obtain⟨i,v⟩:=r;simp
theorem AI1 {w:World} {b n:Nat} {l:List (Nat×κ×Value)} {t et:TypeId} (K:V6 P kt ek now) (h:N8 ek w b l n) (ht:P.underlying t=some (.map kt et)) (x:κ) (v:Value) (hx:D8 x (N9 l) 0=none):
 (Instr.mapUpdate t (.map (some b)) (ek x) v).run P w= .ok () (setBlock w b (.map (T5 ek (l ++ [(n,x,v)])).toArray (n+1))):=by
 unfold N8 at h;simp only[Instr.mapUpdate,Sem.run_bind,run_underlying ht,Result.andThen_ok,MapKept.run_getObj_map h,K.chk,tU K,hx,MapKept.run_setObj_map _ h];simp[setBlock,T5]
def fX (x:κ) (l:List (Nat×κ×Value)):List (Nat×κ×Value):=match D8 x (N9 l) 0 with|some (i,_)=>l.eraseIdx i|none=>l
theorem aO.del {l:List (Nat×κ×Value)} {n:Nat} (h:aO l n) (x:κ):aO (fX x l) n:=by
 unfold fX;split
 ·exact h.erase _
 ·exact h
theorem Ab2 {α β:Type} (f:α→β):∀(l:List α) (i:Nat),(l.map f).eraseIdx i=(l.eraseIdx i).map f
 |[],_ =>rfl
 | _ :: _,0=>rfl
 |a :: l,i+1=>by simp[Ab2 f l i]
theorem AI2 {α:Type} (l:List α) (i:Nat):l.toArray.eraseIdxIfInBounds i=(l.eraseIdx i).toArray:=by
 unfold Array.eraseIdxIfInBounds;split
 ·simp
 ·rename_i h
  simp at h;rw[List.eraseIdx_of_length_le h]
theorem AI3 {w:World} {b n:Nat} {l:List (Nat×κ×Value)} {t et:TypeId} (K:V6 P kt ek now) (h:N8 ek w b l n) (ht:P.underlying t=some (.map kt et)) (x:κ) (k' ty:TypeId):
 (Builtin.delete_ #[t,k'] ty #[.map (some b),ek x]).run P w= .ok (.tuple #[]) (setBlock w b (.map (T5 ek (fX x l)).toArray n)):=by
 unfold N8 at h;unfold fX;simp only[Builtin.delete_,Sem.run_bind,run_underlying ht,Result.andThen_ok,MapKept.run_getObj_map h,K.chk,tU K,List.getElem?_toArray,List.getElem?_cons_zero,List.getElem?_cons_succ]
 cases hl:D8 x (N9 l) 0 with
 |none=>simp[MapKept.run_setObj_map _ h,setBlock,Result.andThen]
 |some r=>
  obtain⟨i,v⟩:=r
  simp only[MapKept.run_setObj_map _ h,AI2,Result.andThen_ok,Sem.run_bind]
  simp[setBlock,T5,Ab2,Result.andThen]
omit [DecidableEq κ]in
theorem AI4 {w:World} {b r n:Nat} {l:List (Nat×κ×Value)} {seen:Array Nat} (ty:TypeId) (h:N8 ek w b l n) (hb:aO l n) (hr:L5 w b r n seen):
 ((∀p∈l,p.1∈seen)∧(Instr.next (.pointer (some ⟨r,0,none⟩)) false ty).run P w= .ok (.tuple #[.bool false]) w)∨
 ∃(i:Nat) (x:κ) (v:Value) (w1:World),(i,x,v)∈l∧i∉seen∧(w1=w∨w1=w.drew)∧
  (Instr.next (.pointer (some ⟨r,0,none⟩)) false ty).run P w= .ok (.tuple #[.bool true,ek x,v]) (setBlock w1 r (.mapIter (some b) n (seen.push i) n)):=by
 have hborn:∀x∈(T5 ek l).toArray.toList,x.born<n:=fun x hx=>by
  simp only[T5,List.mem_map]at hx;obtain⟨p,hp,rfl⟩:=hx;exact hb.lt p hp
 rcases run_next_at (P:=P) w ty r b n n seen _ n hr h hborn (Nat.le_refl _)with⟨h0,hrun⟩|⟨e,he,w1,hw1,hrun⟩
 ·refine .inl ⟨fun p hp=>?_,hrun⟩
  cases hc:seen.contains p.1 with
  |true=>exact Array.contains_iff_mem.1 hc
  |false=>
   exfalso
   have hmem:(⟨ek p.2.1,p.2.2,p.1⟩:MapEntry)∈(T5 ek l).toArray:=by
    simp only[List.mem_toArray,T5,List.mem_map];exact⟨p,hp,rfl⟩
   have:(⟨ek p.2.1,p.2.2,p.1⟩:MapEntry)∈leftOf (T5 ek l).toArray seen:=by
    unfold leftOf;rw[Array.mem_filter];exact⟨hmem,by show(!seen.contains p.1)=true;rw[hc];rfl⟩
   have hs:leftOf (T5 ek l).toArray seen=#[]:=Array.eq_empty_of_size_eq_zero h0
   rw[hs]at this
   simp at this
 ·unfold leftOf at he
  have he':e∈Array.filter (fun e=>!seen.contains e.born) (T5 ek l).toArray:=by simpa using he
  rw[Array.mem_filter]at he';obtain⟨hm,hs⟩:=he';simp only[List.mem_toArray,T5,List.mem_map]at hm;obtain⟨p,hp,rfl⟩:=hm;refine .inr ⟨p.1,p.2.1,p.2.2,w1,hp,fun hin=>?_,hw1,hrun⟩;have:seen.contains p.1=true:=Array.contains_iff_mem.2 hin;simp only[this]at hs
  cases hs
omit [DecidableEq κ]in
theorem AI5 {w:World} {b r i n:Nat} {l:List (Nat×κ×Value)} {seen:Array Nat} {x:κ} {v:Value} (h:N8 ek w b l n) (hb:aO l n) (hr:L5 w b r n (seen.push i)) (hi:(i,x,v)∈l):
 (Instr.entry (.pointer (some ⟨r,0,none⟩))).run P w= .ok (.tuple #[ek x,v]) w:=by
 have he:(⟨ek x,v,i⟩:MapEntry)∈(T5 ek l).toArray.toList:=by
  simp only[T5,List.mem_map];exact⟨_,hi,rfl⟩
 exact run_entry_at (P:=P) w r b n seen (T5 ek l).toArray n ⟨ek x,v,i⟩ hr h he (by
  have:(T5 ek l).toArray.toList.map (·.born)=l.map (·.1):=by simp[T5,Function.comp_def]
  rw[this];exact hb.nodup)
end
theorem N8.to {κ:Type} {ek:κ→Value} {w W:World} {b n:Nat} {l:List (Nat×κ×Value)} (h:N8 ek w b l n) (hW:∃z:A6 w,W=z.w):N8 ek W b l n:=by
 obtain⟨z,rfl⟩:=hW;exact A6.heap h z
theorem N8.since {κ:Type} {ek:κ→Value} {w:World} {b n:Nat} {l:List (Nat×κ×Value)} (h:N8 ek w b l n) (y:A6 w):N8 ek y.w b l n:=A6.heap h y
theorem N8.keep {κ:Type} {ek:κ→Value} {w w':World} {b n:Nat} {l:List (Nat×κ×Value)} {row:Option Nat} (h:N8 ek w b l n) (hg:w.grownBy w' row) (hr:some b≠row):N8 ek w' b l n:=
 (hg.block b (Array.getElem?_eq_some_iff.1 h).1 hr).trans h
section
variable {κ:Type} {ek:κ→Value} {P:Program} {ops:Array Oper} {rest:List Oper} {o:Oper} {a:Act} {Q:Exit→Act→World→Prop} {w0 w:World} {kt et:TypeId} {b n:Nat} {l:List (Nat×κ×Value)}
theorem AI6 (hw:∃y:A6 w0,w=y.w) (hg:o.guard=none) (m:Operand) (t:TypeId) (hop:o.op=Op.range t m) (ht:P.underlying t=some (.map kt et)) (hm:a.eval m= .map (some b)) (h:N8 ek w b l n)
 (hK:∀(q:A6 w0) (r:Nat),N8 ek q.w b l n→L5 q.w b r n #[]→w0.heap.size≤r→w.heap.size=r→w.grownBy q.w none→wpList P ops Q rest (a.put o.dst (.pointer (some ⟨r,0,none⟩))) q.w):
 wpList P ops Q (o :: rest) a w:=by
 obtain⟨y,rfl⟩:=hw;refine wpList_plain hg fun K' hK'=>?_;have hrun:(Instr.range t (.map (some b))).run P y.w= .ok (.pointer (some ⟨y.w.heap.size,0,none⟩)) (y.w.alloc (.mapIter (some b) n #[] n)):=by
  simp[Instr.range,Sem.run_bind,run_underlying ht,MapKept.run_getObj_map h,Result.andThen,go_sem]
 unfold Oper.wp;simp only[execOp,hop,hm,Sem.run_bind,hrun,Result.andThen];obtain⟨q,hq⟩:=y.alloc (.mapIter (some b) n #[] n);have hgr:y.w.grownBy (y.w.alloc (.mapIter (some b) n #[] n)) none:=World.grownBy_alloc y.w _ none;have hit:L5 (y.w.alloc (.mapIter (some b) n #[] n)) b y.w.heap.size n #[]:=by unfold L5;exact heap_alloc_new _ _
 rw[hq]at hgr hit⊢;exact hK' _ _ (hK q _ (h.keep hgr (by simp)) hit y.b.size rfl hgr)
theorem AI7 (hw:∃y:A6 w0,w=y.w) (hg:o.guard=none) (it:Operand) (hop:o.op=Op.next it false) {r:Nat} (hr0:w0.heap.size≤r) (hit:a.eval it= .pointer (some ⟨r,0,none⟩)) {seen:Array Nat} (h:N8 ek w b l n) (hb:aO l n) (hr:L5 w b r n seen) (hs:o7 n seen)
 (hDone:(∀p∈l,p.1∈seen)→wpList P ops Q rest (a.put o.dst (.tuple #[.bool false])) w)
 (hMore:∀(i:Nat) (x:κ) (v:Value) (q:A6 w0),(i,x,v)∈l→i∉seen→N8 ek q.w b l n→L5 q.w b r n (seen.push i)→o7 n (seen.push i)→w.grownBy q.w (some r)→(Instr.entry (.pointer (some ⟨r,0,none⟩))).run P q.w= .ok (.tuple #[ek x,v]) q.w→wpList P ops Q rest (a.put o.dst (.tuple #[.bool true,ek x,v])) q.w):
 wpList P ops Q (o :: rest) a w:=by
 obtain⟨y,rfl⟩:=hw;refine wpList_plain hg fun K' hK'=>?_;unfold Oper.wp;rcases AI4 (P:=P) o.type h hb hr with⟨hall,hrun⟩|⟨i,x,v,w1,hi,hn,hw1,hrun⟩
 ·simp only[execOp,hop,hit,Sem.run_bind,hrun,Result.andThen]
  exact hK' _ _ (hDone hall)
 ·simp only[execOp,hop,hit,Sem.run_bind,hrun,Result.andThen]
  have hne:b≠r:=by
   rintro rfl;unfold N8 at h;unfold L5 at hr;rw[h]at hr;cases hr
  have hrl:r<y.w.heap.size:=(Array.getElem?_eq_some_iff.1 hr).1;have hg1:y.w.grownBy w1 (some r):=by
   rcases hw1 with rfl|rfl
   ·exact World.grownBy.refl _ _
   ·exact⟨rfl,rfl,rfl,Nat.le_refl _,fun _ _ _ =>rfl⟩
  have zM:r<w1.heap.size:=Nat.lt_of_lt_of_le hrl hg1.size;have hgr:y.w.grownBy (setBlock w1 r (.mapIter (some b) n (seen.push i) n)) (some r):=by
   have h2:=kF w1 r (.mapIter (some b) n (seen.push i) n);exact⟨h2.os.trans hg1.os,h2.tape.trans hg1.tape,h2.output.trans hg1.output,Nat.le_trans hg1.size h2.size,fun j hj hjr=>(h2.block j (Nat.lt_of_lt_of_le hj hg1.size) hjr).trans (hg1.block j hj hjr)⟩
  have hit2:L5 (setBlock w1 r (.mapIter (some b) n (seen.push i) n)) b r n (seen.push i):=by unfold L5;exact aK zM
  have hm2:N8 ek (setBlock w1 r (.mapIter (some b) n (seen.push i) n)) b l n:=h.keep hgr (by simpa using hne);obtain⟨q,hq⟩:=y.grown hgr (fun k hk=>by cases hk;exact hr0);rw[hq]at hgr hit2 hm2⊢;exact hK' _ _ (hMore i x v q hi hn hm2 hit2 (hs.push (hb.lt _ hi) hn) hgr (AI5 hm2 hb hit2 hi))
end
end
section
open Go.RowKit
section
variable {P:Program} {ops:Array Oper} {md:Region.Mode} {C:World→Prop}
def mC (P:Program) (md:Region.Mode) (ops:Array Oper) (C:World→Prop) (n:Nat) (L:Array Bool→Act→Prop):Nat→Array Bool→Act→Prop
 |0,listed,a=>L listed a
 |f+1,listed,a=>Region.ready md ops listed≠[]∧∀i∈Region.ready md ops listed,i<n∧qOp P ops C i (mC P md ops C n L f (listed.setIfInBounds i true)) a
theorem Ab3 {n g:Nat} {L:Array Bool→Act→Prop} {Q':Exit→Act→World→Prop} (hL:∀listed a w,C w→L listed a→wpAny P md ops Q' g listed a w):
 ∀(f:Nat) (listed:Array Bool) (a:Act) (w:World),C w→mC P md ops C n L f listed a→wpAny P md ops Q' (f+g) listed a w
 |0,listed,a,w,hw,h=>by rw[Nat.zero_add];exact hL _ _ _ hw h
 |f+1,listed,a,w,hw,h=>by
  rw[show f+1+g=(f+g)+1 by omega];exact⟨fun h0=>absurd h0 h.1,fun i hi=>wpOp_of_qOp hw (fun a' w' hw' h'=>Ab3 hL f _ a' w' hw' h') (h.2 i hi).2⟩
def mD (md:Region.Mode) (ops:Array Oper) (hd:List Nat) (n:Nat):Bool:=
 hd.all fun i=>decide (i<n) && (List.range (n+1)).any fun j=>decide (i<j) && Region.waitsFor md ops j i && (j == n || hd.contains j)
theorem Ab4 {n:Nat} {hd:List Nat} {listed:Array Bool} (hs:mD md ops hd n=true) (hc:Region.chainB md ops n=true) (hn:n<ops.size) (inv:HeadInv md ops n listed):
 ∀(d i:Nat),n-i=d→i∈hd→i<n→listed.getD i true=false→∀t,n≤t→t∉Region.ready md ops listed:=by
 intro d;induction d using Nat.strongRecOn with
 | _ d ih=>
  intro i hd' him hi hun t ht hr
  obtain⟨_,ot,hot,hall⟩:=mem_ready.1 hr
  have htlt:t<ops.size:=(Array.getElem?_eq_some_iff.1 hot).1
  have h1:=List.all_eq_true.1 hs i him
  simp only[Bool.and_eq_true,decide_eq_true_eq]at h1
  obtain⟨j,hj,hj2⟩:=List.any_eq_true.1 h1.2
  simp only[Bool.and_eq_true,decide_eq_true_eq,Bool.or_eq_true,beq_iff_eq]at hj2
  obtain⟨⟨hij,BD6⟩,hcase⟩:=hj2
  obtain⟨oj,hoj,e,he,hb,hon⟩:=Region.waitsFor_spec BD6
  have hjle:j≤n:=by have:=List.mem_range.1 hj;omega
  have BD5:listed.getD j false=true→False:=fun hl=>by
   have h2:=inv.closed j oj hoj hl e he hb;rw[hon,getD_both hun]at h2
   cases h2
  by_cases htn:t=n
  ·subst htn
   by_cases hjt:j=t
   ·subst hjt
    have:oj=ot:=Option.some.inj (hoj.symm.trans hot);subst this;have h2:=hall e he hb;rw[hon,getD_both hun]at h2
    cases h2
   ·have hjh:j∈hd:=by
     rcases hcase with h|h
     ·exact(hjt h).elim
     ·simpa using h
    have hjs:j<listed.size:=by rw[inv.size];omega
    have hju:listed.getD j false=false:=by
     cases h:listed.getD j false with
     |true=>exact(BD5 h).elim
     |false=>rfl
    exact ih (t-j) (by omega) j rfl hjh (by omega) (getD_in hjs hju) t (Nat.le_refl _) hr
  ·have h1:=List.all_eq_true.1 hc t (List.mem_range.2 htlt)
   simp only[Bool.or_eq_true,decide_eq_true_eq]at h1;rcases h1 with h1|h1
   ·omega
   ·obtain⟨o',ho',e',he',hb',hon'⟩:=Region.waitsFor_spec h1
    have:o'=ot:=Option.some.inj (ho'.symm.trans hot);subst this;have h2:=hall e' he' hb';rw[hon',getD_both (inv.tail (t-1) (by omega) (by omega))]at h2
    cases h2
theorem AI8 {n i:Nat} {hd:List Nat} {oi:Oper} {v:Value} {L:Array Bool→Act→Prop} (hi:ops[i]? =some oi) (hsel:∀(j:Nat) (o:Oper) cs b,ops[j]? =some o→o.op≠.select cs b)
 (hs:mD md ops hd n=true) (hc:Region.chainB md ops n=true) (hn:n<ops.size) (him:i∈hd) (hin:i<n)
 (hdone:∀listed a,L listed a→∀j∈Region.ready md ops listed,n≤j):
 ∀(f:Nat) (listed:Array Bool) (a:Act),HeadInv md ops n listed→
  (∀j oj,ops[j]? =some oj→j≠i→listed.getD j true=false→(∀e∈oj.after,Region.binds md e=true→e.on≠i)→oi.apart ops oj=true)→
  i∈Region.ready md ops listed→YieldsIn P ops C oi v a→
  mC P md ops C n L f (listed.setIfInBounds i true) (a.put oi.dst v)→mC P md ops C n L (f+1) listed a:=by
 intro f;induction f with
 |zero=>
  intro listed a inv _ hr hy H
  have hun:=(mem_ready.1 hr).1
  refine⟨fun h=>(by rw[h]at hr;cases hr),fun j hj=>?_⟩
  have hjn:j<n:=by
   rcases Nat.lt_or_ge j n with h|h
   ·exact h
   ·exact absurd hj (Ab4 hs hc hn inv _ i rfl him hin hun j h)
  refine⟨hjn,?_⟩
  by_cases hji:j=i
  ·subst hji;exact hy.qOp hi H
  ·have:=hdone _ _ H j (ready_mono hj hji)
   omega
 |succ f ih=>
  intro listed a inv hfree hr hy H
  have hun:=(mem_ready.1 hr).1
  refine⟨fun h=>(by rw[h]at hr;cases hr),fun j hj=>?_⟩
  have hjn:j<n:=by
   rcases Nat.lt_or_ge j n with h|h
   ·exact h
   ·exact absurd hj (Ab4 hs hc hn inv _ i rfl him hin hun j h)
  refine⟨hjn,?_⟩
  by_cases hji:j=i
  ·subst hji;exact hy.qOp hi H
  ·have h1:=(H.2 j (ready_mono hj hji)).2
   obtain⟨hjun,oj,hoj,hall⟩:=mem_ready.1 hj;have hnot:∀e∈oj.after,Region.binds md e=true→e.on≠i:=fun e he hb heq=>by
    have h1:=hall e he hb;rw[heq,getD_both hun]at h1
    cases h1
   have h2:=qOp_put hoj (hfree j oj hoj hji hjun hnot) (fun cs b=>hsel i oi cs b hi) (fun cs b=>hsel j oj cs b hoj) hy h1;have hfree':∀k ok,ops[k]? =some ok→k≠i→(listed.setIfInBounds j true).getD k true=false→
    (∀e∈ok.after,Region.binds md e=true→e.on≠i)→oi.apart ops ok=true:=fun k ok hk hki hun hno=>by
    refine hfree k ok hk hki ?_ hno;by_cases hjk:j=k
    ·subst hjk;exact hjun
    ·rw[getD_set_ne true hjk]at hun;exact hun
   refine qOp_mono (fun a' h3=>ih (listed.setIfInBounds j true) a' (inv.set hj hjn) hfree' (ready_mono hr (Ne.symm hji)) h3.1 ?_) h2;rw[Array.setIfInBounds_comm _ _ hji];exact h3.2
def mE (md:Region.Mode) (ops:Array Oper) (g n:Nat):List Nat→Array Bool→Bool
 |[],listed=>Region.seqB md ops g n listed
 |k :: ks,listed=>(ops[k]?).isSome && decide (k<n) && (Region.ready md ops listed).contains k && Region.free md ops listed k && mE md ops g n ks (listed.setIfInBounds k true)
theorem Ab5 {n g:Nat} {hd:List Nat} {Lq:Act→Prop} (hsel:Region.noSelect ops=true) (hs:mD md ops hd n=true) (hc:Region.chainB md ops n=true) (hn:n<ops.size):
 ∀(ks:List Nat) (listed:Array Bool) (a:Act),(∀k∈ks,k∈hd)→HeadInv md ops n listed→
 mE md ops g n ks listed=true→wpQuiet P ops C Lq (ks.filterMap fun k=>ops[k]?) a→
 mC P md ops C n (fun listed' a'=>Region.seqB md ops g n listed'=true∧Lq a') ks.length listed a
 |[],listed,a,_,_,hB,h=>⟨by simpa[mE]using hB,h⟩
 |k :: ks,listed,a,hm,inv,hB,h=>by
  simp only[mE,Bool.and_eq_true,decide_eq_true_eq]at hB;obtain⟨⟨⟨⟨ho,hkn⟩,hr⟩,hf⟩,hB'⟩:=hB;obtain⟨o,h0⟩:=Option.isSome_iff_exists.1 ho;have hr':k∈Region.ready md ops listed:=by simpa using hr
  have hst:qOp P ops C k (wpQuiet P ops C Lq (ks.filterMap fun k=>ops[k]?)) a:=by
   unfold qOp;simp only[h0];simp only[List.filterMap_cons,h0]at h;exact h
  obtain⟨v,hy,hK⟩:=yieldsIn_of_qOp h0 hst;exact AI8 h0 (Region.noSelect_spec hsel) hs hc hn (hm k (by simp)) hkn (fun listed' a' hL=>seqB_ready hL.1) ks.length listed a inv (Region.free_spec h0 hf) hr' hy
   (Ab5 hsel hs hc hn ks _ _ (fun k hk=>hm k (by simp[hk])) (inv.set hr' hkn) hB' hK)
def tW (o:Oper):Bool:=match o.op,o.guard,o.dst with| .move _,none,some _ =>true| _,_,_ =>false
theorem AI9 {o:Oper} (h:tW o=true) (a:Act):∃x d,o.op= .move x∧o.guard=none∧o.dst=some d∧Yields P ops o (a.eval x) a:=by
 unfold tW at h;split at h
 ·rename_i x d hx hg hd
  exact⟨x,d,hx,hg,hd,.inl ⟨by simp[Region.wanted,hg],fun w=>by rw[BigFrame.run_move x hx]⟩⟩
 ·cases h
def pF (md:Region.Mode) (ops:Array Oper) (g n:Nat) (hd:List Nat):List Nat→Array Bool→Bool
 |[],listed=>mE md ops g n hd listed
 |k :: ks,listed=>(match ops[k]? with|some o=>tW o|none=>false) && decide (k<n) && (Region.ready md ops listed).contains k && Region.free md ops listed k && pF md ops g n hd ks (listed.setIfInBounds k true)
theorem Ab6 {n:Nat} {hd:List Nat} {Q:Exit→Act→World→Prop} {tl:List Oper} (hQ:∀c a d v w,Q (.panic c) (Act.put a (some d) v) w→Q (.panic c) a w)
 (hsel:Region.noSelect ops=true) (hs:mD md ops hd n=true) (hc:Region.chainB md ops n=true) (hn:n<ops.size)
 (htl:∀j,tl[j]? =ops[n+j]?) (hlen:tl.length=ops.size-n):
 ∀(fl:List Nat) (listed:Array Bool) (a:Act) (w:World),C w→HeadInv md ops n listed→pF md ops (ops.size-n) n hd fl listed=true→
 wpQuiet P ops C (fun a'=>∀w',C w'→wpList P ops Q tl a' w') ((fl ++ hd).filterMap fun k=>ops[k]?) a→
 wpAny P md ops Q (fl.length+hd.length+(ops.size-n)) listed a w
 |[],listed,a,w,hw,inv,hB,h=>by
  have H:=Ab5 (Lq:=fun a'=>∀w',C w'→wpList P ops Q tl a' w') hsel hs hc hn hd listed a (fun k hk=>hk) inv hB h;have:=Ab3 (Q':=Q) (g:=ops.size-n) (fun listed a' w' hw' hL=>by
   have:=wpAny_of_seq (md:=md) (Q':=Q) tl n listed a' w' htl (by rw[hlen];exact hL.1) (hL.2 w' hw');rwa[hlen]at this) _ _ _ w hw H
  simpa using this
 |k :: ks,listed,a,w,hw,inv,hB,h=>by
  simp only[pF,Bool.and_eq_true,decide_eq_true_eq]at hB;obtain⟨⟨⟨⟨ho,hkn⟩,hr⟩,hf⟩,hB'⟩:=hB
  cases h0:ops[k]? with
  |none=>rw[h0]at ho;cases ho
  |some o=>
   rw[h0]at ho
   obtain⟨x,d,hx,hg,hdst,hy⟩:=AI9 (P:=P) (ops:=ops) ho a
   have hst:qOp P ops C k (wpQuiet P ops C (fun a'=>∀w',C w'→wpList P ops Q tl a' w') ((ks ++ hd).filterMap fun k=>ops[k]?)) a:=by
    unfold qOp;simp only[h0];simp only[List.cons_append,List.filterMap_cons,h0]at h;exact h
   obtain⟨v,hyv,hK⟩:=yieldsIn_of_qOp h0 hst
   have hv:v=a.eval x:=by
    rcases hyv with⟨_,hq⟩|⟨hnot,_⟩
    ·have:=hq w hw
     unfold Oper.quietAt at this;rw[BigFrame.run_move x hx]at this;exact this.2.symm
    ·simp[Region.wanted,hg]at hnot
   subst hv
   have hr':k∈Region.ready md ops listed:=by simpa using hr
   have:=Ab6 hQ hsel hs hc hn htl hlen ks (listed.setIfInBounds k true) (a.put o.dst (a.eval x)) w hw (inv.set hr' hkn) hB' hK
   rw[show(k :: ks).length+hd.length+(ops.size-n)=(ks.length+hd.length+(ops.size-n))+1 by simp;omega]
   exact wpAny_first h0 (Region.noSelect_spec hsel) (fun c a w=>by rw[hdst];exact hQ c a d _ w) _ listed a w (Region.free_spec h0 hf) hr' hy this
def kH (l:List Oper):List Nat→List Oper
 |[]=>[]
 |k :: ks=>l.getD k default :: kH l ks
theorem Ab7 (l:List Oper):kH l []=[]:=rfl
theorem tX (l:List Oper) (k:Nat) (ks:List Nat):kH l (k :: ks)=l.getD k default :: kH l ks:=rfl
theorem Ab8 (l:List Oper):∀ks:List Nat,(∀k∈ks,k<l.length)→kH l ks=ks.filterMap fun k=>l[k]?
 |[],_ =>rfl
 |k :: ks,h=>by
  have hk:k<l.length:=h k (by simp);rw[tX,List.filterMap_cons,Ab8 l ks (fun j hj=>h j (by simp[hj])),A3 hk,A5,A3 hk];rfl
def Ab9 (md:Region.Mode) (ops:Array Oper) (fl hd:List Nat) (n:Nat):Bool:=
 (fl ++ hd).all (fun k=>decide (k<ops.size)) && Region.noSelect ops && decide (n<ops.size) && mD md ops hd n && Region.chainB md ops n && decide (fl.length+hd.length=n) && pF md ops (ops.size-n) n hd fl (Array.replicate ops.size false)
theorem Ac0 {id:Nat} {Q:Exit→Act→World→Prop} {a:Act} {w:World} {l:List Oper} (C:World→Prop) (fl hd:List Nat) (n:Nat) (hm:P.follows .mixedOrders=true) (hB:Ab9 .any l.toArray fl hd n=true)
 (hQ:∀c a d v w,Q (.panic c) (Act.put a (some d) v) w→Q (.panic c) a w) (hC:C {w with drawn:=w.drawn+1})
 (h:wpQuiet P l.toArray C (fun a'=>∀w',C w'→wpList P l.toArray Q (l.drop n) a' w') (kH l (fl ++ hd)) a):(Code.region id l.toArray true).wp P Q a w:=by
 simp only[Ab9,Bool.and_eq_true,decide_eq_true_eq]at hB;obtain⟨⟨⟨⟨⟨⟨hall,hsel⟩,hn⟩,hs⟩,hc⟩,hlen⟩,hf⟩:=hB;rw[Ab8 l (fl ++ hd) (fun k hk=>by simpa using List.all_eq_true.1 hall k hk)]at h;have inv0:HeadInv .any l.toArray n (Array.replicate l.toArray.size false):=
  ⟨by simp,fun j oj _ hl=>(by rw[getD_replicate_false]at hl;cases hl),fun t _ ht=>getD_in (by simpa using ht) (getD_replicate_false _ _)⟩
 refine wp_region_any hm ?_;have:=Ab6 (Q:=Q) (tl:=l.drop n) hQ hsel hs hc hn (fun j=>by simp[List.getElem?_drop]) (by simp) fl _ a _ hC inv0 hf (by simpa using h);rwa[show fl.length+hd.length+(l.toArray.size-n)=l.toArray.size by omega]at this
end
end
section
open Go.RowKit
structure C3 (w:World) (g:Nat) (vs:List Value):Prop where
 lt:g<w.heap.size
 c:∀j v,vs[j]? =some v→w.cell? ⟨g,j,none⟩=some v
 f:∀o,w.frozen? ⟨g,o,none⟩=false
theorem C3.since {w:World} {g:Nat} {vs:List Value} (h:C3 w g vs) (y:A6 w):C3 y.w g vs:=
 ⟨Nat.lt_of_lt_of_le h.lt y.b.size,fun j v hv=>A6.cell (h.c j v hv) h.lt y,fun o=>A6.free (h.f o) h.lt y⟩
theorem C3.to {w W:World} {g:Nat} {vs:List Value} (h:C3 w g vs) (hW:∃z:A6 w,W=z.w):C3 W g vs:=by
 obtain⟨z,rfl⟩:=hW;exact h.since z
theorem C3.new (w:World) (vs:List Value) (T:TypeId):C3 (w.alloc (.cells vs.toArray T)) w.heap.size vs:=by
 have hh:(w.alloc (.cells vs.toArray T)).heap[w.heap.size]? =some (.cells vs.toArray T):=by show(w.heap.push _)[w.heap.size]? = _;simp
 exact⟨by simp,fun j v hv=>by simp only[World.cell?,hh];simpa using hv,fun o=>by simp only[World.frozen?,hh];simp⟩
theorem C3.set1 {w:World} {g:Nat} {a u:Value} (h:C3 w g [a]):C3 (w.setCell ⟨g,0,none⟩ u) g [u]:=by
 refine⟨by simpa[World.setCell]using h.lt,fun j v hv=>?_,fun o=>by rw[World.frozen?_setCell];exact h.f o⟩;have hj:j=0:=by have:=(A4 hv).1;simpa using this
 subst hj;simp at hv;subst hv;exact World.cell?_setCell_same _ _ _ (h.c 0 a rfl)
theorem tY (g:Nat):∀(vs:List Value) (o:Nat) (w:World),(w.setCells g o vs).heap.size=w.heap.size
 |[],_,_ =>rfl
 |v :: vs,o,w=>by
  show((w.setCell ⟨g,o,none⟩ v).setCells g (o+1) vs).heap.size= _;rw[tY g vs (o+1)];simp[World.setCell]
theorem C3.sets {w:World} {g:Nat} {vs us:List Value} (h:C3 w g vs) (hl:us.length=vs.length):C3 (w.setCells g 0 us) g us:=by
 refine⟨by rw[tY];exact h.lt,fun j v hv=>?_,fun o=>by rw[World.frozen?_setCells];exact h.f o⟩;have hj:j<us.length:=(A4 hv).1;have:=World.cell?_setCells_in g us 0 w (fun i hi=>by
  obtain⟨v,hv⟩:∃v,vs[i]? =some v:=⟨vs[i]'(by omega),A3 (by omega)⟩
  rw[Nat.zero_add,h.c i v hv];rfl) j hj
 rw[Nat.zero_add]at this;rw[this,←hv,A3 hj]
theorem Below.setCells' {B:Nat} {a w:World} (h:Below B a w) {g:Nat} (hg:B≤g):∀(vs:List Value) (o:Nat),Below B a (w.setCells g o vs)
 |[],_ =>h
 |v :: vs,o=>by
  show Below B a ((w.setCell ⟨g,o,none⟩ v).setCells g (o+1) vs);exact Below.setCells' (h.setCell (p:=⟨g,o,none⟩) hg v) hg vs (o+1)
theorem A6.sets {w0:World} (x:A6 w0) (g:Nat) (h:w0.heap.size≤g) (vs:List Value) (o:Nat):∃y:A6 w0,x.w.setCells g o vs=y.w:=⟨⟨_,Below.setCells' x.b h vs o⟩,rfl⟩
end
section
open Go.RowKit
theorem C3.setj {w:World} {g j:Nat} {vs:List Value} (h:C3 w g vs) (hj:j<vs.length) (u:Value):C3 (w.setCell ⟨g,j,none⟩ u) g (vs.set j u):=by
 refine⟨by simpa[World.setCell]using h.lt,fun i v hv=>?_,fun o=>by rw[World.frozen?_setCell];exact h.f o⟩;rw[List.getElem?_set]at hv;by_cases hji:j=i
 ·subst hji
  rw[if_pos rfl,if_pos hj]at hv
  cases hv;exact World.cell?_setCell_same _ _ _ (h.c j _ (A3 hj))
 ·rw[if_neg hji]at hv
  show((w.setCells g j [u]).cell? _)= _;rw[World.cell?_setCells_out g [u] j w ⟨g,i,none⟩ (fun _ _ =>by simp;omega),h.c i v hv]
theorem Ac1 {w:World} {B e k n:Nat} {v:Value} {xs:List Value} (h:w.ownsRow B e k v n xs):∀b,v.ownBlock=some b→b<w.heap.size:=by
 obtain⟨_,⟨rfl,_⟩|⟨g,cap,cur,rfl,_,hh,_⟩⟩:=h
 ·intro b hb;simp[Value.ownBlock]at hb
 ·intro b hb
  obtain rfl:g=b:=by simpa[Value.ownBlock]using hb
  exact(Array.getElem?_eq_some_iff.1 hh).1
theorem dL {w:World} {B e k n:Nat} {v:Value} {xs:List Value} (h:w.ownsRow B e k v n xs) (p:Addr) (u:Value) (hne:∀b,v.ownBlock=some b→b≠p.block):(w.setCell p u).ownsRow B e k v n xs:=by
 obtain⟨hl,h|⟨g,cap,cur,rfl,hB,hh,r⟩⟩:=h
 ·exact⟨hl,.inl h⟩
 ·exact⟨hl,.inr ⟨g,cap,cur,rfl,hB,(Below.heap_setCell w p u g (hne g rfl)).trans hh,r⟩⟩
theorem mF {B e k n:Nat} {v:Value} {xs:List Value} (g:Nat):∀(vs:List Value) (i:Nat) (w:World),w.ownsRow B e k v n xs→(∀b,v.ownBlock=some b→b≠g)→(w.setCells g i vs).ownsRow B e k v n xs
 |[],_,_,h,_ =>h
 |u :: vs,i,w,h,hne=>mF g vs (i+1) (w.setCell ⟨g,i,none⟩ u) (dL h _ u hne) hne
theorem Ac2 {w w':World} {B base e e' k k' n m:Nat} {u v:Value} {xs ys:List Value} (h:w.ownsRow B e k u n xs) (hg:w.grownBy w' v.ownBlock) (hown:w.ownsRow base e' k' v m ys) (hne:e≠e'):w'.ownsRow B e k u n xs:=by
 obtain⟨hl,h|⟨g,cap,cur,rfl,hB,hh,r⟩⟩:=h
 ·exact⟨hl,.inl h⟩
 ·refine⟨hl,.inr ⟨g,cap,cur,rfl,hB,?_,r⟩⟩
  rw[hg.block g (Array.getElem?_eq_some_iff.1 hh).1 ?_];exact hh;obtain⟨_,⟨rfl,_⟩|⟨g',cap',cur',rfl,_,hh',_⟩⟩:=hown
  ·simp[Value.ownBlock]
  ·intro he
   have he':g=g':=by simpa[Value.ownBlock]using he
   subst he';rw[hh]at hh';simp only[Option.some.injEq,Obj.cells.injEq]at hh';exact hne hh'.2.1
theorem G5 {w:World} {B e k n:Nat} {v:Value} {xs:List Value} (h:w.ownsRow B e k v n xs):∃(a:Option Addr) (m c:Nat),v= .slice a m c:=by
 obtain⟨_,⟨rfl,_⟩|⟨g,cap,cur,rfl,_⟩⟩:=h
 ·exact⟨_,_,_,rfl⟩
 ·exact⟨_,_,_,rfl⟩
theorem C3.grown {w w':World} {g:Nat} {vs:List Value} {row:Option Nat} (h:C3 w g vs) (hg:w.grownBy w' row) (hne:some g≠row):C3 w' g vs:=by
 have hb:=hg.block g h.lt hne;refine⟨Nat.lt_of_lt_of_le h.lt hg.size,fun j v hv=>?_,fun o=>?_⟩
 ·rw[World.cell?_of_block (w:=w) (a:=⟨g,j,none⟩) hb];exact h.c j v hv
 ·have:=h.f o
  simp only[World.frozen?]at this⊢;rw[hb];exact this
theorem C3.far {w:World} {g:Nat} {vs:List Value} (h:C3 w g vs) (p:Addr) (u:Value) (hne:g≠p.block):C3 (w.setCell p u) g vs:=by
 refine⟨by simpa[World.setCell]using h.lt,fun j v hv=>?_,fun o=>by rw[World.frozen?_setCell];exact h.f o⟩;rw[World.cell?_of_block (w:=w) (a:=⟨g,j,none⟩) (Below.heap_setCell w p u g hne)];exact h.c j v hv
theorem C3.up {w:World} {g:Nat} {vs:List Value} (h:C3 w g vs) (o:Obj):C3 (w.alloc o) g vs:=h.to (A7.alloc (A7.self _) _)
theorem C3.drew {w:World} {g:Nat} {vs:List Value} (h:C3 w g vs):C3 w.drew g vs:=h.to (A7.drew' (A7.self _))
end
section
open Go.RowKit
theorem J8 {w:World} (x:A6 w) (a:List Value) (T:TypeId):∃(W:World) (bx:Nat) (y0:A6 W),x.w.alloc (.cells a.toArray T)=y0.w∧x.w.heap.size=bx∧Hid (W=y0.w)∧(∃z:A6 w,W=z.w)∧Hid (∀y:A6 W,∃z:A6 w,y.w=z.w)∧Hid (w.heap.size≤bx∧bx+1=W.heap.size)∧C3 W bx a:=by
 obtain⟨y0,h⟩:=A6.refl (x.w.alloc (.cells a.toArray T));exact⟨_,_,y0,h,rfl,h,x.alloc _,A6.up (x.alloc _),And.intro x.b.size (by simp),C3.new _ _ _⟩
theorem W5 {w:World} (x:A6 w) (a:List Value) (T:TypeId) (b:List Value) (U:TypeId):∃(W:World) (bx:Nat) (y0:A6 W),(x.w.alloc (.cells a.toArray T)).alloc (.cells b.toArray U)=y0.w∧x.w.heap.size=bx∧Hid (W=y0.w)∧(∃z:A6 w,W=z.w)∧Hid (∀y:A6 W,∃z:A6 w,y.w=z.w)∧Hid (w.heap.size≤bx∧bx+2=W.heap.size)∧C3 W bx a∧C3 W (bx+1) b:=by
 obtain⟨y0,h⟩:=A6.refl ((x.w.alloc (.cells a.toArray T)).alloc (.cells b.toArray U));have hs:=A6.allocs x [.cells a.toArray T,.cells b.toArray U];refine⟨_,_,y0,h,rfl,h,hs,A6.up hs,And.intro x.b.size (by simp),(C3.new _ _ _).up _,?_⟩;have h:=C3.new (x.w.alloc (.cells a.toArray T)) b U;rwa[show(x.w.alloc (.cells a.toArray T)).heap.size=x.w.heap.size+1 from by simp]at h
theorem AJ0 {w:World} (x:A6 w) (a:List Value) (T:TypeId) (b:List Value) (U:TypeId) (c:List Value) (V:TypeId):∃(W:World) (bx:Nat) (y0:A6 W),((x.w.alloc (.cells a.toArray T)).alloc (.cells b.toArray U)).alloc (.cells c.toArray V)=y0.w∧x.w.heap.size=bx∧Hid (W=y0.w)∧(∃z:A6 w,W=z.w)∧Hid (∀y:A6 W,∃z:A6 w,y.w=z.w)∧Hid (w.heap.size≤bx∧bx+3=W.heap.size)∧C3 W bx a∧C3 W (bx+1) b∧C3 W (bx+2) c:=by
 obtain⟨y0,h⟩:=A6.refl (((x.w.alloc (.cells a.toArray T)).alloc (.cells b.toArray U)).alloc (.cells c.toArray V));have hs:=A6.allocs x [.cells a.toArray T,.cells b.toArray U,.cells c.toArray V];refine⟨_,_,y0,h,rfl,h,hs,A6.up hs,And.intro x.b.size (by simp),((C3.new _ _ _).up _).up _,?_,?_⟩
 ·have h:=C3.new (x.w.alloc (.cells a.toArray T)) b U
  rw[show(x.w.alloc (.cells a.toArray T)).heap.size=x.w.heap.size+1 from by simp]at h;exact h.up _
 ·have h:=C3.new ((x.w.alloc (.cells a.toArray T)).alloc (.cells b.toArray U)) c V
  rwa[show((x.w.alloc (.cells a.toArray T)).alloc (.cells b.toArray U)).heap.size=x.w.heap.size+2 from by simp]at h
theorem L9 {w:World} (y:A6 w) (a:List Value) (T:TypeId):∃y2:A6 w,y.w.alloc (.cells a.toArray T)=y2.w∧(∃zz:A6 y.w,y2.w=zz.w)∧w.heap.size≤y.w.heap.size∧y.w.heap.size<y2.w.heap.size∧C3 y2.w y.w.heap.size a:=by
 obtain⟨y2,e⟩:=A7.alloc (A7.of y) (.cells a.toArray T);refine⟨y2,e,?_,y.b.size,?_,?_⟩
 ·rw[←e];exact A7.alloc (A7.self _) _
 ·rw[←e];simp
 ·rw[←e];exact C3.new _ _ _
theorem iL {w:World} (y:A6 w) (a:List Value) (T:TypeId):∃y2:A6 w,(y.w.alloc (.cells a.toArray T)).drew=y2.w∧(∃zz:A6 y.w,y2.w=zz.w)∧w.heap.size≤y.w.heap.size∧y.w.heap.size<y2.w.heap.size∧C3 y2.w y.w.heap.size a:=by
 obtain⟨y2,e⟩:=A7.drew' (A7.alloc (A7.of y) (.cells a.toArray T));refine⟨y2,e,?_,y.b.size,?_,?_⟩
 ·rw[←e];exact A7.drew' (A7.alloc (A7.self _) _)
 ·rw[←e];simp
 ·rw[←e];exact(C3.new _ _ _).to (A7.drew' (A7.self _))
theorem Ac3 {w:World} (y:A6 w) (a:List Value) (T:TypeId) (b:List Value) (U:TypeId):∃y2:A6 w,(y.w.alloc (.cells a.toArray T)).alloc (.cells b.toArray U)=y2.w∧(∃zz:A6 y.w,y2.w=zz.w)∧w.heap.size≤y.w.heap.size∧y.w.heap.size+1<y2.w.heap.size∧C3 y2.w y.w.heap.size a∧C3 y2.w (y.w.heap.size+1) b:=by
 obtain⟨y2,e⟩:=A7.alloc (A7.alloc (A7.of y) (.cells a.toArray T)) (.cells b.toArray U);refine⟨y2,e,?_,y.b.size,?_,?_,?_⟩
 ·rw[←e];exact A7.alloc (A7.alloc (A7.self _) _) _
 ·rw[←e];simp
 ·rw[←e];exact(C3.new _ _ _).up _
 ·rw[←e]
  have h:=C3.new (y.w.alloc (.cells a.toArray T)) b U;rwa[show(y.w.alloc (.cells a.toArray T)).heap.size=y.w.heap.size+1 from by simp]at h
theorem C3.q {W:World} {b:Nat} {l:List Value} (h:C3 W b l) (j:Nat) {v:Value} (hv:l[j]? =some v) (y:A6 W):y.w.cell? ⟨b,j,none⟩=some v:=(h.since y).c j v hv
theorem bx1 {W:World} {b:Nat} {v0:Value} (h:C3 W b [v0]):(∀y:A6 W,y.w.cell? ⟨b,0,none⟩=some v0)∧(∀(y:A6 W) (o:Nat),y.w.frozen? ⟨b,o,none⟩=false):=
 ⟨h.q 0 rfl,fun y o=>(h.since y).f o⟩
theorem cx1 {W:World} {b:Nat} {v0:Value} (h:C3 W b [v0]):W.cell? ⟨b,0,none⟩=some v0∧(∀o,W.frozen? ⟨b,o,none⟩=false):=
 ⟨h.c 0 _ rfl,h.f⟩
theorem o8 {W:World} {b:Nat} {v0 v1:Value} (h:C3 W b [v0,v1]):(∀y:A6 W,y.w.cell? ⟨b,0,none⟩=some v0)∧(∀y:A6 W,y.w.cell? ⟨b,1,none⟩=some v1)∧(∀(y:A6 W) (o:Nat),y.w.frozen? ⟨b,o,none⟩=false):=
 ⟨h.q 0 rfl,h.q 1 rfl,fun y o=>(h.since y).f o⟩
theorem cQ {W:World} {b:Nat} {v0 v1:Value} (h:C3 W b [v0,v1]):W.cell? ⟨b,0,none⟩=some v0∧W.cell? ⟨b,1,none⟩=some v1∧(∀o,W.frozen? ⟨b,o,none⟩=false):=
 ⟨h.c 0 _ rfl,h.c 1 _ rfl,h.f⟩
theorem bF {W:World} {b:Nat} {v0 v1 v2 v3:Value} (h:C3 W b [v0,v1,v2,v3]):(∀y:A6 W,y.w.cell? ⟨b,0,none⟩=some v0)∧(∀y:A6 W,y.w.cell? ⟨b,1,none⟩=some v1)∧(∀y:A6 W,y.w.cell? ⟨b,2,none⟩=some v2)∧(∀y:A6 W,y.w.cell? ⟨b,3,none⟩=some v3)∧(∀(y:A6 W) (o:Nat),y.w.frozen? ⟨b,o,none⟩=false):=
 ⟨h.q 0 rfl,h.q 1 rfl,h.q 2 rfl,h.q 3 rfl,fun y o=>(h.since y).f o⟩
theorem fA {W:World} {b:Nat} {v0 v1 v2 v3:Value} (h:C3 W b [v0,v1,v2,v3]):W.cell? ⟨b,0,none⟩=some v0∧W.cell? ⟨b,1,none⟩=some v1∧W.cell? ⟨b,2,none⟩=some v2∧W.cell? ⟨b,3,none⟩=some v3∧(∀o,W.frozen? ⟨b,o,none⟩=false):=
 ⟨h.c 0 _ rfl,h.c 1 _ rfl,h.c 2 _ rfl,h.c 3 _ rfl,h.f⟩
theorem Z2 {W:World} {b:Nat} {v0 v1 v2 v3 v4:Value} (h:C3 W b [v0,v1,v2,v3,v4]):(∀y:A6 W,y.w.cell? ⟨b,0,none⟩=some v0)∧(∀y:A6 W,y.w.cell? ⟨b,1,none⟩=some v1)∧(∀y:A6 W,y.w.cell? ⟨b,2,none⟩=some v2)∧(∀y:A6 W,y.w.cell? ⟨b,3,none⟩=some v3)∧(∀y:A6 W,y.w.cell? ⟨b,4,none⟩=some v4)∧(∀(y:A6 W) (o:Nat),y.w.frozen? ⟨b,o,none⟩=false):=
 ⟨h.q 0 rfl,h.q 1 rfl,h.q 2 rfl,h.q 3 rfl,h.q 4 rfl,fun y o=>(h.since y).f o⟩
theorem pG {W:World} {b:Nat} {v0 v1 v2 v3 v4:Value} (h:C3 W b [v0,v1,v2,v3,v4]):W.cell? ⟨b,0,none⟩=some v0∧W.cell? ⟨b,1,none⟩=some v1∧W.cell? ⟨b,2,none⟩=some v2∧W.cell? ⟨b,3,none⟩=some v3∧W.cell? ⟨b,4,none⟩=some v4∧(∀o,W.frozen? ⟨b,o,none⟩=false):=
 ⟨h.c 0 _ rfl,h.c 1 _ rfl,h.c 2 _ rfl,h.c 3 _ rfl,h.c 4 _ rfl,h.f⟩
theorem X9 {W:World} {b:Nat} {v0 v1 v2 v3 v4 v5:Value} (h:C3 W b [v0,v1,v2,v3,v4,v5]):(∀y:A6 W,y.w.cell? ⟨b,0,none⟩=some v0)∧(∀y:A6 W,y.w.cell? ⟨b,1,none⟩=some v1)∧(∀y:A6 W,y.w.cell? ⟨b,2,none⟩=some v2)∧(∀y:A6 W,y.w.cell? ⟨b,3,none⟩=some v3)∧(∀y:A6 W,y.w.cell? ⟨b,4,none⟩=some v4)∧(∀y:A6 W,y.w.cell? ⟨b,5,none⟩=some v5)∧(∀(y:A6 W) (o:Nat),y.w.frozen? ⟨b,o,none⟩=false):=
 ⟨h.q 0 rfl,h.q 1 rfl,h.q 2 rfl,h.q 3 rfl,h.q 4 rfl,h.q 5 rfl,fun y o=>(h.since y).f o⟩
theorem iM {W:World} {b:Nat} {v0 v1 v2 v3 v4 v5:Value} (h:C3 W b [v0,v1,v2,v3,v4,v5]):W.cell? ⟨b,0,none⟩=some v0∧W.cell? ⟨b,1,none⟩=some v1∧W.cell? ⟨b,2,none⟩=some v2∧W.cell? ⟨b,3,none⟩=some v3∧W.cell? ⟨b,4,none⟩=some v4∧W.cell? ⟨b,5,none⟩=some v5∧(∀o,W.frozen? ⟨b,o,none⟩=false):=
 ⟨h.c 0 _ rfl,h.c 1 _ rfl,h.c 2 _ rfl,h.c 3 _ rfl,h.c 4 _ rfl,h.c 5 _ rfl,h.f⟩
theorem cR {W:World} {b:Nat} {v0 v1 v2 v3 v4 v5 v6:Value} (h:C3 W b [v0,v1,v2,v3,v4,v5,v6]):(∀y:A6 W,y.w.cell? ⟨b,0,none⟩=some v0)∧(∀y:A6 W,y.w.cell? ⟨b,1,none⟩=some v1)∧(∀y:A6 W,y.w.cell? ⟨b,2,none⟩=some v2)∧(∀y:A6 W,y.w.cell? ⟨b,3,none⟩=some v3)∧(∀y:A6 W,y.w.cell? ⟨b,4,none⟩=some v4)∧(∀y:A6 W,y.w.cell? ⟨b,5,none⟩=some v5)∧(∀y:A6 W,y.w.cell? ⟨b,6,none⟩=some v6)∧(∀(y:A6 W) (o:Nat),y.w.frozen? ⟨b,o,none⟩=false):=
 ⟨h.q 0 rfl,h.q 1 rfl,h.q 2 rfl,h.q 3 rfl,h.q 4 rfl,h.q 5 rfl,h.q 6 rfl,fun y o=>(h.since y).f o⟩
theorem cx7 {W:World} {b:Nat} {v0 v1 v2 v3 v4 v5 v6:Value} (h:C3 W b [v0,v1,v2,v3,v4,v5,v6]):W.cell? ⟨b,0,none⟩=some v0∧W.cell? ⟨b,1,none⟩=some v1∧W.cell? ⟨b,2,none⟩=some v2∧W.cell? ⟨b,3,none⟩=some v3∧W.cell? ⟨b,4,none⟩=some v4∧W.cell? ⟨b,5,none⟩=some v5∧W.cell? ⟨b,6,none⟩=some v6∧(∀o,W.frozen? ⟨b,o,none⟩=false):=
 ⟨h.c 0 _ rfl,h.c 1 _ rfl,h.c 2 _ rfl,h.c 3 _ rfl,h.c 4 _ rfl,h.c 5 _ rfl,h.c 6 _ rfl,h.f⟩
theorem j2 {W:World} {b:Nat} {v0 v1 v2 v3 v4 v5 v6 v7 v8:Value} (h:C3 W b [v0,v1,v2,v3,v4,v5,v6,v7,v8]):(∀y:A6 W,y.w.cell? ⟨b,0,none⟩=some v0)∧(∀y:A6 W,y.w.cell? ⟨b,1,none⟩=some v1)∧(∀y:A6 W,y.w.cell? ⟨b,2,none⟩=some v2)∧(∀y:A6 W,y.w.cell? ⟨b,3,none⟩=some v3)∧(∀y:A6 W,y.w.cell? ⟨b,4,none⟩=some v4)∧(∀y:A6 W,y.w.cell? ⟨b,5,none⟩=some v5)∧(∀y:A6 W,y.w.cell? ⟨b,6,none⟩=some v6)∧(∀y:A6 W,y.w.cell? ⟨b,7,none⟩=some v7)∧(∀y:A6 W,y.w.cell? ⟨b,8,none⟩=some v8)∧(∀(y:A6 W) (o:Nat),y.w.frozen? ⟨b,o,none⟩=false):=
 ⟨h.q 0 rfl,h.q 1 rfl,h.q 2 rfl,h.q 3 rfl,h.q 4 rfl,h.q 5 rfl,h.q 6 rfl,h.q 7 rfl,h.q 8 rfl,fun y o=>(h.since y).f o⟩
theorem fY {W:World} {b:Nat} {v0 v1 v2 v3 v4 v5 v6 v7 v8:Value} (h:C3 W b [v0,v1,v2,v3,v4,v5,v6,v7,v8]):W.cell? ⟨b,0,none⟩=some v0∧W.cell? ⟨b,1,none⟩=some v1∧W.cell? ⟨b,2,none⟩=some v2∧W.cell? ⟨b,3,none⟩=some v3∧W.cell? ⟨b,4,none⟩=some v4∧W.cell? ⟨b,5,none⟩=some v5∧W.cell? ⟨b,6,none⟩=some v6∧W.cell? ⟨b,7,none⟩=some v7∧W.cell? ⟨b,8,none⟩=some v8∧(∀o,W.frozen? ⟨b,o,none⟩=false):=
 ⟨h.c 0 _ rfl,h.c 1 _ rfl,h.c 2 _ rfl,h.c 3 _ rfl,h.c 4 _ rfl,h.c 5 _ rfl,h.c 6 _ rfl,h.c 7 _ rfl,h.c 8 _ rfl,h.f⟩
theorem Ac6 {W:World} {b:Nat} {v0 v1 v2 v3 v4 v5 v6 v7 v8 v9 v10 v11:Value} (h:C3 W b [v0,v1,v2,v3,v4,v5,v6,v7,v8,v9,v10,v11]):(∀y:A6 W,y.w.cell? ⟨b,0,none⟩=some v0)∧(∀y:A6 W,y.w.cell? ⟨b,1,none⟩=some v1)∧(∀y:A6 W,y.w.cell? ⟨b,2,none⟩=some v2)∧(∀y:A6 W,y.w.cell? ⟨b,3,none⟩=some v3)∧(∀y:A6 W,y.w.cell? ⟨b,4,none⟩=some v4)∧(∀y:A6 W,y.w.cell? ⟨b,5,none⟩=some v5)∧(∀y:A6 W,y.w.cell? ⟨b,6,none⟩=some v6)∧(∀y:A6 W,y.w.cell? ⟨b,7,none⟩=some v7)∧(∀y:A6 W,y.w.cell? ⟨b,8,none⟩=some v8)∧(∀y:A6 W,y.w.cell? ⟨b,9,none⟩=some v9)∧(∀y:A6 W,y.w.cell? ⟨b,10,none⟩=some v10)∧(∀y:A6 W,y.w.cell? ⟨b,11,none⟩=some v11)∧(∀(y:A6 W) (o:Nat),y.w.frozen? ⟨b,o,none⟩=false):=
 ⟨h.q 0 rfl,h.q 1 rfl,h.q 2 rfl,h.q 3 rfl,h.q 4 rfl,h.q 5 rfl,h.q 6 rfl,h.q 7 rfl,h.q 8 rfl,h.q 9 rfl,h.q 10 rfl,h.q 11 rfl,fun y o=>(h.since y).f o⟩
theorem Ac7 {W:World} {b:Nat} {v0 v1 v2 v3 v4 v5 v6 v7 v8 v9 v10 v11:Value} (h:C3 W b [v0,v1,v2,v3,v4,v5,v6,v7,v8,v9,v10,v11]):W.cell? ⟨b,0,none⟩=some v0∧W.cell? ⟨b,1,none⟩=some v1∧W.cell? ⟨b,2,none⟩=some v2∧W.cell? ⟨b,3,none⟩=some v3∧W.cell? ⟨b,4,none⟩=some v4∧W.cell? ⟨b,5,none⟩=some v5∧W.cell? ⟨b,6,none⟩=some v6∧W.cell? ⟨b,7,none⟩=some v7∧W.cell? ⟨b,8,none⟩=some v8∧W.cell? ⟨b,9,none⟩=some v9∧W.cell? ⟨b,10,none⟩=some v10∧W.cell? ⟨b,11,none⟩=some v11∧(∀o,W.frozen? ⟨b,o,none⟩=false):=
 ⟨h.c 0 _ rfl,h.c 1 _ rfl,h.c 2 _ rfl,h.c 3 _ rfl,h.c 4 _ rfl,h.c 5 _ rfl,h.c 6 _ rfl,h.c 7 _ rfl,h.c 8 _ rfl,h.c 9 _ rfl,h.c 10 _ rfl,h.c 11 _ rfl,h.f⟩
theorem P8 {W:World} {b:Nat} {v0 v1 v2 v3 v4 v5 v6 v7 v8 v9 v10 v11 v12:Value} (h:C3 W b [v0,v1,v2,v3,v4,v5,v6,v7,v8,v9,v10,v11,v12]):(∀y:A6 W,y.w.cell? ⟨b,0,none⟩=some v0)∧(∀y:A6 W,y.w.cell? ⟨b,1,none⟩=some v1)∧(∀y:A6 W,y.w.cell? ⟨b,2,none⟩=some v2)∧(∀y:A6 W,y.w.cell? ⟨b,3,none⟩=some v3)∧(∀y:A6 W,y.w.cell? ⟨b,4,none⟩=some v4)∧(∀y:A6 W,y.w.cell? ⟨b,5,none⟩=some v5)∧(∀y:A6 W,y.w.cell? ⟨b,6,none⟩=some v6)∧(∀y:A6 W,y.w.cell? ⟨b,7,none⟩=some v7)∧(∀y:A6 W,y.w.cell? ⟨b,8,none⟩=some v8)∧(∀y:A6 W,y.w.cell? ⟨b,9,none⟩=some v9)∧(∀y:A6 W,y.w.cell? ⟨b,10,none⟩=some v10)∧(∀y:A6 W,y.w.cell? ⟨b,11,none⟩=some v11)∧(∀y:A6 W,y.w.cell? ⟨b,12,none⟩=some v12)∧(∀(y:A6 W) (o:Nat),y.w.frozen? ⟨b,o,none⟩=false):=
 ⟨h.q 0 rfl,h.q 1 rfl,h.q 2 rfl,h.q 3 rfl,h.q 4 rfl,h.q 5 rfl,h.q 6 rfl,h.q 7 rfl,h.q 8 rfl,h.q 9 rfl,h.q 10 rfl,h.q 11 rfl,h.q 12 rfl,fun y o=>(h.since y).f o⟩
theorem bU {W:World} {b:Nat} {v0 v1 v2 v3 v4 v5 v6 v7 v8 v9 v10 v11 v12:Value} (h:C3 W b [v0,v1,v2,v3,v4,v5,v6,v7,v8,v9,v10,v11,v12]):W.cell? ⟨b,0,none⟩=some v0∧W.cell? ⟨b,1,none⟩=some v1∧W.cell? ⟨b,2,none⟩=some v2∧W.cell? ⟨b,3,none⟩=some v3∧W.cell? ⟨b,4,none⟩=some v4∧W.cell? ⟨b,5,none⟩=some v5∧W.cell? ⟨b,6,none⟩=some v6∧W.cell? ⟨b,7,none⟩=some v7∧W.cell? ⟨b,8,none⟩=some v8∧W.cell? ⟨b,9,none⟩=some v9∧W.cell? ⟨b,10,none⟩=some v10∧W.cell? ⟨b,11,none⟩=some v11∧W.cell? ⟨b,12,none⟩=some v12∧(∀o,W.frozen? ⟨b,o,none⟩=false):=
 ⟨h.c 0 _ rfl,h.c 1 _ rfl,h.c 2 _ rfl,h.c 3 _ rfl,h.c 4 _ rfl,h.c 5 _ rfl,h.c 6 _ rfl,h.c 7 _ rfl,h.c 8 _ rfl,h.c 9 _ rfl,h.c 10 _ rfl,h.c 11 _ rfl,h.c 12 _ rfl,h.f⟩
end
end Go.Proofs.YtmmlmhnjjfnpnaaGreat
