/- Texts that belong together. -/
import Derived.Test.YtmmlmhnjjfnpnaaGreatTpQa
import Derived.Maps.RangeRun
import Derived.Maps.OwnSet
import Derived.Maps.RangeWalk
import Derived.Laws.IdiomCopy
import Derived.Lib.Hide
set_option linter.all false
namespace Go.Proofs.YtmmlmhnjjfnpnaaGreat
section
open Go.RowKit Go.ChangeMaps
structure Y2 (P:Program) (kt:TypeId) {κ:Type} [DecidableEq κ] (ek:κ→Value) (now:Bool):Prop where
 chk:∀em w x,(Instr.checkKey em 10000 kt (ek x)).run P w= .ok () w
 eq:∀w x y,(Op.equal kt (ek x) (ek y)).run P w= .ok (decide (x=y)) w
 und:∃d,P.underlying kt=some d∧∀x y,Instr.sameNow d (ek x) (ek y)=if now then some (decide (x=y))else none
 bits:∀x,Instr.sameBits 10000 (ek x) (ek x)=true
section
variable {κ:Type}
def L6 (ek:κ→Value):List (κ×Value)→Nat→List MapEntry
 |[],_ =>[]
 |p :: l,i=>⟨ek p.1,p.2,i⟩ :: L6 ek l (i+1)
variable (ek:κ→Value)
theorem zA:∀(l:List (κ×Value)) (i:Nat),(L6 ek l i).length=l.length
 |[],_ =>rfl
 | _ :: l,i=>by simp[L6,zA l (i+1)]
theorem jX:∀(l:List (κ×Value)) (i j:Nat),(L6 ek l i)[j]? =(l[j]?).map fun p=>⟨ek p.1,p.2,i+j⟩
 |[],_,_ =>by simp[L6]
 |p :: l,i,0=>by simp[L6]
 |p :: l,i,j+1=>by
  simp only[L6,List.getElem?_cons_succ];rw[jX l (i+1) j,show i+1+j=i+(j+1) by omega]
theorem sN:∀(l m:List (κ×Value)) (i:Nat),L6 ek (l ++ m) i=L6 ek l i ++ L6 ek m (i+l.length)
 |[],m,i=>by simp[L6]
 |p :: l,m,i=>by
  simp only[List.cons_append,L6,List.length_cons];rw[sN l m (i+1),show i+1+l.length=i+(l.length+1) by omega]
def J0 (w:World) (b:Nat) (l:List (κ×Value)):Prop:=w.heap[b]? =some (.map (L6 ek l 0).toArray l.length)
end
section
variable {κ:Type} [DecidableEq κ]
def E8 (x:κ):List (κ×Value)→Nat→Option (Nat×Value)
 |[],_ =>none
 |p :: l,i=>if x=p.1 then some (i,p.2)else E8 x l (i+1)
theorem oN {x:κ}:∀(l:List (κ×Value)) (i:Nat),(∀p∈l,p.1≠x)→E8 x l i=none
 |[],_,_ =>rfl
 |p :: l,i,h=>by
  unfold E8;rw[if_neg (fun e=>h p (by simp) e.symm)];exact oN l (i+1) (fun q hq=>h q (by simp[hq]))
theorem zB {x:κ} {v:Value}:∀(l:List (κ×Value)) (i j:Nat),l[j]? =some (x,v)→(∀k p,k<j→l[k]? =some p→p.1≠x)→E8 x l i=some (i+j,v)
 |[],_,_,h,_ =>by simp at h
 |p :: l,i,0,h,_ =>by
  simp at h;subst h;unfold E8;rw[if_pos rfl];rfl
 |p :: l,i,j+1,h,hn=>by
  unfold E8;rw[if_neg (fun e=>hn 0 p (by omega) rfl e.symm),zB l (i+1) j (by simpa using h) (fun k q hk hq=>hn (k+1) q (by omega) (by simpa using hq))];congr 2;omega
variable {ek:κ→Value} {P:Program} {kt:TypeId} {now:Bool}
theorem zC (K:Y2 P kt ek now) (w:World) (x:κ):∀(l:List (κ×Value)) (i:Nat),(Instr.findAsking kt (ek x) (L6 ek l i) i).run P w= .ok (E8 x l i) w
 |[],_ =>by simp[L6,Instr.findAsking,E8]
 |p :: l,i=>by
  simp only[L6,Instr.findAsking,Sem.run_bind,K.eq,Result.andThen_ok];by_cases h:x=p.1
  ·simp[h,E8]
  ·simp only[h,decide_false,Bool.false_eq_true,if_false]
   rw[zC K w x l (i+1)];simp[E8,h]
theorem zD (K:Y2 P kt ek true) {d:TypeDesc} (hd:∀x y,Instr.sameNow d (ek x) (ek y)=some (decide (x=y))) (x:κ):∀(l:List (κ×Value)) (i:Nat),Instr.findNow d (ek x) (L6 ek l i) i=some (E8 x l i)
 |[],_ =>rfl
 |p :: l,i=>by
  simp only[L6,Instr.findNow,hd];by_cases h:x=p.1
  ·simp[h,E8]
  ·simp only[h,decide_false]
   rw[zD K hd x l (i+1)];simp[E8,h]
theorem lO (K:Y2 P kt ek now) (w:World) (x:κ) (l:List (κ×Value)):(Instr.findKey kt (ek x) (L6 ek l 0)).run P w= .ok (E8 x l 0) w:=by
 obtain⟨d,hu,hd⟩:=K.und;unfold Instr.findKey;simp only[Sem.run_bind,run_underlying hu,Result.andThen_ok]
 cases now with
 |true=>
  rw[zD K (fun x y=>by rw[hd];rfl) x l 0]
  simp
 |false=>
  cases l with
  |nil=>simp[L6,Instr.findNow,E8]
  |cons p l=>
   have:Instr.findNow d (ek x) (L6 ek (p :: l) 0) 0=none:=by simp[L6,Instr.findNow,hd]
   rw[this]
   exact zC K w x (p :: l) 0
def Q4 (x:κ) (l:List (κ×Value)) (z:Value):Value:=match E8 x l 0 with|some (_,v)=>v|none=>z
def jY (x:κ) (l:List (κ×Value)):Bool:=(E8 x l 0).isSome
theorem dS {w:World} {b:Nat} {l:List (κ×Value)} {t et:TypeId} {z:Value} (K:Y2 P kt ek now) (h:J0 ek w b l) (ht:P.underlying t=some (.map kt et)) (hz:(zeroValue et).run P w= .ok z w) (x:κ) (ok:Bool):
 (Instr.lookup t (.map (some b)) (ek x) ok).run P w= .ok (if ok then .tuple #[Q4 x l z,.bool (jY x l)]else Q4 x l z) w:=by
 unfold J0 at h;unfold Q4 jY;simp only[Instr.lookup,Sem.run_bind,run_underlying ht,Result.andThen_ok,MapKept.run_getObj_map h,Sem.run_pure,K.chk,lO K]
 cases E8 x l 0 with
 |none=>simp[hz]
 |some r=>obtain⟨i,v⟩:=r;simp
theorem oO {w:World} {b:Nat} {l:List (κ×Value)} {t et:TypeId} (K:Y2 P kt ek now) (h:J0 ek w b l) (ht:P.underlying t=some (.map kt et)) (x:κ) (v:Value) (hx:E8 x l 0=none):
 ∃w',(Instr.mapUpdate t (.map (some b)) (ek x) v).run P w= .ok () w'∧w'=setBlock w b (.map (L6 ek (l ++ [(x,v)]) 0).toArray (l ++ [(x,v)]).length):=by
 unfold J0 at h;refine⟨_,?_,rfl⟩;simp only[Instr.mapUpdate,Sem.run_bind,run_underlying ht,Result.andThen_ok,MapKept.run_getObj_map h,K.chk,lO K,hx,MapKept.run_setObj_map _ h];simp[setBlock,sN,L6]
end
def aB (w:World) (b r n:Nat) (seen:Array Nat):Prop:=w.heap[r]? =some (.mapIter (some b) n seen n)
theorem cM {w:World} {r:Nat} {o:Obj} (h:r<w.heap.size):(setBlock w r o).heap[r]? =some o:=by simp[setBlock,h]
theorem sO {w:World} {r j:Nat} {o:Obj} (h:j≠r):(setBlock w r o).heap[j]? =w.heap[j]? :=by simp[setBlock,Ne.symm h]
theorem lP (w:World) (r:Nat) (o:Obj):(setBlock w r o).heap.size=w.heap.size:=by simp[setBlock]
theorem A7.block {w0:World} (x:A7 w0) {r:Nat} (h:w0.heap.size≤r) (o:Obj):∃y:A7 w0,setBlock x.w r o=y.w:=
 ⟨⟨setBlock x.w r o,⟨x.b.os,x.b.tape,x.b.output,by rw[lP];exact x.b.size,fun b hb=>by rw[sO (by omega)];exact x.b.block b hb⟩⟩,rfl⟩
theorem A7.heap {w0:World} {b:Nat} {o:Obj} (h:w0.heap[b]? =some o) (y:A7 w0):y.w.heap[b]? =some o:=by
 rw[y.b.block b (Array.getElem?_eq_some_iff.1 h).1];exact h
end
section
open Go.RowKit Go.ChangeMaps
structure eS (n:Nat) (seen:Array Nat):Prop where
 nodup:seen.toList.Nodup
 lt:∀i∈seen,i<n
theorem AB9 (n:Nat):eS n #[]:=⟨by simp,by simp⟩
theorem eS.push {n i:Nat} {seen:Array Nat} (h:eS n seen) (hi:i<n) (hn:i∉seen):eS n (seen.push i):=by
 refine⟨?_,fun j hj=>?_⟩
 ·rw[Array.toList_push,List.nodup_append]
  refine⟨h.nodup,by simp,fun x hx y hy hxy=>?_⟩;simp at hy;subst hy;subst hxy;exact hn (by simpa using hx)
 ·rcases Array.mem_push.1 hj with hj|rfl
  ·exact h.lt j hj
  ·exact hi
theorem sP:∀(n:Nat) (l:List Nat),l.Nodup→(∀x∈l,x<n)→l.length≤n
 |0,[],_,_ =>Nat.le_refl _
 |0,x :: l,_,h=>by have:=h x (by simp);omega
 |n+1,l,hn,h=>by
  by_cases hm:n∈l
  ·have h1:=sP n (l.erase n) (hn.erase n) (fun x hx=>by
    have:=h x (List.mem_of_mem_erase hx);have hne:x≠n:=by rintro rfl;exact hn.not_mem_erase hx
    omega)
   have:=List.length_erase_of_mem hm;omega
  ·have h1:=sP n l hn (fun x hx=>by
    have:=h x hx;have hne:x≠n:=by rintro rfl;exact hm hx
    omega)
   omega
theorem eS.size {n:Nat} {seen:Array Nat} (h:eS n seen):seen.size≤n:=by
 have:=sP n seen.toList h.nodup (fun x hx=>h.lt x (by simpa using hx));simpa using this
def lQ (w:World) (r:Nat):Nat:=match w.heap[r]? with|some (.mapIter _ n seen _)=>n-seen.size| _ =>0
theorem aB.n {w:World} {b r n:Nat} {seen:Array Nat} (h:aB w b r n seen):lQ w r=n-seen.size:=by
 unfold aB at h;unfold lQ;rw[h]
theorem AC0 {w w':World} {b r n i:Nat} {seen:Array Nat} (h:aB w b r n seen) (h':aB w' b r n (seen.push i)) (hs:eS n (seen.push i)):lQ w' r<lQ w r:=by
 have:=hs.size;rw[h.n,h'.n];simp only[Array.size_push]at *;omega
theorem J0.since {κ:Type} {ek:κ→Value} {w:World} {b:Nat} {l:List (κ×Value)} (h:J0 ek w b l) (y:A7 w):J0 ek y.w b l:=A7.heap h y
theorem J0.keep {κ:Type} {ek:κ→Value} {w w':World} {b:Nat} {l:List (κ×Value)} {row:Option Nat} (h:J0 ek w b l) (hg:w.grownBy w' row) (hr:some b≠row):J0 ek w' b l:=
 (hg.block b (Array.getElem?_eq_some_iff.1 h).1 hr).trans h
theorem oP (w:World) (r:Nat) (o:Obj):w.grownBy (setBlock w r o) (some r):=
 ⟨rfl,rfl,rfl,by rw[lP];exact Nat.le_refl _,fun i _ hi=>sO (by intro e;subst e;exact hi rfl)⟩
section
variable {κ:Type} {ek:κ→Value} {P:Program} {ops:Array Oper} {rest:List Oper} {o:Oper} {a:Act} {Q:Exit→Act→World→Prop} {w0 w:World} {kt et:TypeId} {b:Nat} {l:List (κ×Value)}
end
end
section
open Go.RowKit Go.ChangeMaps
section
variable {κ:Type} [DecidableEq κ] {ek:κ→Value} {P:Program} {kt:TypeId} {now:Bool}
theorem jZ {x:κ} {v:Value}:∀(l:List (κ×Value)) (i j:Nat),E8 x l i=some (j,v)→i≤j∧l[j-i]? =some (x,v)∧∀k p,k<j-i→l[k]? =some p→p.1≠x
 |[],_,_,h=>by simp[E8]at h
 |p :: l,i,j,h=>by
  unfold E8 at h;split at h
  ·rename_i hx
   simp only[Option.some.injEq,Prod.mk.injEq]at h;obtain⟨rfl,rfl⟩:=h;exact⟨Nat.le_refl _,by simp[hx],fun k p hk=>by omega⟩
  ·rename_i hx
   obtain⟨h1,h2,h3⟩:=jZ l (i+1) j h;refine⟨by omega,by rw[show j-i=(j-(i+1))+1 by omega];simpa using h2,fun k q hk hq=>?_⟩
   cases k with
   |zero=>simp at hq;subst hq;exact fun e=>hx e.symm
   |succ k=>exact h3 k q (by omega) (by simpa using hq)
theorem zF {w:World} {b:Nat} {o:Obj} (h:w.heap[b]? =some o):setBlock w b o=w:=by
 unfold setBlock;have:w.heap.setIfInBounds b o=w.heap:=by
  apply Array.ext_getElem?;intro i;rw[Array.getElem?_setIfInBounds];split
  ·rename_i hi;subst hi
   split
   ·exact h.symm
   ·rename_i hlt;rw[Array.getElem?_eq_none (by omega)]
  ·rfl
 rw[this]
theorem zG {w:World} {b i:Nat} {l:List (κ×Value)} {t et:TypeId} {v:Value} (K:Y2 P kt ek now) (h:J0 ek w b l) (ht:P.underlying t=some (.map kt et)) (x:κ) (hx:E8 x l 0=some (i,v)):
 (Instr.mapEntry t (.map (some b)) (ek x)).run P w= .ok (.tuple #[v,.int .i64 i]) w:=by
 obtain⟨-,hl,-⟩:=jZ l 0 i hx;rw[Nat.sub_zero]at hl;have h':=h;unfold J0 at h;have he:(L6 ek l 0).toArray[i]? =some ⟨ek x,v,i⟩:=by simp[jX,hl]
 have hm:((L6 ek l 0).toArray.modify i fun e=>{e with key:=ek x})=(L6 ek l 0).toArray:=by
  apply Array.ext_getElem?;intro j;rw[Array.getElem?_modify];split
  ·rename_i hj;subst hj;rw[he];rfl
  ·rfl
 have hs:(Instr.keyThatStays (ek x) (ek x)).run P w= .ok (ek x) w:=by
  unfold Instr.keyThatStays;rw[K.bits x];rfl
 simp only[Instr.mapEntry,Sem.run_bind,run_underlying ht,Result.andThen_ok,MapKept.run_getObj_map h,K.chk,lO K,hx,he,Option.map_some,Option.getD_some,hs,MapKept.run_setObj_map _ h,hm];have:{w with heap:=w.heap.setIfInBounds b (.map (L6 ek l 0).toArray l.length)}=w:=zF h';rw[this];rfl
theorem zH {w:World} {b:Nat} {l:List (κ×Value)} {t et:TypeId} {z:Value} (K:Y2 P kt ek now) (h:J0 ek w b l) (ht:P.underlying t=some (.map kt et)) (hz:∀w,(zeroValue et).run P w= .ok z w) (x:κ) (hx:E8 x l 0=none):
 (Instr.mapEntry t (.map (some b)) (ek x)).run P w= .ok (.tuple #[z,.int .i64 l.length]) (setBlock w b (.map (L6 ek (l ++ [(x,z)]) 0).toArray (l ++ [(x,z)]).length)):=by
 unfold J0 at h;simp only[Instr.mapEntry,Sem.run_bind,run_underlying ht,Result.andThen_ok,MapKept.run_getObj_map h,K.chk,lO K,hx,hz,MapKept.run_setObj_map _ h];simp[setBlock,sN,L6,goInt]
theorem AC1 {κ':Type} {ek':κ'→Value} {l:List (κ'×Value)} {i:Nat} (hi:i<l.length):(L6 ek' l 0).toArray.findIdx? (fun e=>(e.born:Int) == (i:Int))=some i:=by
 rw[Array.findIdx?_eq_some_iff_getElem];refine⟨by simp[zA,hi],?_,fun j hj=>?_⟩
 ·have:=jX ek' l 0 i
  rw[A4 hi]at this;have h2:=(A5 this).2;simp only[List.getElem_toArray];rw[h2];simp
 ·have:=jX ek' l 0 j
  rw[A4 (show j<l.length by omega)]at this;have h2:=(A5 this).2;simp only[List.getElem_toArray];rw[h2];simp only[Nat.zero_add,beq_iff_eq];omega
theorem AC2 {κ':Type} {ek':κ'→Value} (l:List (κ'×Value)) (i:Nat) (x:κ') (v0 v:Value) (hi:l[i]? =some (x,v0)):(L6 ek' l 0).toArray.modify i (fun e=>{e with val:=v})=(L6 ek' (l.set i (x,v)) 0).toArray:=by
 apply Array.ext_getElem?;intro j;rw[Array.getElem?_modify];simp only[List.getElem?_toArray,jX,List.getElem?_set];have hlt:=(A5 hi).1;by_cases hj:i=j
 ·subst hj
  have h9:=(A5 hi).2;simp[hlt,h9]
 ·rw[if_neg hj,if_neg hj]
theorem oQ {κ':Type} {ek':κ'→Value} {w:World} {b i:Nat} {l:List (κ'×Value)} {t:TypeId} {x:κ'} {v0:Value} (h:J0 ek' w b l) (hi:l[i]? =some (x,v0)) (v:Value):
 (Instr.entryStore t (.map (some b)) (.int .i64 (i:Int)) v).run P w= .ok () (setBlock w b (.map (L6 ek' (l.set i (x,v)) 0).toArray (l.set i (x,v)).length)):=by
 unfold J0 at h;have hlt:=(A5 hi).1;simp only[Instr.entryStore,Sem.run_bind,MapKept.run_getObj_map h,Result.andThen_ok,asInt,asIntOf];simp only[Sem.run_pure,Result.andThen_ok,AC1 (ek':=ek') hlt,MapKept.run_setObj_map _ h,AC2 l i x v0 v hi,List.length_set];rfl
def cN (x:κ) (v:Value) (l:List (κ×Value)):List (κ×Value):=match E8 x l 0 with|some (i,_)=>l.set i (x,v)|none=>l ++ [(x,v)]
theorem lR {x:κ}:∀(l m:List (κ×Value)) (i:Nat),E8 x l i=none→E8 x (l ++ m) i=E8 x m (i+l.length)
 |[],m,i,_ =>by simp
 |p :: l,m,i,h=>by
  unfold E8 at h;split at h
  ·cases h
  ·rename_i hx
   simp only[List.cons_append,E8,if_neg hx,List.length_cons];rw[lR l m (i+1) h,show i+1+l.length=i+(l.length+1) by omega]
theorem zI {x:κ} {r:Nat×Value}:∀(l m:List (κ×Value)) (i:Nat),E8 x l i=some r→E8 x (l ++ m) i=some r
 |[],_,_,h=>by simp[E8]at h
 |p :: l,m,i,h=>by
  simp only[List.cons_append];unfold E8 at h⊢;split at h
  ·rename_i hx;rw[if_pos hx];exact h
  ·rename_i hx;rw[if_neg hx];exact zI l m (i+1) h
theorem zJ {x y:κ} {v z v0:Value}:∀(l:List (κ×Value)) (i j:Nat),l[i]? =some (x,v0)→(∀k p,k<i→l[k]? =some p→p.1≠x)→((E8 y (l.set i (x,v)) j).map (·.2)).getD z=if y=x then v else((E8 y l j).map (·.2)).getD z
 |[],_,_,h,_ =>by simp at h
 |p :: l,0,j,h,_ =>by
  simp at h;subst h;simp only[List.set_cons_zero];unfold E8;split<;>simp
 |p :: l,i+1,j,h,hn=>by
  simp only[List.set_cons_succ];unfold E8;by_cases hy:y=p.1
  ·have hp:p.1≠x:=hn 0 p (by omega) rfl
   rw[if_pos hy,if_pos hy,if_neg (fun e=>hp (hy ▸ e))]
  ·rw[if_neg hy,if_neg hy]
   exact zJ l i (j+1) (by simpa using h) (fun k q hk hq=>hn (k+1) q (by omega) (by simpa using hq))
theorem gM (x:κ) (l:List (κ×Value)) (z:Value):Q4 x l z=((E8 x l 0).map (·.2)).getD z:=by
 unfold Q4;cases E8 x l 0 with
 |none=>rfl
 |some r=>rfl
theorem sQ (x y:κ) (v z:Value) (l:List (κ×Value)):Q4 y (cN x v l) z=if y=x then v else Q4 y l z:=by
 unfold cN
 cases hx:E8 x l 0 with
 |some r=>
  obtain⟨i,v0⟩:=r
  obtain⟨-,h1,h2⟩:=jZ l 0 i hx
  rw[Nat.sub_zero]at h1 h2
  simp only[gM]
  exact zJ l i 0 h1 h2
 |none=>
  simp only[gM]
  by_cases hy:y=x
  ·subst hy
   rw[lR l _ 0 hx,if_pos rfl];simp[E8]
  ·rw[if_neg hy]
   cases hl:E8 y l 0 with
   |some r=>rw[zI l _ 0 hl]
   |none=>rw[lR l _ 0 hl];simp[E8,hy]
end
end
section
open Go.RowKit Go.ChangeMaps
section
variable {κ:Type}
def U8 (ek:κ→Value) (l:List (Nat×κ×Value)):List MapEntry:=l.map fun p=>⟨ek p.2.1,p.2.2,p.1⟩
structure bA (l:List (Nat×κ×Value)) (n:Nat):Prop where
 nodup:(l.map (·.1)).Nodup
 lt:∀p∈l,p.1<n
def P0 (ek:κ→Value) (w:World) (b:Nat) (l:List (Nat×κ×Value)) (n:Nat):Prop:=w.heap[b]? =some (.map (U8 ek l).toArray n)
def P1 (l:List (Nat×κ×Value)):List (κ×Value):=l.map (·.2)
theorem AC3 (n:Nat):bA ([]:List (Nat×κ×Value)) n:=⟨by simp,by simp⟩
theorem bA.snoc {l:List (Nat×κ×Value)} {n:Nat} (h:bA l n) (x:κ) (v:Value):bA (l ++ [(n,x,v)]) (n+1):=by
 refine⟨?_,fun p hp=>?_⟩
 ·rw[List.map_append,List.nodup_append]
  refine⟨h.nodup,by simp,fun a ha b hb hab=>?_⟩;simp at hb;subst hb;subst hab;obtain⟨p,hp,e⟩:=List.mem_map.1 ha;have:=h.lt p hp;omega
 ·rcases List.mem_append.1 hp with hp|hp
  ·have:=h.lt p hp;omega
  ·simp at hp;subst hp;exact Nat.lt_succ_self _
theorem bA.erase {l:List (Nat×κ×Value)} {n:Nat} (h:bA l n) (i:Nat):bA (l.eraseIdx i) n:=
 ⟨(List.Sublist.map _ (List.eraseIdx_sublist l i)).nodup h.nodup,fun p hp=>h.lt p (List.mem_of_mem_eraseIdx hp)⟩
end
section
variable {κ:Type} [DecidableEq κ] {ek:κ→Value} {P:Program} {kt:TypeId} {now:Bool}
theorem zK (K:Y2 P kt ek now) (w:World) (x:κ):∀(l:List (Nat×κ×Value)) (i:Nat),(Instr.findAsking kt (ek x) (U8 ek l) i).run P w= .ok (E8 x (P1 l) i) w
 |[],_ =>by simp[U8,P1,Instr.findAsking,E8]
 |p :: l,i=>by
  have ih:=zK K w x l (i+1);simp only[U8,P1,List.map_cons,Instr.findAsking,Sem.run_bind,K.eq,Result.andThen_ok]at ih⊢;by_cases h:x=p.2.1
  ·simp[h,E8]
  ·simp only[h,decide_false,Bool.false_eq_true,if_false]
   rw[ih];simp[E8,h]
theorem zL (K:Y2 P kt ek true) {d:TypeDesc} (hd:∀x y,Instr.sameNow d (ek x) (ek y)=some (decide (x=y))) (x:κ):∀(l:List (Nat×κ×Value)) (i:Nat),Instr.findNow d (ek x) (U8 ek l) i=some (E8 x (P1 l) i)
 |[],_ =>rfl
 |p :: l,i=>by
  have ih:=zL K hd x l (i+1);simp only[U8,P1,List.map_cons,Instr.findNow,hd]at ih⊢;by_cases h:x=p.2.1
  ·simp[h,E8]
  ·simp only[h,decide_false]
   rw[ih];simp[E8,h]
theorem sR (K:Y2 P kt ek now) (w:World) (x:κ) (l:List (Nat×κ×Value)):(Instr.findKey kt (ek x) (U8 ek l)).run P w= .ok (E8 x (P1 l) 0) w:=by
 obtain⟨d,hu,hd⟩:=K.und;unfold Instr.findKey;simp only[Sem.run_bind,run_underlying hu,Result.andThen_ok]
 cases now with
 |true=>
  rw[zL K (fun x y=>by rw[hd];rfl) x l 0]
  simp
 |false=>
  cases l with
  |nil=>simp[U8,P1,Instr.findNow,E8]
  |cons p l=>
   have:Instr.findNow d (ek x) (U8 ek (p :: l)) 0=none:=by simp[U8,Instr.findNow,hd]
   rw[this]
   exact zK K w x (p :: l) 0
theorem sS {w:World} {b n:Nat} {l:List (Nat×κ×Value)} {t et:TypeId} {z:Value} (K:Y2 P kt ek now) (h:P0 ek w b l n) (ht:P.underlying t=some (.map kt et)) (hz:(zeroValue et).run P w= .ok z w) (x:κ) (ok:Bool):
 (Instr.lookup t (.map (some b)) (ek x) ok).run P w= .ok (if ok then .tuple #[Q4 x (P1 l) z,.bool (jY x (P1 l))]else Q4 x (P1 l) z) w:=by
 unfold P0 at h;unfold Q4 jY;simp only[Instr.lookup,Sem.run_bind,run_underlying ht,Result.andThen_ok,MapKept.run_getObj_map h,Sem.run_pure,K.chk,sR K]
 cases E8 x (P1 l) 0 with
 |none=>simp[hz]
 |some r=>obtain⟨i,v⟩:=r;simp
theorem AC4 {w:World} {b n:Nat} {l:List (Nat×κ×Value)} {t et:TypeId} (K:Y2 P kt ek now) (h:P0 ek w b l n) (ht:P.underlying t=some (.map kt et)) (x:κ) (v:Value) (hx:E8 x (P1 l) 0=none):
 (Instr.mapUpdate t (.map (some b)) (ek x) v).run P w= .ok () (setBlock w b (.map (U8 ek (l ++ [(n,x,v)])).toArray (n+1))):=by
 unfold P0 at h;simp only[Instr.mapUpdate,Sem.run_bind,run_underlying ht,Result.andThen_ok,MapKept.run_getObj_map h,K.chk,sR K,hx,MapKept.run_setObj_map _ h];simp[setBlock,U8]
def gN (x:κ) (l:List (Nat×κ×Value)):List (Nat×κ×Value):=match E8 x (P1 l) 0 with|some (i,_)=>l.eraseIdx i|none=>l
theorem bA.del {l:List (Nat×κ×Value)} {n:Nat} (h:bA l n) (x:κ):bA (gN x l) n:=by
 unfold gN;split
 ·exact h.erase _
 ·exact h
theorem zM {α β:Type} (f:α→β):∀(l:List α) (i:Nat),(l.map f).eraseIdx i=(l.eraseIdx i).map f
 |[],_ =>rfl
 | _ :: _,0=>rfl
 |a :: l,i+1=>by simp[zM f l i]
theorem AC5 {α:Type} (l:List α) (i:Nat):l.toArray.eraseIdxIfInBounds i=(l.eraseIdx i).toArray:=by
 unfold Array.eraseIdxIfInBounds;split
 ·simp
 ·rename_i h
  simp at h;rw[List.eraseIdx_of_length_le h]
theorem AC6 {w:World} {b n:Nat} {l:List (Nat×κ×Value)} {t et:TypeId} (K:Y2 P kt ek now) (h:P0 ek w b l n) (ht:P.underlying t=some (.map kt et)) (x:κ) (k' ty:TypeId):
 (Builtin.delete_ #[t,k'] ty #[.map (some b),ek x]).run P w= .ok (.tuple #[]) (setBlock w b (.map (U8 ek (gN x l)).toArray n)):=by
 unfold P0 at h;unfold gN;simp only[Builtin.delete_,Sem.run_bind,run_underlying ht,Result.andThen_ok,MapKept.run_getObj_map h,K.chk,sR K,List.getElem?_toArray,List.getElem?_cons_zero,List.getElem?_cons_succ]
 cases hl:E8 x (P1 l) 0 with
 |none=>simp[MapKept.run_setObj_map _ h,setBlock,Result.andThen]
 |some r=>
  obtain⟨i,v⟩:=r
  simp only[MapKept.run_setObj_map _ h,AC5,Result.andThen_ok,Sem.run_bind]
  simp[setBlock,U8,zM,Result.andThen]
omit [DecidableEq κ]in
theorem AC7 {w:World} {b r n:Nat} {l:List (Nat×κ×Value)} {seen:Array Nat} (ty:TypeId) (h:P0 ek w b l n) (hb:bA l n) (hr:aB w b r n seen):
 ((∀p∈l,p.1∈seen)∧(Instr.next (.pointer (some ⟨r,0,none⟩)) false ty).run P w= .ok (.tuple #[.bool false]) w)∨
 ∃(i:Nat) (x:κ) (v:Value) (w1:World),(i,x,v)∈l∧i∉seen∧(w1=w∨w1=w.drew)∧
  (Instr.next (.pointer (some ⟨r,0,none⟩)) false ty).run P w= .ok (.tuple #[.bool true,ek x,v]) (setBlock w1 r (.mapIter (some b) n (seen.push i) n)):=by
 have hborn:∀x∈(U8 ek l).toArray.toList,x.born<n:=fun x hx=>by
  simp only[U8,List.mem_map]at hx;obtain⟨p,hp,rfl⟩:=hx;exact hb.lt p hp
 rcases run_next_at (P:=P) w ty r b n n seen _ n hr h hborn (Nat.le_refl _)with⟨h0,hrun⟩|⟨e,he,w1,hw1,hrun⟩
 ·refine .inl ⟨fun p hp=>?_,hrun⟩
  cases hc:seen.contains p.1 with
  |true=>exact Array.contains_iff_mem.1 hc
  |false=>
   exfalso
   have hmem:(⟨ek p.2.1,p.2.2,p.1⟩:MapEntry)∈(U8 ek l).toArray:=by
    simp only[List.mem_toArray,U8,List.mem_map];exact⟨p,hp,rfl⟩
   have:(⟨ek p.2.1,p.2.2,p.1⟩:MapEntry)∈leftOf (U8 ek l).toArray seen:=by
    unfold leftOf;rw[Array.mem_filter];exact⟨hmem,by show(!seen.contains p.1)=true;rw[hc];rfl⟩
   have hs:leftOf (U8 ek l).toArray seen=#[]:=Array.eq_empty_of_size_eq_zero h0
   rw[hs]at this
   simp at this
 ·unfold leftOf at he
  have he':e∈Array.filter (fun e=>!seen.contains e.born) (U8 ek l).toArray:=by simpa using he
  rw[Array.mem_filter]at he';obtain⟨hm,hs⟩:=he';simp only[List.mem_toArray,U8,List.mem_map]at hm;obtain⟨p,hp,rfl⟩:=hm;refine .inr ⟨p.1,p.2.1,p.2.2,w1,hp,fun hin=>?_,hw1,hrun⟩;have:seen.contains p.1=true:=Array.contains_iff_mem.2 hin;simp only[this]at hs
  cases hs
omit [DecidableEq κ]in
theorem AC8 {w:World} {b r i n:Nat} {l:List (Nat×κ×Value)} {seen:Array Nat} {x:κ} {v:Value} (h:P0 ek w b l n) (hb:bA l n) (hr:aB w b r n (seen.push i)) (hi:(i,x,v)∈l):
 (Instr.entry (.pointer (some ⟨r,0,none⟩))).run P w= .ok (.tuple #[ek x,v]) w:=by
 have he:(⟨ek x,v,i⟩:MapEntry)∈(U8 ek l).toArray.toList:=by
  simp only[U8,List.mem_map];exact⟨_,hi,rfl⟩
 exact run_entry_at (P:=P) w r b n seen (U8 ek l).toArray n ⟨ek x,v,i⟩ hr h he (by
  have:(U8 ek l).toArray.toList.map (·.born)=l.map (·.1):=by simp[U8,Function.comp_def]
  rw[this];exact hb.nodup)
end
theorem P0.to {κ:Type} {ek:κ→Value} {w W:World} {b n:Nat} {l:List (Nat×κ×Value)} (h:P0 ek w b l n) (hW:∃z:A7 w,W=z.w):P0 ek W b l n:=by
 obtain⟨z,rfl⟩:=hW;exact A7.heap h z
theorem P0.since {κ:Type} {ek:κ→Value} {w:World} {b n:Nat} {l:List (Nat×κ×Value)} (h:P0 ek w b l n) (y:A7 w):P0 ek y.w b l n:=A7.heap h y
theorem P0.keep {κ:Type} {ek:κ→Value} {w w':World} {b n:Nat} {l:List (Nat×κ×Value)} {row:Option Nat} (h:P0 ek w b l n) (hg:w.grownBy w' row) (hr:some b≠row):P0 ek w' b l n:=
 (hg.block b (Array.getElem?_eq_some_iff.1 h).1 hr).trans h
section
variable {κ:Type} {ek:κ→Value} {P:Program} {ops:Array Oper} {rest:List Oper} {o:Oper} {a:Act} {Q:Exit→Act→World→Prop} {w0 w:World} {kt et:TypeId} {b n:Nat} {l:List (Nat×κ×Value)}
theorem AC9 (hw:∃y:A7 w0,w=y.w) (hg:o.guard=none) (m:Operand) (t:TypeId) (hop:o.op=Op.range t m) (ht:P.underlying t=some (.map kt et)) (hm:a.eval m= .map (some b)) (h:P0 ek w b l n)
 (hK:∀(q:A7 w0) (r:Nat),P0 ek q.w b l n→aB q.w b r n #[]→w0.heap.size≤r→w.heap.size=r→w.grownBy q.w none→wpList P ops Q rest (a.put o.dst (.pointer (some ⟨r,0,none⟩))) q.w):
 wpList P ops Q (o :: rest) a w:=by
 obtain⟨y,rfl⟩:=hw;refine wpList_plain hg fun K' hK'=>?_;have hrun:(Instr.range t (.map (some b))).run P y.w= .ok (.pointer (some ⟨y.w.heap.size,0,none⟩)) (y.w.alloc (.mapIter (some b) n #[] n)):=by
  simp[Instr.range,Sem.run_bind,run_underlying ht,MapKept.run_getObj_map h,Result.andThen,go_sem]
 unfold Oper.wp;simp only[execOp,hop,hm,Sem.run_bind,hrun,Result.andThen];obtain⟨q,hq⟩:=y.alloc (.mapIter (some b) n #[] n);have hgr:y.w.grownBy (y.w.alloc (.mapIter (some b) n #[] n)) none:=World.grownBy_alloc y.w _ none;have hit:aB (y.w.alloc (.mapIter (some b) n #[] n)) b y.w.heap.size n #[]:=by unfold aB;exact heap_alloc_new _ _
 rw[hq]at hgr hit⊢;exact hK' _ _ (hK q _ (h.keep hgr (by simp)) hit y.b.size rfl hgr)
theorem AD0 (hw:∃y:A7 w0,w=y.w) (hg:o.guard=none) (it:Operand) (hop:o.op=Op.next it false) {r:Nat} (hr0:w0.heap.size≤r) (hit:a.eval it= .pointer (some ⟨r,0,none⟩)) {seen:Array Nat} (h:P0 ek w b l n) (hb:bA l n) (hr:aB w b r n seen) (hs:eS n seen)
 (hDone:(∀p∈l,p.1∈seen)→wpList P ops Q rest (a.put o.dst (.tuple #[.bool false])) w)
 (hMore:∀(i:Nat) (x:κ) (v:Value) (q:A7 w0),(i,x,v)∈l→i∉seen→P0 ek q.w b l n→aB q.w b r n (seen.push i)→eS n (seen.push i)→w.grownBy q.w (some r)→(Instr.entry (.pointer (some ⟨r,0,none⟩))).run P q.w= .ok (.tuple #[ek x,v]) q.w→wpList P ops Q rest (a.put o.dst (.tuple #[.bool true,ek x,v])) q.w):
 wpList P ops Q (o :: rest) a w:=by
 obtain⟨y,rfl⟩:=hw;refine wpList_plain hg fun K' hK'=>?_;unfold Oper.wp;rcases AC7 (P:=P) o.type h hb hr with⟨hall,hrun⟩|⟨i,x,v,w1,hi,hn,hw1,hrun⟩
 ·simp only[execOp,hop,hit,Sem.run_bind,hrun,Result.andThen]
  exact hK' _ _ (hDone hall)
 ·simp only[execOp,hop,hit,Sem.run_bind,hrun,Result.andThen]
  have hne:b≠r:=by
   rintro rfl;unfold P0 at h;unfold aB at hr;rw[h]at hr;cases hr
  have hrl:r<y.w.heap.size:=(Array.getElem?_eq_some_iff.1 hr).1;have hg1:y.w.grownBy w1 (some r):=by
   rcases hw1 with rfl|rfl
   ·exact World.grownBy.refl _ _
   ·exact⟨rfl,rfl,rfl,Nat.le_refl _,fun _ _ _ =>rfl⟩
  have By4:r<w1.heap.size:=Nat.lt_of_lt_of_le hrl hg1.size;have hgr:y.w.grownBy (setBlock w1 r (.mapIter (some b) n (seen.push i) n)) (some r):=by
   have h2:=oP w1 r (.mapIter (some b) n (seen.push i) n);exact⟨h2.os.trans hg1.os,h2.tape.trans hg1.tape,h2.output.trans hg1.output,Nat.le_trans hg1.size h2.size,fun j hj hjr=>(h2.block j (Nat.lt_of_lt_of_le hj hg1.size) hjr).trans (hg1.block j hj hjr)⟩
  have hit2:aB (setBlock w1 r (.mapIter (some b) n (seen.push i) n)) b r n (seen.push i):=by unfold aB;exact cM By4
  have hm2:P0 ek (setBlock w1 r (.mapIter (some b) n (seen.push i) n)) b l n:=h.keep hgr (by simpa using hne);obtain⟨q,hq⟩:=y.grown hgr (fun k hk=>by cases hk;exact hr0);rw[hq]at hgr hit2 hm2⊢;exact hK' _ _ (hMore i x v q hi hn hm2 hit2 (hs.push (hb.lt _ hi) hn) hgr (AC8 hm2 hb hit2 hi))
end
end
section
open Go.RowKit
section
variable {P:Program} {ops:Array Oper} {md:Region.Mode} {C:World→Prop}
def lS (P:Program) (md:Region.Mode) (ops:Array Oper) (C:World→Prop) (n:Nat) (L:Array Bool→Act→Prop):Nat→Array Bool→Act→Prop
 |0,listed,a=>L listed a
 |f+1,listed,a=>Region.ready md ops listed≠[]∧∀i∈Region.ready md ops listed,i<n∧qOp P ops C i (lS P md ops C n L f (listed.setIfInBounds i true)) a
theorem zN {n g:Nat} {L:Array Bool→Act→Prop} {Q':Exit→Act→World→Prop} (hL:∀listed a w,C w→L listed a→wpAny P md ops Q' g listed a w):
 ∀(f:Nat) (listed:Array Bool) (a:Act) (w:World),C w→lS P md ops C n L f listed a→wpAny P md ops Q' (f+g) listed a w
 |0,listed,a,w,hw,h=>by rw[Nat.zero_add];exact hL _ _ _ hw h
 |f+1,listed,a,w,hw,h=>by
  rw[show f+1+g=(f+g)+1 by omega];exact⟨fun h0=>absurd h0 h.1,fun i hi=>wpOp_of_qOp hw (fun a' w' hw' h'=>zN hL f _ a' w' hw' h') (h.2 i hi).2⟩
def lT (md:Region.Mode) (ops:Array Oper) (hd:List Nat) (n:Nat):Bool:=
 hd.all fun i=>decide (i<n) && (List.range (n+1)).any fun j=>decide (i<j) && Region.waitsFor md ops j i && (j == n || hd.contains j)
theorem zO {n:Nat} {hd:List Nat} {listed:Array Bool} (hs:lT md ops hd n=true) (hc:Region.chainB md ops n=true) (hn:n<ops.size) (inv:HeadInv md ops n listed):
 ∀(d i:Nat),n-i=d→i∈hd→i<n→listed.getD i true=false→∀t,n≤t→t∉Region.ready md ops listed:=by
 intro d;induction d using Nat.strongRecOn with
 | _ d ih=>
  intro i hd' him hi hun t ht hr
  obtain⟨_,ot,hot,hall⟩:=mem_ready.1 hr
  have htlt:t<ops.size:=(Array.getElem?_eq_some_iff.1 hot).1
  have h1:=List.all_eq_true.1 hs i him
  simp only[Bool.and_eq_true,decide_eq_true_eq]at h1
  obtain⟨j,hj,hj2⟩:=List.any_eq_true.1 h1.2
  simp only[Bool.and_eq_true,decide_eq_true_eq,Bool.or_eq_true,beq_iff_eq]at hj2
  obtain⟨⟨hij,By8⟩,hcase⟩:=hj2
  obtain⟨oj,hoj,e,he,hb,hon⟩:=Region.waitsFor_spec By8
  have hjle:j≤n:=by have:=List.mem_range.1 hj;omega
  have By7:listed.getD j false=true→False:=fun hl=>by
   have h2:=inv.closed j oj hoj hl e he hb;rw[hon,getD_both hun]at h2
   cases h2
  by_cases htn:t=n
  ·subst htn
   by_cases hjt:j=t
   ·subst hjt
    have:oj=ot:=Option.some.inj (hoj.symm.trans hot);subst this;have h2:=hall e he hb;rw[hon,getD_both hun]at h2
    cases h2
   ·have hjh:j∈hd:=by
     rcases hcase with h|h
     ·exact(hjt h).elim
     ·simpa using h
    have hjs:j<listed.size:=by rw[inv.size];omega
    have hju:listed.getD j false=false:=by
     cases h:listed.getD j false with
     |true=>exact(By7 h).elim
     |false=>rfl
    exact ih (t-j) (by omega) j rfl hjh (by omega) (getD_in hjs hju) t (Nat.le_refl _) hr
  ·have h1:=List.all_eq_true.1 hc t (List.mem_range.2 htlt)
   simp only[Bool.or_eq_true,decide_eq_true_eq]at h1;rcases h1 with h1|h1
   ·omega
   ·obtain⟨o',ho',e',he',hb',hon'⟩:=Region.waitsFor_spec h1
    have:o'=ot:=Option.some.inj (ho'.symm.trans hot);subst this;have h2:=hall e' he' hb';rw[hon',getD_both (inv.tail (t-1) (by omega) (by omega))]at h2
    cases h2
theorem AD1 {n i:Nat} {hd:List Nat} {oi:Oper} {v:Value} {L:Array Bool→Act→Prop} (hi:ops[i]? =some oi) (hsel:∀(j:Nat) (o:Oper) cs b,ops[j]? =some o→o.op≠.select cs b)
 (hs:lT md ops hd n=true) (hc:Region.chainB md ops n=true) (hn:n<ops.size) (him:i∈hd) (hin:i<n)
 (hdone:∀listed a,L listed a→∀j∈Region.ready md ops listed,n≤j):
 ∀(f:Nat) (listed:Array Bool) (a:Act),HeadInv md ops n listed→
  (∀j oj,ops[j]? =some oj→j≠i→listed.getD j true=false→(∀e∈oj.after,Region.binds md e=true→e.on≠i)→oi.apart ops oj=true)→
  i∈Region.ready md ops listed→YieldsIn P ops C oi v a→
  lS P md ops C n L f (listed.setIfInBounds i true) (a.put oi.dst v)→lS P md ops C n L (f+1) listed a:=by
 intro f;induction f with
 |zero=>
  intro listed a inv _ hr hy H
  have hun:=(mem_ready.1 hr).1
  refine⟨fun h=>(by rw[h]at hr;cases hr),fun j hj=>?_⟩
  have hjn:j<n:=by
   rcases Nat.lt_or_ge j n with h|h
   ·exact h
   ·exact absurd hj (zO hs hc hn inv _ i rfl him hin hun j h)
  refine⟨hjn,?_⟩
  by_cases hji:j=i
  ·subst hji;exact hy.qOp hi H
  ·have:=hdone _ _ H j (ready_mono hj hji)
   omega
 |succ f ih=>
  intro listed a inv hfree hr hy H
  have hun:=(mem_ready.1 hr).1
  refine⟨fun h=>(by rw[h]at hr;cases hr),fun j hj=>?_⟩
  have hjn:j<n:=by
   rcases Nat.lt_or_ge j n with h|h
   ·exact h
   ·exact absurd hj (zO hs hc hn inv _ i rfl him hin hun j h)
  refine⟨hjn,?_⟩
  by_cases hji:j=i
  ·subst hji;exact hy.qOp hi H
  ·have h1:=(H.2 j (ready_mono hj hji)).2
   obtain⟨hjun,oj,hoj,hall⟩:=mem_ready.1 hj;have hnot:∀e∈oj.after,Region.binds md e=true→e.on≠i:=fun e he hb heq=>by
    have h1:=hall e he hb;rw[heq,getD_both hun]at h1
    cases h1
   have h2:=qOp_put hoj (hfree j oj hoj hji hjun hnot) (fun cs b=>hsel i oi cs b hi) (fun cs b=>hsel j oj cs b hoj) hy h1;have hfree':∀k ok,ops[k]? =some ok→k≠i→(listed.setIfInBounds j true).getD k true=false→
    (∀e∈ok.after,Region.binds md e=true→e.on≠i)→oi.apart ops ok=true:=fun k ok hk hki hun hno=>by
    refine hfree k ok hk hki ?_ hno;by_cases hjk:j=k
    ·subst hjk;exact hjun
    ·rw[getD_set_ne true hjk]at hun;exact hun
   refine qOp_mono (fun a' h3=>ih (listed.setIfInBounds j true) a' (inv.set hj hjn) hfree' (ready_mono hr (Ne.symm hji)) h3.1 ?_) h2;rw[Array.setIfInBounds_comm _ _ hji];exact h3.2
def lU (md:Region.Mode) (ops:Array Oper) (g n:Nat):List Nat→Array Bool→Bool
 |[],listed=>Region.seqB md ops g n listed
 |k :: ks,listed=>(ops[k]?).isSome && decide (k<n) && (Region.ready md ops listed).contains k && Region.free md ops listed k && lU md ops g n ks (listed.setIfInBounds k true)
theorem zP {n g:Nat} {hd:List Nat} {Lq:Act→Prop} (hsel:Region.noSelect ops=true) (hs:lT md ops hd n=true) (hc:Region.chainB md ops n=true) (hn:n<ops.size):
 ∀(ks:List Nat) (listed:Array Bool) (a:Act),(∀k∈ks,k∈hd)→HeadInv md ops n listed→
 lU md ops g n ks listed=true→wpQuiet P ops C Lq (ks.filterMap fun k=>ops[k]?) a→
 lS P md ops C n (fun listed' a'=>Region.seqB md ops g n listed'=true∧Lq a') ks.length listed a
 |[],listed,a,_,_,hB,h=>⟨by simpa[lU]using hB,h⟩
 |k :: ks,listed,a,hm,inv,hB,h=>by
  simp only[lU,Bool.and_eq_true,decide_eq_true_eq]at hB;obtain⟨⟨⟨⟨ho,hkn⟩,hr⟩,hf⟩,hB'⟩:=hB;obtain⟨o,h0⟩:=Option.isSome_iff_exists.1 ho;have hr':k∈Region.ready md ops listed:=by simpa using hr
  have hst:qOp P ops C k (wpQuiet P ops C Lq (ks.filterMap fun k=>ops[k]?)) a:=by
   unfold qOp;simp only[h0];simp only[List.filterMap_cons,h0]at h;exact h
  obtain⟨v,hy,hK⟩:=yieldsIn_of_qOp h0 hst;exact AD1 h0 (Region.noSelect_spec hsel) hs hc hn (hm k (by simp)) hkn (fun listed' a' hL=>seqB_ready hL.1) ks.length listed a inv (Region.free_spec h0 hf) hr' hy
   (zP hsel hs hc hn ks _ _ (fun k hk=>hm k (by simp[hk])) (inv.set hr' hkn) hB' hK)
def sU (o:Oper):Bool:=match o.op,o.guard,o.dst with| .move _,none,some _ =>true| _,_,_ =>false
theorem AD2 {o:Oper} (h:sU o=true) (a:Act):∃x d,o.op= .move x∧o.guard=none∧o.dst=some d∧Yields P ops o (a.eval x) a:=by
 unfold sU at h;split at h
 ·rename_i x d hx hg hd
  exact⟨x,d,hx,hg,hd,.inl ⟨by simp[Region.wanted,hg],fun w=>by rw[BigFrame.run_move x hx]⟩⟩
 ·cases h
def oR (md:Region.Mode) (ops:Array Oper) (g n:Nat) (hd:List Nat):List Nat→Array Bool→Bool
 |[],listed=>lU md ops g n hd listed
 |k :: ks,listed=>(match ops[k]? with|some o=>sU o|none=>false) && decide (k<n) && (Region.ready md ops listed).contains k && Region.free md ops listed k && oR md ops g n hd ks (listed.setIfInBounds k true)
theorem zQ {n:Nat} {hd:List Nat} {Q:Exit→Act→World→Prop} {tl:List Oper} (hQ:∀c a d v w,Q (.panic c) (Act.put a (some d) v) w→Q (.panic c) a w)
 (hsel:Region.noSelect ops=true) (hs:lT md ops hd n=true) (hc:Region.chainB md ops n=true) (hn:n<ops.size)
 (htl:∀j,tl[j]? =ops[n+j]?) (hlen:tl.length=ops.size-n):
 ∀(fl:List Nat) (listed:Array Bool) (a:Act) (w:World),C w→HeadInv md ops n listed→oR md ops (ops.size-n) n hd fl listed=true→
 wpQuiet P ops C (fun a'=>∀w',C w'→wpList P ops Q tl a' w') ((fl ++ hd).filterMap fun k=>ops[k]?) a→
 wpAny P md ops Q (fl.length+hd.length+(ops.size-n)) listed a w
 |[],listed,a,w,hw,inv,hB,h=>by
  have H:=zP (Lq:=fun a'=>∀w',C w'→wpList P ops Q tl a' w') hsel hs hc hn hd listed a (fun k hk=>hk) inv hB h;have:=zN (Q':=Q) (g:=ops.size-n) (fun listed a' w' hw' hL=>by
   have:=wpAny_of_seq (md:=md) (Q':=Q) tl n listed a' w' htl (by rw[hlen];exact hL.1) (hL.2 w' hw');rwa[hlen]at this) _ _ _ w hw H
  simpa using this
 |k :: ks,listed,a,w,hw,inv,hB,h=>by
  simp only[oR,Bool.and_eq_true,decide_eq_true_eq]at hB;obtain⟨⟨⟨⟨ho,hkn⟩,hr⟩,hf⟩,hB'⟩:=hB
  cases h0:ops[k]? with
  |none=>rw[h0]at ho;cases ho
  |some o=>
   rw[h0]at ho
   obtain⟨x,d,hx,hg,hdst,hy⟩:=AD2 (P:=P) (ops:=ops) ho a
   have hst:qOp P ops C k (wpQuiet P ops C (fun a'=>∀w',C w'→wpList P ops Q tl a' w') ((ks ++ hd).filterMap fun k=>ops[k]?)) a:=by
    unfold qOp;simp only[h0];simp only[List.cons_append,List.filterMap_cons,h0]at h;exact h
   obtain⟨v,hyv,hK⟩:=yieldsIn_of_qOp h0 hst
   have hv:v=a.eval x:=by
    rcases hyv with⟨_,hq⟩|⟨hnot,_⟩
    ·have:=hq w hw
     unfold Oper.quietAt at this;rw[BigFrame.run_move x hx]at this;exact this.2.symm
    ·simp[Region.wanted,hg]at hnot
   subst hv
   have hr':k∈Region.ready md ops listed:=by simpa using hr
   have:=zQ hQ hsel hs hc hn htl hlen ks (listed.setIfInBounds k true) (a.put o.dst (a.eval x)) w hw (inv.set hr' hkn) hB' hK
   rw[show(k :: ks).length+hd.length+(ops.size-n)=(ks.length+hd.length+(ops.size-n))+1 by simp;omega]
   exact wpAny_first h0 (Region.noSelect_spec hsel) (fun c a w=>by rw[hdst];exact hQ c a d _ w) _ listed a w (Region.free_spec h0 hf) hr' hy this
def kA (l:List Oper):List Nat→List Oper
 |[]=>[]
 |k :: ks=>l.getD k default :: kA l ks
theorem AD3 (l:List Oper):kA l []=[]:=rfl
theorem zR (l:List Oper) (k:Nat) (ks:List Nat):kA l (k :: ks)=l.getD k default :: kA l ks:=rfl
theorem zS (l:List Oper):∀ks:List Nat,(∀k∈ks,k<l.length)→kA l ks=ks.filterMap fun k=>l[k]?
 |[],_ =>rfl
 |k :: ks,h=>by
  have hk:k<l.length:=h k (by simp);rw[zR,List.filterMap_cons,zS l ks (fun j hj=>h j (by simp[hj])),A4 hk,A6,A4 hk];rfl
def zT (md:Region.Mode) (ops:Array Oper) (fl hd:List Nat) (n:Nat):Bool:=
 (fl ++ hd).all (fun k=>decide (k<ops.size)) && Region.noSelect ops && decide (n<ops.size) && lT md ops hd n && Region.chainB md ops n && decide (fl.length+hd.length=n) && oR md ops (ops.size-n) n hd fl (Array.replicate ops.size false)
theorem AD4 {id:Nat} {Q:Exit→Act→World→Prop} {a:Act} {w:World} {l:List Oper} (C:World→Prop) (fl hd:List Nat) (n:Nat) (hm:P.follows .mixedOrders=true) (hB:zT .any l.toArray fl hd n=true)
 (hQ:∀c a d v w,Q (.panic c) (Act.put a (some d) v) w→Q (.panic c) a w) (hC:C {w with drawn:=w.drawn+1})
 (h:wpQuiet P l.toArray C (fun a'=>∀w',C w'→wpList P l.toArray Q (l.drop n) a' w') (kA l (fl ++ hd)) a):(Code.region id l.toArray true).wp P Q a w:=by
 simp only[zT,Bool.and_eq_true,decide_eq_true_eq]at hB;obtain⟨⟨⟨⟨⟨⟨hall,hsel⟩,hn⟩,hs⟩,hc⟩,hlen⟩,hf⟩:=hB;rw[zS l (fl ++ hd) (fun k hk=>by simpa using List.all_eq_true.1 hall k hk)]at h;have inv0:HeadInv .any l.toArray n (Array.replicate l.toArray.size false):=
  ⟨by simp,fun j oj _ hl=>(by rw[getD_replicate_false]at hl;cases hl),fun t _ ht=>getD_in (by simpa using ht) (getD_replicate_false _ _)⟩
 refine wp_region_any hm ?_;have:=zQ (Q:=Q) (tl:=l.drop n) hQ hsel hs hc hn (fun j=>by simp[List.getElem?_drop]) (by simp) fl _ a _ hC inv0 hf (by simpa using h);rwa[show fl.length+hd.length+(l.toArray.size-n)=l.toArray.size by omega]at this
end
end
section
open Go.RowKit
structure C4 (w:World) (g:Nat) (vs:List Value):Prop where
 lt:g<w.heap.size
 c:∀j v,vs[j]? =some v→w.cell? ⟨g,j,none⟩=some v
 f:∀o,w.frozen? ⟨g,o,none⟩=false
theorem C4.since {w:World} {g:Nat} {vs:List Value} (h:C4 w g vs) (y:A7 w):C4 y.w g vs:=
 ⟨Nat.lt_of_lt_of_le h.lt y.b.size,fun j v hv=>A7.cell (h.c j v hv) h.lt y,fun o=>A7.free (h.f o) h.lt y⟩
theorem C4.to {w W:World} {g:Nat} {vs:List Value} (h:C4 w g vs) (hW:∃z:A7 w,W=z.w):C4 W g vs:=by
 obtain⟨z,rfl⟩:=hW;exact h.since z
theorem C4.new (w:World) (vs:List Value) (T:TypeId):C4 (w.alloc (.cells vs.toArray T)) w.heap.size vs:=by
 have hh:(w.alloc (.cells vs.toArray T)).heap[w.heap.size]? =some (.cells vs.toArray T):=by show(w.heap.push _)[w.heap.size]? = _;simp
 exact⟨by simp,fun j v hv=>by simp only[World.cell?,hh];simpa using hv,fun o=>by simp only[World.frozen?,hh];simp⟩
theorem C4.set1 {w:World} {g:Nat} {a u:Value} (h:C4 w g [a]):C4 (w.setCell ⟨g,0,none⟩ u) g [u]:=by
 refine⟨by simpa[World.setCell]using h.lt,fun j v hv=>?_,fun o=>by rw[World.frozen?_setCell];exact h.f o⟩;have hj:j=0:=by have:=(A5 hv).1;simpa using this
 subst hj;simp at hv;subst hv;exact World.cell?_setCell_same _ _ _ (h.c 0 a rfl)
theorem sV (g:Nat):∀(vs:List Value) (o:Nat) (w:World),(w.setCells g o vs).heap.size=w.heap.size
 |[],_,_ =>rfl
 |v :: vs,o,w=>by
  show((w.setCell ⟨g,o,none⟩ v).setCells g (o+1) vs).heap.size= _;rw[sV g vs (o+1)];simp[World.setCell]
theorem C4.sets {w:World} {g:Nat} {vs us:List Value} (h:C4 w g vs) (hl:us.length=vs.length):C4 (w.setCells g 0 us) g us:=by
 refine⟨by rw[sV];exact h.lt,fun j v hv=>?_,fun o=>by rw[World.frozen?_setCells];exact h.f o⟩;have hj:j<us.length:=(A5 hv).1;have:=World.cell?_setCells_in g us 0 w (fun i hi=>by
  obtain⟨v,hv⟩:∃v,vs[i]? =some v:=⟨vs[i]'(by omega),A4 (by omega)⟩
  rw[Nat.zero_add,h.c i v hv];rfl) j hj
 rw[Nat.zero_add]at this;rw[this,←hv,A4 hj]
theorem Below.setCells' {B:Nat} {a w:World} (h:Below B a w) {g:Nat} (hg:B≤g):∀(vs:List Value) (o:Nat),Below B a (w.setCells g o vs)
 |[],_ =>h
 |v :: vs,o=>by
  show Below B a ((w.setCell ⟨g,o,none⟩ v).setCells g (o+1) vs);exact Below.setCells' (h.setCell (p:=⟨g,o,none⟩) hg v) hg vs (o+1)
theorem A7.sets {w0:World} (x:A7 w0) (g:Nat) (h:w0.heap.size≤g) (vs:List Value) (o:Nat):∃y:A7 w0,x.w.setCells g o vs=y.w:=⟨⟨_,Below.setCells' x.b h vs o⟩,rfl⟩
end
section
open Go.RowKit
theorem C4.setj {w:World} {g j:Nat} {vs:List Value} (h:C4 w g vs) (hj:j<vs.length) (u:Value):C4 (w.setCell ⟨g,j,none⟩ u) g (vs.set j u):=by
 refine⟨by simpa[World.setCell]using h.lt,fun i v hv=>?_,fun o=>by rw[World.frozen?_setCell];exact h.f o⟩;rw[List.getElem?_set]at hv;by_cases hji:j=i
 ·subst hji
  rw[if_pos rfl,if_pos hj]at hv
  cases hv;exact World.cell?_setCell_same _ _ _ (h.c j _ (A4 hj))
 ·rw[if_neg hji]at hv
  show((w.setCells g j [u]).cell? _)= _;rw[World.cell?_setCells_out g [u] j w ⟨g,i,none⟩ (fun _ _ =>by simp;omega),h.c i v hv]
theorem lV {w:World} {B e k n:Nat} {v:Value} {xs:List Value} (h:w.ownsRow B e k v n xs):∀b,v.ownBlock=some b→b<w.heap.size:=by
 obtain⟨_,⟨rfl,_⟩|⟨g,cap,cur,rfl,_,hh,_⟩⟩:=h
 ·intro b hb;simp[Value.ownBlock]at hb
 ·intro b hb
  obtain rfl:g=b:=by simpa[Value.ownBlock]using hb
  exact(Array.getElem?_eq_some_iff.1 hh).1
theorem cO {w:World} {B e k n:Nat} {v:Value} {xs:List Value} (h:w.ownsRow B e k v n xs) (p:Addr) (u:Value) (hne:∀b,v.ownBlock=some b→b≠p.block):(w.setCell p u).ownsRow B e k v n xs:=by
 obtain⟨hl,h|⟨g,cap,cur,rfl,hB,hh,r⟩⟩:=h
 ·exact⟨hl,.inl h⟩
 ·exact⟨hl,.inr ⟨g,cap,cur,rfl,hB,(Below.heap_setCell w p u g (hne g rfl)).trans hh,r⟩⟩
theorem kB {B e k n:Nat} {v:Value} {xs:List Value} (g:Nat):∀(vs:List Value) (i:Nat) (w:World),w.ownsRow B e k v n xs→(∀b,v.ownBlock=some b→b≠g)→(w.setCells g i vs).ownsRow B e k v n xs
 |[],_,_,h,_ =>h
 |u :: vs,i,w,h,hne=>kB g vs (i+1) (w.setCell ⟨g,i,none⟩ u) (cO h _ u hne) hne
theorem I4 {w:World} {B e k n:Nat} {v:Value} {xs:List Value} (h:w.ownsRow B e k v n xs):∃(a:Option Addr) (m c:Nat),v= .slice a m c:=by
 obtain⟨_,⟨rfl,_⟩|⟨g,cap,cur,rfl,_⟩⟩:=h
 ·exact⟨_,_,_,rfl⟩
 ·exact⟨_,_,_,rfl⟩
theorem C4.grown {w w':World} {g:Nat} {vs:List Value} {row:Option Nat} (h:C4 w g vs) (hg:w.grownBy w' row) (hne:some g≠row):C4 w' g vs:=by
 have hb:=hg.block g h.lt hne;refine⟨Nat.lt_of_lt_of_le h.lt hg.size,fun j v hv=>?_,fun o=>?_⟩
 ·rw[World.cell?_of_block (w:=w) (a:=⟨g,j,none⟩) hb];exact h.c j v hv
 ·have:=h.f o
  simp only[World.frozen?]at this⊢;rw[hb];exact this
theorem C4.far {w:World} {g:Nat} {vs:List Value} (h:C4 w g vs) (p:Addr) (u:Value) (hne:g≠p.block):C4 (w.setCell p u) g vs:=by
 refine⟨by simpa[World.setCell]using h.lt,fun j v hv=>?_,fun o=>by rw[World.frozen?_setCell];exact h.f o⟩;rw[World.cell?_of_block (w:=w) (a:=⟨g,j,none⟩) (Below.heap_setCell w p u g hne)];exact h.c j v hv
theorem C4.up {w:World} {g:Nat} {vs:List Value} (h:C4 w g vs) (o:Obj):C4 (w.alloc o) g vs:=h.to (A8.alloc (A8.self _) _)
theorem C4.drew {w:World} {g:Nat} {vs:List Value} (h:C4 w g vs):C4 w.drew g vs:=h.to (A8.drew' (A8.self _))
end
section
open Go.RowKit
theorem K7 {w:World} (x:A7 w) (a:List Value) (T:TypeId):∃(W:World) (bx:Nat) (y0:A7 W),x.w.alloc (.cells a.toArray T)=y0.w∧x.w.heap.size=bx∧Hid (W=y0.w)∧(∃z:A7 w,W=z.w)∧Hid (∀y:A7 W,∃z:A7 w,y.w=z.w)∧Hid (w.heap.size≤bx∧bx+1=W.heap.size)∧C4 W bx a:=by
 obtain⟨y0,h⟩:=A7.refl (x.w.alloc (.cells a.toArray T));exact⟨_,_,y0,h,rfl,h,x.alloc _,A7.up (x.alloc _),And.intro x.b.size (by simp),C4.new _ _ _⟩
theorem Z7 {w:World} (x:A7 w) (a:List Value) (T:TypeId) (b:List Value) (U:TypeId):∃(W:World) (bx:Nat) (y0:A7 W),(x.w.alloc (.cells a.toArray T)).alloc (.cells b.toArray U)=y0.w∧x.w.heap.size=bx∧Hid (W=y0.w)∧(∃z:A7 w,W=z.w)∧Hid (∀y:A7 W,∃z:A7 w,y.w=z.w)∧Hid (w.heap.size≤bx∧bx+2=W.heap.size)∧C4 W bx a∧C4 W (bx+1) b:=by
 obtain⟨y0,h⟩:=A7.refl ((x.w.alloc (.cells a.toArray T)).alloc (.cells b.toArray U));have hs:=A7.allocs x [.cells a.toArray T,.cells b.toArray U];refine⟨_,_,y0,h,rfl,h,hs,A7.up hs,And.intro x.b.size (by simp),(C4.new _ _ _).up _,?_⟩;have h:=C4.new (x.w.alloc (.cells a.toArray T)) b U;rwa[show(x.w.alloc (.cells a.toArray T)).heap.size=x.w.heap.size+1 from by simp]at h
theorem AD5 {w:World} (x:A7 w) (a:List Value) (T:TypeId) (b:List Value) (U:TypeId) (c:List Value) (V:TypeId):∃(W:World) (bx:Nat) (y0:A7 W),((x.w.alloc (.cells a.toArray T)).alloc (.cells b.toArray U)).alloc (.cells c.toArray V)=y0.w∧x.w.heap.size=bx∧Hid (W=y0.w)∧(∃z:A7 w,W=z.w)∧Hid (∀y:A7 W,∃z:A7 w,y.w=z.w)∧Hid (w.heap.size≤bx∧bx+3=W.heap.size)∧C4 W bx a∧C4 W (bx+1) b∧C4 W (bx+2) c:=by
 obtain⟨y0,h⟩:=A7.refl (((x.w.alloc (.cells a.toArray T)).alloc (.cells b.toArray U)).alloc (.cells c.toArray V));have hs:=A7.allocs x [.cells a.toArray T,.cells b.toArray U,.cells c.toArray V];refine⟨_,_,y0,h,rfl,h,hs,A7.up hs,And.intro x.b.size (by simp),((C4.new _ _ _).up _).up _,?_,?_⟩
 ·have h:=C4.new (x.w.alloc (.cells a.toArray T)) b U
  rw[show(x.w.alloc (.cells a.toArray T)).heap.size=x.w.heap.size+1 from by simp]at h;exact h.up _
 ·have h:=C4.new ((x.w.alloc (.cells a.toArray T)).alloc (.cells b.toArray U)) c V
  rwa[show((x.w.alloc (.cells a.toArray T)).alloc (.cells b.toArray U)).heap.size=x.w.heap.size+2 from by simp]at h
theorem L8 {w:World} (y:A7 w) (a:List Value) (T:TypeId):∃y2:A7 w,y.w.alloc (.cells a.toArray T)=y2.w∧(∃zz:A7 y.w,y2.w=zz.w)∧w.heap.size≤y.w.heap.size∧y.w.heap.size<y2.w.heap.size∧C4 y2.w y.w.heap.size a:=by
 obtain⟨y2,e⟩:=A8.alloc (A8.of y) (.cells a.toArray T);refine⟨y2,e,?_,y.b.size,?_,?_⟩
 ·rw[←e];exact A8.alloc (A8.self _) _
 ·rw[←e];simp
 ·rw[←e];exact C4.new _ _ _
theorem sW {w:World} (y:A7 w) (a:List Value) (T:TypeId):∃y2:A7 w,(y.w.alloc (.cells a.toArray T)).drew=y2.w∧(∃zz:A7 y.w,y2.w=zz.w)∧w.heap.size≤y.w.heap.size∧y.w.heap.size<y2.w.heap.size∧C4 y2.w y.w.heap.size a:=by
 obtain⟨y2,e⟩:=A8.drew' (A8.alloc (A8.of y) (.cells a.toArray T));refine⟨y2,e,?_,y.b.size,?_,?_⟩
 ·rw[←e];exact A8.drew' (A8.alloc (A8.self _) _)
 ·rw[←e];simp
 ·rw[←e];exact(C4.new _ _ _).to (A8.drew' (A8.self _))
theorem zU {w:World} (y:A7 w) (a:List Value) (T:TypeId) (b:List Value) (U:TypeId):∃y2:A7 w,(y.w.alloc (.cells a.toArray T)).alloc (.cells b.toArray U)=y2.w∧(∃zz:A7 y.w,y2.w=zz.w)∧w.heap.size≤y.w.heap.size∧y.w.heap.size+1<y2.w.heap.size∧C4 y2.w y.w.heap.size a∧C4 y2.w (y.w.heap.size+1) b:=by
 obtain⟨y2,e⟩:=A8.alloc (A8.alloc (A8.of y) (.cells a.toArray T)) (.cells b.toArray U);refine⟨y2,e,?_,y.b.size,?_,?_,?_⟩
 ·rw[←e];exact A8.alloc (A8.alloc (A8.self _) _) _
 ·rw[←e];simp
 ·rw[←e];exact(C4.new _ _ _).up _
 ·rw[←e]
  have h:=C4.new (y.w.alloc (.cells a.toArray T)) b U;rwa[show(y.w.alloc (.cells a.toArray T)).heap.size=y.w.heap.size+1 from by simp]at h
theorem C4.q {W:World} {b:Nat} {l:List Value} (h:C4 W b l) (j:Nat) {v:Value} (hv:l[j]? =some v) (y:A7 W):y.w.cell? ⟨b,j,none⟩=some v:=(h.since y).c j v hv
theorem sX {W:World} {b:Nat} {v0:Value} (h:C4 W b [v0]):(∀y:A7 W,y.w.cell? ⟨b,0,none⟩=some v0)∧(∀(y:A7 W) (o:Nat),y.w.frozen? ⟨b,o,none⟩=false):=
 ⟨h.q 0 rfl,fun y o=>(h.since y).f o⟩
theorem cx1 {W:World} {b:Nat} {v0:Value} (h:C4 W b [v0]):W.cell? ⟨b,0,none⟩=some v0∧(∀o,W.frozen? ⟨b,o,none⟩=false):=
 ⟨h.c 0 _ rfl,h.f⟩
theorem p8 {W:World} {b:Nat} {v0 v1:Value} (h:C4 W b [v0,v1]):(∀y:A7 W,y.w.cell? ⟨b,0,none⟩=some v0)∧(∀y:A7 W,y.w.cell? ⟨b,1,none⟩=some v1)∧(∀(y:A7 W) (o:Nat),y.w.frozen? ⟨b,o,none⟩=false):=
 ⟨h.q 0 rfl,h.q 1 rfl,fun y o=>(h.since y).f o⟩
theorem aC {W:World} {b:Nat} {v0 v1:Value} (h:C4 W b [v0,v1]):W.cell? ⟨b,0,none⟩=some v0∧W.cell? ⟨b,1,none⟩=some v1∧(∀o,W.frozen? ⟨b,o,none⟩=false):=
 ⟨h.c 0 _ rfl,h.c 1 _ rfl,h.f⟩
theorem lW {W:World} {b:Nat} {v0 v1 v2:Value} (h:C4 W b [v0,v1,v2]):W.cell? ⟨b,0,none⟩=some v0∧W.cell? ⟨b,1,none⟩=some v1∧W.cell? ⟨b,2,none⟩=some v2∧(∀o,W.frozen? ⟨b,o,none⟩=false):=
 ⟨h.c 0 _ rfl,h.c 1 _ rfl,h.c 2 _ rfl,h.f⟩
theorem bO {W:World} {b:Nat} {v0 v1 v2 v3:Value} (h:C4 W b [v0,v1,v2,v3]):(∀y:A7 W,y.w.cell? ⟨b,0,none⟩=some v0)∧(∀y:A7 W,y.w.cell? ⟨b,1,none⟩=some v1)∧(∀y:A7 W,y.w.cell? ⟨b,2,none⟩=some v2)∧(∀y:A7 W,y.w.cell? ⟨b,3,none⟩=some v3)∧(∀(y:A7 W) (o:Nat),y.w.frozen? ⟨b,o,none⟩=false):=
 ⟨h.q 0 rfl,h.q 1 rfl,h.q 2 rfl,h.q 3 rfl,fun y o=>(h.since y).f o⟩
theorem dU {W:World} {b:Nat} {v0 v1 v2 v3:Value} (h:C4 W b [v0,v1,v2,v3]):W.cell? ⟨b,0,none⟩=some v0∧W.cell? ⟨b,1,none⟩=some v1∧W.cell? ⟨b,2,none⟩=some v2∧W.cell? ⟨b,3,none⟩=some v3∧(∀o,W.frozen? ⟨b,o,none⟩=false):=
 ⟨h.c 0 _ rfl,h.c 1 _ rfl,h.c 2 _ rfl,h.c 3 _ rfl,h.f⟩
theorem V5 {W:World} {b:Nat} {v0 v1 v2 v3 v4:Value} (h:C4 W b [v0,v1,v2,v3,v4]):(∀y:A7 W,y.w.cell? ⟨b,0,none⟩=some v0)∧(∀y:A7 W,y.w.cell? ⟨b,1,none⟩=some v1)∧(∀y:A7 W,y.w.cell? ⟨b,2,none⟩=some v2)∧(∀y:A7 W,y.w.cell? ⟨b,3,none⟩=some v3)∧(∀y:A7 W,y.w.cell? ⟨b,4,none⟩=some v4)∧(∀(y:A7 W) (o:Nat),y.w.frozen? ⟨b,o,none⟩=false):=
 ⟨h.q 0 rfl,h.q 1 rfl,h.q 2 rfl,h.q 3 rfl,h.q 4 rfl,fun y o=>(h.since y).f o⟩
theorem fO {W:World} {b:Nat} {v0 v1 v2 v3 v4:Value} (h:C4 W b [v0,v1,v2,v3,v4]):W.cell? ⟨b,0,none⟩=some v0∧W.cell? ⟨b,1,none⟩=some v1∧W.cell? ⟨b,2,none⟩=some v2∧W.cell? ⟨b,3,none⟩=some v3∧W.cell? ⟨b,4,none⟩=some v4∧(∀o,W.frozen? ⟨b,o,none⟩=false):=
 ⟨h.c 0 _ rfl,h.c 1 _ rfl,h.c 2 _ rfl,h.c 3 _ rfl,h.c 4 _ rfl,h.f⟩
theorem Z8 {W:World} {b:Nat} {v0 v1 v2 v3 v4 v5:Value} (h:C4 W b [v0,v1,v2,v3,v4,v5]):(∀y:A7 W,y.w.cell? ⟨b,0,none⟩=some v0)∧(∀y:A7 W,y.w.cell? ⟨b,1,none⟩=some v1)∧(∀y:A7 W,y.w.cell? ⟨b,2,none⟩=some v2)∧(∀y:A7 W,y.w.cell? ⟨b,3,none⟩=some v3)∧(∀y:A7 W,y.w.cell? ⟨b,4,none⟩=some v4)∧(∀y:A7 W,y.w.cell? ⟨b,5,none⟩=some v5)∧(∀(y:A7 W) (o:Nat),y.w.frozen? ⟨b,o,none⟩=false):=
 ⟨h.q 0 rfl,h.q 1 rfl,h.q 2 rfl,h.q 3 rfl,h.q 4 rfl,h.q 5 rfl,fun y o=>(h.since y).f o⟩
theorem kC {W:World} {b:Nat} {v0 v1 v2 v3 v4 v5:Value} (h:C4 W b [v0,v1,v2,v3,v4,v5]):W.cell? ⟨b,0,none⟩=some v0∧W.cell? ⟨b,1,none⟩=some v1∧W.cell? ⟨b,2,none⟩=some v2∧W.cell? ⟨b,3,none⟩=some v3∧W.cell? ⟨b,4,none⟩=some v4∧W.cell? ⟨b,5,none⟩=some v5∧(∀o,W.frozen? ⟨b,o,none⟩=false):=
 ⟨h.c 0 _ rfl,h.c 1 _ rfl,h.c 2 _ rfl,h.c 3 _ rfl,h.c 4 _ rfl,h.c 5 _ rfl,h.f⟩
theorem dV {W:World} {b:Nat} {v0 v1 v2 v3 v4 v5 v6:Value} (h:C4 W b [v0,v1,v2,v3,v4,v5,v6]):(∀y:A7 W,y.w.cell? ⟨b,0,none⟩=some v0)∧(∀y:A7 W,y.w.cell? ⟨b,1,none⟩=some v1)∧(∀y:A7 W,y.w.cell? ⟨b,2,none⟩=some v2)∧(∀y:A7 W,y.w.cell? ⟨b,3,none⟩=some v3)∧(∀y:A7 W,y.w.cell? ⟨b,4,none⟩=some v4)∧(∀y:A7 W,y.w.cell? ⟨b,5,none⟩=some v5)∧(∀y:A7 W,y.w.cell? ⟨b,6,none⟩=some v6)∧(∀(y:A7 W) (o:Nat),y.w.frozen? ⟨b,o,none⟩=false):=
 ⟨h.q 0 rfl,h.q 1 rfl,h.q 2 rfl,h.q 3 rfl,h.q 4 rfl,h.q 5 rfl,h.q 6 rfl,fun y o=>(h.since y).f o⟩
theorem cx7 {W:World} {b:Nat} {v0 v1 v2 v3 v4 v5 v6:Value} (h:C4 W b [v0,v1,v2,v3,v4,v5,v6]):W.cell? ⟨b,0,none⟩=some v0∧W.cell? ⟨b,1,none⟩=some v1∧W.cell? ⟨b,2,none⟩=some v2∧W.cell? ⟨b,3,none⟩=some v3∧W.cell? ⟨b,4,none⟩=some v4∧W.cell? ⟨b,5,none⟩=some v5∧W.cell? ⟨b,6,none⟩=some v6∧(∀o,W.frozen? ⟨b,o,none⟩=false):=
 ⟨h.c 0 _ rfl,h.c 1 _ rfl,h.c 2 _ rfl,h.c 3 _ rfl,h.c 4 _ rfl,h.c 5 _ rfl,h.c 6 _ rfl,h.f⟩
theorem eT {W:World} {b:Nat} {v0 v1 v2 v3 v4 v5 v6 v7 v8:Value} (h:C4 W b [v0,v1,v2,v3,v4,v5,v6,v7,v8]):(∀y:A7 W,y.w.cell? ⟨b,0,none⟩=some v0)∧(∀y:A7 W,y.w.cell? ⟨b,1,none⟩=some v1)∧(∀y:A7 W,y.w.cell? ⟨b,2,none⟩=some v2)∧(∀y:A7 W,y.w.cell? ⟨b,3,none⟩=some v3)∧(∀y:A7 W,y.w.cell? ⟨b,4,none⟩=some v4)∧(∀y:A7 W,y.w.cell? ⟨b,5,none⟩=some v5)∧(∀y:A7 W,y.w.cell? ⟨b,6,none⟩=some v6)∧(∀y:A7 W,y.w.cell? ⟨b,7,none⟩=some v7)∧(∀y:A7 W,y.w.cell? ⟨b,8,none⟩=some v8)∧(∀(y:A7 W) (o:Nat),y.w.frozen? ⟨b,o,none⟩=false):=
 ⟨h.q 0 rfl,h.q 1 rfl,h.q 2 rfl,h.q 3 rfl,h.q 4 rfl,h.q 5 rfl,h.q 6 rfl,h.q 7 rfl,h.q 8 rfl,fun y o=>(h.since y).f o⟩
theorem zV {W:World} {b:Nat} {v0 v1 v2 v3 v4 v5 v6 v7 v8:Value} (h:C4 W b [v0,v1,v2,v3,v4,v5,v6,v7,v8]):W.cell? ⟨b,0,none⟩=some v0∧W.cell? ⟨b,1,none⟩=some v1∧W.cell? ⟨b,2,none⟩=some v2∧W.cell? ⟨b,3,none⟩=some v3∧W.cell? ⟨b,4,none⟩=some v4∧W.cell? ⟨b,5,none⟩=some v5∧W.cell? ⟨b,6,none⟩=some v6∧W.cell? ⟨b,7,none⟩=some v7∧W.cell? ⟨b,8,none⟩=some v8∧(∀o,W.frozen? ⟨b,o,none⟩=false):=
 ⟨h.c 0 _ rfl,h.c 1 _ rfl,h.c 2 _ rfl,h.c 3 _ rfl,h.c 4 _ rfl,h.c 5 _ rfl,h.c 6 _ rfl,h.c 7 _ rfl,h.c 8 _ rfl,h.f⟩
theorem AD8 {W:World} {b:Nat} {v0 v1 v2 v3 v4 v5 v6 v7 v8 v9 v10 v11:Value} (h:C4 W b [v0,v1,v2,v3,v4,v5,v6,v7,v8,v9,v10,v11]):(∀y:A7 W,y.w.cell? ⟨b,0,none⟩=some v0)∧(∀y:A7 W,y.w.cell? ⟨b,1,none⟩=some v1)∧(∀y:A7 W,y.w.cell? ⟨b,2,none⟩=some v2)∧(∀y:A7 W,y.w.cell? ⟨b,3,none⟩=some v3)∧(∀y:A7 W,y.w.cell? ⟨b,4,none⟩=some v4)∧(∀y:A7 W,y.w.cell? ⟨b,5,none⟩=some v5)∧(∀y:A7 W,y.w.cell? ⟨b,6,none⟩=some v6)∧(∀y:A7 W,y.w.cell? ⟨b,7,none⟩=some v7)∧(∀y:A7 W,y.w.cell? ⟨b,8,none⟩=some v8)∧(∀y:A7 W,y.w.cell? ⟨b,9,none⟩=some v9)∧(∀y:A7 W,y.w.cell? ⟨b,10,none⟩=some v10)∧(∀y:A7 W,y.w.cell? ⟨b,11,none⟩=some v11)∧(∀(y:A7 W) (o:Nat),y.w.frozen? ⟨b,o,none⟩=false):=
 ⟨h.q 0 rfl,h.q 1 rfl,h.q 2 rfl,h.q 3 rfl,h.q 4 rfl,h.q 5 rfl,h.q 6 rfl,h.q 7 rfl,h.q 8 rfl,h.q 9 rfl,h.q 10 rfl,h.q 11 rfl,fun y o=>(h.since y).f o⟩
theorem sY {W:World} {b:Nat} {v0 v1 v2 v3 v4 v5 v6 v7 v8 v9 v10 v11:Value} (h:C4 W b [v0,v1,v2,v3,v4,v5,v6,v7,v8,v9,v10,v11]):W.cell? ⟨b,0,none⟩=some v0∧W.cell? ⟨b,1,none⟩=some v1∧W.cell? ⟨b,2,none⟩=some v2∧W.cell? ⟨b,3,none⟩=some v3∧W.cell? ⟨b,4,none⟩=some v4∧W.cell? ⟨b,5,none⟩=some v5∧W.cell? ⟨b,6,none⟩=some v6∧W.cell? ⟨b,7,none⟩=some v7∧W.cell? ⟨b,8,none⟩=some v8∧W.cell? ⟨b,9,none⟩=some v9∧W.cell? ⟨b,10,none⟩=some v10∧W.cell? ⟨b,11,none⟩=some v11∧(∀o,W.frozen? ⟨b,o,none⟩=false):=
 ⟨h.c 0 _ rfl,h.c 1 _ rfl,h.c 2 _ rfl,h.c 3 _ rfl,h.c 4 _ rfl,h.c 5 _ rfl,h.c 6 _ rfl,h.c 7 _ rfl,h.c 8 _ rfl,h.c 9 _ rfl,h.c 10 _ rfl,h.c 11 _ rfl,h.f⟩
theorem R5 {W:World} {b:Nat} {v0 v1 v2 v3 v4 v5 v6 v7 v8 v9 v10 v11 v12:Value} (h:C4 W b [v0,v1,v2,v3,v4,v5,v6,v7,v8,v9,v10,v11,v12]):(∀y:A7 W,y.w.cell? ⟨b,0,none⟩=some v0)∧(∀y:A7 W,y.w.cell? ⟨b,1,none⟩=some v1)∧(∀y:A7 W,y.w.cell? ⟨b,2,none⟩=some v2)∧(∀y:A7 W,y.w.cell? ⟨b,3,none⟩=some v3)∧(∀y:A7 W,y.w.cell? ⟨b,4,none⟩=some v4)∧(∀y:A7 W,y.w.cell? ⟨b,5,none⟩=some v5)∧(∀y:A7 W,y.w.cell? ⟨b,6,none⟩=some v6)∧(∀y:A7 W,y.w.cell? ⟨b,7,none⟩=some v7)∧(∀y:A7 W,y.w.cell? ⟨b,8,none⟩=some v8)∧(∀y:A7 W,y.w.cell? ⟨b,9,none⟩=some v9)∧(∀y:A7 W,y.w.cell? ⟨b,10,none⟩=some v10)∧(∀y:A7 W,y.w.cell? ⟨b,11,none⟩=some v11)∧(∀y:A7 W,y.w.cell? ⟨b,12,none⟩=some v12)∧(∀(y:A7 W) (o:Nat),y.w.frozen? ⟨b,o,none⟩=false):=
 ⟨h.q 0 rfl,h.q 1 rfl,h.q 2 rfl,h.q 3 rfl,h.q 4 rfl,h.q 5 rfl,h.q 6 rfl,h.q 7 rfl,h.q 8 rfl,h.q 9 rfl,h.q 10 rfl,h.q 11 rfl,h.q 12 rfl,fun y o=>(h.since y).f o⟩
theorem bP {W:World} {b:Nat} {v0 v1 v2 v3 v4 v5 v6 v7 v8 v9 v10 v11 v12:Value} (h:C4 W b [v0,v1,v2,v3,v4,v5,v6,v7,v8,v9,v10,v11,v12]):W.cell? ⟨b,0,none⟩=some v0∧W.cell? ⟨b,1,none⟩=some v1∧W.cell? ⟨b,2,none⟩=some v2∧W.cell? ⟨b,3,none⟩=some v3∧W.cell? ⟨b,4,none⟩=some v4∧W.cell? ⟨b,5,none⟩=some v5∧W.cell? ⟨b,6,none⟩=some v6∧W.cell? ⟨b,7,none⟩=some v7∧W.cell? ⟨b,8,none⟩=some v8∧W.cell? ⟨b,9,none⟩=some v9∧W.cell? ⟨b,10,none⟩=some v10∧W.cell? ⟨b,11,none⟩=some v11∧W.cell? ⟨b,12,none⟩=some v12∧(∀o,W.frozen? ⟨b,o,none⟩=false):=
 ⟨h.c 0 _ rfl,h.c 1 _ rfl,h.c 2 _ rfl,h.c 3 _ rfl,h.c 4 _ rfl,h.c 5 _ rfl,h.c 6 _ rfl,h.c 7 _ rfl,h.c 8 _ rfl,h.c 9 _ rfl,h.c 10 _ rfl,h.c 11 _ rfl,h.c 12 _ rfl,h.f⟩
end
end Go.Proofs.YtmmlmhnjjfnpnaaGreat
