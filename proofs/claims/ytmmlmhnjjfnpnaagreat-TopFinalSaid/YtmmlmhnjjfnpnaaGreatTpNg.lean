/- Texts that belong together. -/
import Derived.Test.YtmmlmhnjjfnpnaaGreatTpNe
import Derived.IntWalk
set_option linter.all false
namespace Go.Proofs.YtmmlmhnjjfnpnaaGreat
set_option maxRecDepth 200000
set_option maxHeartbeats 64000000
section
open Go.RowKit
structure G3 where
 id:Int
 rd:Int
 f:Int
 t:Int
 n:Int
 s:Int
def G3.cs (x:G3):List Value:=[.int .i64 x.id,.int .i64 x.rd,.int .i64 x.f,.int .i64 x.t,.int .i64 x.n,.int .i64 x.s]
theorem G3.len (x:G3):x.cs.length=6:=rfl
instance:Inhabited G3:=⟨⟨0,0,0,0,0,0⟩⟩
structure AL4 (w:World) (b o:Nat) (e:G3):Prop where
 c0:∀y:A6 w,y.w.cell? ⟨b,o,none⟩=some (.int .i64 e.id)
 c1:∀y:A6 w,y.w.cell? ⟨b,o+1,none⟩=some (.int .i64 e.rd)
 c2:∀y:A6 w,y.w.cell? ⟨b,o+2,none⟩=some (.int .i64 e.f)
 c3:∀y:A6 w,y.w.cell? ⟨b,o+3,none⟩=some (.int .i64 e.t)
 c4:∀y:A6 w,y.w.cell? ⟨b,o+4,none⟩=some (.int .i64 e.n)
 c5:∀y:A6 w,y.w.cell? ⟨b,o+5,none⟩=some (.int .i64 e.s)
theorem D0.pass {w:World} {a:Option Addr} {l:List G3} (h:D0 G3.cs 6 w a l) {k:Nat} {x:G3} (hk:l[k]? =some x):∃b off,a=some ⟨b,off,none⟩∧AL4 w b (off+k*6) x:=by
 obtain⟨b,off,ha,hb,hc⟩:=h k x hk;refine⟨b,off,ha,?_⟩;have hh:∀j v,x.cs[j]? =some v→∀y:A6 w,y.w.cell? ⟨b,off+k*6+j,none⟩=some v:=fun j v hv=>A6.cell (hc j v hv) hb;exact⟨hh 0 _ rfl,hh 1 _ rfl,hh 2 _ rfl,hh 3 _ rfl,hh 4 _ rfl,hh 5 _ rfl⟩
abbrev kJ (w:World) (a:Option Addr) (l:List G3):Prop:=D0 G3.cs 6 w a l
def cT (p:G3):Bool:=decide (1≤p.id) && decide (p.id≤1000000) && decide (0≤p.rd) && decide (p.rd≤127) && decide (1≤p.n) && decide (p.n≤256) && decide (0≤p.s) && decide (p.s≤86400) && decide (0≤p.f) && decide (p.f<p.t) && decide (p.t≤49710)
theorem AL5 (p:G3):cT p=true↔1≤p.id∧p.id≤1000000∧0≤p.rd∧p.rd≤127∧1≤p.n∧p.n≤256∧0≤p.s∧p.s≤86400∧0≤p.f∧p.f<p.t∧p.t≤49710:=by simp[cT,and_assoc]
def p7 (l:List Int):Bool:=!decide l.Nodup
theorem mO {l:List Int} (h:¬l.Nodup):p7 l=true:=by unfold p7;rw[decide_eq_false h];rfl
theorem mP {l:List Int} (h:l.Nodup):p7 l=false:=by unfold p7;rw[decide_eq_true h];rfl
theorem uI (l:List Int):(p7 l=true∧¬l.Nodup)∨(p7 l=false∧l.Nodup):=by
 by_cases h:l.Nodup
 ·exact .inr ⟨mP h,h⟩
 ·exact .inl ⟨mO h,h⟩
theorem uJ {l:List Int} {k:Nat} {x:Int} (hx:l[k]? =some x):(l.take (k+1)).Nodup↔(l.take k).Nodup∧x∉l.take k:=by
 rw[List.take_succ_eq_append_getElem (A4 hx).1,(A4 hx).2,List.nodup_append];constructor
 ·rintro⟨h1,_,h3⟩;exact⟨h1,fun h=>h3 x h x (by simp) rfl⟩
 ·rintro⟨h1,h2⟩;exact⟨h1,by simp,fun a ha b hb hab=>h2 (by simp at hb;subst hb;subst hab;exact ha)⟩
theorem Ae0 {l:List Int} {k:Nat} (h:l.Nodup):(l.take k).Nodup:=h.sublist (List.take_sublist _ _)
def U4 (l:List G3):Int:=if 64<l.length then 8 else if l.all cT=false then 1 else if p7 (l.map (·.id))=true then 6 else 0
def fE (l:List A8):Int:=match l.find? (fun r=>I7 r != 0)with|some r=>I7 r|none=>0
theorem AL6 {l:List A8} {k:Nat} {r:A8} (hr:l[k]? =some r) (he:I7 r≠0) (hn:∀j,j<k→∀x,l[j]? =some x→I7 x=0):fE l=I7 r:=by
 unfold fE;have:l.find? (fun r=>I7 r != 0)=some r:=by
  rw[List.find?_eq_some_iff_getElem];refine⟨by simpa using he,k,(A4 hr).1,(A4 hr).2,fun j hj=>?_⟩;have:=hn j hj _ (A3 (by have:=(A4 hr).1;omega));simp[this]
 rw[this]
theorem AL7 {l:List A8} (hn:∀j,j<l.length→∀x,l[j]? =some x→I7 x=0):fE l=0:=by
 unfold fE;have:l.find? (fun r=>I7 r != 0)=none:=by
  rw[List.find?_eq_none];intro x hx;obtain⟨j,hj⟩:=List.mem_iff_getElem?.1 hx;simp[hn j (A4 hj).1 x hj]
 rw[this]
def S4 (l:List A8):Int:=if 256<l.length then 8 else if fE l≠0 then fE l else if p7 (l.map (·.id))=true then 6 else 0
def Y0 (lp:List G3) (lr:List A8):Int:=if U4 lp≠0 then U4 lp else S4 lr
def F8 (r:A8):Int:=r.s0/86400
def bef (a b:A8):Bool:=decide (a.s0<b.s0) || (decide (a.s0=b.s0) && (decide (a.e0<b.e0) || (decide (a.e0=b.e0) && decide (a.id<b.id))))
theorem iS (a b:A8):bef a b=true↔a.s0<b.s0∨(a.s0=b.s0∧(a.e0<b.e0∨(a.e0=b.e0∧a.id<b.id))):=by simp[bef]
theorem iT (a:A8):bef a a=false:=by
 cases h:bef a a
 ·rfl
 ·rw[iS]at h;omega
theorem pP {a b c:A8} (h1:bef a b=true) (h2:bef b c=true):bef a c=true:=by rw[iS]at *;omega
theorem Ae1 {a b:A8} (h:bef a b=true):bef b a=false:=by
 cases h2:bef b a
 ·rfl
 ·have:=pP h h2;rw[iT]at this;cases this
theorem mQ {a b:A8} (h1:bef a b=false) (h2:bef b a=false):a.id=b.id:=by
 have n1:¬bef a b=true:=by rw[h1];simp
 have n2:¬bef b a=true:=by rw[h2];simp
 rw[iS]at n1 n2;omega
theorem uK {a b c:A8} (h1:bef a b=false) (h2:bef b c=false):bef a c=false:=by
 have n1:¬bef a b=true:=by rw[h1];simp
 have n2:¬bef b c=true:=by rw[h2];simp
 cases h:bef a c
 ·rfl
 ·rw[iS]at n1 n2 h;omega
def vP (p:G3) (r:A8):Bool:=decide (p.rd=r.rd) && (decide (p.f≤F8 r) && decide (F8 r<p.t))
def C1 (R:List A8) (i:Nat):A8:=R.getD i default
def K1 (l:List G3) (i:Nat):G3:=l.getD i default
theorem uL {R:List A8} {i:Nat} {x:A8} (h:R[i]? =some x):C1 R i=x:=by unfold C1;rw[A5,h];rfl
theorem AL8 {R:List G3} {i:Nat} {x:G3} (h:R[i]? =some x):K1 R i=x:=by unfold K1;rw[A5,h];rfl
def Z3 (R:List A8) (u:Nat→Int) (x:A8) (k:Int):Nat:=((List.range R.length).filter fun j=>bef (C1 R j) x && decide (u j=k) && decide (F8 (C1 R j)=F8 x)).length
def W8 (lp:List G3) (r:A8) (c:Int→Nat):Int:=match(List.range lp.length).find? (fun k=>vP (K1 lp k) r && decide ((c (k:Int):Int)<(K1 lp k).n))with|some k=>(k:Int)|none=>-1
def S5 (lp:List G3) (R:List A8) (u:Nat→Int):Prop:=∀i,i<R.length→u i=W8 lp (C1 R i) (Z3 R u (C1 R i))
theorem kK {lp:List G3} {r:A8} {c d:Int→Nat} (h:∀k,k<lp.length→c (k:Int)=d (k:Int)):W8 lp r c=W8 lp r d:=by
 unfold W8;have:(List.range lp.length).find? (fun k=>vP (K1 lp k) r && decide ((c (k:Int):Int)<(K1 lp k).n))=(List.range lp.length).find? (fun k=>vP (K1 lp k) r && decide ((d (k:Int):Int)<(K1 lp k).n)):=by
  have hg:∀l:List Nat,(∀k∈l,k<lp.length)→l.find? (fun k=>vP (K1 lp k) r && decide ((c (k:Int):Int)<(K1 lp k).n))=l.find? (fun k=>vP (K1 lp k) r && decide ((d (k:Int):Int)<(K1 lp k).n)):=by
   intro l;induction l with
   |nil=>intro _;rfl
   |cons a l ih=>
    intro hl
    simp only[List.find?_cons]
    rw[h a (hl a (by simp)),ih (fun k hk=>hl k (by simp[hk]))]
  exact hg _ (fun k hk=>List.mem_range.1 hk)
 rw[this]
theorem Ae2 {lp:List G3} {r:A8} {c:Int→Nat} {k:Nat} (hk:k<lp.length) (h:(vP (K1 lp k) r && decide ((c (k:Int):Int)<(K1 lp k).n))=true) (hn:∀j,j<k→(vP (K1 lp j) r && decide ((c (j:Int):Int)<(K1 lp j).n))=false):W8 lp r c=k:=by
 unfold W8;have:(List.range lp.length).find? (fun k=>vP (K1 lp k) r && decide ((c (k:Int):Int)<(K1 lp k).n))=some k:=by
  rw[List.find?_eq_some_iff_getElem];refine⟨h,k,by simpa using hk,by simp,fun j hj=>?_⟩;simp only[List.getElem_range];rw[hn j hj];rfl
 rw[this]
theorem uM {lp:List G3} {r:A8} {c:Int→Nat} (hn:∀j,j<lp.length→(vP (K1 lp j) r && decide ((c (j:Int):Int)<(K1 lp j).n))=false):W8 lp r c= -1:=by
 unfold W8;have:(List.range lp.length).find? (fun k=>vP (K1 lp k) r && decide ((c (k:Int):Int)<(K1 lp k).n))=none:=by
  rw[List.find?_eq_none];intro j hj;rw[hn j (List.mem_range.1 hj)];simp
 rw[this]
theorem uN (lp:List G3) (r:A8) (c:Int→Nat):(∃k:Nat,k<lp.length∧W8 lp r c=k∧(vP (K1 lp k) r && decide ((c (k:Int):Int)<(K1 lp k).n))=true∧∀j,j<k→(vP (K1 lp j) r && decide ((c (j:Int):Int)<(K1 lp j).n))=false)∨
 (W8 lp r c= -1∧∀j,j<lp.length→(vP (K1 lp j) r && decide ((c (j:Int):Int)<(K1 lp j).n))=false):=by
 cases h:(List.range lp.length).find? (fun k=>vP (K1 lp k) r && decide ((c (k:Int):Int)<(K1 lp k).n))with
 |none=>
  refine .inr ⟨by unfold W8;rw[h],fun j hj=>?_⟩
  rw[List.find?_eq_none]at h
  simpa using h j (List.mem_range.2 hj)
 |some k=>
  refine .inl ⟨k,?_⟩
  have h':=h
  rw[List.find?_eq_some_iff_getElem]at h'
  obtain⟨hp,i,hi,hik,hn⟩:=h'
  simp at hik;subst hik
  refine⟨by simpa using hi,by unfold W8;rw[h],hp,fun j hj=>?_⟩
  have:=hn j hj
  simpa only[List.getElem_range,Bool.not_eq_true']using this
theorem Ae3 {α:Type} {p q:α→Bool}:∀{l:List α} {a:α},a∈l→(∀x,p x=true→q x=true)→q a=true→p a=false→(l.filter p).length<(l.filter q).length
 |[],_,h,_,_,_ =>by cases h
 |x :: l,a,h,hpq,hq,hp=>by
  have hle:(l.filter p).length≤(l.filter q).length:=by
   clear h;induction l with
   |nil=>simp
   |cons y l ih=>
    simp only[List.filter_cons]
    cases hy:p y
    ·cases hy2:q y<;>simp<;>omega
    ·rw[hpq y hy];simp;exact ih
  rcases List.mem_cons.1 h with rfl|h
  ·simp only[List.filter_cons,hp,hq];simp;omega
  ·have ih:=Ae3 h hpq hq hp
   simp only[List.filter_cons]
   cases hx:p x
   ·cases hx2:q x<;>simp<;>omega
   ·rw[hpq x hx];simp;exact ih
def pQ (R:List A8) (x:A8):Nat:=((List.range R.length).filter fun j=>bef (C1 R j) x).length
theorem uO {R:List A8} {j:Nat} {x:A8} (hj:j<R.length) (h:bef (C1 R j) x=true):pQ R (C1 R j)<pQ R x:=
 Ae3 (List.mem_range.2 hj) (fun _ hi=>pP hi h) h (iT _)
theorem pR {R:List A8} {u v:Nat→Int} {x:A8} (h:∀j,j<R.length→bef (C1 R j) x=true→u j=v j) (k:Int):Z3 R u x k=Z3 R v x k:=by
 unfold Z3;congr 1;refine List.filter_congr fun j hj=>?_
 cases hb:bef (C1 R j) x
 ·rfl
 ·rw[h j (List.mem_range.1 hj) hb]
theorem AL9 {lp:List G3} {R:List A8} {u v:Nat→Int} (hu:S5 lp R u) (hv:S5 lp R v):∀i,i<R.length→u i=v i:=by
 have:∀n i,i<R.length→pQ R (C1 R i)=n→u i=v i:=by
  intro n;induction n using Nat.strongRecOn with
  | _ n ih=>
   intro i hi hn
   rw[hu i hi,hv i hi]
   refine kK fun k _ =>pR (fun j hj hb=>?_) _
   exact ih _ (by rw[←hn];exact uO hj hb) j hj rfl
 exact fun i hi=>this _ i hi rfl
end
section
open Go.RowKit Go.ChangeMaps
def dO (n lo hi:Int):Bool:=decide (lo≤n) && decide (n≤hi)
theorem bG (w:World) (x:A6 w) (n lo hi:Int):
 Calls Tryz.prog 140 #[.int .i64 n,.int .i64 lo,.int .i64 hi] x.w fun o w'=>o= .returned (.bool (dO n lo hi))∧∃y:A6 w,w'=y.w:=by
 rcases(by omega:n<lo∨(lo≤n∧hi<n)∨(lo≤n∧n≤hi))with h|⟨h,h'⟩|⟨h,h'⟩
 all_goals
  have Hv:=A2 (show dO n lo hi=(decide (lo≤n) && decide (n≤hi))from rfl);go_enter Tryz.func140,Tryz.ntmps140;go_wp2_with fail;go_ret;exact⟨F9 (by rw[Hv.out];simp;omega),_,rfl⟩
def fF (p:G3) (d:Int):Bool:=decide (p.f≤d) && decide (d<p.t)
theorem Ae4 (w:World) (x:A6 w) (p:G3) (d:Int):
 Calls Tryz.prog 155 #[.agg #[.int .i64 p.id,.int .i64 p.rd,.int .i64 p.f,.int .i64 p.t,.int .i64 p.n,.int .i64 p.s],.int .i64 d] x.w fun o w'=>o= .returned (.bool (fF p d))∧∃y:A6 w,w'=y.w:=by
 rcases(by omega:d<p.f∨(p.f≤d∧p.t≤d)∨(p.f≤d∧d<p.t))with h|⟨h,h'⟩|⟨h,h'⟩
 all_goals
  have Hv:=A2 (show fF p d=(decide (p.f≤d) && decide (d<p.t))from rfl);go_enter Tryz.func155,Tryz.ntmps155;go_wp2_with fail;go_ret;exact⟨F9 (by rw[Hv.out];simp;omega),x.alloc _⟩
theorem Ae5 (w:World) (x:A6 w) (r:A8) (h0:0≤r.s0) (h1:r.s0≤4294943999):
 Calls Tryz.prog 156 #[.agg #[.int .i64 r.id,.int .i64 r.rd,.int .i64 r.s0,.int .i64 r.s1,.int .i64 r.e0,.int .i64 r.e1,.bool r.op,.slice r.la r.legs.length r.lc,.slice r.pa r.pauses.length r.pc,.int .i64 r.fw,.int .i64 r.fp,.int .i64 r.wh,.int .i64 r.pl]] x.w fun o w'=>o= .returned (.int .i64 (F8 r))∧∃y:A6 w,w'=y.w:=by
 have Hd:=A2 (show F8 r=r.s0/86400 from rfl);go_enter Tryz.func156,Tryz.ntmps156;go_wp2_with fail;go_ret;exact⟨D1 Hd.out.symm,x.alloc _⟩
end
section
open Go.RowKit Go.ChangeMaps
theorem AM0 (e:G3):cT e=(dO e.id 1 1000000 && (dO e.rd 0 127 && (dO e.n 1 256 && (dO e.s 0 86400 && (decide (0≤e.f) && (decide (e.f<e.t) && decide (e.t≤49710))))))):=by
 unfold cT dO;simp only[Bool.and_assoc]
def V0 (x:Int):Value:=.int .i64 x
theorem gH:V6 Tryz.prog 3 V0 true where
 chk em w x:=by unfold V0;kernel_rfl
 eq w x y:=by
  unfold V0;show(Op.equalIn (9999+1) _ _ _).run _ _ = _;rw[run_equalIn_int w 9999 _ .i64 .i64 x y Tryz.underlying3];congr 1
 und:=⟨_,Tryz.underlying3,fun x y=>by
  unfold V0;simp only[Instr.sameNow,if_true];congr 1⟩
 bits x:=by
  unfold V0;rw[show(10000:Nat)=9999+1 from rfl];simp[Instr.sameBits]
theorem uP (w:World):(zeroValue 4).run Tryz.prog w= .ok (.bool false) w:=by kernel_rfl
def P5 (l:List Int):List (Int×Value):=l.map fun i=>(i,.bool true)
theorem iU:∀(x:Int) (l:List Int) (i:Nat),(x∈l→∃j,D8 x (P5 l) i=some (j,.bool true))∧(x∉l→D8 x (P5 l) i=none)
 |x,[],i=>⟨fun h=>(by cases h),fun _ =>rfl⟩
 |x,y :: l,i=>by
  obtain⟨h1,h2⟩:=iU x l (i+1);by_cases h:x=y
  ·subst h
   exact⟨fun _ =>⟨i,by show D8 x ((x,Value.bool true) :: P5 l) i= _;unfold D8;rw[if_pos rfl]⟩,fun hn=>(hn (by simp)).elim⟩
  ·have e:D8 x (P5 (y :: l)) i=D8 x (P5 l) (i+1):=by show D8 x ((y,Value.bool true) :: P5 l) i= _;rw[D8,if_neg h]
   rw[e];exact⟨fun hm=>h1 (by simpa[h]using hm),fun hn=>h2 (fun hm=>hn (by simp[hm]))⟩
theorem uQ {x:Int} {l:List Int} (h:x∈l):N7 x (P5 l) (.bool false)= .bool true:=by
 obtain⟨j,hj⟩:=(iU x l 0).1 h;unfold N7;rw[hj]
theorem uR {x:Int} {l:List Int} (h:x∉l):N7 x (P5 l) (.bool false)= .bool false:=by
 unfold N7;rw[(iU x l 0).2 h]
theorem Ae6 {l:List Int} {k:Nat} {x:Int} (h:l[k]? =some x):P5 (l.take (k+1))=P5 (l.take k) ++ [(x,.bool true)]:=by
 unfold P5;rw[List.take_succ_eq_append_getElem (A4 h).1,(A4 h).2,List.map_append];rfl
theorem F6.to' {κ:Type} {ek:κ→Value} {w W:World} {b:Nat} {l:List (κ×Value)} (h:F6 ek w b l) (hW:∃z:A6 w,W=z.w):F6 ek W b l:=by
 obtain⟨z,rfl⟩:=hW;exact A6.heap h z
theorem F6.lt' {κ:Type} {ek:κ→Value} {w:World} {b:Nat} {l:List (κ×Value)} (h:F6 ek w b l):b<w.heap.size:=(Array.getElem?_eq_some_iff.1 h).1
theorem iV {α β:Type} {f:α→β} {l:List α} {k:Nat} {e:α} (h:l[k]? =some e):(l.map f)[k]? =some (f e):=by rw[List.getElem?_map,h];rfl
theorem Ae7 (w:World) (x:A6 w) (a:Option Addr) (l:List G3) (c:Nat) (h:kJ w a l) (hl:l.length≤9223372036854775807):
 Calls Tryz.prog 97 #[.slice a l.length c] x.w fun o w'=>o= .returned (.int .i64 (U4 l))∧∃y:A6 w,w'=y.w:=by
 have HL:=A2 h;clear h;by_cases hbig:64<l.length
 ·have Hr:=A2 (show U4 l=8 by unfold U4;rw[if_pos hbig])
  go_enter Tryz.func97,Tryz.ntmps97;go_wp2_with fail;go_ret;exact⟨D1 Hr.out.symm,_,rfl⟩
 have BJ4:l.length≤64:=by omega
 have lL:=A2 (fun(e:G3) {k:Nat} (he:l[k]? =some e) (hg:cT e=false)=>show U4 l=1 by unfold U4;rw[if_neg hbig,if_pos (mH he hg)]);have sS:=A2 (fun(hg:l.all cT=true)=>show U4 l=if p7 (l.map fun p:G3=>p.id)=true then 6 else 0 by unfold U4;rw[if_neg hbig,if_neg (by rw[hg];simp)]);clear hbig hl;go_enter Tryz.func97,Tryz.ntmps97;go_wp2_with fail;go_loopw [13] (fun i wr=>∃(k:Nat) (y:A6 w),k≤l.length∧i= .int .i64 k∧wr=y.w∧∀j,j<k→∀e,l[j]? =some e→cT e=true) (fun i _ =>l.length-(intOf i).toNat)
 case atStart=>exact⟨0,_,by omega,rfl,rfl,fun j hj=>by omega⟩
 case round=>
  obtain⟨k,y,hk,rfl,rfl,hok⟩:=hrel;have Hok:=A2 hok;clear hok;by_cases hlt:k<l.length
  ·obtain⟨e,he⟩:∃e,l[k]? =some e:=⟨_,A3 hlt⟩
   obtain⟨b1,off1,rfl,h1'⟩:=D0.pass HL.out he;have pa0:=h1'.c0;have pa1:=h1'.c1;have pa2:=h1'.c2;have pa3:=h1'.c3;have pa4:=h1'.c4;have pa5:=h1'.c5;have hk0:(0:Int)≤(k:Int):=by omega
   have hkl:(k:Int)<(l.length:Int):=by omega
   have He':=A2 he;clear h1' he;have HG:=A2 (AM0 e);go_upto_region 6 with fail;obtain⟨y2,e2,C5,hsz0,hlt0,HX0⟩:=L9 y [.int .i64 e.id,.int .i64 e.rd,.int .i64 e.f,.int .i64 e.t,.int .i64 e.n,.int .i64 e.s] 209;rw[e2];obtain⟨hx0,hx1,hx2,hx3,hx4,hx5,hxf⟩:=iM HX0;skip;clear e2 C5;generalize y.w.heap.size=g at *;obtain⟨E9,G1,J4,I9,M8,O9,G8⟩:=X9 HX0;have I5:=A2 (And.intro hsz0 hlt0);clear hlt0 hsz0 HX0;obtain⟨q0,hq0⟩:=A6.refl y2.w;rw[hq0];clear hq0
   cases h0:dO e.id 1 1000000 with
   |false=>
    have Hr:=A2 (lL.out e He'.out (by rw[HG.out,h0];simp))
    have H0:=A2 h0;clear h0
    go_wp2_with(go_at_call 140;((with_reducible refine(bG y2.w _ e.id 1 1000000).mono ?_);rintro _ _ ⟨rfl,z1,rfl⟩;rw[H0.out]))
    go_ret
    exact⟨D1 Hr.out.symm,by obtain⟨q,e⟩:=y2.trans z1;rw[e];exact⟨q,rfl⟩⟩
   |true=>
    rw[h0,Bool.true_and]at HG
    have H0:=A2 h0;clear h0
    cases h1:dO e.rd 0 127 with
    |false=>
     have Hr:=A2 (lL.out e He'.out (by rw[HG.out,h1];simp))
     have H1:=A2 h1;clear h1
     go_wp2_with(first|(go_at_call 140;((with_reducible refine(bG y2.w _ e.id 1 1000000).mono ?_);rintro _ _ ⟨rfl,z1,rfl⟩;rw[H0.out]))|(go_at_call 140;((with_reducible refine(bG y2.w _ e.rd 0 127).mono ?_);rintro _ _ ⟨rfl,z1,rfl⟩;rw[H1.out])))
     go_ret
     exact⟨D1 Hr.out.symm,by obtain⟨q,e⟩:=y2.trans z1;rw[e];exact⟨q,rfl⟩⟩
    |true=>
     rw[h1,Bool.true_and]at HG
     have H1:=A2 h1;clear h1
     cases h2:dO e.n 1 256 with
     |false=>
      have Hr:=A2 (lL.out e He'.out (by rw[HG.out,h2];simp))
      have H2:=A2 h2;clear h2
      go_wp2_with(first|(go_at_call 140;((with_reducible refine(bG y2.w _ e.id 1 1000000).mono ?_);rintro _ _ ⟨rfl,z1,rfl⟩;rw[H0.out]))|(go_at_call 140;((with_reducible refine(bG y2.w _ e.rd 0 127).mono ?_);rintro _ _ ⟨rfl,z1,rfl⟩;rw[H1.out]))|(go_at_call 140;((with_reducible refine(bG y2.w _ e.n 1 256).mono ?_);rintro _ _ ⟨rfl,z1,rfl⟩;rw[H2.out])))
      go_ret
      exact⟨D1 Hr.out.symm,by obtain⟨q,e⟩:=y2.trans z1;rw[e];exact⟨q,rfl⟩⟩
     |true=>
      rw[h2,Bool.true_and]at HG
      have H2:=A2 h2;clear h2
      cases h3:dO e.s 0 86400 with
      |false=>
       have Hr:=A2 (lL.out e He'.out (by rw[HG.out,h3];simp))
       have H3:=A2 h3;clear h3
       go_wp2_with(first|(go_at_call 140;((with_reducible refine(bG y2.w _ e.id 1 1000000).mono ?_);rintro _ _ ⟨rfl,z1,rfl⟩;rw[H0.out]))|(go_at_call 140;((with_reducible refine(bG y2.w _ e.rd 0 127).mono ?_);rintro _ _ ⟨rfl,z1,rfl⟩;rw[H1.out]))|(go_at_call 140;((with_reducible refine(bG y2.w _ e.n 1 256).mono ?_);rintro _ _ ⟨rfl,z1,rfl⟩;rw[H2.out]))|(go_at_call 140;((with_reducible refine(bG y2.w _ e.s 0 86400).mono ?_);rintro _ _ ⟨rfl,z1,rfl⟩;rw[H3.out])))
       go_ret
       exact⟨D1 Hr.out.symm,by obtain⟨q,e⟩:=y2.trans z1;rw[e];exact⟨q,rfl⟩⟩
      |true=>
       rw[h3,Bool.true_and]at HG
       have H3:=A2 h3;clear h3
       go_upto_region 8 with(first|(go_at_call 140;((with_reducible refine(bG y2.w _ e.id 1 1000000).mono ?_);rintro _ _ ⟨rfl,z1,rfl⟩;rw[H0.out]))|(go_at_call 140;((with_reducible refine(bG y2.w _ e.rd 0 127).mono ?_);rintro _ _ ⟨rfl,z1,rfl⟩;rw[H1.out]))|(go_at_call 140;((with_reducible refine(bG y2.w _ e.n 1 256).mono ?_);rintro _ _ ⟨rfl,z1,rfl⟩;rw[H2.out]))|(go_at_call 140;((with_reducible refine(bG y2.w _ e.s 0 86400).mono ?_);rintro _ _ ⟨rfl,z1,rfl⟩;rw[H3.out])))
       clear H0 H1 H2 H3
       rcases(by omega:e.f<0∨(0≤e.f∧e.t≤e.f)∨(0≤e.f∧e.f<e.t∧49710<e.t)∨(0≤e.f∧e.f<e.t∧e.t≤49710))with d1|⟨d1,d2⟩|⟨d1,d2,d3⟩|⟨d1,d2,d3⟩
       case inr.inr.inr=>
        have Hg:=A2 (show cT e=true by rw[HG.out];simp;omega);go_wp2_with fail;obtain⟨q,eq⟩:=y2.trans z1;rw[eq];go_roundw
        case rel=>exact⟨k+1,q,by omega,by go_num,rfl,mI Hok.out He'.out Hg.out⟩
        case measure=>simp[intOf]<;>omega
       all_goals
        have Hr:=A2 (lL.out e He'.out (by rw[HG.out];simp;omega));go_wp2_with fail;go_ret;exact⟨D1 Hr.out.symm,by obtain⟨q,e⟩:=y2.trans z1;rw[e];exact⟨q,rfl⟩⟩
  ·obtain rfl:k=l.length:=by omega
   have HP:=A2 (sS.out (uC Hok.out));clear Hok sS lL;have hmm:=@run_makeMap Tryz.prog;go_wp2_with fail;have hm0:F6 V0 (y.w.alloc (.map #[] 0)) y.w.heap.size (P5 ((l.map fun p:G3=>p.id).take 0)):=by
    show(y.w.heap.push _)[y.w.heap.size]? = _;simp[P5,I3]
   obtain⟨y1,hy1⟩:=y.alloc (.map #[] 0);rw[hy1]at hm0⊢;have Hm0:=A2 hm0;have Hgb:=A2 y.b.size;clear hy1 hm0 hmm;generalize y.w.heap.size=bm at *;go_loopw [62] (fun i wr=>∃(k:Nat) (y:A6 w),k≤l.length∧i= .int .i64 k∧wr=y.w∧F6 V0 y.w bm (P5 ((l.map fun p:G3=>p.id).take k))∧((l.map fun p:G3=>p.id).take k).Nodup) (fun i _ =>l.length-(intOf i).toNat)
   case atStart=>exact⟨0,y1,by omega,rfl,rfl,Hm0.out,by simp⟩
   case round=>
    clear Hm0;obtain⟨k,y,hk,rfl,rfl,hm,hnd⟩:=hrel;have Hm:=A2 hm;have Hnd:=A2 hnd;clear hm hnd;by_cases hlt:k<l.length
    ·obtain⟨e,he⟩:∃e,l[k]? =some e:=⟨_,A3 hlt⟩
     obtain⟨b1,off1,rfl,h1'⟩:=D0.pass HL.out he;have pa0:=h1'.c0;have pa1:=h1'.c1;have pa2:=h1'.c2;have pa3:=h1'.c3;have pa4:=h1'.c4;have pa5:=h1'.c5;have hk0:(0:Int)≤(k:Int):=by omega
     have hkl:(k:Int)<(l.length:Int):=by omega
     have He':=A2 (iV (f:=fun p:G3=>p.id) he);have Hnx:=A2 (uJ He'.out);clear h1' he;go_upto_region 15 with fail;obtain⟨y2,e2,C5,hsz0,hlt0,HX0⟩:=L9 y [.int .i64 e.id,.int .i64 e.rd,.int .i64 e.f,.int .i64 e.t,.int .i64 e.n,.int .i64 e.s] 209;rw[e2];obtain⟨hx0,hx1,hx2,hx3,hx4,hx5,hxf⟩:=iM HX0;(replace Hm:=A2 (Hm.out.to' C5))
     clear e2 C5;generalize y.w.heap.size=g at *;obtain⟨E9,G1,J4,I9,M8,O9,G8⟩:=X9 HX0;have I5:=A2 (And.intro hsz0 hlt0);clear hlt0 hsz0 HX0;have hlk:=bD gH Hm.out Tryz.underlying199 (uP _) e.id false;unfold V0 at hlk;simp only[Bool.false_eq_true,if_false]at hlk;by_cases hin:e.id∈(l.map fun p:G3=>p.id).take k
     ·rw[uQ hin]at hlk
      have Hr:=A2 (show U4 l=6 by
       rw[HP.out,if_pos (mO fun h=>((Hnx.out.1 (Ae0 h)).2 hin))])
      clear hin;go_wp2_with fail;go_ret;exact⟨D1 Hr.out.symm,_,rfl⟩
     ·rw[uR hin]at hlk
      obtain⟨w2,hst,hw2⟩:=lZ gH Hm.out Tryz.underlying199 e.id (.bool true) ((iU e.id _ 0).2 hin);unfold V0 at hst;have Hw2:=A2 hw2;have yQ:=A2 (Hnx.out.2 ⟨Hnd.out,hin⟩);clear hw2 hin;go_wp2_with fail;obtain⟨y3,hy3⟩:=y2.block (r:=bm) (by have:=Hgb.out;omega) (.map (I3 V0 (P5 ((l.map fun p:G3=>p.id).take k) ++ [(e.id,Value.bool true)]) 0).toArray (P5 ((l.map fun p:G3=>p.id).take k) ++ [(e.id,Value.bool true)]).length);have hm3:F6 V0 y3.w bm (P5 ((l.map fun p:G3=>p.id).take (k+1))):=by
       rw[←hy3,Ae6 He'.out];exact aK Hm.out.lt'
      have Hm3:=A2 hm3;have Hy3:=A2 (Hw2.out.trans hy3);clear hm3 hy3;rw[Hy3.out];go_roundw
      case rel=>exact⟨k+1,y3,by omega,by go_num,rfl,Hm3.out,yQ.out⟩
      case measure=>simp[intOf]<;>omega
    ·obtain rfl:k=l.length:=by omega
     have Hr:=A2 (show U4 l=0 by
      have h1:=Hnd.out;rw[List.take_of_length_le (by simp)]at h1;rw[HP.out,if_neg (by rw[mP h1];simp)])
     go_wp2_with fail;go_ret;exact⟨D1 Hr.out.symm,_,rfl⟩
end
section
open Go.RowKit Go.ChangeMaps
theorem Ae8 {l:List A8} {k:Nat} {r:A8} (hb:l.length≤256) (hr:l[k]? =some r) (he:I7 r≠0) (hn:∀j,j<k→∀x,l[j]? =some x→I7 x=0):S4 l=I7 r:=by
 unfold S4;rw[if_neg (by omega),AL6 hr he hn,if_pos he]
theorem pS {l:List A8} (hb:l.length≤256) (hn:∀j,j<l.length→∀x,l[j]? =some x→I7 x=0):S4 l=if p7 (l.map fun r:A8=>r.id)=true then 6 else 0:=by
 unfold S4;rw[if_neg (by omega),AL7 hn,if_neg (by simp)]
theorem AM1 (w:World) (x:A6 w) (pa:Option Addr) (lp:List G3) (pc:Nat) (a:Option Addr) (l:List A8) (c:Nat) (hp:kJ w pa lp) (hpl:lp.length≤9223372036854775807) (h:j3 w a l) (hl:l.length≤9223372036854775807):
 Calls Tryz.prog 102 #[.slice pa lp.length pc,.slice a l.length c] x.w fun o w'=>o= .returned (.int .i64 (Y0 lp l))∧∃y:A6 w,w'=y.w:=by
 have HL:=A2 h;have Hpc:=A2 (fun y:A6 w=>Ae7 w y pa lp pc hp hpl);have HU:=A2 (show Y0 lp l=if U4 lp≠0 then U4 lp else S4 l from rfl);clear h hp hpl;generalize U4 lp=pe at *;by_cases hpe:pe=0
 case neg=>
  have hpb:(pe != 0)=true:=by simpa using hpe
  have Hr:=A2 (show Y0 lp l=pe by rw[HU.out,if_pos hpe]);clear hpe;go_enter Tryz.func102,Tryz.ntmps102;go_wp2_with(go_at_call 97;((with_reducible refine(Hpc.out _).mono ?_);rintro _ _ ⟨rfl,y1,rfl⟩));go_ret;exact⟨D1 Hr.out.symm,_,rfl⟩
 subst hpe;replace HU:=A2 (show Y0 lp l=S4 l by rw[HU.out,if_neg (by simp)]);by_cases hbig:256<l.length
 ·have Hr:=A2 (show Y0 lp l=8 by rw[HU.out];unfold S4;rw[if_pos hbig])
  go_enter Tryz.func102,Tryz.ntmps102;go_wp2_with(go_at_call 97;((with_reducible refine(Hpc.out _).mono ?_);rintro _ _ ⟨rfl,y1,rfl⟩));go_ret;exact⟨D1 Hr.out.symm,_,rfl⟩
 have tF:l.length≤256:=by omega
 clear hbig hl;go_enter Tryz.func102,Tryz.ntmps102;go_wp2_with(go_at_call 97;((with_reducible refine(Hpc.out _).mono ?_);rintro _ _ ⟨rfl,y1,rfl⟩));clear Hpc;go_loopw [22] (fun i wr=>∃(k:Nat) (y:A6 w),k≤l.length∧i= .int .i64 k∧wr=y.w∧∀j,j<k→∀e,l[j]? =some e→I7 e=0) (fun i _ =>l.length-(intOf i).toNat)
 case atStart=>exact⟨0,_,by omega,rfl,rfl,fun j hj=>by omega⟩
 case round=>
  obtain⟨k,y,hk,rfl,rfl,hok⟩:=hrel;have Hok:=A2 hok;clear hok;by_cases hlt:k<l.length
  ·obtain⟨e,he⟩:∃e,l[k]? =some e:=⟨_,A3 hlt⟩
   obtain⟨b1,off1,rfl,h1'⟩:=D0.ride HL.out.c he;have ra0:=h1'.c0;have ra1:=h1'.c1;have ra2:=h1'.c2;have ra3:=h1'.c3;have ra4:=h1'.c4;have ra5:=h1'.c5;have ra6:=h1'.c6;have ra7:=h1'.c7;have ra8:=h1'.c8;have ra9:=h1'.c9;have ra10:=h1'.c10;have ra11:=h1'.c11;have ra12:=h1'.c12;have hk0:(0:Int)≤(k:Int):=by omega
   have hkl:(k:Int)<(l.length:Int):=by omega
   have He':=A2 he;have Hat:=A2 (HL.out.r e (A0 he));clear h1' he;go_upto_region 9 with fail;obtain⟨y2,e2,C5,hsz0,hlt0,HX0⟩:=L9 y [.int .i64 e.id,.int .i64 e.rd,.int .i64 e.s0,.int .i64 e.s1,.int .i64 e.e0,.int .i64 e.e1,.bool e.op,.slice e.la e.legs.length e.lc,.slice e.pa e.pauses.length e.pc,.int .i64 e.fw,.int .i64 e.fp,.int .i64 e.wh,.int .i64 e.pl] 40;rw[e2];obtain⟨hx0,hx1,hx2,hx3,hx4,hx5,hx6,hx7,hx8,hx9,dF,dG,dH,hxf⟩:=bU HX0;(replace Hat:=A2 ((Hat.out.since y).to C5))
   clear e2 C5;generalize y.w.heap.size=g at *;obtain⟨E9,G1,J4,I9,M8,O9,S2,S9,T0,aH,aB,aC,aD,G8⟩:=P8 HX0;have I5:=A2 (And.intro hsz0 hlt0);clear hlt0 hsz0 HX0;obtain⟨q0,hq0⟩:=A6.refl y2.w;rw[hq0];clear hq0;have Hck:=A2 (fun z:A6 y2.w=>uE y2.w z e Hat.out);by_cases her:I7 e=0
   ·rw[her]at Hck
    have Hv:=A2 her;clear her;go_wp2_with(go_at_call 9;((with_reducible refine(Hck.out _).mono ?_);rintro _ _ ⟨rfl,z1,rfl⟩));obtain⟨q,eq⟩:=y2.trans z1;rw[eq];go_roundw
    case rel=>exact⟨k+1,q,by omega,by go_num,rfl,mI (P:=fun e:A8=>I7 e=0) Hok.out He'.out Hv.out⟩
    case measure=>simp[intOf]<;>omega
   ·have Hr:=A2 (show Y0 lp l=I7 e by rw[HU.out,Ae8 tF He'.out her Hok.out])
    have heb:(I7 e != 0)=true:=by simpa using her
    clear her;generalize I7 e=re at *;go_wp2_with(go_at_call 9;((with_reducible refine(Hck.out _).mono ?_);rintro _ _ ⟨rfl,z1,rfl⟩));go_ret;exact⟨D1 Hr.out.symm,by obtain⟨q,e⟩:=y2.trans z1;rw[e];exact⟨q,rfl⟩⟩
  ·obtain rfl:k=l.length:=by omega
   have HP:=A2 (HU.out.trans (pS tF Hok.out));clear Hok HU;have hmm:=@run_makeMap Tryz.prog;go_wp2_with fail;have hm0:F6 V0 (y.w.alloc (.map #[] 0)) y.w.heap.size (P5 ((l.map fun r:A8=>r.id).take 0)):=by
    show(y.w.heap.push _)[y.w.heap.size]? = _;simp[P5,I3]
   obtain⟨y1,hy1⟩:=y.alloc (.map #[] 0);rw[hy1]at hm0⊢;have Hm0:=A2 hm0;have Hgb:=A2 y.b.size;clear hy1 hm0 hmm;generalize y.w.heap.size=bm at *;go_loopw [35] (fun i wr=>∃(k:Nat) (y:A6 w),k≤l.length∧i= .int .i64 k∧wr=y.w∧F6 V0 y.w bm (P5 ((l.map fun r:A8=>r.id).take k))∧((l.map fun r:A8=>r.id).take k).Nodup) (fun i _ =>l.length-(intOf i).toNat)
   case atStart=>exact⟨0,y1,by omega,rfl,rfl,Hm0.out,by simp⟩
   case round=>
    clear Hm0;obtain⟨k,y,hk,rfl,rfl,hm,hnd⟩:=hrel;have Hm:=A2 hm;have Hnd:=A2 hnd;clear hm hnd;by_cases hlt:k<l.length
    ·obtain⟨e,he⟩:∃e,l[k]? =some e:=⟨_,A3 hlt⟩
     obtain⟨b1,off1,rfl,h1'⟩:=D0.ride HL.out.c he;have ra0:=h1'.c0;have ra1:=h1'.c1;have ra2:=h1'.c2;have ra3:=h1'.c3;have ra4:=h1'.c4;have ra5:=h1'.c5;have ra6:=h1'.c6;have ra7:=h1'.c7;have ra8:=h1'.c8;have ra9:=h1'.c9;have ra10:=h1'.c10;have ra11:=h1'.c11;have ra12:=h1'.c12;have hk0:(0:Int)≤(k:Int):=by omega
     have hkl:(k:Int)<(l.length:Int):=by omega
     have He':=A2 (iV (f:=fun r:A8=>r.id) he);have Hnx:=A2 (uJ He'.out);clear h1' he;go_upto_region 17 with fail;obtain⟨y2,e2,C5,hsz0,hlt0,HX0⟩:=L9 y [.int .i64 e.id,.int .i64 e.rd,.int .i64 e.s0,.int .i64 e.s1,.int .i64 e.e0,.int .i64 e.e1,.bool e.op,.slice e.la e.legs.length e.lc,.slice e.pa e.pauses.length e.pc,.int .i64 e.fw,.int .i64 e.fp,.int .i64 e.wh,.int .i64 e.pl] 40;rw[e2];obtain⟨hx0,hx1,hx2,hx3,hx4,hx5,hx6,hx7,hx8,hx9,dF,dG,dH,hxf⟩:=bU HX0;(replace Hm:=A2 (Hm.out.to' C5))
     clear e2 C5;generalize y.w.heap.size=g at *;obtain⟨E9,G1,J4,I9,M8,O9,S2,S9,T0,aH,aB,aC,aD,G8⟩:=P8 HX0;have I5:=A2 (And.intro hsz0 hlt0);clear hlt0 hsz0 HX0;have hlk:=bD gH Hm.out Tryz.underlying199 (uP _) e.id false;unfold V0 at hlk;simp only[Bool.false_eq_true,if_false]at hlk;by_cases hin:e.id∈(l.map fun r:A8=>r.id).take k
     ·rw[uQ hin]at hlk
      have Hr:=A2 (show Y0 lp l=6 by
       rw[HP.out,if_pos (mO fun h=>((Hnx.out.1 (Ae0 h)).2 hin))])
      clear hin;go_wp2_with fail;go_ret;exact⟨D1 Hr.out.symm,_,rfl⟩
     ·rw[uR hin]at hlk
      obtain⟨w2,hst,hw2⟩:=lZ gH Hm.out Tryz.underlying199 e.id (.bool true) ((iU e.id _ 0).2 hin);unfold V0 at hst;have Hw2:=A2 hw2;have yQ:=A2 (Hnx.out.2 ⟨Hnd.out,hin⟩);clear hw2 hin;go_wp2_with fail;obtain⟨y3,hy3⟩:=y2.block (r:=bm) (by have:=Hgb.out;omega) (.map (I3 V0 (P5 ((l.map fun r:A8=>r.id).take k) ++ [(e.id,Value.bool true)]) 0).toArray (P5 ((l.map fun r:A8=>r.id).take k) ++ [(e.id,Value.bool true)]).length);have hm3:F6 V0 y3.w bm (P5 ((l.map fun r:A8=>r.id).take (k+1))):=by
       rw[←hy3,Ae6 He'.out];exact aK Hm.out.lt'
      have Hm3:=A2 hm3;have Hy3:=A2 (Hw2.out.trans hy3);clear hm3 hy3;rw[Hy3.out];go_roundw
      case rel=>exact⟨k+1,y3,by omega,by go_num,rfl,Hm3.out,yQ.out⟩
      case measure=>simp[intOf]<;>omega
    ·obtain rfl:k=l.length:=by omega
     have Hr:=A2 (show Y0 lp l=0 by
      have h1:=Hnd.out;rw[List.take_of_length_le (by simp)]at h1;rw[HP.out,if_neg (by rw[mP h1];simp)])
     go_wp2_with fail;go_ret;exact⟨D1 Hr.out.symm,_,rfl⟩
end
end Go.Proofs.YtmmlmhnjjfnpnaaGreat
