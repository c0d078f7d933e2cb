/- Texts that belong together. -/
import Derived.Test.YtmmlmhnjjfnpnaaGreatTpQe
import Derived.IntWalk
set_option linter.all false
namespace Go.Proofs.YtmmlmhnjjfnpnaaGreat
set_option maxRecDepth 200000
set_option maxHeartbeats 64000000
section
open Go.RowKit
structure J1 where
 id:Int
 rd:Int
 f:Int
 t:Int
 n:Int
 s:Int
def J1.cs (x:J1):List Value:=[.int .i64 x.id,.int .i64 x.rd,.int .i64 x.f,.int .i64 x.t,.int .i64 x.n,.int .i64 x.s]
theorem J1.len (x:J1):x.cs.length=6:=rfl
instance:Inhabited J1:=⟨⟨0,0,0,0,0,0⟩⟩
structure AG3 (w:World) (b o:Nat) (e:J1):Prop where
 c0:∀y:A7 w,y.w.cell? ⟨b,o,none⟩=some (.int .i64 e.id)
 c1:∀y:A7 w,y.w.cell? ⟨b,o+1,none⟩=some (.int .i64 e.rd)
 c2:∀y:A7 w,y.w.cell? ⟨b,o+2,none⟩=some (.int .i64 e.f)
 c3:∀y:A7 w,y.w.cell? ⟨b,o+3,none⟩=some (.int .i64 e.t)
 c4:∀y:A7 w,y.w.cell? ⟨b,o+4,none⟩=some (.int .i64 e.n)
 c5:∀y:A7 w,y.w.cell? ⟨b,o+5,none⟩=some (.int .i64 e.s)
theorem D0.pass {w:World} {a:Option Addr} {l:List J1} (h:D0 J1.cs 6 w a l) {k:Nat} {x:J1} (hk:l[k]? =some x):∃b off,a=some ⟨b,off,none⟩∧AG3 w b (off+k*6) x:=by
 obtain⟨b,off,ha,hb,hc⟩:=h k x hk;refine⟨b,off,ha,?_⟩;have hh:∀j v,x.cs[j]? =some v→∀y:A7 w,y.w.cell? ⟨b,off+k*6+j,none⟩=some v:=fun j v hv=>A7.cell (hc j v hv) hb;exact⟨hh 0 _ rfl,hh 1 _ rfl,hh 2 _ rfl,hh 3 _ rfl,hh 4 _ rfl,hh 5 _ rfl⟩
abbrev kG (w:World) (a:Option Addr) (l:List J1):Prop:=D0 J1.cs 6 w a l
def dC (p:J1):Bool:=decide (1≤p.id) && decide (p.id≤1000000) && decide (0≤p.rd) && decide (p.rd≤127) && decide (1≤p.n) && decide (p.n≤256) && decide (0≤p.s) && decide (p.s≤86400) && decide (0≤p.f) && decide (p.f<p.t) && decide (p.t≤49710)
theorem AG4 (p:J1):dC p=true↔1≤p.id∧p.id≤1000000∧0≤p.rd∧p.rd≤127∧1≤p.n∧p.n≤256∧0≤p.s∧p.s≤86400∧0≤p.f∧p.f<p.t∧p.t≤49710:=by simp[dC,and_assoc]
def r7 (l:List Int):Bool:=!decide l.Nodup
theorem mC {l:List Int} (h:¬l.Nodup):r7 l=true:=by unfold r7;rw[decide_eq_false h];rfl
theorem mD {l:List Int} (h:l.Nodup):r7 l=false:=by unfold r7;rw[decide_eq_true h];rfl
theorem tG (l:List Int):(r7 l=true∧¬l.Nodup)∨(r7 l=false∧l.Nodup):=by
 by_cases h:l.Nodup
 ·exact .inr ⟨mD h,h⟩
 ·exact .inl ⟨mC h,h⟩
theorem tH {l:List Int} {k:Nat} {x:Int} (hx:l[k]? =some x):(l.take (k+1)).Nodup↔(l.take k).Nodup∧x∉l.take k:=by
 rw[List.take_succ_eq_append_getElem (A5 hx).1,(A5 hx).2,List.nodup_append];constructor
 ·rintro⟨h1,_,h3⟩;exact⟨h1,fun h=>h3 x h x (by simp) rfl⟩
 ·rintro⟨h1,h2⟩;exact⟨h1,by simp,fun a ha b hb hab=>h2 (by simp at hb;subst hb;subst hab;exact ha)⟩
theorem Aa9 {l:List Int} {k:Nat} (h:l.Nodup):(l.take k).Nodup:=h.sublist (List.take_sublist _ _)
def W0 (l:List J1):Int:=if 64<l.length then 8 else if l.all dC=false then 1 else if r7 (l.map (·.id))=true then 6 else 0
def fR (l:List A9):Int:=match l.find? (fun r=>J9 r != 0)with|some r=>J9 r|none=>0
theorem AG5 {l:List A9} {k:Nat} {r:A9} (hr:l[k]? =some r) (he:J9 r≠0) (hn:∀j,j<k→∀x,l[j]? =some x→J9 x=0):fR l=J9 r:=by
 unfold fR;have:l.find? (fun r=>J9 r != 0)=some r:=by
  rw[List.find?_eq_some_iff_getElem];refine⟨by simpa using he,k,(A5 hr).1,(A5 hr).2,fun j hj=>?_⟩;have:=hn j hj _ (A4 (by have:=(A5 hr).1;omega));simp[this]
 rw[this]
theorem AG6 {l:List A9} (hn:∀j,j<l.length→∀x,l[j]? =some x→J9 x=0):fR l=0:=by
 unfold fR;have:l.find? (fun r=>J9 r != 0)=none:=by
  rw[List.find?_eq_none];intro x hx;obtain⟨j,hj⟩:=List.mem_iff_getElem?.1 hx;simp[hn j (A5 hj).1 x hj]
 rw[this]
def U9 (l:List A9):Int:=if 256<l.length then 8 else if fR l≠0 then fR l else if r7 (l.map (·.id))=true then 6 else 0
def Z9 (lp:List J1) (lr:List A9):Int:=if W0 lp≠0 then W0 lp else U9 lr
def J2 (r:A9):Int:=r.s0/86400
def bef (a b:A9):Bool:=decide (a.s0<b.s0) || (decide (a.s0=b.s0) && (decide (a.e0<b.e0) || (decide (a.e0=b.e0) && decide (a.id<b.id))))
theorem kH (a b:A9):bef a b=true↔a.s0<b.s0∨(a.s0=b.s0∧(a.e0<b.e0∨(a.e0=b.e0∧a.id<b.id))):=by simp[bef]
theorem mE (a:A9):bef a a=false:=by
 cases h:bef a a
 ·rfl
 ·rw[kH]at h;omega
theorem tI {a b c:A9} (h1:bef a b=true) (h2:bef b c=true):bef a c=true:=by rw[kH]at *;omega
theorem AG7 {a b:A9} (h:bef a b=true):bef b a=false:=by
 cases h2:bef b a
 ·rfl
 ·have:=tI h h2;rw[mE]at this;cases this
theorem tJ {a b:A9} (h1:bef a b=false) (h2:bef b a=false):a.id=b.id:=by
 have n1:¬bef a b=true:=by rw[h1];simp
 have n2:¬bef b a=true:=by rw[h2];simp
 rw[kH]at n1 n2;omega
theorem tK {a b c:A9} (h1:bef a b=false) (h2:bef b c=false):bef a c=false:=by
 have n1:¬bef a b=true:=by rw[h1];simp
 have n2:¬bef b c=true:=by rw[h2];simp
 cases h:bef a c
 ·rfl
 ·rw[kH]at n1 n2 h;omega
def vP (p:J1) (r:A9):Bool:=decide (p.rd=r.rd) && (decide (p.f≤J2 r) && decide (J2 r<p.t))
def D3 (R:List A9) (i:Nat):A9:=R.getD i default
def N4 (l:List J1) (i:Nat):J1:=l.getD i default
theorem Ab0 {R:List A9} {i:Nat} {x:A9} (h:R[i]? =some x):D3 R i=x:=by unfold D3;rw[A6,h];rfl
theorem AG8 {R:List J1} {i:Nat} {x:J1} (h:R[i]? =some x):N4 R i=x:=by unfold N4;rw[A6,h];rfl
def bR (R:List A9) (u:Nat→Int) (x:A9) (k:Int):Nat:=((List.range R.length).filter fun j=>bef (D3 R j) x && decide (u j=k) && decide (J2 (D3 R j)=J2 x)).length
def r9 (lp:List J1) (r:A9) (c:Int→Nat):Int:=match(List.range lp.length).find? (fun k=>vP (N4 lp k) r && decide ((c (k:Int):Int)<(N4 lp k).n))with|some k=>(k:Int)|none=>-1
def dX (lp:List J1) (R:List A9) (u:Nat→Int):Prop:=∀i,i<R.length→u i=r9 lp (D3 R i) (bR R u (D3 R i))
theorem tL {lp:List J1} {r:A9} {c d:Int→Nat} (h:∀k,k<lp.length→c (k:Int)=d (k:Int)):r9 lp r c=r9 lp r d:=by
 unfold r9;have:(List.range lp.length).find? (fun k=>vP (N4 lp k) r && decide ((c (k:Int):Int)<(N4 lp k).n))=(List.range lp.length).find? (fun k=>vP (N4 lp k) r && decide ((d (k:Int):Int)<(N4 lp k).n)):=by
  have hg:∀l:List Nat,(∀k∈l,k<lp.length)→l.find? (fun k=>vP (N4 lp k) r && decide ((c (k:Int):Int)<(N4 lp k).n))=l.find? (fun k=>vP (N4 lp k) r && decide ((d (k:Int):Int)<(N4 lp k).n)):=by
   intro l;induction l with
   |nil=>intro _;rfl
   |cons a l ih=>
    intro hl
    simp only[List.find?_cons]
    rw[h a (hl a (by simp)),ih (fun k hk=>hl k (by simp[hk]))]
  exact hg _ (fun k hk=>List.mem_range.1 hk)
 rw[this]
theorem AG9 {lp:List J1} {r:A9} {c:Int→Nat} {k:Nat} (hk:k<lp.length) (h:(vP (N4 lp k) r && decide ((c (k:Int):Int)<(N4 lp k).n))=true) (hn:∀j,j<k→(vP (N4 lp j) r && decide ((c (j:Int):Int)<(N4 lp j).n))=false):r9 lp r c=k:=by
 unfold r9;have:(List.range lp.length).find? (fun k=>vP (N4 lp k) r && decide ((c (k:Int):Int)<(N4 lp k).n))=some k:=by
  rw[List.find?_eq_some_iff_getElem];refine⟨h,k,by simpa using hk,by simp,fun j hj=>?_⟩;simp only[List.getElem_range];rw[hn j hj];rfl
 rw[this]
theorem Ab1 {lp:List J1} {r:A9} {c:Int→Nat} (hn:∀j,j<lp.length→(vP (N4 lp j) r && decide ((c (j:Int):Int)<(N4 lp j).n))=false):r9 lp r c= -1:=by
 unfold r9;have:(List.range lp.length).find? (fun k=>vP (N4 lp k) r && decide ((c (k:Int):Int)<(N4 lp k).n))=none:=by
  rw[List.find?_eq_none];intro j hj;rw[hn j (List.mem_range.1 hj)];simp
 rw[this]
theorem AH0 (lp:List J1) (r:A9) (c:Int→Nat):(∃k:Nat,k<lp.length∧r9 lp r c=k∧(vP (N4 lp k) r && decide ((c (k:Int):Int)<(N4 lp k).n))=true∧∀j,j<k→(vP (N4 lp j) r && decide ((c (j:Int):Int)<(N4 lp j).n))=false)∨
 (r9 lp r c= -1∧∀j,j<lp.length→(vP (N4 lp j) r && decide ((c (j:Int):Int)<(N4 lp j).n))=false):=by
 cases h:(List.range lp.length).find? (fun k=>vP (N4 lp k) r && decide ((c (k:Int):Int)<(N4 lp k).n))with
 |none=>
  refine .inr ⟨by unfold r9;rw[h],fun j hj=>?_⟩
  rw[List.find?_eq_none]at h
  simpa using h j (List.mem_range.2 hj)
 |some k=>
  refine .inl ⟨k,?_⟩
  have h':=h
  rw[List.find?_eq_some_iff_getElem]at h'
  obtain⟨hp,i,hi,hik,hn⟩:=h'
  simp at hik;subst hik
  refine⟨by simpa using hi,by unfold r9;rw[h],hp,fun j hj=>?_⟩
  have:=hn j hj
  simpa only[List.getElem_range,Bool.not_eq_true']using this
theorem tM {R:List A9} {u v:Nat→Int} {x:A9} (h:∀j,j<R.length→bef (D3 R j) x=true→u j=v j) (k:Int):bR R u x k=bR R v x k:=by
 unfold bR;congr 1;refine List.filter_congr fun j hj=>?_
 cases hb:bef (D3 R j) x
 ·rfl
 ·rw[h j (List.mem_range.1 hj) hb]
end
section
open Go.RowKit Go.ChangeMaps
def inB (n lo hi:Int):Bool:=decide (lo≤n) && decide (n≤hi)
theorem bS (w:World) (x:A7 w) (n lo hi:Int):
 Calls Tryz.prog 140 #[.int .i64 n,.int .i64 lo,.int .i64 hi] x.w fun o w'=>o= .returned (.bool (inB n lo hi))∧∃y:A7 w,w'=y.w:=by
 rcases(by omega:n<lo∨(lo≤n∧hi<n)∨(lo≤n∧n≤hi))with h|⟨h,h'⟩|⟨h,h'⟩
 all_goals
  have Hv:=A3 (show inB n lo hi=(decide (lo≤n) && decide (n≤hi))from rfl);go_enter Tryz.func140,Tryz.ntmps140;go_wp2_with fail;go_ret;exact⟨I1 (by rw[Hv.out];simp;omega),_,rfl⟩
def fS (p:J1) (d:Int):Bool:=decide (p.f≤d) && decide (d<p.t)
theorem Ab2 (w:World) (x:A7 w) (p:J1) (d:Int):
 Calls Tryz.prog 155 #[.agg #[.int .i64 p.id,.int .i64 p.rd,.int .i64 p.f,.int .i64 p.t,.int .i64 p.n,.int .i64 p.s],.int .i64 d] x.w fun o w'=>o= .returned (.bool (fS p d))∧∃y:A7 w,w'=y.w:=by
 rcases(by omega:d<p.f∨(p.f≤d∧p.t≤d)∨(p.f≤d∧d<p.t))with h|⟨h,h'⟩|⟨h,h'⟩
 all_goals
  have Hv:=A3 (show fS p d=(decide (p.f≤d) && decide (d<p.t))from rfl);go_enter Tryz.func155,Tryz.ntmps155;go_wp2_with fail;go_ret;exact⟨I1 (by rw[Hv.out];simp;omega),x.alloc _⟩
theorem Ab3 (w:World) (x:A7 w) (r:A9) (h0:0≤r.s0) (h1:r.s0≤4294943999):
 Calls Tryz.prog 156 #[.agg #[.int .i64 r.id,.int .i64 r.rd,.int .i64 r.s0,.int .i64 r.s1,.int .i64 r.e0,.int .i64 r.e1,.bool r.op,.slice r.la r.legs.length r.lc,.slice r.pa r.pauses.length r.pc,.int .i64 r.fw,.int .i64 r.fp,.int .i64 r.wh,.int .i64 r.pl]] x.w fun o w'=>o= .returned (.int .i64 (J2 r))∧∃y:A7 w,w'=y.w:=by
 have Hd:=A3 (show J2 r=r.s0/86400 from rfl);go_enter Tryz.func156,Tryz.ntmps156;go_wp2_with fail;go_ret;exact⟨D5 Hd.out.symm,x.alloc _⟩
end
section
open Go.RowKit Go.ChangeMaps
theorem AH1 (e:J1):dC e=(inB e.id 1 1000000 && (inB e.rd 0 127 && (inB e.n 1 256 && (inB e.s 0 86400 && (decide (0≤e.f) && (decide (e.f<e.t) && decide (e.t≤49710))))))):=by
 unfold dC inB;simp only[Bool.and_assoc]
def W9 (x:Int):Value:=.int .i64 x
theorem gR:Y2 Tryz.prog 3 W9 true where
 chk em w x:=by unfold W9;kernel_rfl
 eq w x y:=by
  unfold W9;show(Op.equalIn (9999+1) _ _ _).run _ _ = _;rw[run_equalIn_int w 9999 _ .i64 .i64 x y Tryz.underlying3];congr 1
 und:=⟨_,Tryz.underlying3,fun x y=>by
  unfold W9;simp only[Instr.sameNow,if_true];congr 1⟩
 bits x:=by
  unfold W9;rw[show(10000:Nat)=9999+1 from rfl];simp[Instr.sameBits]
theorem tN (w:World):(zeroValue 4).run Tryz.prog w= .ok (.bool false) w:=by kernel_rfl
def Q8 (l:List Int):List (Int×Value):=l.map fun i=>(i,.bool true)
theorem iY:∀(x:Int) (l:List Int) (i:Nat),(x∈l→∃j,E8 x (Q8 l) i=some (j,.bool true))∧(x∉l→E8 x (Q8 l) i=none)
 |x,[],i=>⟨fun h=>(by cases h),fun _ =>rfl⟩
 |x,y :: l,i=>by
  obtain⟨h1,h2⟩:=iY x l (i+1);by_cases h:x=y
  ·subst h
   exact⟨fun _ =>⟨i,by show E8 x ((x,Value.bool true) :: Q8 l) i= _;unfold E8;rw[if_pos rfl]⟩,fun hn=>(hn (by simp)).elim⟩
  ·have e:E8 x (Q8 (y :: l)) i=E8 x (Q8 l) (i+1):=by show E8 x ((y,Value.bool true) :: Q8 l) i= _;rw[E8,if_neg h]
   rw[e];exact⟨fun hm=>h1 (by simpa[h]using hm),fun hn=>h2 (fun hm=>hn (by simp[hm]))⟩
theorem tO {x:Int} {l:List Int} (h:x∈l):Q4 x (Q8 l) (.bool false)= .bool true:=by
 obtain⟨j,hj⟩:=(iY x l 0).1 h;unfold Q4;rw[hj]
theorem tP {x:Int} {l:List Int} (h:x∉l):Q4 x (Q8 l) (.bool false)= .bool false:=by
 unfold Q4;rw[(iY x l 0).2 h]
theorem Ab4 {l:List Int} {k:Nat} {x:Int} (h:l[k]? =some x):Q8 (l.take (k+1))=Q8 (l.take k) ++ [(x,.bool true)]:=by
 unfold Q8;rw[List.take_succ_eq_append_getElem (A5 h).1,(A5 h).2,List.map_append];rfl
theorem J0.to' {κ:Type} {ek:κ→Value} {w W:World} {b:Nat} {l:List (κ×Value)} (h:J0 ek w b l) (hW:∃z:A7 w,W=z.w):J0 ek W b l:=by
 obtain⟨z,rfl⟩:=hW;exact A7.heap h z
theorem J0.lt' {κ:Type} {ek:κ→Value} {w:World} {b:Nat} {l:List (κ×Value)} (h:J0 ek w b l):b<w.heap.size:=(Array.getElem?_eq_some_iff.1 h).1
theorem iZ {α β:Type} {f:α→β} {l:List α} {k:Nat} {e:α} (h:l[k]? =some e):(l.map f)[k]? =some (f e):=by rw[List.getElem?_map,h];rfl
theorem Ab5 (w:World) (x:A7 w) (a:Option Addr) (l:List J1) (c:Nat) (h:kG w a l) (hl:l.length≤9223372036854775807):
 Calls Tryz.prog 97 #[.slice a l.length c] x.w fun o w'=>o= .returned (.int .i64 (W0 l))∧∃y:A7 w,w'=y.w:=by
 have HL:=A3 h;clear h;by_cases hbig:64<l.length
 ·have Hr:=A3 (show W0 l=8 by unfold W0;rw[if_pos hbig])
  go_enter Tryz.func97,Tryz.ntmps97;go_wp2_with fail;go_ret;exact⟨D5 Hr.out.symm,_,rfl⟩
 have BD0:l.length≤64:=by omega
 have lF:=A3 (fun(e:J1) {k:Nat} (he:l[k]? =some e) (hg:dC e=false)=>show W0 l=1 by unfold W0;rw[if_neg hbig,if_pos (lZ he hg)]);have rU:=A3 (fun(hg:l.all dC=true)=>show W0 l=if r7 (l.map fun p:J1=>p.id)=true then 6 else 0 by unfold W0;rw[if_neg hbig,if_neg (by rw[hg];simp)]);clear hbig hl;go_enter Tryz.func97,Tryz.ntmps97;go_wp2_with fail;go_loopw [13] (fun i wr=>∃(k:Nat) (y:A7 w),k≤l.length∧i= .int .i64 k∧wr=y.w∧∀j,j<k→∀e,l[j]? =some e→dC e=true) (fun i _ =>l.length-(intOf i).toNat)
 case atStart=>exact⟨0,_,by omega,rfl,rfl,fun j hj=>by omega⟩
 case round=>
  obtain⟨k,y,hk,rfl,rfl,hok⟩:=hrel;have Hok:=A3 hok;clear hok;by_cases hlt:k<l.length
  ·obtain⟨e,he⟩:∃e,l[k]? =some e:=⟨_,A4 hlt⟩
   obtain⟨b1,off1,rfl,h1'⟩:=D0.pass HL.out he;have pa0:=h1'.c0;have pa1:=h1'.c1;have pa2:=h1'.c2;have pa3:=h1'.c3;have pa4:=h1'.c4;have pa5:=h1'.c5;have hk0:(0:Int)≤(k:Int):=by omega
   have hkl:(k:Int)<(l.length:Int):=by omega
   have He':=A3 he;clear h1' he;have HG:=A3 (AH1 e);go_upto_region 6 with fail;obtain⟨y2,e2,C9,hsz0,hlt0,HX0⟩:=L8 y [.int .i64 e.id,.int .i64 e.rd,.int .i64 e.f,.int .i64 e.t,.int .i64 e.n,.int .i64 e.s] 209;rw[e2];obtain⟨hx0,hx1,hx2,hx3,hx4,hx5,hxf⟩:=kC HX0;skip;clear e2 C9;generalize y.w.heap.size=g at *;obtain⟨E6,G9,K1,J5,O8,U5,I3⟩:=Z8 HX0;have I9:=A3 (And.intro hsz0 hlt0);clear hlt0 hsz0 HX0;obtain⟨q0,hq0⟩:=A7.refl y2.w;rw[hq0];clear hq0
   cases h0:inB e.id 1 1000000 with
   |false=>
    have Hr:=A3 (lF.out e He'.out (by rw[HG.out,h0];simp))
    have H0:=A3 h0;clear h0
    go_wp2_with(go_at_call 140;((with_reducible refine(bS y2.w _ e.id 1 1000000).mono ?_);rintro _ _ ⟨rfl,z1,rfl⟩;rw[H0.out]))
    go_ret
    exact⟨D5 Hr.out.symm,by obtain⟨q,e⟩:=y2.trans z1;rw[e];exact⟨q,rfl⟩⟩
   |true=>
    rw[h0,Bool.true_and]at HG
    have H0:=A3 h0;clear h0
    cases h1:inB e.rd 0 127 with
    |false=>
     have Hr:=A3 (lF.out e He'.out (by rw[HG.out,h1];simp))
     have H1:=A3 h1;clear h1
     go_wp2_with(first|(go_at_call 140;((with_reducible refine(bS y2.w _ e.id 1 1000000).mono ?_);rintro _ _ ⟨rfl,z1,rfl⟩;rw[H0.out]))|(go_at_call 140;((with_reducible refine(bS y2.w _ e.rd 0 127).mono ?_);rintro _ _ ⟨rfl,z1,rfl⟩;rw[H1.out])))
     go_ret
     exact⟨D5 Hr.out.symm,by obtain⟨q,e⟩:=y2.trans z1;rw[e];exact⟨q,rfl⟩⟩
    |true=>
     rw[h1,Bool.true_and]at HG
     have H1:=A3 h1;clear h1
     cases h2:inB e.n 1 256 with
     |false=>
      have Hr:=A3 (lF.out e He'.out (by rw[HG.out,h2];simp))
      have H2:=A3 h2;clear h2
      go_wp2_with(first|(go_at_call 140;((with_reducible refine(bS y2.w _ e.id 1 1000000).mono ?_);rintro _ _ ⟨rfl,z1,rfl⟩;rw[H0.out]))|(go_at_call 140;((with_reducible refine(bS y2.w _ e.rd 0 127).mono ?_);rintro _ _ ⟨rfl,z1,rfl⟩;rw[H1.out]))|(go_at_call 140;((with_reducible refine(bS y2.w _ e.n 1 256).mono ?_);rintro _ _ ⟨rfl,z1,rfl⟩;rw[H2.out])))
      go_ret
      exact⟨D5 Hr.out.symm,by obtain⟨q,e⟩:=y2.trans z1;rw[e];exact⟨q,rfl⟩⟩
     |true=>
      rw[h2,Bool.true_and]at HG
      have H2:=A3 h2;clear h2
      cases h3:inB e.s 0 86400 with
      |false=>
       have Hr:=A3 (lF.out e He'.out (by rw[HG.out,h3];simp))
       have H3:=A3 h3;clear h3
       go_wp2_with(first|(go_at_call 140;((with_reducible refine(bS y2.w _ e.id 1 1000000).mono ?_);rintro _ _ ⟨rfl,z1,rfl⟩;rw[H0.out]))|(go_at_call 140;((with_reducible refine(bS y2.w _ e.rd 0 127).mono ?_);rintro _ _ ⟨rfl,z1,rfl⟩;rw[H1.out]))|(go_at_call 140;((with_reducible refine(bS y2.w _ e.n 1 256).mono ?_);rintro _ _ ⟨rfl,z1,rfl⟩;rw[H2.out]))|(go_at_call 140;((with_reducible refine(bS y2.w _ e.s 0 86400).mono ?_);rintro _ _ ⟨rfl,z1,rfl⟩;rw[H3.out])))
       go_ret
       exact⟨D5 Hr.out.symm,by obtain⟨q,e⟩:=y2.trans z1;rw[e];exact⟨q,rfl⟩⟩
      |true=>
       rw[h3,Bool.true_and]at HG
       have H3:=A3 h3;clear h3
       go_upto_region 8 with(first|(go_at_call 140;((with_reducible refine(bS y2.w _ e.id 1 1000000).mono ?_);rintro _ _ ⟨rfl,z1,rfl⟩;rw[H0.out]))|(go_at_call 140;((with_reducible refine(bS y2.w _ e.rd 0 127).mono ?_);rintro _ _ ⟨rfl,z1,rfl⟩;rw[H1.out]))|(go_at_call 140;((with_reducible refine(bS y2.w _ e.n 1 256).mono ?_);rintro _ _ ⟨rfl,z1,rfl⟩;rw[H2.out]))|(go_at_call 140;((with_reducible refine(bS y2.w _ e.s 0 86400).mono ?_);rintro _ _ ⟨rfl,z1,rfl⟩;rw[H3.out])))
       clear H0 H1 H2 H3
       rcases(by omega:e.f<0∨(0≤e.f∧e.t≤e.f)∨(0≤e.f∧e.f<e.t∧49710<e.t)∨(0≤e.f∧e.f<e.t∧e.t≤49710))with d1|⟨d1,d2⟩|⟨d1,d2,d3⟩|⟨d1,d2,d3⟩
       case inr.inr.inr=>
        have Hg:=A3 (show dC e=true by rw[HG.out];simp;omega);go_wp2_with fail;obtain⟨q,eq⟩:=y2.trans z1;rw[eq];go_roundw
        case rel=>exact⟨k+1,q,by omega,by go_num,rfl,mA Hok.out He'.out Hg.out⟩
        case measure=>simp[intOf]<;>omega
       all_goals
        have Hr:=A3 (lF.out e He'.out (by rw[HG.out];simp;omega));go_wp2_with fail;go_ret;exact⟨D5 Hr.out.symm,by obtain⟨q,e⟩:=y2.trans z1;rw[e];exact⟨q,rfl⟩⟩
  ·obtain rfl:k=l.length:=by omega
   have HP:=A3 (rU.out (tC Hok.out));clear Hok rU lF;have hmm:=@run_makeMap Tryz.prog;go_wp2_with fail;have hm0:J0 W9 (y.w.alloc (.map #[] 0)) y.w.heap.size (Q8 ((l.map fun p:J1=>p.id).take 0)):=by
    show(y.w.heap.push _)[y.w.heap.size]? = _;simp[Q8,L6]
   obtain⟨y1,hy1⟩:=y.alloc (.map #[] 0);rw[hy1]at hm0⊢;have Hm0:=A3 hm0;have Hgb:=A3 y.b.size;clear hy1 hm0 hmm;generalize y.w.heap.size=bm at *;go_loopw [62] (fun i wr=>∃(k:Nat) (y:A7 w),k≤l.length∧i= .int .i64 k∧wr=y.w∧J0 W9 y.w bm (Q8 ((l.map fun p:J1=>p.id).take k))∧((l.map fun p:J1=>p.id).take k).Nodup) (fun i _ =>l.length-(intOf i).toNat)
   case atStart=>exact⟨0,y1,by omega,rfl,rfl,Hm0.out,by simp⟩
   case round=>
    clear Hm0;obtain⟨k,y,hk,rfl,rfl,hm,hnd⟩:=hrel;have Hm:=A3 hm;have Hnd:=A3 hnd;clear hm hnd;by_cases hlt:k<l.length
    ·obtain⟨e,he⟩:∃e,l[k]? =some e:=⟨_,A4 hlt⟩
     obtain⟨b1,off1,rfl,h1'⟩:=D0.pass HL.out he;have pa0:=h1'.c0;have pa1:=h1'.c1;have pa2:=h1'.c2;have pa3:=h1'.c3;have pa4:=h1'.c4;have pa5:=h1'.c5;have hk0:(0:Int)≤(k:Int):=by omega
     have hkl:(k:Int)<(l.length:Int):=by omega
     have He':=A3 (iZ (f:=fun p:J1=>p.id) he);have Hnx:=A3 (tH He'.out);clear h1' he;go_upto_region 15 with fail;obtain⟨y2,e2,C9,hsz0,hlt0,HX0⟩:=L8 y [.int .i64 e.id,.int .i64 e.rd,.int .i64 e.f,.int .i64 e.t,.int .i64 e.n,.int .i64 e.s] 209;rw[e2];obtain⟨hx0,hx1,hx2,hx3,hx4,hx5,hxf⟩:=kC HX0;(replace Hm:=A3 (Hm.out.to' C9))
     clear e2 C9;generalize y.w.heap.size=g at *;obtain⟨E6,G9,K1,J5,O8,U5,I3⟩:=Z8 HX0;have I9:=A3 (And.intro hsz0 hlt0);clear hlt0 hsz0 HX0;have hlk:=dS gR Hm.out Tryz.underlying199 (tN _) e.id false;unfold W9 at hlk;simp only[Bool.false_eq_true,if_false]at hlk;by_cases hin:e.id∈(l.map fun p:J1=>p.id).take k
     ·rw[tO hin]at hlk
      have Hr:=A3 (show W0 l=6 by
       rw[HP.out,if_pos (mC fun h=>((Hnx.out.1 (Aa9 h)).2 hin))])
      clear hin;go_wp2_with fail;go_ret;exact⟨D5 Hr.out.symm,_,rfl⟩
     ·rw[tP hin]at hlk
      obtain⟨w2,hst,hw2⟩:=oO gR Hm.out Tryz.underlying199 e.id (.bool true) ((iY e.id _ 0).2 hin);unfold W9 at hst;have Hw2:=A3 hw2;have xQ:=A3 (Hnx.out.2 ⟨Hnd.out,hin⟩);clear hw2 hin;go_wp2_with fail;obtain⟨y3,hy3⟩:=y2.block (r:=bm) (by have:=Hgb.out;omega) (.map (L6 W9 (Q8 ((l.map fun p:J1=>p.id).take k) ++ [(e.id,Value.bool true)]) 0).toArray (Q8 ((l.map fun p:J1=>p.id).take k) ++ [(e.id,Value.bool true)]).length);have hm3:J0 W9 y3.w bm (Q8 ((l.map fun p:J1=>p.id).take (k+1))):=by
       rw[←hy3,Ab4 He'.out];exact cM Hm.out.lt'
      have Hm3:=A3 hm3;have Hy3:=A3 (Hw2.out.trans hy3);clear hm3 hy3;rw[Hy3.out];go_roundw
      case rel=>exact⟨k+1,y3,by omega,by go_num,rfl,Hm3.out,xQ.out⟩
      case measure=>simp[intOf]<;>omega
    ·obtain rfl:k=l.length:=by omega
     have Hr:=A3 (show W0 l=0 by
      have h1:=Hnd.out;rw[List.take_of_length_le (by simp)]at h1;rw[HP.out,if_neg (by rw[mD h1];simp)])
     go_wp2_with fail;go_ret;exact⟨D5 Hr.out.symm,_,rfl⟩
end
section
open Go.RowKit Go.ChangeMaps
theorem Ab6 {l:List A9} {k:Nat} {r:A9} (hb:l.length≤256) (hr:l[k]? =some r) (he:J9 r≠0) (hn:∀j,j<k→∀x,l[j]? =some x→J9 x=0):U9 l=J9 r:=by
 unfold U9;rw[if_neg (by omega),AG5 hr he hn,if_pos he]
theorem tQ {l:List A9} (hb:l.length≤256) (hn:∀j,j<l.length→∀x,l[j]? =some x→J9 x=0):U9 l=if r7 (l.map fun r:A9=>r.id)=true then 6 else 0:=by
 unfold U9;rw[if_neg (by omega),AG6 hn,if_neg (by simp)]
theorem AH2 (w:World) (x:A7 w) (pa:Option Addr) (lp:List J1) (pc:Nat) (a:Option Addr) (l:List A9) (c:Nat) (hp:kG w pa lp) (hpl:lp.length≤9223372036854775807) (h:bQ w a l) (hl:l.length≤9223372036854775807):
 Calls Tryz.prog 102 #[.slice pa lp.length pc,.slice a l.length c] x.w fun o w'=>o= .returned (.int .i64 (Z9 lp l))∧∃y:A7 w,w'=y.w:=by
 have HL:=A3 h;have Hpc:=A3 (fun y:A7 w=>Ab5 w y pa lp pc hp hpl);have HU:=A3 (show Z9 lp l=if W0 lp≠0 then W0 lp else U9 l from rfl);clear h hp hpl;generalize W0 lp=pe at *;by_cases hpe:pe=0
 case neg=>
  have hpb:(pe != 0)=true:=by simpa using hpe
  have Hr:=A3 (show Z9 lp l=pe by rw[HU.out,if_pos hpe]);clear hpe;go_enter Tryz.func102,Tryz.ntmps102;go_wp2_with(go_at_call 97;((with_reducible refine(Hpc.out _).mono ?_);rintro _ _ ⟨rfl,y1,rfl⟩));go_ret;exact⟨D5 Hr.out.symm,_,rfl⟩
 subst hpe;replace HU:=A3 (show Z9 lp l=U9 l by rw[HU.out,if_neg (by simp)]);by_cases hbig:256<l.length
 ·have Hr:=A3 (show Z9 lp l=8 by rw[HU.out];unfold U9;rw[if_pos hbig])
  go_enter Tryz.func102,Tryz.ntmps102;go_wp2_with(go_at_call 97;((with_reducible refine(Hpc.out _).mono ?_);rintro _ _ ⟨rfl,y1,rfl⟩));go_ret;exact⟨D5 Hr.out.symm,_,rfl⟩
 have sH:l.length≤256:=by omega
 clear hbig hl;go_enter Tryz.func102,Tryz.ntmps102;go_wp2_with(go_at_call 97;((with_reducible refine(Hpc.out _).mono ?_);rintro _ _ ⟨rfl,y1,rfl⟩));clear Hpc;go_loopw [22] (fun i wr=>∃(k:Nat) (y:A7 w),k≤l.length∧i= .int .i64 k∧wr=y.w∧∀j,j<k→∀e,l[j]? =some e→J9 e=0) (fun i _ =>l.length-(intOf i).toNat)
 case atStart=>exact⟨0,_,by omega,rfl,rfl,fun j hj=>by omega⟩
 case round=>
  obtain⟨k,y,hk,rfl,rfl,hok⟩:=hrel;have Hok:=A3 hok;clear hok;by_cases hlt:k<l.length
  ·obtain⟨e,he⟩:∃e,l[k]? =some e:=⟨_,A4 hlt⟩
   obtain⟨b1,off1,rfl,h1'⟩:=D0.ride HL.out.c he;have ra0:=h1'.c0;have ra1:=h1'.c1;have ra2:=h1'.c2;have ra3:=h1'.c3;have ra4:=h1'.c4;have ra5:=h1'.c5;have ra6:=h1'.c6;have ra7:=h1'.c7;have ra8:=h1'.c8;have ra9:=h1'.c9;have ra10:=h1'.c10;have ra11:=h1'.c11;have ra12:=h1'.c12;have hk0:(0:Int)≤(k:Int):=by omega
   have hkl:(k:Int)<(l.length:Int):=by omega
   have He':=A3 he;have Hat:=A3 (HL.out.r e (A0 he));clear h1' he;go_upto_region 9 with fail;obtain⟨y2,e2,C9,hsz0,hlt0,HX0⟩:=L8 y [.int .i64 e.id,.int .i64 e.rd,.int .i64 e.s0,.int .i64 e.s1,.int .i64 e.e0,.int .i64 e.e1,.bool e.op,.slice e.la e.legs.length e.lc,.slice e.pa e.pauses.length e.pc,.int .i64 e.fw,.int .i64 e.fp,.int .i64 e.wh,.int .i64 e.pl] 40;rw[e2];obtain⟨hx0,hx1,hx2,hx3,hx4,hx5,hx6,hx7,hx8,hx9,eN,eO,eP,hxf⟩:=bP HX0;(replace Hat:=A3 ((Hat.out.since y).to C9))
   clear e2 C9;generalize y.w.heap.size=g at *;obtain⟨E6,G9,K1,J5,O8,U5,X9,Z4,Z5,cL,cI,cJ,cK,I3⟩:=R5 HX0;have I9:=A3 (And.intro hsz0 hlt0);clear hlt0 hsz0 HX0;obtain⟨q0,hq0⟩:=A7.refl y2.w;rw[hq0];clear hq0;have Hck:=A3 (fun z:A7 y2.w=>oU y2.w z e Hat.out);by_cases her:J9 e=0
   ·rw[her]at Hck
    have Hv:=A3 her;clear her;go_wp2_with(go_at_call 9;((with_reducible refine(Hck.out _).mono ?_);rintro _ _ ⟨rfl,z1,rfl⟩));obtain⟨q,eq⟩:=y2.trans z1;rw[eq];go_roundw
    case rel=>exact⟨k+1,q,by omega,by go_num,rfl,mA (P:=fun e:A9=>J9 e=0) Hok.out He'.out Hv.out⟩
    case measure=>simp[intOf]<;>omega
   ·have Hr:=A3 (show Z9 lp l=J9 e by rw[HU.out,Ab6 sH He'.out her Hok.out])
    have heb:(J9 e != 0)=true:=by simpa using her
    clear her;generalize J9 e=re at *;go_wp2_with(go_at_call 9;((with_reducible refine(Hck.out _).mono ?_);rintro _ _ ⟨rfl,z1,rfl⟩));go_ret;exact⟨D5 Hr.out.symm,by obtain⟨q,e⟩:=y2.trans z1;rw[e];exact⟨q,rfl⟩⟩
  ·obtain rfl:k=l.length:=by omega
   have HP:=A3 (HU.out.trans (tQ sH Hok.out));clear Hok HU;have hmm:=@run_makeMap Tryz.prog;go_wp2_with fail;have hm0:J0 W9 (y.w.alloc (.map #[] 0)) y.w.heap.size (Q8 ((l.map fun r:A9=>r.id).take 0)):=by
    show(y.w.heap.push _)[y.w.heap.size]? = _;simp[Q8,L6]
   obtain⟨y1,hy1⟩:=y.alloc (.map #[] 0);rw[hy1]at hm0⊢;have Hm0:=A3 hm0;have Hgb:=A3 y.b.size;clear hy1 hm0 hmm;generalize y.w.heap.size=bm at *;go_loopw [35] (fun i wr=>∃(k:Nat) (y:A7 w),k≤l.length∧i= .int .i64 k∧wr=y.w∧J0 W9 y.w bm (Q8 ((l.map fun r:A9=>r.id).take k))∧((l.map fun r:A9=>r.id).take k).Nodup) (fun i _ =>l.length-(intOf i).toNat)
   case atStart=>exact⟨0,y1,by omega,rfl,rfl,Hm0.out,by simp⟩
   case round=>
    clear Hm0;obtain⟨k,y,hk,rfl,rfl,hm,hnd⟩:=hrel;have Hm:=A3 hm;have Hnd:=A3 hnd;clear hm hnd;by_cases hlt:k<l.length
    ·obtain⟨e,he⟩:∃e,l[k]? =some e:=⟨_,A4 hlt⟩
     obtain⟨b1,off1,rfl,h1'⟩:=D0.ride HL.out.c he;have ra0:=h1'.c0;have ra1:=h1'.c1;have ra2:=h1'.c2;have ra3:=h1'.c3;have ra4:=h1'.c4;have ra5:=h1'.c5;have ra6:=h1'.c6;have ra7:=h1'.c7;have ra8:=h1'.c8;have ra9:=h1'.c9;have ra10:=h1'.c10;have ra11:=h1'.c11;have ra12:=h1'.c12;have hk0:(0:Int)≤(k:Int):=by omega
     have hkl:(k:Int)<(l.length:Int):=by omega
     have He':=A3 (iZ (f:=fun r:A9=>r.id) he);have Hnx:=A3 (tH He'.out);clear h1' he;go_upto_region 17 with fail;obtain⟨y2,e2,C9,hsz0,hlt0,HX0⟩:=L8 y [.int .i64 e.id,.int .i64 e.rd,.int .i64 e.s0,.int .i64 e.s1,.int .i64 e.e0,.int .i64 e.e1,.bool e.op,.slice e.la e.legs.length e.lc,.slice e.pa e.pauses.length e.pc,.int .i64 e.fw,.int .i64 e.fp,.int .i64 e.wh,.int .i64 e.pl] 40;rw[e2];obtain⟨hx0,hx1,hx2,hx3,hx4,hx5,hx6,hx7,hx8,hx9,eN,eO,eP,hxf⟩:=bP HX0;(replace Hm:=A3 (Hm.out.to' C9))
     clear e2 C9;generalize y.w.heap.size=g at *;obtain⟨E6,G9,K1,J5,O8,U5,X9,Z4,Z5,cL,cI,cJ,cK,I3⟩:=R5 HX0;have I9:=A3 (And.intro hsz0 hlt0);clear hlt0 hsz0 HX0;have hlk:=dS gR Hm.out Tryz.underlying199 (tN _) e.id false;unfold W9 at hlk;simp only[Bool.false_eq_true,if_false]at hlk;by_cases hin:e.id∈(l.map fun r:A9=>r.id).take k
     ·rw[tO hin]at hlk
      have Hr:=A3 (show Z9 lp l=6 by
       rw[HP.out,if_pos (mC fun h=>((Hnx.out.1 (Aa9 h)).2 hin))])
      clear hin;go_wp2_with fail;go_ret;exact⟨D5 Hr.out.symm,_,rfl⟩
     ·rw[tP hin]at hlk
      obtain⟨w2,hst,hw2⟩:=oO gR Hm.out Tryz.underlying199 e.id (.bool true) ((iY e.id _ 0).2 hin);unfold W9 at hst;have Hw2:=A3 hw2;have xQ:=A3 (Hnx.out.2 ⟨Hnd.out,hin⟩);clear hw2 hin;go_wp2_with fail;obtain⟨y3,hy3⟩:=y2.block (r:=bm) (by have:=Hgb.out;omega) (.map (L6 W9 (Q8 ((l.map fun r:A9=>r.id).take k) ++ [(e.id,Value.bool true)]) 0).toArray (Q8 ((l.map fun r:A9=>r.id).take k) ++ [(e.id,Value.bool true)]).length);have hm3:J0 W9 y3.w bm (Q8 ((l.map fun r:A9=>r.id).take (k+1))):=by
       rw[←hy3,Ab4 He'.out];exact cM Hm.out.lt'
      have Hm3:=A3 hm3;have Hy3:=A3 (Hw2.out.trans hy3);clear hm3 hy3;rw[Hy3.out];go_roundw
      case rel=>exact⟨k+1,y3,by omega,by go_num,rfl,Hm3.out,xQ.out⟩
      case measure=>simp[intOf]<;>omega
    ·obtain rfl:k=l.length:=by omega
     have Hr:=A3 (show Z9 lp l=0 by
      have h1:=Hnd.out;rw[List.take_of_length_le (by simp)]at h1;rw[HP.out,if_neg (by rw[mD h1];simp)])
     go_wp2_with fail;go_ret;exact⟨D5 Hr.out.symm,_,rfl⟩
end
end Go.Proofs.YtmmlmhnjjfnpnaaGreat
