/- Texts that belong together. -/
import Derived.Test.YtmmlmhnjjfnpnaaGreatTpMe
import Derived.IntWalk
set_option linter.all false
namespace Go.Proofs.YtmmlmhnjjfnpnaaGreat
open Go.RowKit
structure Pass where
 id:Int
 rd:Int
 f:Int
 t:Int
 n:Int
 s:Int
def Pass.cs (x:Pass):List Value:=[.int .i64 x.id,.int .i64 x.rd,.int .i64 x.f,.int .i64 x.t,.int .i64 x.n,.int .i64 x.s]
theorem Pass.len (x:Pass):x.cs.length=6:=rfl
instance:Inhabited Pass:=⟨⟨0,0,0,0,0,0⟩⟩
structure PassCells (w:World) (b o:Nat) (e:Pass):Prop where
 c0:∀y:Since w,y.w.cell? ⟨b,o,none⟩=some (.int .i64 e.id)
 c1:∀y:Since w,y.w.cell? ⟨b,o+1,none⟩=some (.int .i64 e.rd)
 c2:∀y:Since w,y.w.cell? ⟨b,o+2,none⟩=some (.int .i64 e.f)
 c3:∀y:Since w,y.w.cell? ⟨b,o+3,none⟩=some (.int .i64 e.t)
 c4:∀y:Since w,y.w.cell? ⟨b,o+4,none⟩=some (.int .i64 e.n)
 c5:∀y:Since w,y.w.cell? ⟨b,o+5,none⟩=some (.int .i64 e.s)
theorem Els.pass {w:World} {a:Option Addr} {l:List Pass} (h:Els Pass.cs 6 w a l) {k:Nat} {x:Pass} (hk:l[k]? =some x):∃b off,a=some ⟨b,off,none⟩∧PassCells w b (off+k*6) x:=by
 obtain⟨b,off,ha,hb,hc⟩:=h k x hk;refine⟨b,off,ha,?_⟩;have hh:∀j v,x.cs[j]? =some v→∀y:Since w,y.w.cell? ⟨b,off+k*6+j,none⟩=some v:=fun j v hv=>Since.cell (hc j v hv) hb;exact⟨hh 0 _ rfl,hh 1 _ rfl,hh 2 _ rfl,hh 3 _ rfl,hh 4 _ rfl,hh 5 _ rfl⟩
abbrev PassRow (w:World) (a:Option Addr) (l:List Pass):Prop:=Els Pass.cs 6 w a l
def goodP (p:Pass):Bool:=decide (1≤p.id) && decide (p.id≤1000000) && decide (0≤p.rd) && decide (p.rd≤127) && decide (1≤p.n) && decide (p.n≤256) && decide (0≤p.s) && decide (p.s≤86400) && decide (0≤p.f) && decide (p.f<p.t) && decide (p.t≤49710)
theorem goodP_iff (p:Pass):goodP p=true↔1≤p.id∧p.id≤1000000∧0≤p.rd∧p.rd≤127∧1≤p.n∧p.n≤256∧0≤p.s∧p.s≤86400∧0≤p.f∧p.f<p.t∧p.t≤49710:=by simp[goodP,and_assoc]
def dupB (l:List Int):Bool:=!decide l.Nodup
theorem dupB_true {l:List Int} (h:¬l.Nodup):dupB l=true:=by unfold dupB;rw[decide_eq_false h];rfl
theorem dupB_false {l:List Int} (h:l.Nodup):dupB l=false:=by unfold dupB;rw[decide_eq_true h];rfl
theorem dupB_cases (l:List Int):(dupB l=true∧¬l.Nodup)∨(dupB l=false∧l.Nodup):=by
 by_cases h:l.Nodup
 ·exact .inr ⟨dupB_false h,h⟩
 ·exact .inl ⟨dupB_true h,h⟩
theorem nodup_take_next {l:List Int} {k:Nat} {x:Int} (hx:l[k]? =some x):(l.take (k+1)).Nodup↔(l.take k).Nodup∧x∉l.take k:=by
 rw[List.take_succ_eq_append_getElem (List.getElem?_eq_some_iff.1 hx).1,(List.getElem?_eq_some_iff.1 hx).2,List.nodup_append];constructor
 ·rintro⟨h1,_,h3⟩;exact⟨h1,fun h=>h3 x h x (by simp) rfl⟩
 ·rintro⟨h1,h2⟩;exact⟨h1,by simp,fun a ha b hb hab=>h2 (by simp at hb;subst hb;subst hab;exact ha)⟩
theorem nodup_of_take {l:List Int} {k:Nat} (h:l.Nodup):(l.take k).Nodup:=h.sublist (List.take_sublist _ _)
def passE (l:List Pass):Int:=if 64<l.length then 8 else if l.all goodP=false then 1 else if dupB (l.map (·.id))=true then 6 else 0
def firstErr (l:List Ride):Int:=match l.find? (fun r=>rideE r != 0)with|some r=>rideE r|none=>0
theorem firstErr_at {l:List Ride} {k:Nat} {r:Ride} (hr:l[k]? =some r) (he:rideE r≠0) (hn:∀j,j<k→∀x,l[j]? =some x→rideE x=0):firstErr l=rideE r:=by
 unfold firstErr;have:l.find? (fun r=>rideE r != 0)=some r:=by
  rw[List.find?_eq_some_iff_getElem];refine⟨by simpa using he,k,(List.getElem?_eq_some_iff.1 hr).1,(List.getElem?_eq_some_iff.1 hr).2,fun j hj=>?_⟩;have:=hn j hj _ (List.getElem?_eq_getElem (by have:=(List.getElem?_eq_some_iff.1 hr).1;omega));simp[this]
 rw[this]
theorem firstErr_none {l:List Ride} (hn:∀j,j<l.length→∀x,l[j]? =some x→rideE x=0):firstErr l=0:=by
 unfold firstErr;have:l.find? (fun r=>rideE r != 0)=none:=by
  rw[List.find?_eq_none];intro x hx;obtain⟨j,hj⟩:=List.mem_iff_getElem?.1 hx;simp[hn j (List.getElem?_eq_some_iff.1 hj).1 x hj]
 rw[this]
def ridesE (l:List Ride):Int:=if 256<l.length then 8 else if firstErr l≠0 then firstErr l else if dupB (l.map (·.id))=true then 6 else 0
def usesE (lp:List Pass) (lr:List Ride):Int:=if passE lp≠0 then passE lp else ridesE lr
def day (r:Ride):Int:=r.s0/86400
def bef (a b:Ride):Bool:=decide (a.s0<b.s0) || (decide (a.s0=b.s0) && (decide (a.e0<b.e0) || (decide (a.e0=b.e0) && decide (a.id<b.id))))
theorem bef_iff (a b:Ride):bef a b=true↔a.s0<b.s0∨(a.s0=b.s0∧(a.e0<b.e0∨(a.e0=b.e0∧a.id<b.id))):=by simp[bef]
theorem bef_irrefl (a:Ride):bef a a=false:=by
 cases h:bef a a
 ·rfl
 ·rw[bef_iff]at h;omega
theorem bef_trans {a b c:Ride} (h1:bef a b=true) (h2:bef b c=true):bef a c=true:=by rw[bef_iff]at *;omega
theorem bef_asymm {a b:Ride} (h:bef a b=true):bef b a=false:=by
 cases h2:bef b a
 ·rfl
 ·have:=bef_trans h h2;rw[bef_irrefl]at this;cases this
theorem bef_total {a b:Ride} (h1:bef a b=false) (h2:bef b a=false):a.id=b.id:=by
 have n1:¬bef a b=true:=by rw[h1];simp
 have n2:¬bef b a=true:=by rw[h2];simp
 rw[bef_iff]at n1 n2;omega
theorem bef_ntrans {a b c:Ride} (h1:bef a b=false) (h2:bef b c=false):bef a c=false:=by
 have n1:¬bef a b=true:=by rw[h1];simp
 have n2:¬bef b c=true:=by rw[h2];simp
 cases h:bef a c
 ·rfl
 ·rw[bef_iff]at n1 n2 h;omega
def vP (p:Pass) (r:Ride):Bool:=decide (p.rd=r.rd) && (decide (p.f≤day r) && decide (day r<p.t))
def rAt (R:List Ride) (i:Nat):Ride:=R.getD i default
def pAt (l:List Pass) (i:Nat):Pass:=l.getD i default
theorem rAt_eq {R:List Ride} {i:Nat} {x:Ride} (h:R[i]? =some x):rAt R i=x:=by unfold rAt;rw[List.getD_eq_getElem?_getD,h];rfl
theorem pAt_eq {R:List Pass} {i:Nat} {x:Pass} (h:R[i]? =some x):pAt R i=x:=by unfold pAt;rw[List.getD_eq_getElem?_getD,h];rfl
def cntB (R:List Ride) (u:Nat→Int) (x:Ride) (k:Int):Nat:=((List.range R.length).filter fun j=>bef (rAt R j) x && decide (u j=k) && decide (day (rAt R j)=day x)).length
def firstP (lp:List Pass) (r:Ride) (c:Int→Nat):Int:=match(List.range lp.length).find? (fun k=>vP (pAt lp k) r && decide ((c (k:Int):Int)<(pAt lp k).n))with|some k=>(k:Int)|none=>-1
def IsUse (lp:List Pass) (R:List Ride) (u:Nat→Int):Prop:=∀i,i<R.length→u i=firstP lp (rAt R i) (cntB R u (rAt R i))
theorem firstP_congr {lp:List Pass} {r:Ride} {c d:Int→Nat} (h:∀k,k<lp.length→c (k:Int)=d (k:Int)):firstP lp r c=firstP lp r d:=by
 unfold firstP;have:(List.range lp.length).find? (fun k=>vP (pAt lp k) r && decide ((c (k:Int):Int)<(pAt lp k).n))=(List.range lp.length).find? (fun k=>vP (pAt lp k) r && decide ((d (k:Int):Int)<(pAt lp k).n)):=by
  have hg:∀l:List Nat,(∀k∈l,k<lp.length)→l.find? (fun k=>vP (pAt lp k) r && decide ((c (k:Int):Int)<(pAt lp k).n))=l.find? (fun k=>vP (pAt lp k) r && decide ((d (k:Int):Int)<(pAt lp k).n)):=by
   intro l;induction l with
   |nil=>intro _;rfl
   |cons a l ih=>
    intro hl
    simp only[List.find?_cons]
    rw[h a (hl a (by simp)),ih (fun k hk=>hl k (by simp[hk]))]
  exact hg _ (fun k hk=>List.mem_range.1 hk)
 rw[this]
theorem firstP_yes {lp:List Pass} {r:Ride} {c:Int→Nat} {k:Nat} (hk:k<lp.length) (h:(vP (pAt lp k) r && decide ((c (k:Int):Int)<(pAt lp k).n))=true) (hn:∀j,j<k→(vP (pAt lp j) r && decide ((c (j:Int):Int)<(pAt lp j).n))=false):firstP lp r c=k:=by
 unfold firstP;have:(List.range lp.length).find? (fun k=>vP (pAt lp k) r && decide ((c (k:Int):Int)<(pAt lp k).n))=some k:=by
  rw[List.find?_eq_some_iff_getElem];refine⟨h,k,by simpa using hk,by simp,fun j hj=>?_⟩;simp only[List.getElem_range];rw[hn j hj];rfl
 rw[this]
theorem firstP_no {lp:List Pass} {r:Ride} {c:Int→Nat} (hn:∀j,j<lp.length→(vP (pAt lp j) r && decide ((c (j:Int):Int)<(pAt lp j).n))=false):firstP lp r c= -1:=by
 unfold firstP;have:(List.range lp.length).find? (fun k=>vP (pAt lp k) r && decide ((c (k:Int):Int)<(pAt lp k).n))=none:=by
  rw[List.find?_eq_none];intro j hj;rw[hn j (List.mem_range.1 hj)];simp
 rw[this]
theorem firstP_cases (lp:List Pass) (r:Ride) (c:Int→Nat):(∃k:Nat,k<lp.length∧firstP lp r c=k∧(vP (pAt lp k) r && decide ((c (k:Int):Int)<(pAt lp k).n))=true∧∀j,j<k→(vP (pAt lp j) r && decide ((c (j:Int):Int)<(pAt lp j).n))=false)∨
 (firstP lp r c= -1∧∀j,j<lp.length→(vP (pAt lp j) r && decide ((c (j:Int):Int)<(pAt lp j).n))=false):=by
 cases h:(List.range lp.length).find? (fun k=>vP (pAt lp k) r && decide ((c (k:Int):Int)<(pAt lp k).n))with
 |none=>
  refine .inr ⟨by unfold firstP;rw[h],fun j hj=>?_⟩
  rw[List.find?_eq_none]at h
  simpa using h j (List.mem_range.2 hj)
 |some k=>
  refine .inl ⟨k,?_⟩
  have h':=h
  rw[List.find?_eq_some_iff_getElem]at h'
  obtain⟨hp,i,hi,hik,hn⟩:=h'
  simp at hik;subst hik
  refine⟨by simpa using hi,by unfold firstP;rw[h],hp,fun j hj=>?_⟩
  have:=hn j hj
  simpa only[List.getElem_range,Bool.not_eq_true']using this
theorem filter_lt {α:Type} {p q:α→Bool}:∀{l:List α} {a:α},a∈l→(∀x,p x=true→q x=true)→q a=true→p a=false→(l.filter p).length<(l.filter q).length
 |[],_,h,_,_,_ =>by cases h
 |x :: l,a,h,hpq,hq,hp=>by
  have hle:(l.filter p).length≤(l.filter q).length:=by
   clear h;induction l with
   |nil=>simp
   |cons y l ih=>
    simp only[List.filter_cons]
    cases hy:p y
    ·cases hy2:q y<;>simp<;>omega
    ·rw[hpq y hy];simp;exact ih
  rcases List.mem_cons.1 h with rfl|h
  ·simp only[List.filter_cons,hp,hq];simp;omega
  ·have ih:=filter_lt h hpq hq hp
   simp only[List.filter_cons]
   cases hx:p x
   ·cases hx2:q x<;>simp<;>omega
   ·rw[hpq x hx];simp;exact ih
def rank (R:List Ride) (x:Ride):Nat:=((List.range R.length).filter fun j=>bef (rAt R j) x).length
theorem rank_lt {R:List Ride} {j:Nat} {x:Ride} (hj:j<R.length) (h:bef (rAt R j) x=true):rank R (rAt R j)<rank R x:=
 filter_lt (List.mem_range.2 hj) (fun _ hi=>bef_trans hi h) h (bef_irrefl _)
theorem cntB_congr {R:List Ride} {u v:Nat→Int} {x:Ride} (h:∀j,j<R.length→bef (rAt R j) x=true→u j=v j) (k:Int):cntB R u x k=cntB R v x k:=by
 unfold cntB;congr 1;refine List.filter_congr fun j hj=>?_
 cases hb:bef (rAt R j) x
 ·rfl
 ·rw[h j (List.mem_range.1 hj) hb]
theorem use_unique {lp:List Pass} {R:List Ride} {u v:Nat→Int} (hu:IsUse lp R u) (hv:IsUse lp R v):∀i,i<R.length→u i=v i:=by
 have:∀n i,i<R.length→rank R (rAt R i)=n→u i=v i:=by
  intro n;induction n using Nat.strongRecOn with
  | _ n ih=>
   intro i hi hn
   rw[hu i hi,hv i hi]
   refine firstP_congr fun k _ =>cntB_congr (fun j hj hb=>?_) _
   exact ih _ (by rw[←hn];exact rank_lt hj hb) j hj rfl
 exact fun i hi=>this _ i hi rfl
end Go.Proofs.YtmmlmhnjjfnpnaaGreat
namespace Go.Proofs.YtmmlmhnjjfnpnaaGreat
open Go.RowKit Go.ChangeMaps
def inB (n lo hi:Int):Bool:=decide (lo≤n) && decide (n≤hi)
theorem in_calls (w:World) (x:Since w) (n lo hi:Int):
 Calls Tryz.prog 140 #[.int .i64 n,.int .i64 lo,.int .i64 hi] x.w fun o w'=>o= .returned (.bool (inB n lo hi))∧∃y:Since w,w'=y.w:=by
 rcases(by omega:n<lo∨(lo≤n∧hi<n)∨(lo≤n∧n≤hi))with h|⟨h,h'⟩|⟨h,h'⟩
 all_goals
  have Hv:=Lib.hid (show inB n lo hi=(decide (lo≤n) && decide (n≤hi))from rfl);go_enter Tryz.func140,Tryz.ntmps140;go_wp2_with fail;go_ret;exact⟨ret_bool (by rw[Hv.out];simp;omega),_,rfl⟩
def vpd (p:Pass) (d:Int):Bool:=decide (p.f≤d) && decide (d<p.t)
theorem valid_calls (w:World) (x:Since w) (p:Pass) (d:Int):
 Calls Tryz.prog 155 #[.agg #[.int .i64 p.id,.int .i64 p.rd,.int .i64 p.f,.int .i64 p.t,.int .i64 p.n,.int .i64 p.s],.int .i64 d] x.w fun o w'=>o= .returned (.bool (vpd p d))∧∃y:Since w,w'=y.w:=by
 rcases(by omega:d<p.f∨(p.f≤d∧p.t≤d)∨(p.f≤d∧d<p.t))with h|⟨h,h'⟩|⟨h,h'⟩
 all_goals
  have Hv:=Lib.hid (show vpd p d=(decide (p.f≤d) && decide (d<p.t))from rfl);go_enter Tryz.func155,Tryz.ntmps155;go_wp2_with fail;go_ret;exact⟨ret_bool (by rw[Hv.out];simp;omega),x.alloc _⟩
theorem day_calls (w:World) (x:Since w) (r:Ride) (h0:0≤r.s0) (h1:r.s0≤4294943999):
 Calls Tryz.prog 156 #[.agg #[.int .i64 r.id,.int .i64 r.rd,.int .i64 r.s0,.int .i64 r.s1,.int .i64 r.e0,.int .i64 r.e1,.bool r.op,.slice r.la r.legs.length r.lc,.slice r.pa r.pauses.length r.pc,.int .i64 r.fw,.int .i64 r.fp,.int .i64 r.wh,.int .i64 r.pl]] x.w fun o w'=>o= .returned (.int .i64 (day r))∧∃y:Since w,w'=y.w:=by
 have Hd:=Lib.hid (show day r=r.s0/86400 from rfl);go_enter Tryz.func156,Tryz.ntmps156;go_wp2_with fail;go_ret;exact⟨ret_int Hd.out.symm,x.alloc _⟩
end Go.Proofs.YtmmlmhnjjfnpnaaGreat
namespace Go.Proofs.YtmmlmhnjjfnpnaaGreat
open Go.RowKit Go.ChangeMaps
theorem good_split (e:Pass):goodP e=(inB e.id 1 1000000 && (inB e.rd 0 127 && (inB e.n 1 256 && (inB e.s 0 86400 && (decide (0≤e.f) && (decide (e.f<e.t) && decide (e.t≤49710))))))):=by
 unfold goodP inB;simp only[Bool.and_assoc]
def eint (x:Int):Value:=.int .i64 x
theorem keyInt:KeyOps Tryz.prog 3 eint true where
 chk em w x:=by unfold eint;kernel_rfl
 eq w x y:=by
  unfold eint;show(Op.equalIn (9999+1) _ _ _).run _ _ = _;rw[run_equalIn_int w 9999 _ .i64 .i64 x y Tryz.underlying3];congr 1
 und:=⟨_,Tryz.underlying3,fun x y=>by
  unfold eint;simp only[Instr.sameNow,if_true];congr 1⟩
 bits x:=by
  unfold eint;rw[show(10000:Nat)=9999+1 from rfl];simp[Instr.sameBits]
theorem zeroBool (w:World):(zeroValue 4).run Tryz.prog w= .ok (.bool false) w:=by kernel_rfl
def idE (l:List Int):List (Int×Value):=l.map fun i=>(i,.bool true)
theorem idE_lk:∀(x:Int) (l:List Int) (i:Nat),(x∈l→∃j,lkF x (idE l) i=some (j,.bool true))∧(x∉l→lkF x (idE l) i=none)
 |x,[],i=>⟨fun h=>(by cases h),fun _ =>rfl⟩
 |x,y :: l,i=>by
  obtain⟨h1,h2⟩:=idE_lk x l (i+1);by_cases h:x=y
  ·subst h
   exact⟨fun _ =>⟨i,by show lkF x ((x,Value.bool true) :: idE l) i= _;unfold lkF;rw[if_pos rfl]⟩,fun hn=>(hn (by simp)).elim⟩
  ·have e:lkF x (idE (y :: l)) i=lkF x (idE l) (i+1):=by show lkF x ((y,Value.bool true) :: idE l) i= _;rw[lkF,if_neg h]
   rw[e];exact⟨fun hm=>h1 (by simpa[h]using hm),fun hn=>h2 (fun hm=>hn (by simp[hm]))⟩
theorem idE_in {x:Int} {l:List Int} (h:x∈l):lkV x (idE l) (.bool false)= .bool true:=by
 obtain⟨j,hj⟩:=(idE_lk x l 0).1 h;unfold lkV;rw[hj]
theorem idE_out {x:Int} {l:List Int} (h:x∉l):lkV x (idE l) (.bool false)= .bool false:=by
 unfold lkV;rw[(idE_lk x l 0).2 h]
theorem idE_next {l:List Int} {k:Nat} {x:Int} (h:l[k]? =some x):idE (l.take (k+1))=idE (l.take k) ++ [(x,.bool true)]:=by
 unfold idE;rw[List.take_succ_eq_append_getElem (List.getElem?_eq_some_iff.1 h).1,(List.getElem?_eq_some_iff.1 h).2,List.map_append];rfl
theorem MapAt.to' {κ:Type} {ek:κ→Value} {w W:World} {b:Nat} {l:List (κ×Value)} (h:MapAt ek w b l) (hW:∃z:Since w,W=z.w):MapAt ek W b l:=by
 obtain⟨z,rfl⟩:=hW;exact Since.heap h z
theorem MapAt.lt' {κ:Type} {ek:κ→Value} {w:World} {b:Nat} {l:List (κ×Value)} (h:MapAt ek w b l):b<w.heap.size:=(Array.getElem?_eq_some_iff.1 h).1
theorem map_at {α β:Type} {f:α→β} {l:List α} {k:Nat} {e:α} (h:l[k]? =some e):(l.map f)[k]? =some (f e):=by rw[List.getElem?_map,h];rfl
set_option maxRecDepth 100000 in
set_option maxHeartbeats 8000000 in
theorem pcheck_calls (w:World) (x:Since w) (a:Option Addr) (l:List Pass) (c:Nat) (h:PassRow w a l) (hl:l.length≤9223372036854775807):
 Calls Tryz.prog 97 #[.slice a l.length c] x.w fun o w'=>o= .returned (.int .i64 (passE l))∧∃y:Since w,w'=y.w:=by
 have HL:=Lib.hid h;clear h;by_cases hbig:64<l.length
 ·have Hr:=Lib.hid (show passE l=8 by unfold passE;rw[if_pos hbig])
  go_enter Tryz.func97,Tryz.ntmps97;go_wp2_with fail;go_ret;exact⟨ret_int Hr.out.symm,_,rfl⟩
 have hl64:l.length≤64:=by omega
 have Hbad:=Lib.hid (fun(e:Pass) {k:Nat} (he:l[k]? =some e) (hg:goodP e=false)=>show passE l=1 by unfold passE;rw[if_neg hbig,if_pos (all_no he hg)]);have Hgood:=Lib.hid (fun(hg:l.all goodP=true)=>show passE l=if dupB (l.map fun p:Pass=>p.id)=true then 6 else 0 by unfold passE;rw[if_neg hbig,if_neg (by rw[hg];simp)]);clear hbig hl;go_enter Tryz.func97,Tryz.ntmps97;go_wp2_with fail;go_loopw [13] (fun i wr=>∃(k:Nat) (y:Since w),k≤l.length∧i= .int .i64 k∧wr=y.w∧∀j,j<k→∀e,l[j]? =some e→goodP e=true) (fun i _ =>l.length-(intOf i).toNat)
 case atStart=>exact⟨0,_,by omega,rfl,rfl,fun j hj=>by omega⟩
 case round=>
  obtain⟨k,y,hk,rfl,rfl,hok⟩:=hrel;have Hok:=Lib.hid hok;clear hok;by_cases hlt:k<l.length
  ·obtain⟨e,he⟩:∃e,l[k]? =some e:=⟨_,List.getElem?_eq_getElem hlt⟩
   obtain⟨b1,off1,rfl,h1'⟩:=Els.pass HL.out he;have pa0:=h1'.c0;have pa1:=h1'.c1;have pa2:=h1'.c2;have pa3:=h1'.c3;have pa4:=h1'.c4;have pa5:=h1'.c5;have hk0:(0:Int)≤(k:Int):=by omega
   have hkl:(k:Int)<(l.length:Int):=by omega
   have He':=Lib.hid he;clear h1' he;have HG:=Lib.hid (good_split e);go_upto_region 6 with fail;obtain⟨y2,e2,hst0,hsz0,hlt0,HX0⟩:=grow1 y [.int .i64 e.id,.int .i64 e.rd,.int .i64 e.f,.int .i64 e.t,.int .i64 e.n,.int .i64 e.s] 209;rw[e2];obtain⟨hx0,hx1,hx2,hx3,hx4,hx5,hxf⟩:=cx6 HX0;skip;clear e2 hst0;generalize y.w.heap.size=g at *;obtain⟨Hhx0,Hhx1,Hhx2,Hhx3,Hhx4,Hhx5,Hhxf⟩:=bx6 HX0;have Hhxg:=Lib.hid (And.intro hsz0 hlt0);clear hlt0 hsz0 HX0;obtain⟨q0,hq0⟩:=Since.refl y2.w;rw[hq0];clear hq0
   cases h0:inB e.id 1 1000000 with
   |false=>
    have Hr:=Lib.hid (Hbad.out e He'.out (by rw[HG.out,h0];simp))
    have H0:=Lib.hid h0;clear h0
    go_wp2_with(go_at_call 140;((with_reducible refine(in_calls y2.w _ e.id 1 1000000).mono ?_);rintro _ _ ⟨rfl,z1,rfl⟩;rw[H0.out]))
    go_ret
    exact⟨ret_int Hr.out.symm,by obtain⟨q,e⟩:=y2.trans z1;rw[e];exact⟨q,rfl⟩⟩
   |true=>
    rw[h0,Bool.true_and]at HG
    have H0:=Lib.hid h0;clear h0
    cases h1:inB e.rd 0 127 with
    |false=>
     have Hr:=Lib.hid (Hbad.out e He'.out (by rw[HG.out,h1];simp))
     have H1:=Lib.hid h1;clear h1
     go_wp2_with(first|(go_at_call 140;((with_reducible refine(in_calls y2.w _ e.id 1 1000000).mono ?_);rintro _ _ ⟨rfl,z1,rfl⟩;rw[H0.out]))|(go_at_call 140;((with_reducible refine(in_calls y2.w _ e.rd 0 127).mono ?_);rintro _ _ ⟨rfl,z1,rfl⟩;rw[H1.out])))
     go_ret
     exact⟨ret_int Hr.out.symm,by obtain⟨q,e⟩:=y2.trans z1;rw[e];exact⟨q,rfl⟩⟩
    |true=>
     rw[h1,Bool.true_and]at HG
     have H1:=Lib.hid h1;clear h1
     cases h2:inB e.n 1 256 with
     |false=>
      have Hr:=Lib.hid (Hbad.out e He'.out (by rw[HG.out,h2];simp))
      have H2:=Lib.hid h2;clear h2
      go_wp2_with(first|(go_at_call 140;((with_reducible refine(in_calls y2.w _ e.id 1 1000000).mono ?_);rintro _ _ ⟨rfl,z1,rfl⟩;rw[H0.out]))|(go_at_call 140;((with_reducible refine(in_calls y2.w _ e.rd 0 127).mono ?_);rintro _ _ ⟨rfl,z1,rfl⟩;rw[H1.out]))|(go_at_call 140;((with_reducible refine(in_calls y2.w _ e.n 1 256).mono ?_);rintro _ _ ⟨rfl,z1,rfl⟩;rw[H2.out])))
      go_ret
      exact⟨ret_int Hr.out.symm,by obtain⟨q,e⟩:=y2.trans z1;rw[e];exact⟨q,rfl⟩⟩
     |true=>
      rw[h2,Bool.true_and]at HG
      have H2:=Lib.hid h2;clear h2
      cases h3:inB e.s 0 86400 with
      |false=>
       have Hr:=Lib.hid (Hbad.out e He'.out (by rw[HG.out,h3];simp))
       have H3:=Lib.hid h3;clear h3
       go_wp2_with(first|(go_at_call 140;((with_reducible refine(in_calls y2.w _ e.id 1 1000000).mono ?_);rintro _ _ ⟨rfl,z1,rfl⟩;rw[H0.out]))|(go_at_call 140;((with_reducible refine(in_calls y2.w _ e.rd 0 127).mono ?_);rintro _ _ ⟨rfl,z1,rfl⟩;rw[H1.out]))|(go_at_call 140;((with_reducible refine(in_calls y2.w _ e.n 1 256).mono ?_);rintro _ _ ⟨rfl,z1,rfl⟩;rw[H2.out]))|(go_at_call 140;((with_reducible refine(in_calls y2.w _ e.s 0 86400).mono ?_);rintro _ _ ⟨rfl,z1,rfl⟩;rw[H3.out])))
       go_ret
       exact⟨ret_int Hr.out.symm,by obtain⟨q,e⟩:=y2.trans z1;rw[e];exact⟨q,rfl⟩⟩
      |true=>
       rw[h3,Bool.true_and]at HG
       have H3:=Lib.hid h3;clear h3
       go_upto_region 8 with(first|(go_at_call 140;((with_reducible refine(in_calls y2.w _ e.id 1 1000000).mono ?_);rintro _ _ ⟨rfl,z1,rfl⟩;rw[H0.out]))|(go_at_call 140;((with_reducible refine(in_calls y2.w _ e.rd 0 127).mono ?_);rintro _ _ ⟨rfl,z1,rfl⟩;rw[H1.out]))|(go_at_call 140;((with_reducible refine(in_calls y2.w _ e.n 1 256).mono ?_);rintro _ _ ⟨rfl,z1,rfl⟩;rw[H2.out]))|(go_at_call 140;((with_reducible refine(in_calls y2.w _ e.s 0 86400).mono ?_);rintro _ _ ⟨rfl,z1,rfl⟩;rw[H3.out])))
       clear H0 H1 H2 H3
       rcases(by omega:e.f<0∨(0≤e.f∧e.t≤e.f)∨(0≤e.f∧e.f<e.t∧49710<e.t)∨(0≤e.f∧e.f<e.t∧e.t≤49710))with d1|⟨d1,d2⟩|⟨d1,d2,d3⟩|⟨d1,d2,d3⟩
       case inr.inr.inr=>
        have Hg:=Lib.hid (show goodP e=true by rw[HG.out];simp;omega);go_wp2_with fail;obtain⟨q,eq⟩:=y2.trans z1;rw[eq];go_roundw
        case rel=>exact⟨k+1,q,by omega,by go_num,rfl,upto_next Hok.out He'.out Hg.out⟩
        case measure=>simp[intOf]<;>omega
       all_goals
        have Hr:=Lib.hid (Hbad.out e He'.out (by rw[HG.out];simp;omega));go_wp2_with fail;go_ret;exact⟨ret_int Hr.out.symm,by obtain⟨q,e⟩:=y2.trans z1;rw[e];exact⟨q,rfl⟩⟩
  ·obtain rfl:k=l.length:=by omega
   have HP:=Lib.hid (Hgood.out (all_yes Hok.out));clear Hok Hgood Hbad;have hmm:=@run_makeMap Tryz.prog;go_wp2_with fail;have hm0:MapAt eint (y.w.alloc (.map #[] 0)) y.w.heap.size (idE ((l.map fun p:Pass=>p.id).take 0)):=by
    show(y.w.heap.push _)[y.w.heap.size]? = _;simp[idE,entF]
   obtain⟨y1,hy1⟩:=y.alloc (.map #[] 0);rw[hy1]at hm0⊢;have Hm0:=Lib.hid hm0;have Hgb:=Lib.hid y.b.size;clear hy1 hm0 hmm;generalize y.w.heap.size=bm at *;go_loopw [62] (fun i wr=>∃(k:Nat) (y:Since w),k≤l.length∧i= .int .i64 k∧wr=y.w∧MapAt eint y.w bm (idE ((l.map fun p:Pass=>p.id).take k))∧((l.map fun p:Pass=>p.id).take k).Nodup) (fun i _ =>l.length-(intOf i).toNat)
   case atStart=>exact⟨0,y1,by omega,rfl,rfl,Hm0.out,by simp⟩
   case round=>
    clear Hm0;obtain⟨k,y,hk,rfl,rfl,hm,hnd⟩:=hrel;have Hm:=Lib.hid hm;have Hnd:=Lib.hid hnd;clear hm hnd;by_cases hlt:k<l.length
    ·obtain⟨e,he⟩:∃e,l[k]? =some e:=⟨_,List.getElem?_eq_getElem hlt⟩
     obtain⟨b1,off1,rfl,h1'⟩:=Els.pass HL.out he;have pa0:=h1'.c0;have pa1:=h1'.c1;have pa2:=h1'.c2;have pa3:=h1'.c3;have pa4:=h1'.c4;have pa5:=h1'.c5;have hk0:(0:Int)≤(k:Int):=by omega
     have hkl:(k:Int)<(l.length:Int):=by omega
     have He':=Lib.hid (map_at (f:=fun p:Pass=>p.id) he);have Hnx:=Lib.hid (nodup_take_next He'.out);clear h1' he;go_upto_region 15 with fail;obtain⟨y2,e2,hst0,hsz0,hlt0,HX0⟩:=grow1 y [.int .i64 e.id,.int .i64 e.rd,.int .i64 e.f,.int .i64 e.t,.int .i64 e.n,.int .i64 e.s] 209;rw[e2];obtain⟨hx0,hx1,hx2,hx3,hx4,hx5,hxf⟩:=cx6 HX0;(replace Hm:=Lib.hid (Hm.out.to' hst0))
     clear e2 hst0;generalize y.w.heap.size=g at *;obtain⟨Hhx0,Hhx1,Hhx2,Hhx3,Hhx4,Hhx5,Hhxf⟩:=bx6 HX0;have Hhxg:=Lib.hid (And.intro hsz0 hlt0);clear hlt0 hsz0 HX0;have hlk:=run_look keyInt Hm.out Tryz.underlying199 (zeroBool _) e.id false;unfold eint at hlk;simp only[Bool.false_eq_true,if_false]at hlk;by_cases hin:e.id∈(l.map fun p:Pass=>p.id).take k
     ·rw[idE_in hin]at hlk
      have Hr:=Lib.hid (show passE l=6 by
       rw[HP.out,if_pos (dupB_true fun h=>((Hnx.out.1 (nodup_of_take h)).2 hin))])
      clear hin;go_wp2_with fail;go_ret;exact⟨ret_int Hr.out.symm,_,rfl⟩
     ·rw[idE_out hin]at hlk
      obtain⟨w2,hst,hw2⟩:=run_store_new keyInt Hm.out Tryz.underlying199 e.id (.bool true) ((idE_lk e.id _ 0).2 hin);unfold eint at hst;have Hw2:=Lib.hid hw2;have Hnd2:=Lib.hid (Hnx.out.2 ⟨Hnd.out,hin⟩);clear hw2 hin;go_wp2_with fail;obtain⟨y3,hy3⟩:=y2.block (r:=bm) (by have:=Hgb.out;omega) (.map (entF eint (idE ((l.map fun p:Pass=>p.id).take k) ++ [(e.id,Value.bool true)]) 0).toArray (idE ((l.map fun p:Pass=>p.id).take k) ++ [(e.id,Value.bool true)]).length);have hm3:MapAt eint y3.w bm (idE ((l.map fun p:Pass=>p.id).take (k+1))):=by
       rw[←hy3,idE_next He'.out];exact setBlock_at Hm.out.lt'
      have Hm3:=Lib.hid hm3;have Hy3:=Lib.hid (Hw2.out.trans hy3);clear hm3 hy3;rw[Hy3.out];go_roundw
      case rel=>exact⟨k+1,y3,by omega,by go_num,rfl,Hm3.out,Hnd2.out⟩
      case measure=>simp[intOf]<;>omega
    ·obtain rfl:k=l.length:=by omega
     have Hr:=Lib.hid (show passE l=0 by
      have h1:=Hnd.out;rw[List.take_of_length_le (by simp)]at h1;rw[HP.out,if_neg (by rw[dupB_false h1];simp)])
     go_wp2_with fail;go_ret;exact⟨ret_int Hr.out.symm,_,rfl⟩
end Go.Proofs.YtmmlmhnjjfnpnaaGreat
namespace Go.Proofs.YtmmlmhnjjfnpnaaGreat
open Go.RowKit Go.ChangeMaps
theorem ridesE_err {l:List Ride} {k:Nat} {r:Ride} (hb:l.length≤256) (hr:l[k]? =some r) (he:rideE r≠0) (hn:∀j,j<k→∀x,l[j]? =some x→rideE x=0):ridesE l=rideE r:=by
 unfold ridesE;rw[if_neg (by omega),firstErr_at hr he hn,if_pos he]
theorem ridesE_ok {l:List Ride} (hb:l.length≤256) (hn:∀j,j<l.length→∀x,l[j]? =some x→rideE x=0):ridesE l=if dupB (l.map fun r:Ride=>r.id)=true then 6 else 0:=by
 unfold ridesE;rw[if_neg (by omega),firstErr_none hn,if_neg (by simp)]
set_option maxRecDepth 100000 in
set_option maxHeartbeats 8000000 in
theorem checked_calls (w:World) (x:Since w) (pa:Option Addr) (lp:List Pass) (pc:Nat) (a:Option Addr) (l:List Ride) (c:Nat) (hp:PassRow w pa lp) (hpl:lp.length≤9223372036854775807) (h:RideRow w a l) (hl:l.length≤9223372036854775807):
 Calls Tryz.prog 102 #[.slice pa lp.length pc,.slice a l.length c] x.w fun o w'=>o= .returned (.int .i64 (usesE lp l))∧∃y:Since w,w'=y.w:=by
 have HL:=Lib.hid h;have Hpc:=Lib.hid (fun y:Since w=>pcheck_calls w y pa lp pc hp hpl);have HU:=Lib.hid (show usesE lp l=if passE lp≠0 then passE lp else ridesE l from rfl);clear h hp hpl;generalize passE lp=pe at *;by_cases hpe:pe=0
 case neg=>
  have hpb:(pe != 0)=true:=by simpa using hpe
  have Hr:=Lib.hid (show usesE lp l=pe by rw[HU.out,if_pos hpe]);clear hpe;go_enter Tryz.func102,Tryz.ntmps102;go_wp2_with(go_at_call 97;((with_reducible refine(Hpc.out _).mono ?_);rintro _ _ ⟨rfl,y1,rfl⟩));go_ret;exact⟨ret_int Hr.out.symm,_,rfl⟩
 subst hpe;replace HU:=Lib.hid (show usesE lp l=ridesE l by rw[HU.out,if_neg (by simp)]);by_cases hbig:256<l.length
 ·have Hr:=Lib.hid (show usesE lp l=8 by rw[HU.out];unfold ridesE;rw[if_pos hbig])
  go_enter Tryz.func102,Tryz.ntmps102;go_wp2_with(go_at_call 97;((with_reducible refine(Hpc.out _).mono ?_);rintro _ _ ⟨rfl,y1,rfl⟩));go_ret;exact⟨ret_int Hr.out.symm,_,rfl⟩
 have hl256:l.length≤256:=by omega
 clear hbig hl;go_enter Tryz.func102,Tryz.ntmps102;go_wp2_with(go_at_call 97;((with_reducible refine(Hpc.out _).mono ?_);rintro _ _ ⟨rfl,y1,rfl⟩));clear Hpc;go_loopw [22] (fun i wr=>∃(k:Nat) (y:Since w),k≤l.length∧i= .int .i64 k∧wr=y.w∧∀j,j<k→∀e,l[j]? =some e→rideE e=0) (fun i _ =>l.length-(intOf i).toNat)
 case atStart=>exact⟨0,_,by omega,rfl,rfl,fun j hj=>by omega⟩
 case round=>
  obtain⟨k,y,hk,rfl,rfl,hok⟩:=hrel;have Hok:=Lib.hid hok;clear hok;by_cases hlt:k<l.length
  ·obtain⟨e,he⟩:∃e,l[k]? =some e:=⟨_,List.getElem?_eq_getElem hlt⟩
   obtain⟨b1,off1,rfl,h1'⟩:=Els.ride HL.out.c he;have ra0:=h1'.c0;have ra1:=h1'.c1;have ra2:=h1'.c2;have ra3:=h1'.c3;have ra4:=h1'.c4;have ra5:=h1'.c5;have ra6:=h1'.c6;have ra7:=h1'.c7;have ra8:=h1'.c8;have ra9:=h1'.c9;have ra10:=h1'.c10;have ra11:=h1'.c11;have ra12:=h1'.c12;have hk0:(0:Int)≤(k:Int):=by omega
   have hkl:(k:Int)<(l.length:Int):=by omega
   have He':=Lib.hid he;have Hat:=Lib.hid (HL.out.r e (List.mem_of_getElem? he));clear h1' he;go_upto_region 9 with fail;obtain⟨y2,e2,hst0,hsz0,hlt0,HX0⟩:=grow1 y [.int .i64 e.id,.int .i64 e.rd,.int .i64 e.s0,.int .i64 e.s1,.int .i64 e.e0,.int .i64 e.e1,.bool e.op,.slice e.la e.legs.length e.lc,.slice e.pa e.pauses.length e.pc,.int .i64 e.fw,.int .i64 e.fp,.int .i64 e.wh,.int .i64 e.pl] 40;rw[e2];obtain⟨hx0,hx1,hx2,hx3,hx4,hx5,hx6,hx7,hx8,hx9,hx10,hx11,hx12,hxf⟩:=cx13 HX0;(replace Hat:=Lib.hid ((Hat.out.since y).to hst0))
   clear e2 hst0;generalize y.w.heap.size=g at *;obtain⟨Hhx0,Hhx1,Hhx2,Hhx3,Hhx4,Hhx5,Hhx6,Hhx7,Hhx8,Hhx9,Hhx10,Hhx11,Hhx12,Hhxf⟩:=bx13 HX0;have Hhxg:=Lib.hid (And.intro hsz0 hlt0);clear hlt0 hsz0 HX0;obtain⟨q0,hq0⟩:=Since.refl y2.w;rw[hq0];clear hq0;have Hck:=Lib.hid (fun z:Since y2.w=>check_calls y2.w z e Hat.out);by_cases her:rideE e=0
   ·rw[her]at Hck
    have Hv:=Lib.hid her;clear her;go_wp2_with(go_at_call 9;((with_reducible refine(Hck.out _).mono ?_);rintro _ _ ⟨rfl,z1,rfl⟩));obtain⟨q,eq⟩:=y2.trans z1;rw[eq];go_roundw
    case rel=>exact⟨k+1,q,by omega,by go_num,rfl,upto_next (P:=fun e:Ride=>rideE e=0) Hok.out He'.out Hv.out⟩
    case measure=>simp[intOf]<;>omega
   ·have Hr:=Lib.hid (show usesE lp l=rideE e by rw[HU.out,ridesE_err hl256 He'.out her Hok.out])
    have heb:(rideE e != 0)=true:=by simpa using her
    clear her;generalize rideE e=re at *;go_wp2_with(go_at_call 9;((with_reducible refine(Hck.out _).mono ?_);rintro _ _ ⟨rfl,z1,rfl⟩));go_ret;exact⟨ret_int Hr.out.symm,by obtain⟨q,e⟩:=y2.trans z1;rw[e];exact⟨q,rfl⟩⟩
  ·obtain rfl:k=l.length:=by omega
   have HP:=Lib.hid (HU.out.trans (ridesE_ok hl256 Hok.out));clear Hok HU;have hmm:=@run_makeMap Tryz.prog;go_wp2_with fail;have hm0:MapAt eint (y.w.alloc (.map #[] 0)) y.w.heap.size (idE ((l.map fun r:Ride=>r.id).take 0)):=by
    show(y.w.heap.push _)[y.w.heap.size]? = _;simp[idE,entF]
   obtain⟨y1,hy1⟩:=y.alloc (.map #[] 0);rw[hy1]at hm0⊢;have Hm0:=Lib.hid hm0;have Hgb:=Lib.hid y.b.size;clear hy1 hm0 hmm;generalize y.w.heap.size=bm at *;go_loopw [35] (fun i wr=>∃(k:Nat) (y:Since w),k≤l.length∧i= .int .i64 k∧wr=y.w∧MapAt eint y.w bm (idE ((l.map fun r:Ride=>r.id).take k))∧((l.map fun r:Ride=>r.id).take k).Nodup) (fun i _ =>l.length-(intOf i).toNat)
   case atStart=>exact⟨0,y1,by omega,rfl,rfl,Hm0.out,by simp⟩
   case round=>
    clear Hm0;obtain⟨k,y,hk,rfl,rfl,hm,hnd⟩:=hrel;have Hm:=Lib.hid hm;have Hnd:=Lib.hid hnd;clear hm hnd;by_cases hlt:k<l.length
    ·obtain⟨e,he⟩:∃e,l[k]? =some e:=⟨_,List.getElem?_eq_getElem hlt⟩
     obtain⟨b1,off1,rfl,h1'⟩:=Els.ride HL.out.c he;have ra0:=h1'.c0;have ra1:=h1'.c1;have ra2:=h1'.c2;have ra3:=h1'.c3;have ra4:=h1'.c4;have ra5:=h1'.c5;have ra6:=h1'.c6;have ra7:=h1'.c7;have ra8:=h1'.c8;have ra9:=h1'.c9;have ra10:=h1'.c10;have ra11:=h1'.c11;have ra12:=h1'.c12;have hk0:(0:Int)≤(k:Int):=by omega
     have hkl:(k:Int)<(l.length:Int):=by omega
     have He':=Lib.hid (map_at (f:=fun r:Ride=>r.id) he);have Hnx:=Lib.hid (nodup_take_next He'.out);clear h1' he;go_upto_region 17 with fail;obtain⟨y2,e2,hst0,hsz0,hlt0,HX0⟩:=grow1 y [.int .i64 e.id,.int .i64 e.rd,.int .i64 e.s0,.int .i64 e.s1,.int .i64 e.e0,.int .i64 e.e1,.bool e.op,.slice e.la e.legs.length e.lc,.slice e.pa e.pauses.length e.pc,.int .i64 e.fw,.int .i64 e.fp,.int .i64 e.wh,.int .i64 e.pl] 40;rw[e2];obtain⟨hx0,hx1,hx2,hx3,hx4,hx5,hx6,hx7,hx8,hx9,hx10,hx11,hx12,hxf⟩:=cx13 HX0;(replace Hm:=Lib.hid (Hm.out.to' hst0))
     clear e2 hst0;generalize y.w.heap.size=g at *;obtain⟨Hhx0,Hhx1,Hhx2,Hhx3,Hhx4,Hhx5,Hhx6,Hhx7,Hhx8,Hhx9,Hhx10,Hhx11,Hhx12,Hhxf⟩:=bx13 HX0;have Hhxg:=Lib.hid (And.intro hsz0 hlt0);clear hlt0 hsz0 HX0;have hlk:=run_look keyInt Hm.out Tryz.underlying199 (zeroBool _) e.id false;unfold eint at hlk;simp only[Bool.false_eq_true,if_false]at hlk;by_cases hin:e.id∈(l.map fun r:Ride=>r.id).take k
     ·rw[idE_in hin]at hlk
      have Hr:=Lib.hid (show usesE lp l=6 by
       rw[HP.out,if_pos (dupB_true fun h=>((Hnx.out.1 (nodup_of_take h)).2 hin))])
      clear hin;go_wp2_with fail;go_ret;exact⟨ret_int Hr.out.symm,_,rfl⟩
     ·rw[idE_out hin]at hlk
      obtain⟨w2,hst,hw2⟩:=run_store_new keyInt Hm.out Tryz.underlying199 e.id (.bool true) ((idE_lk e.id _ 0).2 hin);unfold eint at hst;have Hw2:=Lib.hid hw2;have Hnd2:=Lib.hid (Hnx.out.2 ⟨Hnd.out,hin⟩);clear hw2 hin;go_wp2_with fail;obtain⟨y3,hy3⟩:=y2.block (r:=bm) (by have:=Hgb.out;omega) (.map (entF eint (idE ((l.map fun r:Ride=>r.id).take k) ++ [(e.id,Value.bool true)]) 0).toArray (idE ((l.map fun r:Ride=>r.id).take k) ++ [(e.id,Value.bool true)]).length);have hm3:MapAt eint y3.w bm (idE ((l.map fun r:Ride=>r.id).take (k+1))):=by
       rw[←hy3,idE_next He'.out];exact setBlock_at Hm.out.lt'
      have Hm3:=Lib.hid hm3;have Hy3:=Lib.hid (Hw2.out.trans hy3);clear hm3 hy3;rw[Hy3.out];go_roundw
      case rel=>exact⟨k+1,y3,by omega,by go_num,rfl,Hm3.out,Hnd2.out⟩
      case measure=>simp[intOf]<;>omega
    ·obtain rfl:k=l.length:=by omega
     have Hr:=Lib.hid (show usesE lp l=0 by
      have h1:=Hnd.out;rw[List.take_of_length_le (by simp)]at h1;rw[HP.out,if_neg (by rw[dupB_false h1];simp)])
     go_wp2_with fail;go_ret;exact⟨ret_int Hr.out.symm,_,rfl⟩
end Go.Proofs.YtmmlmhnjjfnpnaaGreat
