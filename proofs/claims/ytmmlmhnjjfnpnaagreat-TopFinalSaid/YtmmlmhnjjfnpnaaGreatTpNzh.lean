/- Texts that belong together. -/
import Derived.Test.YtmmlmhnjjfnpnaaGreatTpNzg
set_option linter.all false
namespace Go.Proofs.YtmmlmhnjjfnpnaaGreat
set_option maxRecDepth 200000
set_option maxHeartbeats 64000000
open Go.ChangeShapes Go.WideShapes Go.ChangeAt Go.RowKit
theorem Bk2:Tryz.prog.cellsOf 156=2:=by kernel_rfl
theorem Ar2:Tryz.prog.cellsOf 209=6:=by kernel_rfl
theorem Ar3:Tryz.prog.cellsOf 53=7:=by kernel_rfl
theorem Bk3:Tryz.prog.cellsOf 55=12:=by kernel_rfl
theorem Bk4:Tryz.prog.cellsOf 50=1:=by kernel_rfl
theorem Bk5:Tryz.prog.cellsOf 51=1:=by kernel_rfl
noncomputable def Ar4:Array Field:=Tryz.prog.fieldsOf 156
theorem Bk6:Tryz.prog.underlying 156=some (.struct Ar4):=by kernel_rfl
theorem Bk7:(Ar4.toList.map fun f=>(f.offset,f.type))=[(0,3),(1,3)]:=by kernel_rfl
noncomputable def Ar5:Array Field:=Tryz.prog.fieldsOf 209
theorem Bk8:Tryz.prog.underlying 209=some (.struct Ar5):=by kernel_rfl
theorem Bk9:(Ar5.toList.map fun f=>(f.offset,f.type))=[(0,3),(1,3),(2,156),(4,3),(5,3)]:=by kernel_rfl
noncomputable def Ar6:Array Field:=Tryz.prog.fieldsOf 53
theorem Bl0:Tryz.prog.underlying 53=some (.struct Ar6):=by kernel_rfl
theorem Bl1:(Ar6.toList.map fun f=>(f.offset,f.type))=[(0,50),(1,51),(2,22),(3,22),(4,3),(5,22),(6,3)]:=by kernel_rfl
noncomputable def Ar7:Array Field:=Tryz.prog.fieldsOf 55
theorem Ar8:Tryz.prog.underlying 55=some (.struct Ar7):=by kernel_rfl
theorem Bl2:(Ar7.toList.map fun f=>(f.offset,f.type))=[(0,24),(5,53)]:=by kernel_rfl
section
variable {H:Type} {enc:TypeId×Value→H} {w:World} {base fuel:Nat} {spare:Nat→Bool} {held:Bool} {cs:List Value} {y:DataW H×List MemPlace}
theorem Bl3 {c d:Value} (h:DataW.trod enc Tryz.prog w base spare held fuel 156 [c,d]=some y):∃m n:Int,c= .int .i64 m∧d= .int .i64 n:=by
 obtain⟨_,hf⟩:=lX Bk6 Bk7 h;obtain⟨_,_,h0⟩:=hf 0 _ rfl;obtain⟨_,_,h1⟩:=hf 1 _ rfl;simp only[gX]at h0 h1;obtain⟨m,rfl,_⟩:=dX h0;obtain⟨n,rfl,_⟩:=dX h1;exact⟨m,n,rfl,rfl⟩
theorem Bl4 (h:DataW.trod enc Tryz.prog w base spare held fuel 209 cs=some y):∃x:G3,cs=x.cs∧True:=by
 obtain⟨hl,hf⟩:=lX Bk8 Bk9 h;rw[Ar2]at hl;match cs,hl with
 |[c0,c1,c2,c3,c4,c5],_ =>
  obtain⟨_,_,h0⟩:=hf 0 _ rfl
  obtain⟨_,_,h1⟩:=hf 1 _ rfl
  obtain⟨_,_,h2⟩:=hf 2 _ rfl
  obtain⟨_,_,h3⟩:=hf 3 _ rfl
  obtain⟨_,_,h4⟩:=hf 4 _ rfl
  simp only[gX,Bk2]at h0 h1 h2 h3 h4
  obtain⟨id,rfl,_⟩:=dX h0
  obtain⟨rd,rfl,_⟩:=dX h1
  obtain⟨f,t,rfl,rfl⟩:=Bl3 h2
  obtain⟨n,rfl,_⟩:=dX h3
  obtain⟨s,rfl,_⟩:=dX h4
  exact⟨⟨id,rd,f,t,n,s⟩,rfl,trivial⟩
theorem Bl5 (h:DataW.trod enc Tryz.prog w base spare held fuel 27 cs=some y):∃x:I4,cs=x.cs∧True:=by
 obtain⟨ns,hns,hlen,_⟩:=zV Bg2 (Aq3 xF Bg3) (Aq1.trans xF.symm) h;rw[xF]at hlen;subst hns;match ns,hlen with
 |[a,b,c,d,e,f],_ =>exact⟨⟨a,b,c,d,e,f⟩,rfl,trivial⟩
theorem xL {c:Value} (h:DataW.trod enc Tryz.prog w base spare held fuel 22 [c]=some y):
 ∃(a:Option Addr) (l:List Int) (cap:Nat),c= .slice a l.length cap∧l.length≤9223372036854775807∧(a=none→cap=0)∧Q9 w a l:=by
 obtain⟨a,l,cap,hs,h1,h2,h3,h4,_⟩:=tM (encA:=fun z:Int=>[Value.int .i64 z]) (Q:=fun _ =>True) Tryz.underlying22 gX (by decide) (fun _ =>rfl) (fun _ _ _ h=>by
  obtain⟨z,hcs,_,_⟩:=DataW.trod_int Tryz.underlying3 h;exact⟨z,hcs,trivial⟩) h
 refine⟨a,l,cap,hs,Nat.le_trans h1 h2,h3,fun i hi=>?_⟩;obtain⟨b,off,ha,hb,hc⟩:=h4 i _ (A3 hi);refine⟨b,off,ha,hb,?_⟩;have:=hc 0 _ rfl;have hq:B2 l i=l[i]:=by unfold B2;rw[A5,A3 hi];rfl
 show w.cell? ⟨b,off+i,none⟩=some (.int .i64 (B2 l i));rw[hq];simpa using this
theorem Bl6 (h:DataW.trod enc Tryz.prog w base spare held fuel 53 cs=some y):
 ∃(p:E4) (ga pa la ka fa:Option Addr) (gc pc lc kc fc:Nat),cs=[.slice ga p.tr.length gc,.slice pa p.ps.length pc,.slice la p.pl.length lc,.slice ka p.dk.length kc,.int .i64 p.cap,.slice fa p.fn.length fc,.int .i64 p.fd]∧(p.pl.length≤4611686018427387904→p.dk.length≤4611686018427387904→dA w p ga pa la ka fa)∧p.tr.length≤9223372036854775807∧p.ps.length≤9223372036854775807∧p.pl.length≤9223372036854775807∧p.dk.length≤9223372036854775807∧p.fn.length≤9223372036854775807∧(la=none→lc=0)∧(ka=none→kc=0):=by
 obtain⟨hl,hf⟩:=lX Bl0 Bl1 h;rw[Ar3]at hl;match cs,hl with
 |[c0,c1,c2,c3,c4,c5,c6],_ =>
  obtain⟨_,_,h0⟩:=hf 0 _ rfl
  obtain⟨_,_,h1⟩:=hf 1 _ rfl
  obtain⟨_,_,h2⟩:=hf 2 _ rfl
  obtain⟨_,_,h3⟩:=hf 3 _ rfl
  obtain⟨_,_,h4⟩:=hf 4 _ rfl
  obtain⟨_,_,h5⟩:=hf 5 _ rfl
  obtain⟨_,_,h6⟩:=hf 6 _ rfl
  simp only[gX,Ap9,Bk4,Bk5]at h0 h1 h2 h3 h4 h5 h6
  obtain⟨ga,tr,gc,rfl,a1,a2,_,a4,_⟩:=tM (encA:=I4.cs) (Q:=fun _ =>True) Tryz.underlying50 Aq1 (by decide) I4.len (fun _ _ _ h=>Bl5 h) h0
  obtain⟨pa,ps,pc,rfl,b1,b2,_,b4,_⟩:=tM (encA:=G3.cs) (Q:=fun _ =>True) Tryz.underlying51 Ar2 (by decide) G3.len (fun _ _ _ h=>Bl4 h) h1
  obtain⟨la,pl,lc,rfl,l1,l2,l3⟩:=xL h2
  obtain⟨ka,dk,kc,rfl,k1,k2,k3⟩:=xL h3
  obtain⟨cap,rfl,_⟩:=dX h4
  obtain⟨fa,fn,fc,rfl,f1,_,f3⟩:=xL h5
  obtain⟨fd,rfl,_⟩:=dX h6
  exact⟨⟨tr,ps,pl,dk,cap,fn,fd⟩,ga,pa,la,ka,fa,gc,pc,lc,kc,fc,rfl,fun hl hk=>⟨a4,b4,l3,k3,f3,Nat.le_trans a1 a2,Nat.le_trans b1 b2,hl,hk,f1⟩,Nat.le_trans a1 a2,Nat.le_trans b1 b2,l1,k1,f1,l2,k2⟩
end
theorem Bl7 {H:Type} {enc:TypeId×Value→H} {w:World} {b0:Nat} {r:Reach} {held:Bool} {v:Value} {d:DataW H} {q:List MemPlace} (hv:Value.okWide Tryz.prog w r b0 55 v) (h:DataW.Trod enc Tryz.prog w 0 (fun _ =>true) held 55 v d q):
 ∃(f:D5) (da:Option Addr) (dc:Nat) (ta:Option Addr) (tc:Nat) (p:E4) (ga pa la ka fa:Option Addr) (gc pc lc kc fc:Nat),v= .agg #[.int .i64 f.bk,.int .i64 f.rd,.int .i64 f.dv,.slice da f.dk.length dc,.slice ta f.tk.length tc,.slice ga p.tr.length gc,.slice pa p.ps.length pc,.slice la p.pl.length lc,.slice ka p.dk.length kc,.int .i64 p.cap,.slice fa p.fn.length fc,.int .i64 p.fd]∧Y6 w f da ta∧(p.pl.length≤4611686018427387904→p.dk.length≤4611686018427387904→dA w p ga pa la ka fa)∧p.tr.length≤9223372036854775807∧p.ps.length≤9223372036854775807∧p.pl.length≤9223372036854775807∧p.dk.length≤9223372036854775807∧p.fn.length≤9223372036854775807∧(la=none→lc=0)∧(ka=none→kc=0):=by
 obtain⟨cs,rfl,hsz⟩:=okWide_struct Ar8 hv;obtain⟨l⟩:=cs;obtain⟨fuel,hf⟩:=h;obtain⟨hl,hf⟩:=lX Ar8 Bl2 (show DataW.trod enc Tryz.prog w 0 (fun _ =>true) held fuel 55 l=some (d,q)from hf);rw[Bk3]at hl;obtain⟨_,_,h0⟩:=hf 0 _ rfl;obtain⟨_,_,h1⟩:=hf 1 _ rfl;simp only[Aq0,Ar3]at h0 h1;obtain⟨f,da,dc,ta,tc,e0,hF⟩:=Bg9 h0;obtain⟨p,ga,pa,la,ka,fa,gc,pc,lc,kc,fc,e1,hP⟩:=Bl6 h1;match l,hl with
 |[c0,c1,c2,c3,c4,c5,c6,c7,c8,c9,c10,c11],_ =>
  simp only[List.drop_zero,List.take_succ_cons,List.take_zero,List.drop_succ_cons,List.cons.injEq,and_true]at e0 e1
  obtain⟨rfl,rfl,rfl,rfl,rfl⟩:=e0
  obtain⟨rfl,rfl,rfl,rfl,rfl,rfl,rfl⟩:=e1
  exact⟨f,da,dc,ta,tc,p,ga,pa,la,ka,fa,gc,pc,lc,kc,fc,rfl,hF,hP⟩
end Go.Proofs.YtmmlmhnjjfnpnaaGreat
