/- Texts that belong together. -/
import Derived.Test.YtmmlmhnjjfnpnaaGreatTpQzk
set_option linter.all false
namespace Go.Proofs.YtmmlmhnjjfnpnaaGreat
set_option maxRecDepth 200000
set_option maxHeartbeats 64000000
open Go.ChangeShapes Go.WideShapes Go.ChangeAt Go.RowKit
theorem Ap1:Tryz.prog.cellsOf 156=2:=by kernel_rfl
theorem Ap2:Tryz.prog.cellsOf 209=6:=by kernel_rfl
theorem Ap3:Tryz.prog.cellsOf 53=7:=by kernel_rfl
theorem Bi8:Tryz.prog.cellsOf 55=12:=by kernel_rfl
theorem Bi9:Tryz.prog.cellsOf 50=1:=by kernel_rfl
theorem Bj0:Tryz.prog.cellsOf 51=1:=by kernel_rfl
noncomputable def Ap4:Array Field:=Tryz.prog.fieldsOf 156
theorem Bj1:Tryz.prog.underlying 156=some (.struct Ap4):=by kernel_rfl
theorem Bj2:(Ap4.toList.map fun f=>(f.offset,f.type))=[(0,3),(1,3)]:=by kernel_rfl
noncomputable def Ap5:Array Field:=Tryz.prog.fieldsOf 209
theorem Bj3:Tryz.prog.underlying 209=some (.struct Ap5):=by kernel_rfl
theorem Bj4:(Ap5.toList.map fun f=>(f.offset,f.type))=[(0,3),(1,3),(2,156),(4,3),(5,3)]:=by kernel_rfl
noncomputable def Ap6:Array Field:=Tryz.prog.fieldsOf 53
theorem Bj5:Tryz.prog.underlying 53=some (.struct Ap6):=by kernel_rfl
theorem Bj6:(Ap6.toList.map fun f=>(f.offset,f.type))=[(0,50),(1,51),(2,22),(3,22),(4,3),(5,22),(6,3)]:=by kernel_rfl
noncomputable def Ap7:Array Field:=Tryz.prog.fieldsOf 55
theorem Ap8:Tryz.prog.underlying 55=some (.struct Ap7):=by kernel_rfl
theorem Bj7:(Ap7.toList.map fun f=>(f.offset,f.type))=[(0,24),(5,53)]:=by kernel_rfl
section
variable {H:Type} {enc:TypeId×Value→H} {w:World} {base fuel:Nat} {spare:Nat→Bool} {held:Bool} {cs:List Value} {y:DataW H×List MemPlace}
theorem Ap9 {c d:Value} (h:DataW.trod enc Tryz.prog w base spare held fuel 156 [c,d]=some y):∃m n:Int,c= .int .i64 m∧d= .int .i64 n:=by
 obtain⟨_,hf⟩:=jV Bj1 Bj2 h;obtain⟨_,_,h0⟩:=hf 0 _ rfl;obtain⟨_,_,h1⟩:=hf 1 _ rfl;simp only[fE]at h0 h1;obtain⟨m,rfl,_⟩:=o9 h0;obtain⟨n,rfl,_⟩:=o9 h1;exact⟨m,n,rfl,rfl⟩
theorem Bj8 (h:DataW.trod enc Tryz.prog w base spare held fuel 209 cs=some y):∃x:J1,cs=x.cs∧True:=by
 obtain⟨hl,hf⟩:=jV Bj3 Bj4 h;rw[Ap2]at hl;match cs,hl with
 |[c0,c1,c2,c3,c4,c5],_ =>
  obtain⟨_,_,h0⟩:=hf 0 _ rfl
  obtain⟨_,_,h1⟩:=hf 1 _ rfl
  obtain⟨_,_,h2⟩:=hf 2 _ rfl
  obtain⟨_,_,h3⟩:=hf 3 _ rfl
  obtain⟨_,_,h4⟩:=hf 4 _ rfl
  simp only[fE,Ap1]at h0 h1 h2 h3 h4
  obtain⟨id,rfl,_⟩:=o9 h0
  obtain⟨rd,rfl,_⟩:=o9 h1
  obtain⟨f,t,rfl,rfl⟩:=Ap9 h2
  obtain⟨n,rfl,_⟩:=o9 h3
  obtain⟨s,rfl,_⟩:=o9 h4
  exact⟨⟨id,rd,f,t,n,s⟩,rfl,trivial⟩
theorem Bj9 (h:DataW.trod enc Tryz.prog w base spare held fuel 27 cs=some y):∃x:K2,cs=x.cs∧True:=by
 obtain⟨ns,hns,hlen,_⟩:=yY Be9 (Ao2 wH Bf0) (Ao0.trans wH.symm) h;rw[wH]at hlen;subst hns;match ns,hlen with
 |[a,b,c,d,e,f],_ =>exact⟨⟨a,b,c,d,e,f⟩,rfl,trivial⟩
theorem wM {c:Value} (h:DataW.trod enc Tryz.prog w base spare held fuel 22 [c]=some y):
 ∃(a:Option Addr) (l:List Int) (cap:Nat),c= .slice a l.length cap∧l.length≤9223372036854775807∧(a=none→cap=0)∧S9 w a l:=by
 obtain⟨a,l,cap,hs,h1,h2,h3,h4,_⟩:=lN (encA:=fun z:Int=>[Value.int .i64 z]) (Q:=fun _ =>True) Tryz.underlying22 fE (by decide) (fun _ =>rfl) (fun _ _ _ h=>by
  obtain⟨z,hcs,_,_⟩:=DataW.trod_int Tryz.underlying3 h;exact⟨z,hcs,trivial⟩) h
 refine⟨a,l,cap,hs,Nat.le_trans h1 h2,h3,fun i hi=>?_⟩;obtain⟨b,off,ha,hb,hc⟩:=h4 i _ (A4 hi);refine⟨b,off,ha,hb,?_⟩;have:=hc 0 _ rfl;have hq:B0 l i=l[i]:=by unfold B0;rw[A6,A4 hi];rfl
 show w.cell? ⟨b,off+i,none⟩=some (.int .i64 (B0 l i));rw[hq];simpa using this
theorem Bk0 (h:DataW.trod enc Tryz.prog w base spare held fuel 53 cs=some y):
 ∃(p:G5) (ga pa la ka fa:Option Addr) (gc pc lc kc fc:Nat),cs=[.slice ga p.tr.length gc,.slice pa p.ps.length pc,.slice la p.pl.length lc,.slice ka p.dk.length kc,.int .i64 p.cap,.slice fa p.fn.length fc,.int .i64 p.fd]∧(p.pl.length≤4611686018427387904→p.dk.length≤4611686018427387904→eI w p ga pa la ka fa)∧p.tr.length≤9223372036854775807∧p.ps.length≤9223372036854775807∧p.pl.length≤9223372036854775807∧p.dk.length≤9223372036854775807∧p.fn.length≤9223372036854775807∧(la=none→lc=0)∧(ka=none→kc=0):=by
 obtain⟨hl,hf⟩:=jV Bj5 Bj6 h;rw[Ap3]at hl;match cs,hl with
 |[c0,c1,c2,c3,c4,c5,c6],_ =>
  obtain⟨_,_,h0⟩:=hf 0 _ rfl
  obtain⟨_,_,h1⟩:=hf 1 _ rfl
  obtain⟨_,_,h2⟩:=hf 2 _ rfl
  obtain⟨_,_,h3⟩:=hf 3 _ rfl
  obtain⟨_,_,h4⟩:=hf 4 _ rfl
  obtain⟨_,_,h5⟩:=hf 5 _ rfl
  obtain⟨_,_,h6⟩:=hf 6 _ rfl
  simp only[fE,An8,Bi9,Bj0]at h0 h1 h2 h3 h4 h5 h6
  obtain⟨ga,tr,gc,rfl,a1,a2,_,a4,_⟩:=lN (encA:=K2.cs) (Q:=fun _ =>True) Tryz.underlying50 Ao0 (by decide) K2.len (fun _ _ _ h=>Bj9 h) h0
  obtain⟨pa,ps,pc,rfl,b1,b2,_,b4,_⟩:=lN (encA:=J1.cs) (Q:=fun _ =>True) Tryz.underlying51 Ap2 (by decide) J1.len (fun _ _ _ h=>Bj8 h) h1
  obtain⟨la,pl,lc,rfl,l1,l2,l3⟩:=wM h2
  obtain⟨ka,dk,kc,rfl,k1,k2,k3⟩:=wM h3
  obtain⟨cap,rfl,_⟩:=o9 h4
  obtain⟨fa,fn,fc,rfl,f1,_,f3⟩:=wM h5
  obtain⟨fd,rfl,_⟩:=o9 h6
  exact⟨⟨tr,ps,pl,dk,cap,fn,fd⟩,ga,pa,la,ka,fa,gc,pc,lc,kc,fc,rfl,fun hl hk=>⟨a4,b4,l3,k3,f3,Nat.le_trans a1 a2,Nat.le_trans b1 b2,hl,hk,f1⟩,Nat.le_trans a1 a2,Nat.le_trans b1 b2,l1,k1,f1,l2,k2⟩
end
theorem Bk1 {H:Type} {enc:TypeId×Value→H} {w:World} {b0:Nat} {r:Reach} {held:Bool} {v:Value} {d:DataW H} {q:List MemPlace} (hv:Value.okWide Tryz.prog w r b0 55 v) (h:DataW.Trod enc Tryz.prog w 0 (fun _ =>true) held 55 v d q):
 ∃(f:G4) (da:Option Addr) (dc:Nat) (ta:Option Addr) (tc:Nat) (p:G5) (ga pa la ka fa:Option Addr) (gc pc lc kc fc:Nat),v= .agg #[.int .i64 f.bk,.int .i64 f.rd,.int .i64 f.dv,.slice da f.dk.length dc,.slice ta f.tk.length tc,.slice ga p.tr.length gc,.slice pa p.ps.length pc,.slice la p.pl.length lc,.slice ka p.dk.length kc,.int .i64 p.cap,.slice fa p.fn.length fc,.int .i64 p.fd]∧i5 w f da ta∧(p.pl.length≤4611686018427387904→p.dk.length≤4611686018427387904→eI w p ga pa la ka fa)∧p.tr.length≤9223372036854775807∧p.ps.length≤9223372036854775807∧p.pl.length≤9223372036854775807∧p.dk.length≤9223372036854775807∧p.fn.length≤9223372036854775807∧(la=none→lc=0)∧(ka=none→kc=0):=by
 obtain⟨cs,rfl,hsz⟩:=okWide_struct Ap8 hv;obtain⟨l⟩:=cs;obtain⟨fuel,hf⟩:=h;obtain⟨hl,hf⟩:=jV Ap8 Bj7 (show DataW.trod enc Tryz.prog w 0 (fun _ =>true) held fuel 55 l=some (d,q)from hf);rw[Bi8]at hl;obtain⟨_,_,h0⟩:=hf 0 _ rfl;obtain⟨_,_,h1⟩:=hf 1 _ rfl;simp only[An9,Ap3]at h0 h1;obtain⟨f,da,dc,ta,tc,e0,hF⟩:=Bf5 h0;obtain⟨p,ga,pa,la,ka,fa,gc,pc,lc,kc,fc,e1,hP⟩:=Bk0 h1;match l,hl with
 |[c0,c1,c2,c3,c4,c5,c6,c7,c8,c9,c10,c11],_ =>
  simp only[List.drop_zero,List.take_succ_cons,List.take_zero,List.drop_succ_cons,List.cons.injEq,and_true]at e0 e1
  obtain⟨rfl,rfl,rfl,rfl,rfl⟩:=e0
  obtain⟨rfl,rfl,rfl,rfl,rfl,rfl,rfl⟩:=e1
  exact⟨f,da,dc,ta,tc,p,ga,pa,la,ka,fa,gc,pc,lc,kc,fc,rfl,hF,hP⟩
end Go.Proofs.YtmmlmhnjjfnpnaaGreat
