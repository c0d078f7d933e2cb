/- Texts that belong together. -/
import Derived.Test.YtmmlmhnjjfnpnaaGreatTpQg
import Derived.Test.YtmmlmhnjjfnpnaaGreatTpQh
import Derived.Deep.QuietTactic
import Derived.BigQuiet
import Derived.Shelf.SlSortCmp.NoneTotal
import Derived.Test.YtmmlmhnjjfnpnaaGreatProg
import Derived.Shelf.Lay
import Derived.Shelf.SlGeneric
import Derived.Shelf.SlicesQ.IndexFunc
import Derived.Ground.SlsfProg
import Derived.Ground.SlgfProg
import Derived.Deep.RegionWith
set_option linter.all false
namespace Go.Proofs.YtmmlmhnjjfnpnaaGreat
set_option maxRecDepth 200000
set_option maxHeartbeats 64000000
section
open Go.RowKit Go.Sort
def Gr (w w':World):Prop:=∃(q:Nat) (os:Array Obj),w'=grow (w.drewN q) os
theorem Gr.refl (w:World):Gr w w:=⟨0,#[],by simp[grow,World.drewN]⟩
theorem Gr.trans {a b c:World} (h:Gr a b) (k:Gr b c):Gr a c:=by
 obtain⟨q,os,rfl⟩:=h;obtain⟨q',os',rfl⟩:=k;exact⟨q+q',os ++ os',by simp[grow,World.drewN,Nat.add_assoc,Array.append_assoc]⟩
theorem Gr.alloc (w:World) (o:Obj):Gr w (w.alloc o):=⟨0,#[o],by rw[alloc_eq_grow];rfl⟩
theorem Gr.drewN (w:World) (q:Nat):Gr w (w.drewN q):=⟨q,#[],by rw[grow_empty]⟩
theorem Gr.since {w w':World} (h:Gr w w'):∃y:A7 w,w'=y.w:=by
 obtain⟨q,os,rfl⟩:=h;exact⟨⟨grow (w.drewN q) os,⟨rfl,rfl,rfl,by simp[grow,World.drewN],fun b hb=>by simp[grow,World.drewN,Array.getElem?_append,hb]⟩⟩,rfl⟩
structure C3 (w0:World) where
 w:World
 g:Gr w0 w
instance (w0:World):Nonempty (C3 w0):=⟨⟨w0,Gr.refl _⟩⟩
theorem Ab7 {P:Program} {id:Nat} {Q:Exit→Act→World→Prop} {a:Act} {w0:World} {x:C3 w0} {l:List Oper} (hm:P.follows .mixedOrders=true) (hB:Region.lexB .any l.toArray=true)
 (h:wpQuiet P l.toArray (fun w'=>∃y:C3 w0,w'=y.w) (fun a'=>∀w',(∃y:C3 w0,w'=y.w)→Q .normal a' w') l a):(Code.region id l.toArray true).wp P Q a x.w:=
 wp_region_quiet (C:=fun w'=>∃y:C3 w0,w'=y.w) hm hB ⟨⟨_,x.g.trans (Gr.drewN x.w 1)⟩,rfl⟩ (by simpa using h)
theorem C3.refl (w0:World):∃y:C3 w0,w0=y.w:=⟨⟨w0,Gr.refl _⟩,rfl⟩
theorem C3.cell {w0:World} {a:Addr} {v:Value} (h:w0.cell? a=some v) (y:C3 w0):y.w.cell? a=some v:=by
 obtain⟨z,e⟩:=y.g.since;rw[e];have hb:=World.block_lt_of_cell? w0 _ h;rw[z.b.cell (p:=a) hb];exact h
theorem Gr.drew' {a b:World} (h:Gr a b):Gr a b.drew:=h.trans (Gr.drewN b 1)
theorem Gr.alloc' {a b:World} (h:Gr a b) (o:Obj):Gr a (b.alloc o):=h.trans (Gr.alloc b o)
theorem Gr.cell {W w:World} {a:Addr} {v:Value} (h:W.cell? a=some v) (hw:Gr W w):w.cell? a=some v:=C3.cell h ⟨w,hw⟩
def R9 (x y:Int):Int:=if x<y then -1 else if y<x then 1 else 0
theorem tS (x:Int) (w:World):Calls Tryz.prog 81 #[.int .i64 x] w fun e w'=>e= .returned (.bool false)∧w=w':=by
 have h:(x != x)=false:=by simp
 go_enter Tryz.func81,Tryz.ntmps81;go_wp2_with fail;go_ret;exact⟨rfl,rfl⟩
theorem fT (x y:Int) (w:World):Calls Tryz.prog 34 #[.int .i64 x,.int .i64 y] w fun e w'=>e= .returned (.int .i64 (R9 x y))∧w=w':=by
 rcases(by omega:x<y∨(¬x<y∧y<x)∨(¬x<y∧¬y<x))with h|⟨h,h'⟩|⟨h,h'⟩
 ·have hc:=A3 (show R9 x y= -1 from by unfold R9;rw[if_pos h])
  go_enter Tryz.func34,Tryz.ntmps34;go_wp2_with(go_at_call 81;refine(tS _ _).mono ?_;rintro _ _ ⟨rfl,rfl⟩);go_ret;exact⟨D5 hc.out.symm,rfl⟩
 ·have hc:=A3 (show R9 x y=1 from by unfold R9;rw[if_neg h,if_pos h'])
  have h2:y≤x:=by omega
  go_enter Tryz.func34,Tryz.ntmps34;go_wp2_with(go_at_call 81;refine(tS _ _).mono ?_;rintro _ _ ⟨rfl,rfl⟩);go_ret;exact⟨D5 hc.out.symm,rfl⟩
 ·have hc:=A3 (show R9 x y=0 from by unfold R9;rw[if_neg h,if_neg h'])
  have h2:y≤x:=by omega
  have h3:x≤y:=by omega
  go_enter Tryz.func34,Tryz.ntmps34;go_wp2_with(go_at_call 81;refine(tS _ _).mono ?_;rintro _ _ ⟨rfl,rfl⟩);go_ret;exact⟨D5 hc.out.symm,rfl⟩
end
section
open Go.Shelf Go.RowKit Go.Lib Go.Sort
def Tryz.sortInt_ren:Go.Shelf.Ren:=⟨fun|6=>151|15=>101|14=>206|28=>149|29=>150|20=>212|21=>227|22=>228|23=>229|24=>230|25=>231|26=>232|27=>233|46=>240|47=>202|48=>203|49=>241|50=>242|57=>245|n=>n,fun|22=>22|24=>3|25=>107|3=>3|39=>202|0=>0|53=>253|55=>255|4=>4|46=>247|45=>246|50=>230|5=>5|9=>9|66=>300|70=>304|76=>319|77=>206|n=>n,fun|n=>n⟩
theorem Tryz.sortInt:Go.Proofs.SlLaysF.n6 Tryz.prog Tryz.sortInt_ren:={mixed:=by kernel_rfl,f6:=⟨Tryz.f151.name,by decide,Tryz.func151.trans (congrArg some (by kernel_rfl))⟩,f14:=⟨Tryz.f206.name,by decide,Tryz.func206.trans (congrArg some (by kernel_rfl))⟩,f15:=Tryz.func101.trans (congrArg some (by kernel_rfl)),f20:=⟨Tryz.f212.name,by decide,Tryz.func212.trans (congrArg some (by kernel_rfl))⟩,f21:=⟨Tryz.f227.name,by decide,Tryz.func227.trans (congrArg some (by kernel_rfl))⟩,f22:=⟨Tryz.f228.name,by decide,Tryz.func228.trans (congrArg some (by kernel_rfl))⟩,f23:=⟨Tryz.f229.name,by decide,Tryz.func229.trans (congrArg some (by kernel_rfl))⟩,f24:=⟨Tryz.f230.name,by decide,Tryz.func230.trans (congrArg some (by kernel_rfl))⟩,f25:=⟨Tryz.f231.name,by decide,Tryz.func231.trans (congrArg some (by kernel_rfl))⟩,f26:=⟨Tryz.f232.name,by decide,Tryz.func232.trans (congrArg some (by kernel_rfl))⟩,f27:=⟨Tryz.f233.name,by decide,Tryz.func233.trans (congrArg some (by kernel_rfl))⟩,f28:=Tryz.func149.trans (congrArg some (by kernel_rfl)),f29:=Tryz.func150.trans (congrArg some (by kernel_rfl)),f46:=⟨Tryz.f240.name,by decide,Tryz.func240.trans (congrArg some (by kernel_rfl))⟩,f47:=Tryz.func202.trans (congrArg some (by kernel_rfl)),f48:=Tryz.func203.trans (congrArg some (by kernel_rfl)),f49:=⟨Tryz.f241.name,by decide,Tryz.func241.trans (congrArg some (by kernel_rfl))⟩,f50:=⟨Tryz.f242.name,by decide,Tryz.func242.trans (congrArg some (by kernel_rfl))⟩,f57:=⟨Tryz.f245.name,by decide,Tryz.func245.trans (congrArg some (by kernel_rfl))⟩,t0:=Tryz.underlying0,a0:=Tryz.isAgg0,z0:=Tryz.sizeOf0,v0:=Tryz.zeroValue0,t3:=Tryz.underlying3,a3:=Tryz.isAgg3,z3:=Tryz.sizeOf3,v3:=Tryz.zeroValue3,t4:=Tryz.underlying4,a4:=Tryz.isAgg4,z4:=Tryz.sizeOf4,v4:=Tryz.zeroValue4,t5:=Tryz.underlying5,a5:=Tryz.isAgg5,z5:=Tryz.sizeOf5,v5:=Tryz.zeroValue5,t9:=Tryz.underlying9,a9:=Tryz.isAgg9,z9:=Tryz.sizeOf9,v9:=Tryz.zeroValue9,t22:=Tryz.underlying22,a22:=Tryz.isAgg22,z22:=Tryz.sizeOf22,v22:=Tryz.zeroValue22,a24:=Tryz.isAgg3,z24:=Tryz.sizeOf3,t25:=Tryz.underlying107,a25:=Tryz.isAgg107,z25:=Tryz.sizeOf107,v25:=Tryz.zeroValue107,t39:=Tryz.underlying202,a39:=Tryz.isAgg202,z39:=Tryz.sizeOf202,v39:=Tryz.zeroValue202,t45:=Tryz.underlying246,a45:=Tryz.isAgg246,z45:=Tryz.sizeOf246,v45:=Tryz.zeroValue246,t46:=Tryz.underlying247,a46:=Tryz.isAgg247,z46:=Tryz.sizeOf247,v46:=Tryz.zeroValue247,t50:=Tryz.underlying230,a50:=Tryz.isAgg230,z50:=Tryz.sizeOf230,v50:=Tryz.zeroValue230,t53:=Tryz.underlying253,a53:=Tryz.isAgg253,z53:=Tryz.sizeOf253,v53:=Tryz.zeroValue253,t55:=Tryz.underlying255,a55:=Tryz.isAgg255,z55:=Tryz.sizeOf255,v55:=Tryz.zeroValue255,t66:=Tryz.underlying300,a66:=Tryz.isAgg300,z66:=Tryz.sizeOf300,v66:=Tryz.zeroValue300,t70:=Tryz.underlying304,a70:=Tryz.isAgg304,z70:=Tryz.sizeOf304,v70:=Tryz.zeroValue304,t76:=Tryz.underlying319,a76:=Tryz.isAgg319,z76:=Tryz.sizeOf319,v76:=Tryz.zeroValue319,t77:=Tryz.underlying206,a77:=Tryz.isAgg206,z77:=Tryz.sizeOf206,v77:=Tryz.zeroValue206}
def Tryz.idxPass_ren:Go.Shelf.Ren:=⟨fun|6=>153|n=>n,fun|22=>51|23=>209|25=>260|3=>3|0=>0|4=>4|n=>n,fun|n=>n⟩
theorem Tryz.idxPass:Go.Proofs.SlLaysH0.n6 Tryz.prog Tryz.idxPass_ren:={mixed:=by kernel_rfl,f6:=⟨Tryz.f153.name,by decide,Tryz.func153.trans (congrArg some (by kernel_rfl))⟩,t0:=Tryz.underlying0,a0:=Tryz.isAgg0,z0:=Tryz.sizeOf0,v0:=Tryz.zeroValue0,t3:=Tryz.underlying3,a3:=Tryz.isAgg3,z3:=Tryz.sizeOf3,v3:=Tryz.zeroValue3,t4:=Tryz.underlying4,a4:=Tryz.isAgg4,z4:=Tryz.sizeOf4,v4:=Tryz.zeroValue4,t22:=Tryz.underlying51,a22:=Tryz.isAgg51,z22:=Tryz.sizeOf51,v22:=Tryz.zeroValue51,t25:=Tryz.underlying260,a25:=Tryz.isAgg260,z25:=Tryz.sizeOf260,v25:=Tryz.zeroValue260}
end
section
open Go.RowKit Go.ChangeMaps Go.Sort
def dY (a b:A9):Int:=if bef a b then -1 else if bef b a then 1 else 0
def dD (l:List Int):Int:=(l.find? fun x=>x != 0).getD 0
theorem AH3 {l:List Int} {k:Nat} {x:Int} (hx:l[k]? =some x) (h0:x≠0) (hn:∀j,j<k→B0 l j=0):dD l=x:=by
 unfold dD;have:l.find? (fun x=>x != 0)=some x:=by
  rw[List.find?_eq_some_iff_getElem];refine⟨by simpa using h0,k,(A5 hx).1,(A5 hx).2,fun j hj=>?_⟩;have hlt:j<l.length:=by have:=(A5 hx).1;omega
  have:=hn j hj;unfold B0 at this;rw[A6,A4 hlt]at this;have h2:l[j]=0:=this;simp[h2]
 rw[this];rfl
theorem AH4 {l:List Int} (hn:∀j,j<l.length→B0 l j=0):dD l=0:=by
 unfold dD;have:l.find? (fun x=>x != 0)=none:=by
  rw[List.find?_eq_none];intro x hx;obtain⟨j,hj⟩:=List.mem_iff_getElem?.1 hx;have:=hn j (A5 hj).1;unfold B0 at this;rw[A6,hj]at this;have h2:x=0:=this;simp[h2]
 rw[this];rfl
theorem Ab8 (w:World) (a:Option Addr) (l:List Int) (c:Nat) (h:S9 w a l) (hl:l.length≤9223372036854775807):
 Calls Tryz.prog 52 #[.slice a l.length c] w fun e w'=>e= .returned (.int .i64 (dD l))∧w=w':=by
 have H:=A3 h;clear h;go_enter Tryz.func52,Tryz.ntmps52;go_wp2_with fail;go_loop [8] (fun i=>∃k:Nat,k≤l.length∧i= .int .i64 k∧∀j,j<k→B0 l j=0) (fun i=>l.length-(intOf i).toNat)
 case atStart=>exact⟨0,by omega,rfl,fun j hj=>by omega⟩
 case round=>
  obtain⟨k,hk,rfl,hok⟩:=hrel;have Hok:=A3 hok;clear hok;by_cases hlt:k<l.length
  ·obtain⟨b,off,rfl,hb,hc⟩:=H.out k hlt
   change w.cell? ⟨b,off+k,none⟩=some (.int .i64 (B0 l k))at hc;have hk0:(0:Int)≤(k:Int):=by omega
   have hkl:(k:Int)<(l.length:Int):=by omega
   have hx:l[k]? =some (B0 l k):=by unfold B0;rw[A6,A4 hlt];rfl
   have Hx:=A3 hx;clear hb hx;by_cases h0:B0 l k=0
   ·have Hn:=A3 (show∀j,j<k+1→B0 l j=0 from fun j hj=>by
     by_cases hjk:j<k
     ·exact Hok.out j hjk
     ·obtain rfl:j=k:=by omega
      exact h0)
    rw[h0]at hc;clear h0;go_wp2_with fail;go_round
    case rel=>exact⟨k+1,by omega,by go_num,Hn.out⟩
    case measure=>simp[intOf]<;>omega
   ·have Hr:=A3 (AH3 Hx.out h0 Hok.out)
    have hne:(B0 l k != 0)=true:=by simpa using h0
    clear h0;generalize B0 l k=v at *;go_wp2_with fail;go_ret;exact⟨D5 Hr.out.symm,rfl⟩
  ·obtain rfl:k=l.length:=by omega
   have Hr:=A3 (AH4 Hok.out);go_wp2_with fail;go_ret;exact⟨D5 Hr.out.symm,rfl⟩
theorem Ab9 (w:World) (x y z:Int) (T:TypeId):
 Calls Tryz.prog 52 #[.slice (some ⟨w.heap.size,0,none⟩) 3 3] (w.alloc (.cells #[.int .i64 x,.int .i64 y,.int .i64 z] T)) fun e w'=>e= .returned (.int .i64 (dD [x,y,z]))∧w.alloc (.cells #[.int .i64 x,.int .i64 y,.int .i64 z] T)=w':=by
 refine Ab8 _ _ [x,y,z] 3 ?_ (by simp);intro i hi;refine⟨w.heap.size,0,rfl,by simp,?_⟩;have:=Z6 w [Value.int .i64 x,Value.int .i64 y,Value.int .i64 z] T i (.int .i64 (B0 [x,y,z] i)) (by
  match i,hi with
  |0,_ =>rfl
  |1,_ =>rfl
  |2,_ =>rfl)
 rw[Addr.add_lit]at this;exact this
theorem oZ (w:World) (x y z:Int) (T:TypeId):
 Calls Tryz.prog 52 #[.slice (some ⟨w.heap.size,0,none⟩) 3 3] (w.alloc (.cells #[.int .i64 x,.int .i64 y,.int .i64 z] T)).drew fun e w'=>e= .returned (.int .i64 (dD [x,y,z]))∧(w.alloc (.cells #[.int .i64 x,.int .i64 y,.int .i64 z] T)).drew=w':=by
 refine Ab8 _ _ [x,y,z] 3 ?_ (by simp);intro i hi;refine⟨w.heap.size,0,rfl,by simp[World.drew],?_⟩;have:=Z6 w [Value.int .i64 x,Value.int .i64 y,Value.int .i64 z] T i (.int .i64 (B0 [x,y,z] i)) (by
  match i,hi with
  |0,_ =>rfl
  |1,_ =>rfl
  |2,_ =>rfl)
 rw[Addr.add_lit]at this;exact this
theorem tT (u v:A9):dD [R9 u.s0 v.s0,R9 u.e0 v.e0,R9 u.id v.id]=dY u v:=by
 unfold dY;have h1:=kH u v;have h2:=kH v u;unfold dD R9
 cases hb:bef u v
 ·have n1:¬bef u v=true:=by rw[hb];simp
  rw[h1]at n1
  cases hb2:bef v u
  ·have n2:¬bef v u=true:=by rw[hb2];simp
   rw[h2]at n2;have e1:u.s0=v.s0:=by omega
   have e2:u.e0=v.e0:=by omega
   have e3:u.id=v.id:=by omega
   simp[e1,e2,e3]
  ·rw[h2]at hb2
   rcases hb2 with h|⟨h,h'|⟨h',h''⟩⟩
   ·simp[show¬u.s0<v.s0 by omega,h]
   ·simp[h,h',show¬u.e0<v.e0 by omega]
   ·simp[h,h',h'',show¬u.id<v.id by omega]
 ·rw[h1]at hb
  rcases hb with h|⟨h,h'|⟨h',h''⟩⟩
  ·simp[h]
  ·simp[h,h']
  ·simp[h,h',h'']
theorem Ac0 (W:World) (U V:List Value) (T:TypeId):Gr W (((W.alloc (.cells U.toArray T)).alloc (.cells V.toArray T)).drew)∧
 (∀j c,U[j]? =some c→(((W.alloc (.cells U.toArray T)).alloc (.cells V.toArray T)).drew).cell? ⟨W.heap.size,j,none⟩=some c)∧
 (∀j c,V[j]? =some c→(((W.alloc (.cells U.toArray T)).alloc (.cells V.toArray T)).drew).cell? ⟨W.heap.size+1,j,none⟩=some c):=by
 refine⟨Gr.drew' (Gr.alloc' (Gr.alloc W _) _),fun j c hc=>?_,fun j c hc=>?_⟩
 ·have h:=Z6 W U T j c hc
  rw[Addr.add_lit,Nat.zero_add]at h;exact Gr.cell h (Gr.drew' (Gr.alloc _ _))
 ·have h:=Z6 (W.alloc (.cells U.toArray T)) V T j c hc
  rw[Addr.add_lit,Nat.zero_add]at h;have hs:(W.alloc (.cells U.toArray T)).heap.size=W.heap.size+1:=by simp
  rw[hs]at h;exact Gr.cell h (Gr.drew' (Gr.refl _))
theorem AH5 (W:World) (bx:Nat) (a:Option Addr) (c:Nat) (R:List A9) (i k:Nat) (u v:A9) (hb:W.cell? ⟨bx,0,none⟩=some (.slice a R.length c)) (hR:D0 A9.cs 13 W a R) (hi:R[i]? =some u) (hk:R[k]? =some v) (_hRl:R.length≤9223372036854775807):
 Calls Tryz.prog 152 #[.int .i64 i,.int .i64 k,.pointer (some ⟨bx,0,none⟩)] W fun e w'=>e= .returned (.int .i64 (dY u v))∧Gr W w':=by
 obtain⟨b1,off1,rfl,h1⟩:=D0.ride hR hi;obtain⟨b2,off2,hbo,h2⟩:=D0.ride hR hk;obtain⟨rfl,rfl⟩:b1=b2∧off1=off2:=by simpa using hbo
 have hi0:(0:Int)≤(i:Int):=by omega
 have hk0:(0:Int)≤(k:Int):=by omega
 have hil:(i:Int)<(R.length:Int):=by have:=(A5 hi).1;omega
 have hkl:(k:Int)<(R.length:Int):=by have:=(A5 hk).1;omega
 have kb:∀w',Gr W w'→w'.cell? ⟨bx,0,none⟩=some (.slice (some ⟨b1,off1,none⟩) R.length c):=fun _ h=>Gr.cell hb h;have ka0:=fun w' (h:Gr W w')=>Gr.cell (h1.c0 (A7.self W)) h;have ka1:=fun w' (h:Gr W w')=>Gr.cell (h1.c1 (A7.self W)) h;have ka2:=fun w' (h:Gr W w')=>Gr.cell (h1.c2 (A7.self W)) h;have ka3:=fun w' (h:Gr W w')=>Gr.cell (h1.c3 (A7.self W)) h;have ka4:=fun w' (h:Gr W w')=>Gr.cell (h1.c4 (A7.self W)) h;have ka5:=fun w' (h:Gr W w')=>Gr.cell (h1.c5 (A7.self W)) h;have ka6:=fun w' (h:Gr W w')=>Gr.cell (h1.c6 (A7.self W)) h;have ka7:=fun w' (h:Gr W w')=>Gr.cell (h1.c7 (A7.self W)) h;have ka8:=fun w' (h:Gr W w')=>Gr.cell (h1.c8 (A7.self W)) h;have ka9:=fun w' (h:Gr W w')=>Gr.cell (h1.c9 (A7.self W)) h;have ka10:=fun w' (h:Gr W w')=>Gr.cell (h1.c10 (A7.self W)) h;have ka11:=fun w' (h:Gr W w')=>Gr.cell (h1.c11 (A7.self W)) h;have ka12:=fun w' (h:Gr W w')=>Gr.cell (h1.c12 (A7.self W)) h;have kc0:=fun w' (h:Gr W w')=>Gr.cell (h2.c0 (A7.self W)) h;have kc1:=fun w' (h:Gr W w')=>Gr.cell (h2.c1 (A7.self W)) h;have kc2:=fun w' (h:Gr W w')=>Gr.cell (h2.c2 (A7.self W)) h;have kc3:=fun w' (h:Gr W w')=>Gr.cell (h2.c3 (A7.self W)) h;have kc4:=fun w' (h:Gr W w')=>Gr.cell (h2.c4 (A7.self W)) h;have kc5:=fun w' (h:Gr W w')=>Gr.cell (h2.c5 (A7.self W)) h;have kc6:=fun w' (h:Gr W w')=>Gr.cell (h2.c6 (A7.self W)) h;have kc7:=fun w' (h:Gr W w')=>Gr.cell (h2.c7 (A7.self W)) h;have kc8:=fun w' (h:Gr W w')=>Gr.cell (h2.c8 (A7.self W)) h;have kc9:=fun w' (h:Gr W w')=>Gr.cell (h2.c9 (A7.self W)) h;have kc10:=fun w' (h:Gr W w')=>Gr.cell (h2.c10 (A7.self W)) h;have kc11:=fun w' (h:Gr W w')=>Gr.cell (h2.c11 (A7.self W)) h;have kc12:=fun w' (h:Gr W w')=>Gr.cell (h2.c12 (A7.self W)) h;clear hbo h1 h2 hi hk hR hb;go_enter Tryz.func152,Tryz.ntmps152;go_upto_region 1 with fail;go_region_held3 (fun w'=>Gr W w') (first|assumption|exact Gr.drew' (Gr.refl _)|exact Gr.alloc' (Gr.drew' (Gr.refl _)) _|exact Gr.alloc' (Gr.alloc' (Gr.drew' (Gr.refl _)) _) _) (fail);all_goals go_upto_region 2 with fail
 ·obtain⟨hG,hu,hv⟩:=Ac0 W [.int .i64 u.id,.int .i64 u.rd,.int .i64 u.s0,.int .i64 u.s1,.int .i64 u.e0,.int .i64 u.e1,.bool u.op,.slice u.la u.legs.length u.lc,.slice u.pa u.pauses.length u.pc,.int .i64 u.fw,.int .i64 u.fp,.int .i64 u.wh,.int .i64 u.pl] [.int .i64 v.id,.int .i64 v.rd,.int .i64 v.s0,.int .i64 v.s1,.int .i64 v.e0,.int .i64 v.e1,.bool v.op,.slice v.la v.legs.length v.lc,.slice v.pa v.pauses.length v.pc,.int .i64 v.fw,.int .i64 v.fp,.int .i64 v.wh,.int .i64 v.pl] 40
  have a0:=hu 0 _ rfl;have a2:=hu 2 _ rfl;have a4:=hu 4 _ rfl;have c0:=hv 0 _ rfl;have c2:=hv 2 _ rfl;have c4:=hv 4 _ rfl;clear hu hv kb;clear ka0 ka1 ka2 ka3 ka4 ka5 ka6 ka7 ka8 ka9 ka10 ka11 ka12 kc0 kc1 kc2 kc3 kc4 kc5 kc6 kc7 kc8 kc9 kc10 kc11 kc12;generalize(World.drew (World.alloc (World.alloc W _) _))=X at *;generalize W.heap.size+1=g2 at *;generalize W.heap.size=g1 at *;have HG:=A3 hG;have Hor:=A3 (tT u v);have k1:∀w',Gr X w'→w'.cell? ⟨g1,0,none⟩=some (.int .i64 u.id):=fun _ h=>Gr.cell a0 h;have k2:∀w',Gr X w'→w'.cell? ⟨g1,2,none⟩=some (.int .i64 u.s0):=fun _ h=>Gr.cell a2 h;have k3:∀w',Gr X w'→w'.cell? ⟨g1,4,none⟩=some (.int .i64 u.e0):=fun _ h=>Gr.cell a4 h;have k4:∀w',Gr X w'→w'.cell? ⟨g2,0,none⟩=some (.int .i64 v.id):=fun _ h=>Gr.cell c0 h;have k5:∀w',Gr X w'→w'.cell? ⟨g2,2,none⟩=some (.int .i64 v.s0):=fun _ h=>Gr.cell c2 h;have k6:∀w',Gr X w'→w'.cell? ⟨g2,4,none⟩=some (.int .i64 v.e0):=fun _ h=>Gr.cell c4 h;clear hG a0 a2 a4 c0 c2 c4;go_region_held3 (fun w'=>Gr X w') (first|assumption|exact Gr.drew' (Gr.refl _)|exact Gr.alloc' (by assumption) _|exact Gr.alloc' (Gr.drew' (Gr.refl _)) _) (first|(go_at_call 34;((with_reducible refine(fT _ _ _).mono ?_);rintro _ _ ⟨rfl,rfl⟩))|(go_at_call 52;((with_reducible refine(oZ _ _ _ _ _).mono ?_);rintro _ _ ⟨rfl,rfl⟩)));go_wp2_with fail;go_ret;exact⟨D5 Hor.out,HG.out.trans (by first|assumption|exact Gr.alloc' (Gr.drew' (Gr.refl _)) _|exact Gr.drew' (Gr.alloc' (Gr.refl _) _))⟩
 ·obtain⟨hG,hv,hu⟩:=Ac0 W [.int .i64 v.id,.int .i64 v.rd,.int .i64 v.s0,.int .i64 v.s1,.int .i64 v.e0,.int .i64 v.e1,.bool v.op,.slice v.la v.legs.length v.lc,.slice v.pa v.pauses.length v.pc,.int .i64 v.fw,.int .i64 v.fp,.int .i64 v.wh,.int .i64 v.pl] [.int .i64 u.id,.int .i64 u.rd,.int .i64 u.s0,.int .i64 u.s1,.int .i64 u.e0,.int .i64 u.e1,.bool u.op,.slice u.la u.legs.length u.lc,.slice u.pa u.pauses.length u.pc,.int .i64 u.fw,.int .i64 u.fp,.int .i64 u.wh,.int .i64 u.pl] 40
  have a0:=hu 0 _ rfl;have a2:=hu 2 _ rfl;have a4:=hu 4 _ rfl;have c0:=hv 0 _ rfl;have c2:=hv 2 _ rfl;have c4:=hv 4 _ rfl;clear hu hv kb;clear ka0 ka1 ka2 ka3 ka4 ka5 ka6 ka7 ka8 ka9 ka10 ka11 ka12 kc0 kc1 kc2 kc3 kc4 kc5 kc6 kc7 kc8 kc9 kc10 kc11 kc12;generalize(World.drew (World.alloc (World.alloc W _) _))=X at *;generalize W.heap.size+1=g2 at *;generalize W.heap.size=g1 at *;have HG:=A3 hG;have Hor:=A3 (tT u v);have k1:∀w',Gr X w'→w'.cell? ⟨g1,0,none⟩=some (.int .i64 v.id):=fun _ h=>Gr.cell c0 h;have k2:∀w',Gr X w'→w'.cell? ⟨g1,2,none⟩=some (.int .i64 v.s0):=fun _ h=>Gr.cell c2 h;have k3:∀w',Gr X w'→w'.cell? ⟨g1,4,none⟩=some (.int .i64 v.e0):=fun _ h=>Gr.cell c4 h;have k4:∀w',Gr X w'→w'.cell? ⟨g2,0,none⟩=some (.int .i64 u.id):=fun _ h=>Gr.cell a0 h;have k5:∀w',Gr X w'→w'.cell? ⟨g2,2,none⟩=some (.int .i64 u.s0):=fun _ h=>Gr.cell a2 h;have k6:∀w',Gr X w'→w'.cell? ⟨g2,4,none⟩=some (.int .i64 u.e0):=fun _ h=>Gr.cell a4 h;clear hG a0 a2 a4 c0 c2 c4;go_region_held3 (fun w'=>Gr X w') (first|assumption|exact Gr.drew' (Gr.refl _)|exact Gr.alloc' (by assumption) _|exact Gr.alloc' (Gr.drew' (Gr.refl _)) _) (first|(go_at_call 34;((with_reducible refine(fT _ _ _).mono ?_);rintro _ _ ⟨rfl,rfl⟩))|(go_at_call 52;((with_reducible refine(oZ _ _ _ _ _).mono ?_);rintro _ _ ⟨rfl,rfl⟩)));go_wp2_with fail;go_ret;exact⟨D5 Hor.out,HG.out.trans (by first|assumption|exact Gr.alloc' (Gr.drew' (Gr.refl _)) _|exact Gr.drew' (Gr.alloc' (Gr.refl _) _))⟩
end
section
open Go.RowKit Go.ChangeMaps Go.Sort Go.Shelf Go.Lib
structure T0 (w:World) (g:Nat) (n:Nat) (f:Nat→Int):Prop where
 lt:g<w.heap.size
 c:∀j,j<n→w.cell? ⟨g,j,none⟩=some (.int .i64 (f j))
 f:∀j,j<n→w.frozen? ⟨g,j,none⟩=false
structure dE (R:List A9) (o:List Nat):Prop where
 perm:o.Perm (List.range R.length)
 sorted:o.Pairwise fun i j=>bef (D3 R j) (D3 R i)=false
def Ac1 (w:World) (g:Nat) (R:List A9) (e:Ending) (w':World):Prop:=
 e= .returned (.tuple #[])∧w.grownBy w' (some g)∧∃o,dE R o∧T0 w' g R.length (fun j=>(o.getD j 0:Nat))
theorem AH6 (w:World) (g bx cap:Nat) (a:Option Addr) (c:Nat) (R:List A9) (hn:0<R.length) (hl:R.length<4611686018427387904) (hN:T0 w g R.length (fun j=>(j:Int))) (hb:w.cell? ⟨bx,0,none⟩=some (.slice a R.length c)) (hR:D0 A9.cs 13 w a R) (hgb:g≠bx) (hga:∀b,a=some b→b.block≠g) (hid:(R.map fun r:A9=>r.id).Nodup):
 Calls Tryz.prog 151 #[.slice (some ⟨g,0,none⟩) R.length cap,.func (.func 152) #[] #[.pointer (some ⟨bx,0,none⟩)]] w (Ac1 w g R):=by
 have hinst:Inhabited (Fin R.length):=⟨⟨0,hn⟩⟩
 let enc:Fin R.length→Value:=fun i=>.int .i64 (i.val:Int)
 let cf:Fin R.length→Fin R.length→Int:=fun i k=>dY (D3 R i.val) (D3 R k.val)
 have hlt:ltOf cf=fun i k=>bef (D3 R i.val) (D3 R k.val):=by
  funext i k;show decide (dY _ _<0)= _;unfold dY
  cases h:bef (D3 R i.val) (D3 R k.val)
  ·cases h2:bef (D3 R k.val) (D3 R i.val)<;>simp
  ·simp
 have hO:SWO (ltOf cf):=by
  rw[hlt];exact⟨fun x=>mE _,fun x y z h1 h2=>tI h1 h2,fun x y z h1 h2=>tK h1 h2⟩
 have hT:∀x y,(ltOf cf) x y=false→(ltOf cf) y x=false→x=y:=fun x y h1 h2=>by
  rw[hlt]at h1 h2;have h3:=tJ h1 h2;have e1:(R.map fun r:A9=>r.id)[x.val]? =some (D3 R x.val).id:=iZ (f:=fun r:A9=>r.id) (by unfold D3;rw[A6,A4 x.isLt];rfl);have e2:(R.map fun r:A9=>r.id)[y.val]? =some (D3 R y.val).id:=iZ (f:=fun r:A9=>r.id) (by unfold D3;rw[A6,A4 y.isLt];rfl);rw[←h3]at e2;have h4:=A5 e1;have h5:=A5 e2;exact Fin.ext ((List.getElem_inj hid).1 (h4.2.trans h5.2.symm))
 have eg:∀args w,(callFunc 152 args).run Tryz.prog w= .ok (.enter 152 args) w:=enters_of Tryz.func152 (by kernel_rfl) rfl;have hbl:bx<w.heap.size:=World.block_lt_of_cell? w _ hb;have hcmp:CmpLays1 Tryz.prog 152 #[.pointer (some ⟨bx,0,none⟩)] enc cf g 0 R.length w:=fun m os dk _ x y=>by
  have hg:=tR enc w g m dk os;have hb':(sortWorld enc w g 0 m dk os).cell? ⟨bx,0,none⟩=some (.slice a R.length c):=by
   rw[World.cell?_of_block (w:=w) (a:=⟨bx,0,none⟩) (hg.block bx hbl (by simpa using Ne.symm hgb))];exact hb
  have hR':D0 A9.cs 13 (sortWorld enc w g 0 m dk os) a R:=hR.keep hg.size fun b off ha hlt=>hg.block b hlt (by have:=hga _ ha;simpa using this);exact AH5 _ bx a c R x.val y.val (D3 R x.val) (D3 R y.val) hb' hR' (by unfold D3;rw[A6,A4 x.isLt];rfl) (by unfold D3;rw[A6,A4 y.isLt];rfl) (by omega)
 let d:Array (Fin R.length):=(List.finRange R.length).toArray
 have hd:d.size=R.length:=by simp[d]
 have hH:Holds enc w g 0 d:=fun j hj=>by
  rw[hd]at hj;have e1:d[j]! =⟨j,hj⟩:=by
   rw[getElem!_pos d j (by rw[hd];exact hj)];simp[d]
  rw[e1,Nat.zero_add];exact⟨hN.c j hj,hN.f j hj⟩
 have hc:=Any.slices_SortFunc_total Tryz.sortInt enc (fun _ =>rfl) cf hO 152 #[.pointer (some ⟨bx,0,none⟩)] g 0 cap d w eg (by rw[hd];exact hcmp) hH hN.lt (by rw[hd];exact hl) hT;rw[hd]at hc;change Calls Tryz.prog 151 _ _ _ at hc;refine hc.mono ?_;rintro _ _ ⟨rfl,n,os,rfl⟩;have hs:((d.toList.mergeSort fun x y=>!ltOf cf y x).toArray).size=d.size:=by simp
 have hh:=holds_sortWorld enc w g 0 n d (d.toList.mergeSort fun x y=>!ltOf cf y x).toArray os hN.lt hH hs;have hpm:(d.toList.mergeSort fun x y=>!ltOf cf y x).Perm (List.finRange R.length):=by
  have:=List.mergeSort_perm d.toList fun x y=>!ltOf cf y x;simpa[d]using this
 have hpw:(d.toList.mergeSort fun x y=>!ltOf cf y x).Pairwise fun x y=>bef (D3 R y.val) (D3 R x.val)=false:=by
  have:=List.pairwise_mergeSort (le:=fun x y=>!ltOf cf y x) (fun a b c h1 h2=>by
   simp only[Bool.not_eq_true']at h1 h2⊢;exact hO.ntrans _ _ _ h2 h1) (fun a b=>by
   simp only[Bool.or_eq_true,Bool.not_eq_true']
   cases e:ltOf cf b a
   ·exact .inl rfl
   ·refine .inr ?_
    cases e2:ltOf cf a b
    ·rfl
    ·have:=hO.trans _ _ _ e e2;rw[hO.irrefl]at this;cases this) d.toList
  exact this.imp fun h=>by rw[hlt]at h;simpa using h
 refine⟨rfl,tR _ _ _ _ _ _,(d.toList.mergeSort fun x y=>!ltOf cf y x).map (·.val),⟨?_,?_⟩,?_⟩
 ·have:=hpm.map (·.val)
  rwa[show(List.finRange R.length).map (·.val)=List.range R.length from by
   apply List.ext_getElem (by simp);intro i h1 h2;simp]at this
 ·rw[List.pairwise_map];exact hpw
 ·refine⟨Nat.lt_of_lt_of_le hN.lt (tR _ _ _ _ _ _).size,fun j hj=>?_,fun j hj=>?_⟩
  ·have:=(hh j (by rw[hs,hd];exact hj)).1
   rw[Nat.zero_add]at this;rw[this];have hjl:j<(d.toList.mergeSort fun x y=>!ltOf cf y x).length:=by rw[hpm.length_eq];simpa using hj
   rw[getElem!_pos _ j (by rw[hs,hd];exact hj)];show some (Value.int .i64 _)=some (Value.int .i64 _);rw[A6,List.getElem?_map,A4 hjl];simp
  ·have:=(hh j (by rw[hs,hd];exact hj)).2
   rw[Nat.zero_add]at this;exact this
end
section
open Go.RowKit
def pd (R:List A9) (u:Nat→Int) (l:List Nat) (k d:Int):Nat:=(l.filter fun j=>decide (u j=k) && decide (J2 (D3 R j)=d)).length
def bT (u:Nat→Int) (i:Nat) (x:Int):Nat→Int:=fun j=>if j=i then x else u j
theorem mF (u:Nat→Int) (i:Nat) (x:Int):bT u i x i=x:=by unfold bT;rw[if_pos rfl]
theorem kI (u:Nat→Int) (i:Nat) (x:Int) {j:Nat} (h:j≠i):bT u i x j=u j:=by unfold bT;rw[if_neg h]
def pA (lp:List J1) (R:List A9) (o:List Nat) (u:Nat→Int) (m:Nat):Prop:=∀i∈o.take m,u i=r9 lp (D3 R i) (bR R u (D3 R i))
section
variable {R:List A9} {o:List Nat} (hO:dE R o)
include hO
theorem dE.nodup:o.Nodup:=hO.perm.symm.nodup List.nodup_range
theorem dE.len:o.length=R.length:=by simpa using hO.perm.length_eq
theorem dE.lt {i:Nat} (h:i∈o):i<R.length:=List.mem_range.1 (hO.perm.mem_iff.1 h)
theorem dE.split {m i:Nat} (h:o[m]? =some i):o=o.take m ++ i :: o.drop (m+1):=by
 have _:=hO.perm;have hlt:=(A5 h).1;have he:=(A5 h).2;rw[←he,←List.drop_eq_getElem_cons hlt,List.take_append_drop]
theorem dE.take_next {m i:Nat} (h:o[m]? =some i):o.take (m+1)=o.take m ++ [i]:=by
 have _:=hO.perm;rw[List.take_succ_eq_append_getElem (A5 h).1,(A5 h).2]
theorem dE.notin {m i:Nat} (h:o[m]? =some i):i∉o.take m:=by
 have hn:=hO.nodup;rw[hO.split h,List.nodup_append]at hn;exact fun hm=>hn.2.2 i hm i (by simp) rfl
theorem dE.not_before {m i j:Nat} (h:o[m]? =some i) (hj:j∈o.take m):bef (D3 R i) (D3 R j)=false:=by
 have hs:=hO.sorted;rw[hO.split h,List.pairwise_append]at hs;exact hs.2.2 j hj i (by simp)
theorem dE.not_after {m i j:Nat} (h:o[m]? =some i) (hj:j∈o.drop (m+1)):bef (D3 R j) (D3 R i)=false:=by
 have hs:=hO.sorted;rw[hO.split h,List.pairwise_append,List.pairwise_cons]at hs;exact hs.2.1.1 j hj
theorem dE.before (hid:(R.map fun r:A9=>r.id).Nodup) {m i j:Nat} (h:o[m]? =some i) (hj:j∈o.take m):bef (D3 R j) (D3 R i)=true:=by
 cases hb:bef (D3 R j) (D3 R i)
 ·have h3:=tJ hb (hO.not_before h hj)
  have hi:i<R.length:=hO.lt (A0 h);have hjl:j<R.length:=hO.lt (List.mem_of_mem_take hj);have e1:(R.map fun r:A9=>r.id)[j]? =some (D3 R j).id:=iZ (f:=fun r:A9=>r.id) (by unfold D3;rw[A6,A4 hjl];rfl);have e2:(R.map fun r:A9=>r.id)[i]? =some (D3 R i).id:=iZ (f:=fun r:A9=>r.id) (by unfold D3;rw[A6,A4 hi];rfl);rw[←h3]at e2;have h4:=A5 e1;have h5:=A5 e2;have:j=i:=(List.getElem_inj hid).1 (h4.2.trans h5.2.symm);subst this;exact(hO.notin h hj).elim
 ·rfl
theorem Ac2 (hid:(R.map fun r:A9=>r.id).Nodup) {m i:Nat} (h:o[m]? =some i) (u:Nat→Int) (k:Int):bR R u (D3 R i) k=pd R u (o.take m) k (J2 (D3 R i)):=by
 unfold bR pd;have hp:=(hO.perm.filter fun j=>bef (D3 R j) (D3 R i) && decide (u j=k) && decide (J2 (D3 R j)=J2 (D3 R i))).length_eq;rw[←hp,hO.split h,List.filter_append,List.length_append];have h1:(o.take m).filter (fun j=>bef (D3 R j) (D3 R i) && decide (u j=k) && decide (J2 (D3 R j)=J2 (D3 R i)))=(o.take m).filter (fun j=>decide (u j=k) && decide (J2 (D3 R j)=J2 (D3 R i))):=by
  refine List.filter_congr fun j hj=>?_;rw[hO.before hid h hj,Bool.true_and]
 have h2:(i :: o.drop (m+1)).filter (fun j=>bef (D3 R j) (D3 R i) && decide (u j=k) && decide (J2 (D3 R j)=J2 (D3 R i)))=[]:=by
  rw[List.filter_eq_nil_iff];intro j hj;rcases List.mem_cons.1 hj with rfl|hj
  ·rw[mE];simp
  ·rw[hO.not_after h hj];simp
 rw[h1,h2,←hO.split h];simp
theorem tU {m i:Nat} (h:o[m]? =some i) (u:Nat→Int) (x k d:Int):pd R (bT u i x) (o.take (m+1)) k d=pd R u (o.take m) k d+if x=k∧J2 (D3 R i)=d then 1 else 0:=by
 unfold pd;rw[hO.take_next h,List.filter_append,List.length_append];congr 1
 ·congr 1
  refine List.filter_congr fun j hj=>?_;rw[kI u i x (fun e=>hO.notin h (e ▸ hj))]
 ·by_cases hx:x=k∧J2 (D3 R i)=d
  ·rw[if_pos hx];simp[mF,hx.1,hx.2]
  ·rw[if_neg hx]
   rw[List.filter_eq_nil_iff.2 (by
    intro j hj;simp at hj;subst hj;rw[mF];simpa using hx)]
   rfl
theorem tV {lp:List J1} {m i:Nat} {u:Nat→Int} {x:Int} (h:o[m]? =some i) (hd:pA lp R o u m) (hx:x=r9 lp (D3 R i) (bR R u (D3 R i))):pA lp R o (bT u i x) (m+1):=by
 intro j hj;rw[hO.take_next h,List.mem_append]at hj;rcases hj with hj|hj
 ·rw[kI u i x (fun e=>hO.notin h (e ▸ hj)),hd j hj]
  refine tL fun k _ =>tM (fun a ha hb=>?_) _;by_cases hai:a=i
  ·subst hai
   rw[hO.not_before h hj]at hb;cases hb
  ·rw[kI u i x hai]
 ·simp at hj;subst hj
  rw[mF,hx];refine tL fun k _ =>tM (fun a ha hb=>?_) _;by_cases hai:a=j
  ·subst hai
   rw[mE]at hb;cases hb
  ·rw[kI u j _ hai]
theorem AH7 {lp:List J1} {u:Nat→Int} (hd:pA lp R o u R.length):dX lp R u:=fun i hi=>
 hd i (by rw[List.take_of_length_le (by rw[hO.len];exact Nat.le_refl _)];exact hO.perm.mem_iff.2 (List.mem_range.2 hi))
end
end
section
open Go.RowKit Go.ChangeMaps Go.Sort Go.Shelf Go.Lib
structure bD (w:World) (g:Nat) (r:A9):Prop where
 lt:g<w.heap.size
 c:∀j v,r.cs[j]? =some v→w.cell? ⟨g,j,none⟩=some v
theorem bD.since {w:World} {g:Nat} {r:A9} (h:bD w g r) (y:A7 w):bD y.w g r:=
 ⟨Nat.lt_of_lt_of_le h.lt y.b.size,fun j v hv=>A7.cell (h.c j v hv) h.lt y⟩
theorem bD.cells {w:World} {g:Nat} {r:A9} (h:bD w g r):tB w g 0 r:=by
 have hh:∀j v,r.cs[j]? =some v→∀y:A7 w,y.w.cell? ⟨g,0+j,none⟩=some v:=fun j v hv y=>by rw[Nat.zero_add];exact A7.cell (h.c j v hv) h.lt y
 exact⟨hh 0 _ rfl,hh 1 _ rfl,hh 2 _ rfl,hh 3 _ rfl,hh 4 _ rfl,hh 5 _ rfl,hh 6 _ rfl,hh 7 _ rfl,hh 8 _ rfl,hh 9 _ rfl,hh 10 _ rfl,hh 11 _ rfl,hh 12 _ rfl⟩
theorem AH8 (w:World) (x:A7 w) (p:J1) (r:A9) (g:Nat) (h:bD w g r) (h0:0≤r.s0) (h1:r.s0≤4294943999):
 Calls Tryz.prog 154 #[.agg #[.int .i64 p.id,.int .i64 p.rd,.int .i64 p.f,.int .i64 p.t,.int .i64 p.n,.int .i64 p.s],.pointer (some ⟨g,0,none⟩)] x.w fun o w'=>o= .returned (.bool (vP p r))∧∃y:A7 w,w'=y.w:=by
 have hc:=h.cells;have Hv:=A3 (show vP p r=(decide (p.rd=r.rd) && fS p (J2 r))from rfl);go_enter Tryz.func154,Tryz.ntmps154;go_upto_region 1 with fail;obtain⟨W,bx,y0,hW,hbx,-,B8,Hup,Hbx,HB0⟩:=K7 x [.int .i64 p.id,.int .i64 p.rd,.int .i64 p.f,.int .i64 p.t,.int .i64 p.n,.int .i64 p.s] 209;rw[hW,hbx];clear hW hbx;obtain⟨D9,E7,F9,G0,G8,K4,hf0⟩:=Z8 HB0;clear HB0;have hcW:tB W g 0 r:=by
  have:=B8;obtain⟨z,hz⟩:=this;have hc2:∀j v,r.cs[j]? =some v→∀y:A7 W,y.w.cell? ⟨g,0+j,none⟩=some v:=fun j v hv y=>by
   subst hz;obtain⟨q,e⟩:=z.trans y;rw[Nat.zero_add,e];exact A7.cell (h.c j v hv) h.lt q
  exact⟨hc2 0 _ rfl,hc2 1 _ rfl,hc2 2 _ rfl,hc2 3 _ rfl,hc2 4 _ rfl,hc2 5 _ rfl,hc2 6 _ rfl,hc2 7 _ rfl,hc2 8 _ rfl,hc2 9 _ rfl,hc2 10 _ rfl,hc2 11 _ rfl,hc2 12 _ rfl⟩
 clear B8 hc h;have ra0:=hcW.c0;have ra1:=hcW.c1;have ra2:=hcW.c2;have ra3:=hcW.c3;have ra4:=hcW.c4;have ra5:=hcW.c5;have ra6:=hcW.c6;have ra7:=hcW.c7;have ra8:=hcW.c8;have ra9:=hcW.c9;have ra10:=hcW.c10;have ra11:=hcW.c11;have ra12:=hcW.c12;clear hcW;simp only[Nat.zero_add]at ra1 ra2 ra3 ra4 ra5 ra6 ra7 ra8 ra9 ra10 ra11 ra12;have Hd:=A3 (fun y:A7 W=>Ab3 W y r h0 h1);have Hvc:=A3 (fun y:A7 W=>Ab2 W y p (J2 r));generalize J2 r=d at *;by_cases he:p.rd=r.rd
 ·have heb:(p.rd == r.rd)=true:=by simpa using he
  rw[decide_eq_true he,Bool.true_and]at Hv;clear he h0 h1;generalize fS p d=vb at *;go_wp2_with fail;refine L5 (by kernel_rfl) (by kernel_rfl) ?_;repeat(go_big_quiet_step((first|(go_at_call 156;exact Hd.out _)|(go_at_call 155;exact Hvc.out _))))
  refine wpQuiet_nil ?_;rintro _ ⟨y1,rfl⟩;go_wp2_with fail;go_ret;exact⟨I1 Hv.out.symm,Hup.out _⟩
 ·have heb:(p.rd == r.rd)=false:=by simpa using he
  rw[decide_eq_false he,Bool.false_and]at Hv;clear he h0 h1;go_wp2_with fail;refine L5 (by kernel_rfl) (by kernel_rfl) ?_;repeat(go_big_quiet_step((first|(go_at_call 156;exact Hd.out _)|(go_at_call 155;exact Hvc.out _))))
  refine wpQuiet_nil ?_;rintro _ ⟨y1,rfl⟩;go_wp2_with fail;go_ret;exact⟨I1 Hv.out.symm,Hup.out _⟩
def gS (lp:List J1) (r:A9):Int:=Lib.idxBy (fun _ y=>vP y r) lp default
theorem AH9 (lp:List J1) (r:A9):(gS lp r= -1∧∀j,j<lp.length→vP (N4 lp j) r=false)∨∃k:Nat,k<lp.length∧gS lp r=k∧vP (N4 lp k) r=true∧∀j,j<k→vP (N4 lp j) r=false:=by
 have hb:∀j,j<lp.length→lp[j]! =N4 lp j:=fun j hj=>by
  rw[getElem!_pos lp j hj];unfold N4;rw[A6,A4 hj];rfl
 have hk:∀n,n≤lp.length→(∃k:Nat,k<n∧vP (N4 lp k) r=true∧∀j,j<k→vP (N4 lp j) r=false)∨∀j,j<n→vP (N4 lp j) r=false:=by
  intro n;induction n with
  |zero=>intro _;exact .inr fun j hj=>by omega
  |succ n ih=>
   intro hn
   rcases ih (by omega)with⟨k,h1,h2,h3⟩|h
   ·exact .inl ⟨k,by omega,h2,h3⟩
   ·cases hv:vP (N4 lp n) r
    ·exact .inr fun j hj=>by
      by_cases hjn:j<n
      ·exact h j hjn
      ·obtain rfl:j=n:=by omega
       exact hv
    ·exact .inl ⟨n,by omega,hv,h⟩
 rcases hk lp.length (Nat.le_refl _)with⟨k,h1,h2,h3⟩|h
 ·refine .inr ⟨k,h1,?_,h2,h3⟩
  have:=Lib.idxBy_hit (fun _ y=>vP y r) lp lp.length k default h1 (Nat.le_refl _) (by rw[hb k h1];exact h2) (fun j hj=>by rw[hb j (by omega)];exact h3 j hj);rwa[List.take_length]at this
 ·refine .inl ⟨?_,h⟩
  have:=Lib.idxBy_miss (fun _ y=>vP y r) lp lp.length default (fun j hj=>by rw[hb j hj];exact h j hj);rwa[List.take_length]at this
theorem AI0 (w:World) (x:A7 w) (pa:Option Addr) (lp:List J1) (pc:Nat) (g:Nat) (r:A9) (hp:kG w pa lp) (hpl:lp.length≤9223372036854775807) (h:bD w g r) (h0:0≤r.s0) (h1:r.s0≤4294943999):
 Calls Tryz.prog 153 #[.slice pa lp.length pc,.func (.func 154) #[] #[.pointer (some ⟨g,0,none⟩)]] x.w fun o w'=>o= .returned (.int .i64 (gS lp r))∧∃y:A7 w,w'=y.w:=by
 by_cases hn:lp.length=0
 ·have hl:lp=[]:=List.eq_nil_of_length_eq_zero hn
  subst hl;have Hi:=A3 (show gS [] r= -1 from rfl);clear hn hp h;go_enter Tryz.func153,Tryz.ntmps153;go_wp2_with fail;go_loopw [8] (fun i wr=>i= .int .i64 0∧wr=x.w) (fun _ _ =>0)
  case atStart=>exact⟨rfl,rfl⟩
  case round=>
   obtain⟨rfl,rfl⟩:=hrel;go_wp2_with fail;go_ret;exact⟨D5 Hi.out.symm,_,rfl⟩
 ·have eg:∀args w,(callFunc 154 args).run Tryz.prog w= .ok (.enter 154 args) w:=enters_of Tryz.func154 (by kernel_rfl) rfl
  obtain⟨e0,he0⟩:∃e,lp[0]? =some e:=⟨_,A4 (by omega)⟩
  obtain⟨b,off,rfl,hb,_⟩:=A7.els hp x 0 e0 he0;have hc:=AnyQ.slices_IndexFunc Tryz.idxPass 6 Tryz.isAgg209 Tryz.sizeOf209 J1.cs J1.len (fun p=>vP p r) 154 #[.pointer (some ⟨g,0,none⟩)] eg b off lp.length pc lp x.w (fun W p hW=>by
   obtain⟨y,hy⟩:=x.step hW;subst hy;refine(AH8 x.w ⟨_,hW⟩ p r g (h.since x) h0 h1).mono ?_;rintro _ w' ⟨rfl,z,rfl⟩;exact⟨rfl,z.b⟩) (Nat.le_refl _) hpl hb (fun j hj i v hv=>by
   rw[getElem!_pos lp j hj]at hv;obtain⟨b',off',he,_,hcell⟩:=A7.els hp x j _ (A4 hj);simp at he;obtain⟨rfl,rfl⟩:=he;exact hcell i v hv)
  change Calls Tryz.prog 153 _ _ _ at hc;refine hc.mono ?_;rintro _ w' ⟨rfl,hb⟩;obtain⟨y,rfl⟩:=x.step hb;refine⟨?_,y,rfl⟩;rw[List.take_length];rfl
end
section
open Go.RowKit Go.ChangeMaps Go.Sort Go.Shelf Go.Lib
theorem T0.since {w:World} {g n:Nat} {f:Nat→Int} (h:T0 w g n f) (y:A7 w):T0 y.w g n f:=
 ⟨Nat.lt_of_lt_of_le h.lt y.b.size,fun j hj=>A7.cell (h.c j hj) h.lt y,fun j hj=>A7.free (h.f j hj) h.lt y⟩
theorem T0.to {w W:World} {g n:Nat} {f:Nat→Int} (h:T0 w g n f) (hW:∃z:A7 w,W=z.w):T0 W g n f:=by
 obtain⟨z,rfl⟩:=hW;exact h.since z
theorem T0.set {w:World} {g n k:Nat} {f f':Nat→Int} (h:T0 w g n f) (hk:k<n) (v:Int) (hv:f' k=v) (ho:∀j,j<n→j≠k→f' j=f j):T0 (w.setCell ⟨g,k,none⟩ (.int .i64 v)) g n f':=by
 refine⟨by simpa[World.setCell]using h.lt,fun j hj=>?_,fun j hj=>?_⟩
 ·by_cases hjk:j=k
  ·subst hjk
   rw[World.cell?_setCell_same _ _ _ (h.c j hj),hv]
  ·show((w.setCells g k [.int .i64 v]).cell? _)= _
   rw[World.cell?_setCells_out g [.int .i64 v] k w ⟨g,j,none⟩ (fun _ _ =>by simp;omega),h.c j hj,ho j hj hjk]
 ·rw[World.frozen?_setCell];exact h.f j hj
theorem T0.setOther {w:World} {g n:Nat} {f:Nat→Int} (h:T0 w g n f) (p:Addr) (hp:p.block≠g) (v:Value):T0 (w.setCell p v) g n f:=by
 have hh:=Below.heap_setCell w p v g (fun e=>hp e.symm);refine⟨by simpa[World.setCell]using h.lt,fun j hj=>?_,fun j hj=>by rw[World.frozen?_setCell];exact h.f j hj⟩;rw[World.cell?_of_block (w:=w) (a:=⟨g,j,none⟩) hh];exact h.c j hj
theorem T0.keep {w w':World} {g n:Nat} {f:Nat→Int} (h:T0 w g n f) (hs:w.heap.size≤w'.heap.size) (hb:w'.heap[g]? =w.heap[g]?):T0 w' g n f:=
 ⟨Nat.lt_of_lt_of_le h.lt hs,fun j hj=>by rw[World.cell?_of_block (w:=w) (a:=⟨g,j,none⟩) hb];exact h.c j hj,fun j hj=>by rw[World.frozen?_of_block (w:=w) (a:=⟨g,j,none⟩) hb];exact h.f j hj⟩
theorem Ac3 {w:World} {base:Nat} {e:TypeId} {g n N:Nat} {xs:List Value} (h:w.ownsRow base e 1 (.slice (some ⟨g,0,none⟩) N n) N xs) (hx:∀j,j<N→xs.getD j undef= .int .i64 0):T0 w g N fun _ =>0:=by
 obtain⟨hl,⟨hbad,_⟩|⟨g',cap,cur,he,hg,hh,h1,h2,h3,h4⟩⟩:=h
 ·cases hbad
 ·obtain⟨rfl,rfl⟩:g=g'∧n=cap:=by simpa using he
  refine⟨(Array.getElem?_eq_some_iff.1 hh).1,fun j hj=>?_,fun j hj=>by simp[World.frozen?,hh]⟩;have:=hx j hj;rw[←h4]at this;simp only[Nat.mul_one]at *;have hjc:j<cur.size:=by omega
  simp[World.cell?,hh,A6,hj,hjc]at this⊢;exact this
def X0 (x:Int×Int):Value:=.agg #[.int .i64 x.1,.int .i64 x.2]
theorem mG:Y2 Tryz.prog 262 X0 false where
 chk em w x:=by
  unfold X0;obtain⟨N,hN⟩:∃N,10000=N+2:=⟨9998,rfl⟩
  rw[hN];simp[Instr.checkKey,Sem.run_bind,run_underlying Tryz.underlying262,run_underlying Tryz.underlying3,go_sem]
 eq w x y:=by
  have hS:Tryz.prog.underlying 262=some (.struct (Tryz.prog.fieldsOf 262)):=by kernel_rfl
  have hp:Tryz.prog.stoodInHeld 262=false:=by kernel_rfl
  have u3:=Tryz.underlying3;have a3:=Tryz.isAgg3;have z3:=Tryz.sizeOf3;unfold X0;show(Op.equalIn (9999+1) _ _ _).run _ _ = _;rw[run_equalIn_struct w 9999 262 _ _ hS hp];simp only[Program.fieldsOf,Tryz.underlying262];go_simp;by_cases h1:x.1=y.1<;>by_cases h2:x.2=y.2<;>simp[h1,h2,Prod.ext_iff]
 und:=⟨_,Tryz.underlying262,fun x y=>rfl⟩
 bits x:=by
  unfold X0;rw[show(10000:Nat)=9999+1 from rfl];simp[Instr.sameBits]
theorem gT (w:World):(zeroValue 3).run Tryz.prog w= .ok (.int .i64 0) w:=by kernel_rfl
theorem T0.congr {w:World} {g n:Nat} {f f':Nat→Int} (h:T0 w g n f) (he:∀j,j<n→f j=f' j):T0 w g n f':=
 ⟨h.lt,fun j hj=>by rw[h.c j hj,he j hj],h.f⟩
theorem C4.ride {w:World} {g:Nat} {r:A9} (h:C4 w g r.cs):bD w g r:=⟨h.lt,h.c⟩
theorem bD.setOther {w:World} {g:Nat} {r:A9} (h:bD w g r) (p:Addr) (hp:p.block≠g) (v:Value):bD (w.setCell p v) g r:=by
 have hh:=Below.heap_setCell w p v g (fun e=>hp e.symm);exact⟨by simpa[World.setCell]using h.lt,fun j u hu=>by rw[World.cell?_of_block (w:=w) (a:=⟨g,j,none⟩) hh];exact h.c j u hu⟩
def dZ (w:World) (b:Nat) (R:List A9) (u:Nat→Int) (l:List Nat):Prop:=
 ∃L:List ((Int×Int)×Value),J0 X0 w b L∧∀k d:Int,0≤k→Q4 (k,d) L (.int .i64 0)= .int .i64 (pd R u l k d:Int)
theorem dZ.to {w W:World} {b:Nat} {R:List A9} {u:Nat→Int} {l:List Nat} (h:dZ w b R u l) (hW:∃z:A7 w,W=z.w):dZ W b R u l:=by
 obtain⟨L,h1,h2⟩:=h;exact⟨L,h1.to' hW,h2⟩
theorem dZ.keep {w w':World} {b:Nat} {R:List A9} {u:Nat→Int} {l:List Nat} (h:dZ w b R u l) (hb:w'.heap[b]? =w.heap[b]?):dZ w' b R u l:=by
 obtain⟨L,h1,h2⟩:=h;exact⟨L,hb.trans h1,h2⟩
theorem dZ.lt {w:World} {b:Nat} {R:List A9} {u:Nat→Int} {l:List Nat} (h:dZ w b R u l):b<w.heap.size:=by
 obtain⟨L,h1,_⟩:=h;exact h1.lt'
structure bF (w:World) (g0 g1 bm n:Nat) (o:List Nat) (f:Nat→Int) (R:List A9) (u:Nat→Int) (l:List Nat):Prop where
 ord:T0 w g0 n (fun j=>(o.getD j 0:Nat))
 out:T0 w g1 n f
 paid:dZ w bm R u l
theorem bF.to {w W:World} {g0 g1 bm n:Nat} {o:List Nat} {f:Nat→Int} {R:List A9} {u:Nat→Int} {l:List Nat} (h:bF w g0 g1 bm n o f R u l) (hW:∃z:A7 w,W=z.w):bF W g0 g1 bm n o f R u l:=
 ⟨h.ord.to hW,h.out.to hW,h.paid.to hW⟩
theorem tW {w:World} {b g n:Nat} {f:Nat→Int} {R:List A9} {u:Nat→Int} {l:List Nat} (h:dZ w b R u l) (hn:T0 w g n f) (h0:0<n):b≠g:=by
 obtain⟨L,h1,_⟩:=h;rintro rfl;have:=hn.c 0 h0;unfold J0 at h1;simp[World.cell?,h1]at this
theorem bF.set {w:World} {g0 g1 bm n i:Nat} {o:List Nat} {f f':Nat→Int} {R:List A9} {u:Nat→Int} {l:List Nat} (h:bF w g0 g1 bm n o f R u l) (hi:i<n) (hne:g0≠g1) (v:Int) (hv:f' i=v) (ho:∀j,j<n→j≠i→f' j=f j):bF (w.setCell ⟨g1,i,none⟩ (.int .i64 v)) g0 g1 bm n o f' R u l:=
 ⟨h.ord.setOther _ (fun e=>hne e.symm) _,h.out.set hi v hv ho,h.paid.keep (Below.heap_setCell w _ _ bm (tW h.paid h.out (by omega)))⟩
theorem bF.next {w:World} {g0 g1 bm m i:Nat} {o:List Nat} {R:List A9} {u:Nat→Int} {f:Nat→Int} (h:bF w g0 g1 bm R.length o f R u (o.take m)) (hO:dE R o) (hi:o[m]? =some i) (x:Int) (hf:∀j,f j=if j=i then x else if j∈o.take m then u j else 0)
 (hp:∀k d:Int,0≤k→pd R (bT u i x) (o.take (m+1)) k d=pd R u (o.take m) k d):bF w g0 g1 bm R.length o (fun j=>if j∈o.take (m+1)then bT u i x j else 0) R (bT u i x) (o.take (m+1)):=by
 refine⟨h.ord,h.out.congr fun j hj=>?_,?_⟩
 ·rw[hf j,hO.take_next hi]
  by_cases hji:j=i
  ·subst hji;simp[mF]
  ·rw[if_neg hji,kI _ _ _ hji]
   simp[hji]
 ·obtain⟨L,h1,h2⟩:=h.paid
  exact⟨L,h1,fun k d hk=>by rw[h2 k d hk,hp k d hk]⟩
theorem kJ {V:World} {b:Nat} {o o':Obj} (_h:V.heap[b]? =some o):V.grownBy (setBlock V b o') (some b):=
 ⟨rfl,rfl,rfl,by rw[lP];exact Nat.le_refl _,fun j hj hne=>sO (fun e=>hne (by rw[e]))⟩
theorem AI1 {V:World} {bm:Nat} {L:List ((Int×Int)×Value)} (hL:J0 X0 V bm L) (k d v:Int) (hv:Q4 (k,d) L (.int .i64 0)= .int .i64 v):
 ∃(w1 w2:World) (i:Nat),(Instr.mapEntry 256 (.map (some bm)) (.agg #[.int .i64 k,.int .i64 d])).run Tryz.prog V= .ok (.tuple #[.int .i64 v,.int .i64 (i:Int)]) w1∧
  (Instr.lookup 256 (.map (some bm)) (.agg #[.int .i64 k,.int .i64 d]) false).run Tryz.prog w1= .ok (.int .i64 v) w1∧
  (Instr.entryStore 256 (.map (some bm)) (.int .i64 (i:Int)) (.int .i64 (v+1))).run Tryz.prog w1= .ok () w2∧
  J0 X0 w2 bm (cN (k,d) (.int .i64 (v+1)) L)∧V.grownBy w2 (some bm):=by
 have hlt:=hL.lt'
 cases hx:E8 (k,d) L 0 with
 |some r=>
  obtain⟨i,val⟩:=r
  have hval:val= .int .i64 v:=by rw[gM,hx]at hv;simpa using hv
  subst hval
  obtain⟨-,hi,-⟩:=jZ L 0 i hx
  rw[Nat.sub_zero]at hi
  have h1:=zG mG hL Tryz.underlying256 (k,d) hx
  have h2:=dS mG hL Tryz.underlying256 (gT V) (k,d) false
  simp only[Bool.false_eq_true,if_false]at h2
  rw[hv]at h2
  have h3:=oQ (P:=Tryz.prog) (t:=256) hL hi (.int .i64 (v+1))
  refine⟨V,_,i,h1,h2,h3,?_,kJ hL⟩
  unfold cN
  rw[hx]
  exact cM hlt
 |none=>
  have hv0:v=0:=by rw[gM,hx]at hv;simpa using hv.symm
  subst hv0
  have h1:=zH mG hL Tryz.underlying256 (fun w=>gT w) (k,d) hx
  have hM:J0 X0 (setBlock V bm (.map (L6 X0 (L ++ [((k,d),Value.int .i64 0)]) 0).toArray (L ++ [((k,d),Value.int .i64 0)]).length)) bm (L ++ [((k,d),Value.int .i64 0)]):=cM hlt
  have h2:=dS mG hM Tryz.underlying256 (gT _) (k,d) false
  simp only[Bool.false_eq_true,if_false]at h2
  have hlk:Q4 (k,d) (L ++ [((k,d),Value.int .i64 0)]) (.int .i64 0)= .int .i64 0:=by
   rw[gM,lR L _ 0 hx];simp[E8]
  rw[hlk]at h2
  have h3:=oQ (P:=Tryz.prog) (t:=256) (i:=L.length) hM (x:=(k,d)) (v0:=Value.int .i64 0) (by simp) (.int .i64 (0+1))
  refine⟨_,_,L.length,h1,h2,h3,?_,(kJ hL).trans (kJ hM)⟩
  have hset:(L ++ [((k,d),Value.int .i64 0)]).set L.length ((k,d),Value.int .i64 (0+1))=cN (k,d) (.int .i64 (0+1)) L:=by
   unfold cN;rw[hx];simp
  rw[hset]
  exact cM (by rw[lP];exact hlt)
theorem bF.bump {V w2:World} {g0 g1 bm n:Nat} {o:List Nat} {f:Nat→Int} {R:List A9} {u:Nat→Int} {l:List Nat} {L:List ((Int×Int)×Value)} {k d v:Int} (h:bF V g0 g1 bm n o f R u l) (h0:0<n)
 (hM:J0 X0 w2 bm (cN (k,d) (.int .i64 (v+1)) L)) (hG:V.grownBy w2 (some bm)) (hLv:∀k d:Int,0≤k→Q4 (k,d) L (.int .i64 0)= .int .i64 (pd R u l k d:Int)):
 T0 w2 g0 n (fun j=>(o.getD j 0:Nat))∧T0 w2 g1 n f∧∀(u':Nat→Int) (l':List Nat),(∀k' d':Int,0≤k'→(pd R u' l' k' d':Int)=if(k',d')=(k,d)then v+1 else(pd R u l k' d':Int))→dZ w2 bm R u' l':=by
 have n0:=tW h.paid h.ord h0;have n1:=tW h.paid h.out h0;refine⟨h.ord.keep hG.size (hG.block g0 h.ord.lt (by simpa using Ne.symm n0)),h.out.keep hG.size (hG.block g1 h.out.lt (by simpa using Ne.symm n1)),fun u' l' hp=>⟨_,hM,fun k' d' hk'=>?_⟩⟩;rw[sQ,hp k' d' hk'];split
 ·rfl
 ·exact hLv k' d' hk'
def AI2 (w:World) (lp:List J1) (R:List A9) (o:Ending) (w':World):Prop:=
 ∃(a:Option Addr) (cap:Nat) (y:A7 w) (u:Nat→Int),o= .returned (.slice a R.length cap)∧w'=y.w∧dX lp R u∧N0 y.w a R.length (fun i=>.int .i64 (u i))
theorem AI3 (w:World) (x:A7 w) (pa:Option Addr) (lp:List J1) (pc:Nat) (a:Option Addr) (R:List A9) (c:Nat) (hp:kG w pa lp) (hpl:lp.length≤64) (h:bQ w a R) (hl:R.length≤256) (hid:(R.map fun r:A9=>r.id).Nodup) (hs0:∀r∈R,0≤r.s0∧r.s0≤4294943999):
 Calls Tryz.prog 103 #[.slice pa lp.length pc,.slice a R.length c] x.w (AI2 w lp R):=by
 have HP:=A3 hp;have HR:=A3 h;have Hid:=A3 hid;have Hs0:=A3 hs0;clear hp h hid hs0;go_enter Tryz.func103,Tryz.ntmps103;go_upto_region 1 with fail;obtain⟨W,bx,y0,hW,hbx,-,B8,Hup,Hbx,HB0⟩:=K7 x [.slice a R.length c] 31;rw[hW,hbx];clear hW hbx;obtain⟨D9,hf0⟩:=sX HB0;clear HB0;replace HP:=A3 (HP.out.to B8);replace HR:=A3 (HR.out.to B8);clear B8;obtain⟨i0,hi0,hz0,hsz0,gK⟩:=info_parts (P:=Tryz.prog) (e:=3) (z:=.int .i64 0) (size:=1) (bytes:=8) (by kernel_rfl);go_wp2_with(at_make;refine wpList_make_full _ rfl _ _ 22 rfl W.heap.size 3 i0 (.int .i64 0) 1 Tryz.underlying22 hi0 hz0 hsz0 .i64 .i64 (R.length:Int) (R.length:Int) R.length rfl rfl rfl rfl (by rw[gK];omega) (by unfold maxLen;omega) y0.b.size ?_;intro w1 hown hg1);have hrow:=Ac3 hown (fun j hj=>by simp[madeCells,A6,hj];show(#[Value.int .i64 0]:Array Value)[j % 1]! = _;rw[Nat.mod_one];rfl);obtain⟨y1,hy1⟩:=y0.grown hg1 (fun k hk=>by cases hk);have Hg0:=A3 y0.b.size;subst hy1;clear hown hg1;generalize y0.w.heap.size=g0 at *;have bM:=A3 hrow;clear hrow;go_loopw [19] (fun i wr=>∃(k:Nat) (y:A7 W),k≤R.length∧i= .int .i64 k∧wr=y.w∧T0 y.w g0 R.length (fun j=>if j<k then(j:Int)else 0)) (fun i _ =>R.length-(intOf i).toNat)
 case atStart=>exact⟨0,y1,by omega,rfl,rfl,by simpa using bM.out⟩
 case round=>
  clear bM;obtain⟨k,y,hk,rfl,rfl,hrow⟩:=hrel;have bM:=A3 hrow;clear hrow;by_cases hlt:k<R.length
  ·have hc:=bM.out.c k hlt
   have hf:=bM.out.f k hlt;have hk0:(0:Int)≤(k:Int):=by omega
   have hkl:(k:Int)<(R.length:Int):=by omega
   obtain⟨y2,h2⟩:=y.set ⟨g0,k,none⟩ Hg0.out (.int .i64 (k:Int));have eL:=A3 (bM.out.set (f':=fun j=>if j<k+1 then(j:Int)else 0) hlt (k:Int) (by simp) (fun j _ hj=>by
    by_cases hjk:j<k
    ·rw[if_pos hjk,if_pos (by omega)]
    ·rw[if_neg hjk,if_neg (by omega)]))
   have H2:=A3 h2;clear h2;go_wp2_with fail;go_roundw
   case rel=>exact⟨k+1,y2,by omega,by go_num,H2.out,H2.out ▸ eL.out⟩
   case measure=>simp[intOf]<;>omega
  ·obtain rfl:k=R.length:=by omega
   have hN:T0 y.w g0 R.length (fun j=>(j:Int)):=⟨bM.out.lt,fun j hj=>by rw[bM.out.c j hj,if_pos hj],bM.out.f⟩
   have hsort:Calls Tryz.prog 151 #[.slice (some ⟨g0,0,none⟩) R.length R.length,.func (.func 152) #[] #[.pointer (some ⟨bx,0,none⟩)]] y.w (Ac1 y.w g0 R):=by
    by_cases hn:R.length=0
    ·have hc:=AnyF.slices_SortFunc_none {Tryz.sortInt with} (some ⟨g0,0,none⟩) R.length (.func (.func 152) #[] #[.pointer (some ⟨bx,0,none⟩)]) y.w
     change Calls Tryz.prog 151 _ _ _ at hc;rw[hn]at hc⊢;refine hc.mono ?_;rintro _ _ ⟨rfl,rfl⟩;exact⟨rfl,World.grownBy.refl _ _,[],⟨by rw[hn];exact .nil,List.Pairwise.nil⟩,⟨hN.lt,fun j hj=>by omega,fun j hj=>by omega⟩⟩
    ·refine AH6 y.w g0 bx R.length a c R (by omega) (by omega) hN (D9 y) (HR.out.since y).c (by have:=Hbx.out;have:=Hg0.out;omega) (fun b hb=>?_) Hid.out
     obtain⟨e,he⟩:∃e,R[0]? =some e:=⟨_,A4 (by omega)⟩
     obtain⟨b',off,ha,hlt,_⟩:=HR.out.c 0 e he;rw[ha]at hb;cases hb;have:=Hg0.out;show b'≠g0;omega
   have Aw7:=A3 hsort;clear hN hsort bM;go_wp2_with fail;refine Aw7.out.mono ?_;rintro _ w2 ⟨rfl,hg,o,hO,hN⟩;obtain⟨y2,rfl⟩:=y.grown hg (fun k hk=>by cases hk;exact Hg0.out);have HO:=A3 hO;have HN:=A3 hN;clear hO hN hg Aw7;have hmm:=@run_makeMap Tryz.prog;go_wp2_with(at_make;refine wpList_make_full _ rfl _ _ 22 rfl W.heap.size 3 i0 (.int .i64 0) 1 Tryz.underlying22 hi0 hz0 hsz0 .i64 .i64 (R.length:Int) (R.length:Int) R.length rfl rfl rfl rfl (by rw[gK];omega) (by unfold maxLen;omega) y2.b.size ?_;intro w3 hown hg1);have hrow:=Ac3 hown (fun j hj=>by simp[madeCells,A6,hj];show(#[Value.int .i64 0]:Array Value)[j % 1]! = _;rw[Nat.mod_one];rfl);have Bs7:=A3 (show g0<y2.w.heap.size from HN.out.lt);have hN3:T0 w3 g0 R.length (fun j=>(o.getD j 0:Nat)):=HN.out.keep hg1.size (hg1.block g0 HN.out.lt (by simp));obtain⟨y3,hy3⟩:=y2.grown hg1 (fun k hk=>by cases hk);subst hy3;have hm0:J0 X0 (y3.w.alloc (.map #[] 0)) y3.w.heap.size []:=by
    show(y3.w.heap.push _)[y3.w.heap.size]? = _;simp[L6]
   have Hg1:=A3 (show W.heap.size≤y2.w.heap.size from y2.b.size);have Hg2:=A3 (show y2.w.heap.size<y3.w.heap.size from hrow.lt);have hst:A8 y3.w (y3.w.alloc (.map #[] 0)):=A8.alloc (A8.self _) _;have hrow4:=hrow.to hst;have hN4:=hN3.to hst;obtain⟨y4,hy4⟩:=y3.alloc (.map #[] 0);rw[hy4]at hm0 hrow4 hN4⊢;have Hm:=A3 hm0;have bM:=A3 hrow4;replace HN:=A3 hN4;clear hm0 hrow hrow4 hN3 hN4 hst hy4 hown hg1 hmm hi0 hz0 hsz0 gK;generalize y3.w.heap.size=bm at *;generalize y2.w.heap.size=g1 at *;have hlo:=HO.out.len;have Hne:=A3 (show g0≠g1 by have:=Bs7.out;omega);have hU0:bF y4.w g0 g1 bm R.length o (fun j=>if j∈o.take 0 then(0:Int)else 0) R (fun _ =>0) (o.take 0):=
    ⟨HN.out,bM.out.congr fun j hj=>by simp,[],Hm.out,fun k d _ =>rfl⟩
   have HU0:=A3 hU0;clear HN bM Hm hU0;go_wp2_with fail;go_loopw [36] (fun s wr=>∃(m:Nat) (u:Nat→Int) (y:A7 W),m≤R.length∧s= .int .i64 m∧wr=y.w∧bF y.w g0 g1 bm R.length o (fun j=>if j∈o.take m then u j else 0) R u (o.take m)∧pA lp R o u m) (fun s _ =>R.length-(intOf s).toNat)
   case atStart=>exact⟨0,fun _ =>0,y4,by omega,rfl,rfl,HU0.out,fun j hj=>by simp at hj⟩
   case round=>
    clear HU0;obtain⟨m,u,y,hm,rfl,rfl,hU,hD⟩:=hrel;have HU:=A3 hU;have HD:=A3 hD;clear hU hD;by_cases hlt:m<R.length
    ·obtain⟨i,hi⟩:∃i,o[m]? =some i:=⟨_,A4 (by omega)⟩
     have hir:i<R.length:=HO.out.lt (A0 hi);obtain⟨e,he⟩:∃e,R[i]? =some e:=⟨_,A4 hir⟩
     have He:=A3 (Ab0 he);obtain⟨hs0,hs1⟩:=Hs0.out e (A0 he);have hci:=HU.out.ord.c m hlt;rw[show(o.getD m 0:Nat)=i by rw[A6,hi];rfl]at hci;have kci:∀q:A7 y.w,q.w.cell? ⟨g0,m,none⟩=some (.int .i64 (i:Int)):=fun q=>A7.cell hci HU.out.ord.lt q;obtain⟨b1,off1,rfl,h1'⟩:=D0.ride HR.out.c he;have ra0:=h1'.c0;have ra1:=h1'.c1;have ra2:=h1'.c2;have ra3:=h1'.c3;have ra4:=h1'.c4;have ra5:=h1'.c5;have ra6:=h1'.c6;have ra7:=h1'.c7;have ra8:=h1'.c8;have ra9:=h1'.c9;have ra10:=h1'.c10;have ra11:=h1'.c11;have ra12:=h1'.c12;have hm0:(0:Int)≤(m:Int):=by omega
     have hml:(m:Int)<(R.length:Int):=by omega
     have hi0:(0:Int)≤(i:Int):=by omega
     have hil:(i:Int)<(R.length:Int):=by omega
     have Hi:=A3 hi;clear h1' he hi;go_upto_region 13 with fail;obtain⟨y5,e2,C9,hsz0,hlt0,HX0⟩:=L8 y [.int .i64 e.id,.int .i64 e.rd,.int .i64 e.s0,.int .i64 e.s1,.int .i64 e.e0,.int .i64 e.e1,.bool e.op,.slice e.la e.legs.length e.lc,.slice e.pa e.pauses.length e.pc,.int .i64 e.fw,.int .i64 e.fp,.int .i64 e.wh,.int .i64 e.pl] 40;rw[e2];obtain⟨hx0,hx1,hx2,hx3,hx4,hx5,hx6,hx7,hx8,hx9,eN,eO,eP,hxf⟩:=bP HX0;(have hbr:=C4.new y.w [.int .i64 e.id,.int .i64 e.rd,.int .i64 e.s0,.int .i64 e.s1,.int .i64 e.e0,.int .i64 e.e1,.bool e.op,.slice e.la e.legs.length e.lc,.slice e.pa e.pauses.length e.pc,.int .i64 e.fw,.int .i64 e.fp,.int .i64 e.wh,.int .i64 e.pl] 40;rw[e2]at hbr;have hlg:=HU.out.out.lt;have hlm:=HU.out.paid.lt;replace HU:=A3 (HU.out.to C9))
     clear e2 C9;generalize y.w.heap.size=gr at *;obtain⟨E6,G9,K1,J5,O8,U5,X9,Z4,Z5,cL,cI,cJ,cK,I3⟩:=R5 HX0;have I9:=A3 (And.intro hsz0 hlt0);clear hlt0 hsz0 HX0;have HB:=A3 (C4.ride (r:=e) hbr);have HP5:=A3 (A7.els HP.out y5);clear hbr kci hci ra0 ra1 ra2 ra3 ra4 ra5 ra6 ra7 ra8 ra9 ra10 ra11 ra12;obtain⟨q0,hq0⟩:=A7.refl y5.w;rw[hq0];clear hq0;go_wp2_with fail;refine(AI0 y5.w _ pa lp pc gr e HP5.out (by omega) HB.out hs0 hs1).mono ?_;rintro _ _ ⟨rfl,z1,rfl⟩;replace HU:=A3 (HU.out.to ⟨z1,rfl⟩);replace HB:=A3 (HB.out.since z1);obtain⟨y6,h6⟩:=y5.trans z1;rw[h6]at HU HB⊢;have kc6:=HU.out.out.c i hir;have kf6:=HU.out.out.f i hir;obtain⟨y7,h7⟩:=y6.set ⟨g1,i,none⟩ Hg1.out (.int .i64 (gS lp e));have HU7:=A3 (HU.out.set (f':=fun j=>if j=i then gS lp e else if j∈o.take m then u j else 0) hir Hne.out (gS lp e) (by simp) (fun j _ hj=>by simp[hj]));have HB7:bD (y6.w.setCell ⟨g1,i,none⟩ (.int .i64 (gS lp e))) gr e:=HB.out.setOther _ (fun hh=>by have h9:g1=gr:=hh;omega) _;clear h6 hx0 hx1 hx2 hx3 hx4 hx5 hx6 hx7 hx8 hx9 eN eO eP hxf E6 G9 K1 J5 O8 U5 X9 Z4 Z5 cL cI cJ cK I3 HP5;go_upto_region 14 with fail;rw[h7]at HU7 HB7;clear h7 HU HB kc6 kf6;replace HU7:=A3 HU7.out;replace HB7:=A3 HB7;have Hlm:=A3 (And.intro hlg hlm);clear hlg hlm;rcases AH9 lp e with⟨hx,hno⟩|⟨k0,hk0,hx,-,hno⟩
     ·have xV:=A3 (show(-1:Int)=r9 lp (D3 R i) (bR R u (D3 R i)) by
       rw[He.out];exact(Ab1 fun j hj=>by rw[hno j hj];rfl).symm)
      rw[hx]at HU7;have kc7:=HU7.out.out.c i hir;rw[if_pos rfl]at kc7;clear hno hx;have HU8:=A3 (HU7.out.next HO.out Hi.out (-1) (fun j=>rfl) (fun k d hk=>by rw[tU HO.out Hi.out,if_neg (by omega),Nat.add_zero]));clear HU7 HB7;have kc8:∀q:A7 y7.w,q.w.cell? ⟨g1,i,none⟩=some (.int .i64 (-1)):=fun q=>A7.cell kc7 HU8.out.out.lt q;clear kc7;obtain⟨q7,hq0⟩:=A7.refl y7.w;rw[hq0];clear hq0;go_wp2_with fail;go_loopw [12] (fun s wr=>s= .int .i64 (-1)∧wr=q7.w) (fun _ _ =>0)
      case atStart=>exact⟨rfl,rfl⟩
      case round=>
       obtain⟨rfl,rfl⟩:=hrel;obtain⟨y8,h8⟩:=y7.trans q7;have HU9:=A3 (HU8.out.to ⟨q7,rfl⟩);rw[h8]at HU9⊢;clear HU8 h8;go_wp2_with fail;go_roundw
       case rel=>exact⟨m+1,bT u i (-1),y8,by omega,by go_num,rfl,HU9.out,tV HO.out Hi.out HD.out xV.out⟩
       case measure=>simp[intOf]<;>omega
     ·rw[hx]at HU7
      have kc7:=HU7.out.out.c i hir;rw[if_pos rfl]at kc7;have kc7':∀q:A7 y7.w,q.w.cell? ⟨g1,i,none⟩=some (.int .i64 (k0:Int)):=fun q=>A7.cell kc7 HU7.out.out.lt q;clear hx kc7;have Hkc:=A3 kc7';obtain⟨q7,hq0⟩:=A7.refl y7.w;rw[hq0];clear hq0;go_wp2_with fail;go_loopw [12] (fun s wr=>∃(k:Nat) (y:A7 W),k0≤k∧k≤lp.length∧s= .int .i64 k∧wr=y.w∧bF y.w g0 g1 bm R.length o (fun j=>if j=i then(if k<lp.length then(k0:Int)else -1)else if j∈o.take m then u j else 0) R u (o.take m)∧bD y.w gr e∧∀j,j<k→(vP (N4 lp j) e && decide ((pd R u (o.take m) (j:Int) (J2 e):Int)<(N4 lp j).n))=false) (fun s _ =>lp.length-(intOf s).toNat)
      case atStart=>
       obtain⟨y8,h8⟩:=y7.trans q7;refine⟨k0,y8,Nat.le_refl _,by omega,rfl,h8,?_,h8 ▸ HB7.out.since q7,fun j hj=>by rw[hno j hj];rfl⟩;rw[←h8,if_pos hk0];exact HU7.out.to ⟨q7,rfl⟩
      case round=>
       clear HU7 HB7 kc7' Hkc hno;obtain⟨k,y8,hk1,hk2,rfl,rfl,hU,hB,hno⟩:=hrel;have HU:=A3 hU;have HB:=A3 hB;have Hno:=A3 hno;clear hU hB hno;by_cases hkl:k<lp.length
       ·rw[if_pos hkl]at HU
        obtain⟨p,hp⟩:∃p,lp[k]? =some p:=⟨_,A4 hkl⟩
        obtain⟨b2,off2,rfl,h2'⟩:=D0.pass HP.out hp;have pa0:=h2'.c0;have pa1:=h2'.c1;have pa2:=h2'.c2;have pa3:=h2'.c3;have pa4:=h2'.c4;have pa5:=h2'.c5;have Hpe:=A3 (AG8 hp);have hbc:=HB.out.cells;have ra0:=hbc.c0;have ra1:=hbc.c1;have ra2:=hbc.c2;have ra3:=hbc.c3;have ra4:=hbc.c4;have ra5:=hbc.c5;have ra6:=hbc.c6;have ra7:=hbc.c7;have ra8:=hbc.c8;have ra9:=hbc.c9;have ra10:=hbc.c10;have ra11:=hbc.c11;have ra12:=hbc.c12;simp only[Nat.zero_add]at ra1 ra2 ra3 ra4 ra5 ra6 ra7 ra8 ra9 ra10 ra11 ra12;have hk0':(0:Int)≤(k:Int):=by omega
        have hkl':(k:Int)<(lp.length:Int):=by omega
        clear h2' hp hbc;obtain⟨q8,hq0⟩:=A7.refl y8.w;rw[hq0];clear hq0;go_wp2_with fail;refine(Ab3 y8.w _ e hs0 hs1).mono ?_;rintro _ _ ⟨rfl,z9,rfl⟩;go_upto_region 18 with fail;have HU9:=HU.out.to (⟨z9,rfl⟩:∃zz:A7 y8.w,z9.w=zz.w);obtain⟨z10,e2,C9,hsz0,hlt0,HX0⟩:=L8 z9 [.int .i64 (k:Int),.int .i64 (J2 e)] 262;rw[e2];obtain⟨ht0,ht1,htf⟩:=aC HX0;(replace HU9:=HU9.to C9)
        clear e2 C9;generalize z9.w.heap.size=gt at *;obtain⟨Bt8,Bt9,BB3⟩:=p8 HX0;have BB4:=A3 (And.intro hsz0 hlt0);clear hlt0 hsz0 HX0;have fK:=y8.trans z10;obtain⟨L,hL,hLv⟩:=HU9.paid;have hlk:∀q:A7 z10.w,(Instr.lookup 256 (.map (some bm)) (.agg #[.int .i64 (k:Int),.int .i64 (J2 e)]) false).run Tryz.prog q.w= .ok (.int .i64 (pd R u (o.take m) (k:Int) (J2 e):Int)) q.w:=fun q=>by
         have h1:=dS mG (hL.to' ⟨q,rfl⟩) Tryz.underlying256 (gT _) ((k:Int),J2 e) false;simp only[Bool.false_eq_true,if_false]at h1;rw[hLv (k:Int) (J2 e) (by omega)]at h1;exact h1
        have hvc:=fun y:A7 z10.w=>Ab2 z10.w y p (J2 e);have Hvc:=A3 hvc;have Hvp:=A3 (show vP p e=(decide (p.rd=e.rd) && fS p (J2 e))from rfl);have HL:=A3 (And.intro hL hLv);replace HU9:=A3 HU9;replace pa0:=A7.cellTo fK pa0;replace pa1:=A7.cellTo fK pa1;replace pa2:=A7.cellTo fK pa2;replace pa3:=A7.cellTo fK pa3;replace pa4:=A7.cellTo fK pa4;replace pa5:=A7.cellTo fK pa5;replace ra1:=A7.cellTo (⟨z10,rfl⟩:∃zz:A7 y8.w,z10.w=zz.w) ra1;have xZ:=A3 fK;clear hvc hL hLv fK ht0 ht1 htf ra0 ra2 ra3 ra4 ra5 ra6 ra7 ra8 ra9 ra10 ra11 ra12;have hcase:((p.rd == e.rd)=true∧fS p (J2 e)=true∧decide ((pd R u (o.take m) (k:Int) (J2 e):Int)<p.n)=true∧(vP p e && decide ((pd R u (o.take m) (k:Int) (J2 e):Int)<p.n))=true)∨
         ((p.rd == e.rd)=false∧(vP p e && decide ((pd R u (o.take m) (k:Int) (J2 e):Int)<p.n))=false)∨
         ((p.rd == e.rd)=true∧fS p (J2 e)=false∧(vP p e && decide ((pd R u (o.take m) (k:Int) (J2 e):Int)<p.n))=false)∨
         ((p.rd == e.rd)=true∧fS p (J2 e)=true∧decide ((pd R u (o.take m) (k:Int) (J2 e):Int)<p.n)=false∧(vP p e && decide ((pd R u (o.take m) (k:Int) (J2 e):Int)<p.n))=false):=by
         rw[Hvp.out];by_cases h1:p.rd=e.rd
         ·cases h2:fS p (J2 e)
          ·exact .inr (.inr (.inl ⟨by simpa using h1,rfl,by simp⟩))
          ·cases h3:decide ((pd R u (o.take m) (k:Int) (J2 e):Int)<p.n)
           ·exact .inr (.inr (.inr ⟨by simpa using h1,rfl,rfl,by simp⟩))
           ·exact .inl ⟨by simpa using h1,rfl,rfl,by simp[h1]⟩
         ·exact .inr (.inl ⟨by simpa using h1,by simp[h1]⟩)
        clear Hvp;obtain⟨q10,hq0⟩:=A7.refl z10.w;rw[hq0];clear hq0;rcases hcase with⟨t1,t2,t3,ht⟩|hcase
        ·rw[t2]at Hvc
         clear t2;go_wp2_with fail;refine L5 (by kernel_rfl) (by kernel_rfl) ?_;repeat(go_big_quiet_step((go_at_call 155;exact Hvc.out _)))
         refine wpQuiet_nil ?_;rintro _ ⟨z11,rfl⟩;go_upto_region 19 with fail;have hLz:=HL.out.1.to' (⟨z11,rfl⟩:∃zz:A7 z10.w,z11.w=zz.w);have hLd:J0 X0 z11.w.drew bm L:=hLz;obtain⟨w1,w2,iE,hE,hK,hS,hM,hG⟩:=AI1 hLd (k:Int) (J2 e) _ (HL.out.2 (k:Int) (J2 e) (by omega));have HM:=A3 (And.intro hM hG);have hb0:0≤(pd R u (o.take m) (k:Int) (J2 e):Int):=by omega
         have hb1:(pd R u (o.take m) (k:Int) (J2 e):Int)≤256:=by
          have h1:pd R u (o.take m) (k:Int) (J2 e)≤(o.take m).length:=List.length_filter_le _ _;have h2:(o.take m).length≤o.length:=by rw[List.length_take];omega
          omega
         have hg0:z11.w.drew.cell? ⟨gt,0,none⟩=some (.int .i64 (k:Int)):=Bt8 z11;have hg1:z11.w.drew.cell? ⟨gt,1,none⟩=some (.int .i64 (J2 e)):=Bt9 z11;have oF:(Instr.lookup 256 (.map (some bm)) (.agg #[.int .i64 (k:Int),.int .i64 (J2 e)]) false).run Tryz.prog z11.w.drew= .ok (.int .i64 (pd R u (o.take m) (k:Int) (J2 e):Int)) z11.w.drew:=by
          obtain⟨zz,hzz⟩:=z11.drew;rw[hzz];exact hlk zz
         clear hLz hLd hM hG;have hpd:(pd R u (o.take m) (k:Int) (J2 e):Int)=(pd R u (o.take m) (k:Int) (J2 e):Nat):=rfl;obtain⟨y11,h11⟩:∃y:A7 W,z11.w.drew=y.w:=by
          obtain⟨zz,hzz⟩:=z11.drew;rw[hzz];exact A7.up xZ.out zz
         have HV:=A3 (HU9.out.to (show∃zz:A7 z10.w,z11.w.drew=zz.w from z11.drew));rw[h11]at HM HV;obtain⟨y12,h12⟩:=y11.grown HM.out.2 (fun j hj=>by cases hj;have:=Hg1.out;have:=Hg2.out;omega);have jO:=HV.out.bump (by omega) HM.out.1 HM.out.2 HL.out.2;have iN:bF w2 g0 g1 bm R.length o (fun j=>if j=i then(k0:Int)else if j∈o.take m then u j else 0) R (bT u i (k:Int)) (o.take (m+1)):=⟨jO.1,jO.2.1,jO.2.2 _ _ (fun k' d' hk'=>by
          rw[tU HO.out Hi.out,He.out];by_cases hkd:(k:Int)=k'∧J2 e=d'
          ·obtain⟨rfl,rfl⟩:=hkd;simp
          ·rw[if_neg hkd,if_neg (fun hh=>hkd (by simp at hh;exact⟨hh.1.symm,hh.2.symm⟩))];simp)⟩
         subst h12;have BB2:=A3 iN;have hTk:=A3 (show(k:Int)=r9 lp (D3 R i) (bR R u (D3 R i)) by
          have hc:∀j:Int,bR R u (D3 R i) j=pd R u (o.take m) j (J2 e):=fun j=>by rw[Ac2 HO.out Hid.out Hi.out,He.out]
          rw[He.out]at hc⊢;exact(AG9 hkl (by rw[hc,Hpe.out];exact ht) (fun j hj=>by rw[hc];exact Hno.out j hj)).symm)
         have kc12:=iN.out.c i hir;have kf12:=iN.out.f i hir;obtain⟨y13,h13⟩:=y12.set ⟨g1,i,none⟩ Hg1.out (.int .i64 (k:Int));have At4:=A3 ((iN.set (f':=fun j=>if j∈o.take (m+1)then bT u i (k:Int) j else 0) hir Hne.out (k:Int) (by rw[HO.out.take_next Hi.out,mF];simp) (fun j _ hj=>by rw[HO.out.take_next Hi.out,kI _ _ _ hj];simp[hj])));rw[h13]at At4;clear iN jO HV HM h11 ht hpd hb0;go_region
         go_upto_region 20 with fail;clear hE hK hS hg0 hg1 oF hlk;go_wp2_with fail;go_roundw
         case rel=>exact⟨m+1,bT u i (k:Int),y13,by omega,by go_num,rfl,At4.out,tV HO.out Hi.out HD.out hTk.out⟩
         case measure=>simp[intOf]<;>omega
        ·have HF:=A3 (show(vP p e && decide ((pd R u (o.take m) (k:Int) (J2 e):Int)<p.n))=false by
          rcases hcase with⟨_,h⟩|⟨_,_,h⟩|⟨_,_,_,h⟩<;>exact h)
         have lG:=A3 (show∀j,j<k+1→(vP (N4 lp j) e && decide ((pd R u (o.take m) (j:Int) (J2 e):Int)<(N4 lp j).n))=false from fun j hj=>by
          by_cases hjk:j=k
          ·subst hjk;rw[Hpe.out];exact HF.out
          ·exact Hno.out j (by omega))
         clear HF Hno HL;rcases hcase with⟨t1,-⟩|⟨t1,t2,-⟩|⟨t1,t2,t3,-⟩
         all_goals
          try rw[t2]at Hvc
          go_wp2_with fail;refine L5 (by kernel_rfl) (by kernel_rfl) ?_;repeat(go_big_quiet_step((go_at_call 155;exact Hvc.out _)))
          refine wpQuiet_nil ?_;rintro _ ⟨z11,rfl⟩;replace HU9:=A3 (HU9.out.to ⟨z11,rfl⟩);obtain⟨y11,h11⟩:=A7.up xZ.out z11;rw[h11]at HU9⊢;have As2:=A3 (show bD y11.w gr e by
           rw[←h11];obtain⟨zz,hzz⟩:=z10.trans z11;rw[hzz];exact HB.out.since zz)
          clear hlk Hvc HB pa0 pa1 pa2 pa3 pa4 pa5 ra1 xZ h11;by_cases hlast:k+1=lp.length
          ·have hlb:((k:Int) == (lp.length:Int)-1)=true:=by simp;omega
           have kc11:=HU9.out.out.c i hir;have kf11:=HU9.out.out.f i hir;obtain⟨y12,h12⟩:=y11.set ⟨g1,i,none⟩ Hg1.out (.int .i64 (-1));have iN:=A3 (HU9.out.set (f':=fun j=>if j=i then(if k+1<lp.length then(k0:Int)else -1)else if j∈o.take m then u j else 0) hir Hne.out (-1) (by rw[if_pos rfl,if_neg (by omega)]) (fun j _ hj=>by simp[hj]));have jO:=A3 (show bD (y11.w.setCell ⟨g1,i,none⟩ (.int .i64 (-1))) gr e from As2.out.setOther _ (fun hh=>by have h9:g1=gr:=hh;have:=Hlm.out;omega) _);rw[h12]at iN jO;go_wp2_with fail;go_roundw
           case rel=>exact⟨k+1,y12,by omega,by omega,by go_num,rfl,iN.out,jO.out,lG.out⟩
           case measure=>simp[intOf]<;>omega
          ·have hlb:((k:Int) == (lp.length:Int)-1)=false:=by simp;omega
           go_wp2_with fail;go_roundw
           case rel=>
            refine⟨k+1,y11,by omega,by omega,by go_num,rfl,?_,As2.out,lG.out⟩;rw[if_pos (show k+1<lp.length by omega)];exact HU9.out
           case measure=>simp[intOf]<;>omega
       ·obtain rfl:k=lp.length:=by omega
        rw[if_neg hkl]at HU;have xV:=A3 (show(-1:Int)=r9 lp (D3 R i) (bR R u (D3 R i)) by
         have hc:∀j:Int,bR R u (D3 R i) j=pd R u (o.take m) j (J2 e):=fun j=>by rw[Ac2 HO.out Hid.out Hi.out,He.out]
         rw[He.out]at hc⊢;exact(Ab1 fun j hj=>by rw[hc];exact Hno.out j hj).symm)
        have HU9:=A3 (HU.out.next HO.out Hi.out (-1) (fun j=>rfl) (fun k' d hk=>by rw[tU HO.out Hi.out,if_neg (by omega),Nat.add_zero]));clear HU HB Hno;go_wp2_with fail;go_roundw
        case rel=>exact⟨m+1,bT u i (-1),y8,by omega,by go_num,rfl,HU9.out,tV HO.out Hi.out HD.out xV.out⟩
        case measure=>simp[intOf]<;>omega
    ·obtain rfl:m=R.length:=by omega
     go_wp2_with fail;go_ret;obtain⟨yy,hyy⟩:=Hup.out y;refine⟨some ⟨g1,0,none⟩,R.length,yy,u,rfl,hyy,AH7 HO.out HD.out,?_⟩;rw[←hyy];intro i hi;have hc:=HU.out.out.c i hi;rw[if_pos (by rw[List.take_of_length_le (by rw[HO.out.len];exact Nat.le_refl _)];exact HO.out.perm.mem_iff.2 (List.mem_range.2 hi))]at hc;exact⟨g1,0,rfl,HU.out.out.lt,by rw[Nat.zero_add];exact hc⟩
end
section
open Go.RowKit
structure mH (lp:List J1) (R:List A9) (us:List Int):Prop where
 ok:Z9 lp R=0→us.length=R.length∧dX lp R (B0 us)
 no:Z9 lp R≠0→us=[]
theorem fU (u:Nat→Int) (n i:Nat) (hi:i<n):B0 ((List.range n).map u) i=u i:=by
 unfold B0;rw[A6,List.getElem?_map,List.getElem?_range hi];rfl
theorem dX.congr {lp:List J1} {R:List A9} {u v:Nat→Int} (h:dX lp R u) (he:∀i,i<R.length→u i=v i):dX lp R v:=fun i hi=>by
 rw[←he i hi,h i hi];exact tL fun k _ =>tM (fun j hj _ =>he j hj) _
theorem mH.of {lp:List J1} {R:List A9} {u:Nat→Int} (he:Z9 lp R=0) (h:dX lp R u):mH lp R ((List.range R.length).map u):=
 ⟨fun _ =>⟨by simp,h.congr fun i hi=>(fU u _ i hi).symm⟩,fun hn=>(hn he).elim⟩
theorem N0.congr {w:World} {a:Option Addr} {n:Nat} {f f':Nat→Value} (h:N0 w a n f) (he:∀i,i<n→f i=f' i):N0 w a n f':=fun i hi=>by
 obtain⟨b,off,ha,hb,hc⟩:=h i hi;exact⟨b,off,ha,hb,by rw[hc,he i hi]⟩
theorem pB {r:A9} (h:J9 r=0):i9 r=true:=by
 unfold J9 at h
 cases hr:i9 r
 ·rw[hr]at h;simp at h
 ·rfl
theorem pC {r:A9} (h:i9 r=true):1≤r.id∧r.id≤1000000∧0≤r.rd∧r.rd≤127∧0≤r.s0∧r.s0≤r.s1∧r.s1≤4294943999∧0≤r.e0∧r.e0≤r.e1∧r.e1≤4294943999:=by
 unfold i9 dW at h;simp only[Bool.and_eq_true,decide_eq_true_eq,fP]at h;omega
theorem AI4 {l:List A9} (h:fR l=0):∀r∈l,J9 r=0:=by
 intro r hr;unfold fR at h
 cases hf:l.find? (fun r=>J9 r != 0)with
 |none=>
  rw[List.find?_eq_none]at hf
  simpa using hf r hr
 |some x=>
  rw[hf]at h
  have:=List.find?_some hf
  simp at this
  exact(this h).elim
theorem mI {R:List A9} (h:U9 R=0):R.length≤256∧(R.map fun r:A9=>r.id).Nodup∧∀r∈R,J9 r=0:=by
 unfold U9 at h;by_cases h1:256<R.length
 ·rw[if_pos h1]at h;cases h
 ·rw[if_neg h1]at h
  by_cases h2:fR R=0
  ·rw[if_neg (by simpa using h2)]at h
   rcases tG (R.map fun r:A9=>r.id)with⟨hd,_⟩|⟨_,hn⟩
   ·rw[hd]at h;simp at h
   ·exact⟨by omega,hn,AI4 h2⟩
  ·rw[if_pos h2]at h;exact(h2 h).elim
theorem AI5 {lp:List J1} {R:List A9} (h:Z9 lp R=0):W0 lp=0∧U9 R=0:=by
 unfold Z9 at h;by_cases h1:W0 lp=0
 ·rw[if_neg (by simpa using h1)]at h;exact⟨h1,h⟩
 ·rw[if_pos h1]at h;exact(h1 h).elim
theorem AI6 {lp:List J1} (h:W0 lp=0):lp.length≤64∧(∀p∈lp,dC p=true)∧(lp.map (·.id)).Nodup:=by
 unfold W0 at h;by_cases h1:64<lp.length
 ·rw[if_pos h1]at h;cases h
 ·rw[if_neg h1]at h
  cases h2:lp.all dC
  ·rw[h2]at h;simp at h
  ·rw[h2]at h
   rcases tG (lp.map (·.id))with⟨hd,_⟩|⟨_,hn⟩
   ·rw[hd]at h;simp at h
   ·exact⟨by omega,List.all_eq_true.1 h2,hn⟩
theorem AI7 {R:List A9} (h:U9 R=0):∀r∈R,0≤r.s0∧r.s0≤4294943999:=fun r hr=>by
 have:=pC (pB ((mI h).2.2 r hr));omega
def pD (w:World) (lp:List J1) (R:List A9) (o:Ending) (w':World):Prop:=
 ∃(a:Option Addr) (cap:Nat) (us:List Int) (y:A7 w),o= .returned (.tuple #[.slice a us.length cap,.int .i64 (Z9 lp R)])∧w'=y.w∧S9 y.w a us∧mH lp R us
theorem AI8 (w:World) (x:A7 w) (pa:Option Addr) (lp:List J1) (pc:Nat) (a:Option Addr) (R:List A9) (c:Nat) (hp:kG w pa lp) (hpl:lp.length≤9223372036854775807) (h:bQ w a R) (hl:R.length≤9223372036854775807):
 Calls Tryz.prog 53 #[.slice pa lp.length pc,.slice a R.length c] x.w (pD w lp R):=by
 have Hc:=A3 (fun y:A7 w=>AH2 w y pa lp pc a R c hp hpl h hl);by_cases hz:Z9 lp R=0
 ·obtain⟨hz1,hz2⟩:=AI5 hz
  have Hu:=A3 (fun y:A7 w=>AI3 w y pa lp pc a R c hp (AI6 hz1).1 h (mI hz2).1 (mI hz2).2.1 (AI7 hz2));have Hz:=A3 hz;rw[hz]at Hc;clear hp h hz hz1 hz2;go_enter Tryz.func53,Tryz.ntmps53;go_wp2_with fail;refine(Hc.out _).mono ?_;rintro _ _ ⟨rfl,y1,rfl⟩;go_wp2_with fail;refine(Hu.out _).mono ?_;rintro _ _ ⟨a2,cap,y2,u,rfl,rfl,hU,hR⟩;have HU:=A3 hU;have HR:=A3 hR;clear hU hR;go_wp2_with fail;go_ret2
  refine⟨a2,cap,(List.range R.length).map u,y2,?_,rfl,?_,mH.of Hz.out HU.out⟩
  ·rw[Hz.out,List.length_map,List.length_range];rfl
  ·rw[S9,List.length_map,List.length_range]
   exact HR.out.congr fun i hi=>by rw[fU u _ i hi]
 ·have hzb:(Z9 lp R != 0)=true:=by simpa using hz
  have Hn:=A3 (show mH lp R []from⟨fun h=>(hz h).elim,fun _ =>rfl⟩);clear hp h hz;have bK:=A3 (show∀(y:A7 w),pD w lp R (.returned (.tuple #[.slice none 0 0,.int .i64 (Z9 lp R)])) y.w from fun y=>⟨none,0,[],y,rfl,rfl,fun i hi=>by simp at hi,Hn.out⟩);generalize pD w lp R=PO at *;generalize Z9 lp R=ue at *;go_enter Tryz.func53,Tryz.ntmps53;go_wp2_with fail;refine(Hc.out _).mono ?_;rintro _ _ ⟨rfl,y1,rfl⟩;go_wp2_with fail;exact bK.out y1
end
end Go.Proofs.YtmmlmhnjjfnpnaaGreat
