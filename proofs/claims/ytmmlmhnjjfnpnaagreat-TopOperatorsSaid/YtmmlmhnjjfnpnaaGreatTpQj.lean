/- Texts that belong together. -/
import Derived.Test.YtmmlmhnjjfnpnaaGreatTpQd
import Derived.Test.YtmmlmhnjjfnpnaaGreatTpQf
import Derived.Test.YtmmlmhnjjfnpnaaGreatTpQi
import Derived.Test.YtmmlmhnjjfnpnaaGreatProg
import Derived.Shelf.Lay
import Derived.Shelf.SlGeneric
import Derived.Shelf.SlSortCmp.NoneTotal
import Derived.Shelf.SlicesQ.IndexFunc
import Derived.Ground.SlsfProg
import Derived.Ground.SlgfProg
import Derived.Deep.RegionHeld3
import Derived.OwnWalk
set_option linter.all false
namespace Go.Proofs.YtmmlmhnjjfnpnaaGreat
set_option maxRecDepth 200000
set_option maxHeartbeats 64000000
section
open Go.Shelf Go.RowKit Go.Lib Go.Sort
def Tryz.sortWin_ren:Go.Shelf.Ren:=⟨fun|6=>133|15=>101|14=>191|28=>149|29=>150|20=>215|21=>216|22=>217|23=>218|24=>219|25=>220|26=>221|27=>222|46=>236|47=>202|48=>203|49=>237|50=>238|57=>244|n=>n,fun|22=>110|24=>156|25=>240|3=>3|39=>202|0=>0|53=>253|55=>255|4=>4|46=>247|45=>246|50=>230|5=>5|9=>9|66=>300|70=>304|76=>319|77=>206|n=>n,fun|n=>n⟩
theorem Tryz.sortWin:Go.Proofs.SlLaysF0.n6 Tryz.prog Tryz.sortWin_ren:={mixed:=by kernel_rfl,f6:=⟨Tryz.f133.name,by decide,Tryz.func133.trans (congrArg some (by kernel_rfl))⟩,f14:=⟨Tryz.f191.name,by decide,Tryz.func191.trans (congrArg some (by kernel_rfl))⟩,f15:=Tryz.func101.trans (congrArg some (by kernel_rfl)),f20:=⟨Tryz.f215.name,by decide,Tryz.func215.trans (congrArg some (by kernel_rfl))⟩,f21:=⟨Tryz.f216.name,by decide,Tryz.func216.trans (congrArg some (by kernel_rfl))⟩,f22:=⟨Tryz.f217.name,by decide,Tryz.func217.trans (congrArg some (by kernel_rfl))⟩,f23:=⟨Tryz.f218.name,by decide,Tryz.func218.trans (congrArg some (by kernel_rfl))⟩,f24:=⟨Tryz.f219.name,by decide,Tryz.func219.trans (congrArg some (by kernel_rfl))⟩,f25:=⟨Tryz.f220.name,by decide,Tryz.func220.trans (congrArg some (by kernel_rfl))⟩,f26:=⟨Tryz.f221.name,by decide,Tryz.func221.trans (congrArg some (by kernel_rfl))⟩,f27:=⟨Tryz.f222.name,by decide,Tryz.func222.trans (congrArg some (by kernel_rfl))⟩,f28:=Tryz.func149.trans (congrArg some (by kernel_rfl)),f29:=Tryz.func150.trans (congrArg some (by kernel_rfl)),f46:=⟨Tryz.f236.name,by decide,Tryz.func236.trans (congrArg some (by kernel_rfl))⟩,f47:=Tryz.func202.trans (congrArg some (by kernel_rfl)),f48:=Tryz.func203.trans (congrArg some (by kernel_rfl)),f49:=⟨Tryz.f237.name,by decide,Tryz.func237.trans (congrArg some (by kernel_rfl))⟩,f50:=⟨Tryz.f238.name,by decide,Tryz.func238.trans (congrArg some (by kernel_rfl))⟩,f57:=⟨Tryz.f244.name,by decide,Tryz.func244.trans (congrArg some (by kernel_rfl))⟩,t0:=Tryz.underlying0,a0:=Tryz.isAgg0,z0:=Tryz.sizeOf0,v0:=Tryz.zeroValue0,t3:=Tryz.underlying3,a3:=Tryz.isAgg3,z3:=Tryz.sizeOf3,v3:=Tryz.zeroValue3,t4:=Tryz.underlying4,a4:=Tryz.isAgg4,z4:=Tryz.sizeOf4,v4:=Tryz.zeroValue4,t5:=Tryz.underlying5,a5:=Tryz.isAgg5,z5:=Tryz.sizeOf5,v5:=Tryz.zeroValue5,t9:=Tryz.underlying9,a9:=Tryz.isAgg9,z9:=Tryz.sizeOf9,v9:=Tryz.zeroValue9,t22:=Tryz.underlying110,a22:=Tryz.isAgg110,z22:=Tryz.sizeOf110,v22:=Tryz.zeroValue110,t25:=Tryz.underlying240,a25:=Tryz.isAgg240,z25:=Tryz.sizeOf240,v25:=Tryz.zeroValue240,t39:=Tryz.underlying202,a39:=Tryz.isAgg202,z39:=Tryz.sizeOf202,v39:=Tryz.zeroValue202,t45:=Tryz.underlying246,a45:=Tryz.isAgg246,z45:=Tryz.sizeOf246,v45:=Tryz.zeroValue246,t46:=Tryz.underlying247,a46:=Tryz.isAgg247,z46:=Tryz.sizeOf247,v46:=Tryz.zeroValue247,t50:=Tryz.underlying230,a50:=Tryz.isAgg230,z50:=Tryz.sizeOf230,v50:=Tryz.zeroValue230,t53:=Tryz.underlying253,a53:=Tryz.isAgg253,z53:=Tryz.sizeOf253,v53:=Tryz.zeroValue253,t55:=Tryz.underlying255,a55:=Tryz.isAgg255,z55:=Tryz.sizeOf255,v55:=Tryz.zeroValue255,t66:=Tryz.underlying300,a66:=Tryz.isAgg300,z66:=Tryz.sizeOf300,v66:=Tryz.zeroValue300,t70:=Tryz.underlying304,a70:=Tryz.isAgg304,z70:=Tryz.sizeOf304,v70:=Tryz.zeroValue304,t76:=Tryz.underlying319,a76:=Tryz.isAgg319,z76:=Tryz.sizeOf319,v76:=Tryz.zeroValue319,t77:=Tryz.underlying206,a77:=Tryz.isAgg206,z77:=Tryz.sizeOf206,v77:=Tryz.zeroValue206}
def Tryz.idxWin_ren:Go.Shelf.Ren:=⟨fun|6=>190|n=>n,fun|22=>110|23=>156|25=>238|3=>3|0=>0|4=>4|n=>n,fun|n=>n⟩
theorem Tryz.idxWin:Go.Proofs.SlLaysH0.n6 Tryz.prog Tryz.idxWin_ren:={mixed:=by kernel_rfl,f6:=⟨Tryz.f190.name,by decide,Tryz.func190.trans (congrArg some (by kernel_rfl))⟩,t0:=Tryz.underlying0,a0:=Tryz.isAgg0,z0:=Tryz.sizeOf0,v0:=Tryz.zeroValue0,t3:=Tryz.underlying3,a3:=Tryz.isAgg3,z3:=Tryz.sizeOf3,v3:=Tryz.zeroValue3,t4:=Tryz.underlying4,a4:=Tryz.isAgg4,z4:=Tryz.sizeOf4,v4:=Tryz.zeroValue4,t22:=Tryz.underlying110,a22:=Tryz.isAgg110,z22:=Tryz.sizeOf110,v22:=Tryz.zeroValue110,t25:=Tryz.underlying238,a25:=Tryz.isAgg238,z25:=Tryz.sizeOf238,v25:=Tryz.zeroValue238}
end
section
open Go.RowKit Go.Sort Go.Shelf Go.Lib
theorem AI9 (w:World) (x:A7 w) (e:B3):
 Calls Tryz.prog 132 #[.agg #[.int .i64 e.f,.int .i64 e.t]] x.w fun o w'=>o= .returned (.bool (X3 e))∧∃y:A7 w,w'=y.w:=by
 have HG:=A3 (gP e);go_enter Tryz.func132,Tryz.ntmps132;go_upto_region 1 with fail;obtain⟨W,bx,y0,hW,hbx,-,B8,Hup,Hbx,HB0⟩:=K7 x [.int .i64 e.f,.int .i64 e.t] 156;rw[hW,hbx];clear hW hbx;obtain⟨D9,E7,hf0⟩:=p8 HB0;clear HB0;clear B8 hf0;rcases(by omega:e.f<0∨(0≤e.f∧e.t<e.f)∨(0≤e.f∧e.f≤e.t∧4294944000<e.t)∨(0≤e.f∧e.f≤e.t∧e.t≤4294944000))with h|⟨h,h'⟩|⟨h,h',h''⟩|⟨h,h',h''⟩
 case inr.inr.inr=>
  have Hr:=A3 (show X3 e=true from HG.out.2 (by omega));clear HG;go_wp2_with fail;go_ret;exact⟨I1 (by first|exact Hr.out.symm|(rw[Hr.out];simp;omega)),Hup.out _⟩
 all_goals
  have Hr:=A3 (show X3 e=false by
   cases hg:X3 e
   ·rfl
   ·have:=HG.out.1 hg;omega)
  clear HG;go_wp2_with fail;go_ret;exact⟨I1 (by first|exact Hr.out.symm|(rw[Hr.out];simp;omega)),Hup.out _⟩
theorem AJ0 (w:World) (x:A7 w) (e:B3):
 Calls Tryz.prog 131 #[.agg #[.int .i64 e.f,.int .i64 e.t]] x.w fun o w'=>o= .returned (.bool (!X3 e))∧∃y:A7 w,w'=y.w:=by
 go_enter Tryz.func131,Tryz.ntmps131;go_upto_region 1 with fail;obtain⟨W,bx,y0,hW,hbx,-,B8,Hup,Hbx,HB0⟩:=K7 x [.int .i64 e.f,.int .i64 e.t] 156;rw[hW,hbx];clear hW hbx;obtain⟨D9,E7,hf0⟩:=p8 HB0;clear HB0;clear B8 hf0;have Hc:=A3 (fun y:A7 W=>AI9 W y e)
 cases hv:X3 e;all_goals
  have Hv:=A3 hv;rw[hv]at Hc;clear hv;go_wp2_with(go_at_call 132;((with_reducible refine(Hc.out _).mono ?_);rintro _ _ ⟨rfl,y1,rfl⟩));go_ret;exact⟨I1 (by rw[Hv.out];rfl),Hup.out _⟩
def gU (a b:B3):Int:=R9 a.f b.f
theorem AJ1 (a b:B3) (w:World):Calls Tryz.prog 134 #[.agg #[.int .i64 a.f,.int .i64 a.t],.agg #[.int .i64 b.f,.int .i64 b.t]] w fun e w'=>e= .returned (.int .i64 (gU a b))∧Gr w w':=by
 have Hv:=A3 (show gU a b=R9 a.f b.f from rfl);have Hg:=A3 ((Gr.alloc w (.cells #[.int .i64 a.f,.int .i64 a.t] 156)).trans (Gr.alloc _ (.cells #[.int .i64 b.f,.int .i64 b.t] 156)));go_enter Tryz.func134,Tryz.ntmps134;go_wp2_with(go_at_call 34;refine(fT _ _ _).mono ?_;rintro _ _ ⟨rfl,rfl⟩);go_ret;exact⟨D5 Hv.out.symm,Hg.out⟩
theorem Ac4:ltOf gU=fun a b:B3=>decide (a.f<b.f):=by
 funext a b;show decide (gU a b<0)= _;unfold gU R9;rw[decide_eq_decide];split
 ·omega
 ·split<;>omega
theorem AJ2:SWO (ltOf gU):=by
 rw[Ac4];refine⟨fun x=>by simp,fun x y z h1 h2=>?_,fun x y z h1 h2=>?_⟩
 ·simp at h1 h2⊢;omega
 ·simp at h1 h2⊢;omega
end
section
open Go.RowKit Go.Sort Go.Shelf Go.Lib
theorem AJ3:∀(l:List B3) (i:Int),0≤i→(0≤Lib.idxBy (fun _ (y:B3)=>!X3 y) l default↔L4 l=true):=by
 intro l _ _;have hb:∀j,j<l.length→l[j]! =l.getD j default:=fun j hj=>by
  rw[getElem!_pos l j hj,A6,A4 hj];rfl
 by_cases hbad:L4 l=true
 ·refine⟨fun _ =>hbad,fun _ =>?_⟩
  have:∀n,n≤l.length→(∃k:Nat,k<n∧X3 (l.getD k default)=false∧∀j,j<k→X3 (l.getD j default)=true)∨∀j,j<n→X3 (l.getD j default)=true:=by
   intro n;induction n with
   |zero=>intro _;exact .inr fun j hj=>by omega
   |succ n ih=>
    intro hn
    rcases ih (by omega)with⟨k,h1,h2,h3⟩|h
    ·exact .inl ⟨k,by omega,h2,h3⟩
    ·cases hv:X3 (l.getD n default)
     ·exact .inl ⟨n,by omega,hv,h⟩
     ·exact .inr fun j hj=>by
       by_cases hjn:j<n
       ·exact h j hjn
       ·obtain rfl:j=n:=by omega
        exact hv
  rcases this l.length (Nat.le_refl _)with⟨k,h1,h2,h3⟩|h
  ·have:=Lib.idxBy_hit (fun _ (y:B3)=>!X3 y) l l.length k default h1 (Nat.le_refl _) (by rw[hb k h1,h2];rfl) (fun j hj=>by rw[hb j (by omega),h3 j hj];rfl)
   rw[List.take_length]at this;rw[this];omega
  ·exfalso
   have:L4 l=false:=iW.2 fun x hx=>by
    obtain⟨j,hj⟩:=List.mem_iff_getElem?.1 hx;have:=h j (A5 hj).1;rw[A6,hj]at this;exact this
   rw[this]at hbad;cases hbad
 ·have hf:L4 l=false:=by cases h:L4 l;rfl;exact(hbad h).elim
  have:=Lib.idxBy_miss (fun _ (y:B3)=>!X3 y) l l.length default (fun j hj=>by
   rw[hb j hj,iW.1 hf _ (by rw[A6,A4 hj];exact List.getElem_mem _)];rfl)
  rw[List.take_length]at this;rw[this,hf];simp
def pE (l:List B3):Int:=Lib.idxBy (fun _ (y:B3)=>!X3 y) l default
theorem AJ4 (w:World) (x:A7 w) (pa:Option Addr) (lp:List B3) (pc:Nat) (hp:Q7 w pa lp) (hpl:lp.length≤9223372036854775807):
 Calls Tryz.prog 190 #[.slice pa lp.length pc,.func (.func 131) #[] #[]] x.w fun o w'=>o= .returned (.int .i64 (pE lp))∧∃y:A7 w,w'=y.w:=by
 by_cases hn:lp.length=0
 ·have hl:lp=[]:=List.eq_nil_of_length_eq_zero hn
  subst hl;have Hi:=A3 (show pE []= -1 from rfl);clear hn hp;go_enter Tryz.func190,Tryz.ntmps190;go_wp2_with fail;go_loopw [8] (fun i wr=>i= .int .i64 0∧wr=x.w) (fun _ _ =>0)
  case atStart=>exact⟨rfl,rfl⟩
  case round=>
   obtain⟨rfl,rfl⟩:=hrel;go_wp2_with fail;go_ret;exact⟨D5 Hi.out.symm,_,rfl⟩
 ·have eg:∀args w,(callFunc 131 args).run Tryz.prog w= .ok (.enter 131 args) w:=enters_of Tryz.func131 (by kernel_rfl) rfl
  obtain⟨e0,he0⟩:∃e,lp[0]? =some e:=⟨_,A4 (by omega)⟩
  obtain⟨b,off,rfl,hb,_⟩:=A7.els hp x 0 e0 he0;have hc:=AnyQ.slices_IndexFunc Tryz.idxWin 2 Tryz.isAgg156 Tryz.sizeOf156 B3.cs B3.len (fun p=>!X3 p) 131 #[] eg b off lp.length pc lp x.w (fun W p hW=>by
   obtain⟨y,hy⟩:=x.step hW;subst hy;refine(AJ0 x.w ⟨_,hW⟩ p).mono ?_;rintro _ w' ⟨rfl,z,rfl⟩;exact⟨rfl,z.b⟩) (Nat.le_refl _) hpl hb (fun j hj i v hv=>by
   rw[getElem!_pos lp j hj]at hv;obtain⟨b',off',he,_,hcell⟩:=A7.els hp x j _ (A4 hj);simp at he;obtain⟨rfl,rfl⟩:=he;exact hcell i v hv)
  change Calls Tryz.prog 190 _ _ _ at hc;refine hc.mono ?_;rintro _ w' ⟨rfl,hb⟩;obtain⟨y,rfl⟩:=x.step hb;refine⟨?_,y,rfl⟩;rw[List.take_length];rfl
theorem AJ5 (w:World) (x:A7 w) (pa:Option Addr) (lp:List B3) (pc:Nat) (hp:Q7 w pa lp) (hpl:lp.length≤9223372036854775807):
 Calls Tryz.prog 130 #[.slice pa lp.length pc,.func (.func 131) #[] #[]] x.w fun o w'=>o= .returned (.bool (L4 lp))∧∃y:A7 w,w'=y.w:=by
 have Hc:=A3 (AJ4 w x pa lp pc hp hpl);have Hi:=A3 (show 0≤pE lp↔L4 lp=true from AJ3 lp 0 (by omega));generalize pE lp=i at *;by_cases h:0≤i
 ·have Hr:=A3 (Hi.out.1 h)
  go_enter Tryz.func130,Tryz.ntmps130;go_wp2_with fail;refine Hc.out.mono ?_;rintro _ _ ⟨rfl,y1,rfl⟩;go_wp2_with fail;go_ret;exact⟨I1 (by first|exact Hr.out.symm|(rw[Hr.out];simp;omega)),_,rfl⟩
 ·have Hr:=A3 (show L4 lp=false by cases hb:L4 lp;rfl;exact(h (Hi.out.2 hb)).elim)
  have h':i<0:=by omega
  clear h;go_enter Tryz.func130,Tryz.ntmps130;go_wp2_with fail;refine Hc.out.mono ?_;rintro _ _ ⟨rfl,y1,rfl⟩;go_wp2_with fail;go_ret;exact⟨I1 (by first|exact Hr.out.symm|(rw[Hr.out];simp;omega)),_,rfl⟩
def AJ6 (w:World) (v:Value) (l:List B3) (e:Ending) (w':World):Prop:=
 e= .returned (.tuple #[])∧w.grownBy w' v.ownBlock∧∃a cap l',v= .slice a l.length cap∧l.length≤cap∧l'.Perm l∧l'.Pairwise (fun x y:B3=>x.f≤y.f)∧Q7 w' a l'
theorem AJ7 (w:World) (base:Nat) (v:Value) (n:Nat) (l:List B3) (hown:w.ownsRow base 156 2 v n (B4 B3.cs l)) (hl:l.length<4611686018427387904):
 Calls Tryz.prog 133 #[v,.func (.func 134) #[] #[]] w (AJ6 w v l):=by
 obtain⟨rfl,a,cap,rfl,hcap,hels,hbase,hblk⟩:=O9 B3.len (by decide) hown;by_cases h0:l.length=0
 ·have hl0:l=[]:=List.eq_nil_of_length_eq_zero h0
  subst hl0;have hc:=AnyF.slices_SortFunc_none {Tryz.sortWin with} a cap (.func (.func 134) #[] #[]) w;change Calls Tryz.prog 133 _ _ _ at hc;refine hc.mono ?_;rintro _ _ ⟨rfl,rfl⟩;exact⟨rfl,World.grownBy.refl _ _,a,cap,[],rfl,hcap,.nil,.nil,fL _ _⟩
 ·obtain⟨x,hx⟩:∃x,l[0]? =some x:=⟨l[0]'(by omega),A4 (by omega)⟩
  obtain⟨g,off,ha,hg,_⟩:=hels 0 x hx;subst ha;obtain rfl:off=0:=by
   obtain⟨_,⟨hbad,_⟩|⟨g',cap',cur,he,_⟩⟩:=hown
   ·cases hbad
   ·simp at he;exact he.1.2
  have hH:=kE (l:=l) B3.len (by decide) hown;have eg:∀args w,(callFunc 134 args).run Tryz.prog w= .ok (.enter 134 args) w:=enters_of Tryz.func134 (by kernel_rfl) rfl;have hcmp:CmpLays Tryz.prog 134 #[] B3.cs 2 gU g 0 l.toArray.size w:=fun m os dk _ u v=>by
   have:=AJ1 u v (sortWorldK B3.cs 2 w g 0 m dk os);exact this
  have hc:=AnyQ.slices_SortFunc Tryz.sortWin 2 Tryz.isAgg156 Tryz.sizeOf156 B3.cs B3.len eU gU AJ2 134 #[] g 0 cap l.toArray w eg hcmp hH hg (by simpa using hl);change Calls Tryz.prog 133 _ _ _ at hc;refine hc.mono ?_;rintro _ _ ⟨rfl,d',n,os,hP,hS,rfl⟩;obtain⟨hsz,_,hperm⟩:=hP;have hh:=holdsK_sortWorldK_c B3.cs 2 w g 0 l.toArray d' n os hH hg hsz;have hsz':d'.size=l.length:=by simpa using hsz
  refine⟨rfl,kD _ _ _ _ _ _ _,_,cap,d'.toList,rfl,hcap,?_,?_,AE8 B3.len hh (Nat.lt_of_lt_of_le hg (kD _ _ _ _ _ _ _).size)⟩
  ·have h1:(d'.extract 0 l.toArray.size)=d':=by rw[←hsz];exact Array.extract_size
   have h2:(l.toArray.extract 0 l.toArray.size)=l.toArray:=Array.extract_size;rw[h1,h2]at hperm;simpa using hperm
  ·rw[List.pairwise_iff_getElem]
   intro i j hi hj hij;have hi':i<d'.size:=by simpa using hi
   have hj':j<d'.size:=by simpa using hj
   have:=hS i j (Nat.zero_le _) hij (by simp;omega);rw[Ac4,getElem!_pos d' j hj',getElem!_pos d' i hi']at this;simp at this;simpa using this
end
section
open Go.RowKit
theorem eV:M6 Tryz.prog 110 156 (.agg #[.int .i64 0,.int .i64 0]) 2 16:=M6.mk' Tryz.underlying110 (by kernel_rfl) rfl (by decide)
def j3 (l:List B3):Int:=if L4 l then 1 else 0
structure eW (l u:List B3):Prop where
 ok:L4 l=false→X8 u (E3 l)
 no:L4 l=true→u=[]
 n:u.length≤l.length
def O3 (w:World) (Q:List B3→Prop) (e:Int) (o:Ending) (w':World):Prop:=
 ∃(a:Option Addr) (cap:Nat) (u:List B3) (y:A7 w),o= .returned (.tuple #[.slice a u.length cap,.int .i64 e])∧w'=y.w∧Q7 y.w a u∧u.length≤cap∧Q u
theorem mJ {w:World} {Q:List B3→Prop} {e:Int} (h:Q []) (y:A7 w):O3 w Q e (.returned (.tuple #[.slice none 0 0,.int .i64 e])) y.w:=⟨none,0,[],y,rfl,rfl,fL _ _,Nat.le_refl _,h⟩
theorem AJ8 (o:List B3) (l:B3) (t:Int):(B4 B3.cs (o ++ [l])).set (o.length*2+1) (.int .i64 t)=B4 B3.cs (o ++ [⟨l.f,t⟩]):=by
 rw[U6,U6,Y1,Y1];have hl:(B4 B3.cs o).length=o.length*2:=U7 B3.len o;rw[List.set_append_right _ _ (by omega),hl,show o.length*2+1-o.length*2=1 by omega];rfl
theorem AJ9 {α:Type} {l:List α} (h:l≠[]):∃o x,l=o ++ [x]:=⟨l.dropLast,l.getLast h,(List.dropLast_concat_getLast h).symm⟩
theorem tX (w:World) (x:A7 w) (a:Option Addr) (l:List B3) (c:Nat) (h:Q7 w a l) (hl:l.length≤100000):
 Calls Tryz.prog 88 #[.slice a l.length c] x.w (O3 w (eW l) (j3 l)):=by
 have HL:=A3 h;clear h;obtain⟨i0,hi0,hz0,hsz0,gK⟩:=eV.e;go_enter Tryz.func88,Tryz.ntmps88;go_wp2_with(at_make;refine wpList_make_full _ rfl _ _ 110 rfl w.heap.size 156 i0 (.agg #[.int .i64 0,.int .i64 0]) 2 Tryz.underlying110 hi0 hz0 hsz0 .i64 .i64 (l.length:Int) (l.length:Int) l.length rfl rfl rfl rfl (by rw[gK];omega) (by unfold maxLen;omega) x.b.size ?_;intro w1 hown hg1);obtain⟨y1,hy1⟩:=x.grown hg1 (fun k hk=>by cases hk);subst hy1;have I5:=A3 hown;have Hgs:=A3 x.b.size;clear hown hg1;generalize x.w.heap.size=g0 at *;obtain⟨q1,hcp,hown2,hg2⟩:=yR (P:=Tryz.prog) y1 B3.len (by decide) eU 110 3 w.heap.size (Nat.le_refl _) 156 (.agg #[.int .i64 0,.int .i64 0]) 16 eV (.slice (some ⟨g0,0,none⟩) l.length l.length) l.length _ I5.out a l c (A7.els HL.out y1) rfl;have W6:=A3 hown2;clear I5 hown2 hg2;go_upto_region 3 with fail;rw[hcp];go_upto_region 3 with fail;clear hcp hi0 hz0 hsz0 gK;obtain⟨_,a1,c1,hv1,hc1,he1,_,_⟩:=O9 B3.len (by decide) W6.out;obtain⟨rfl,rfl⟩:a1=some ⟨g0,0,none⟩∧c1=l.length:=by simp at hv1;exact⟨hv1.1.symm,hv1.2.symm⟩
 have At6:=A3 (AJ5 q1.w (A7.self _) (some ⟨g0,0,none⟩) l l.length he1 (by omega));have Hue:=A3 (show j3 l=if L4 l then 1 else 0 from rfl);clear hv1 hc1 he1;have Hst:=A3 (fun q:A7 q1.w=>q1.trans q);go_wp2_with fail;refine At6.out.mono ?_;rintro _ _ ⟨rfl,z1,rfl⟩;clear At6;have aX:=A3 (J8 W6.out ⟨z1,rfl⟩);obtain⟨y2,h2⟩:=Hst.out z1;rw[h2]at aX⊢;clear h2 Hst W6
 cases hb:L4 l with
 |true=>
  have HP:=A3 (show O3 w (eW l) (j3 l) (.returned (.tuple #[.slice none 0 0,.int .i64 1])) y2.w by
   rw[Hue.out,hb];exact mJ ⟨fun h=>by rw[hb]at h;(cases h),fun _ =>rfl,by simp⟩ y2)
  generalize O3 w (eW l) (j3 l)=PO at *
  clear hb Hue
  go_wp2_with fail
  exact HP.out
 |false=>
  have HP:=A3 (show∀(a:Option Addr) (cap:Nat) (u:List B3) (y:A7 w),Q7 y.w a u→u.length≤cap→X8 u (E3 l)→u.length≤l.length→O3 w (eW l) (j3 l) (.returned (.tuple #[.slice a u.length cap,.int .i64 0])) y.w from fun a cap u y h1 h2 h3 h4=>by
   rw[Hue.out,hb];exact⟨a,cap,u,y,rfl,rfl,h1,h2,⟨fun _ =>h3,fun h=>by rw[hb]at h;(cases h),h4⟩⟩)
  have rU:=A3 (iW.1 hb)
  generalize O3 w (eW l) (j3 l)=PO at *
  clear hb Hue
  go_wp2_with fail
  refine(AJ7 y2.w w.heap.size _ l.length l aX.out (by omega)).mono ?_
  rintro _ w3 ⟨rfl,hg,a3,c3,s,hv3,hc3,hp3,hs3,he3⟩
  obtain⟨rfl,rfl⟩:a3=some ⟨g0,0,none⟩∧c3=l.length:=by simp at hv3;exact⟨hv3.1.symm,hv3.2.symm⟩
  have hHg:=Hgs.out
  obtain⟨y3,rfl⟩:=y2.grown hg (fun k hk=>by simp[Value.ownBlock]at hk;omega)
  have HS:=A3 he3
  have Hp:=A3 hp3
  have Hsl:=A3 (show s.length=l.length from hp3.length_eq)
  have Hss:=A3 hs3
  clear hg hv3 hc3 hp3 hs3 he3 aX hHg
  obtain⟨n,hn⟩:∃n,n=l.length:=⟨_,rfl⟩
  rw[←hn]
  have Hn:=A3 hn
  have hn2:n≤100000:=by omega
  clear hn
  go_wp2_with fail
  go_loopw [5,21] (fun v i wr=>∃(k:Nat) (out:List B3) (y:A7 y3.w),k≤n∧i= .int .i64 k∧wr=y.w∧y.w.ownsRow y3.w.heap.size 156 2 v out.length (B4 B3.cs out)∧bC (s.take k) out∧out.length≤k) (fun _ i _ =>n-(intOf i).toNat)
  case atStart=>exact⟨0,[],A7.self _,by omega,rfl,rfl,⟨rfl,.inl ⟨rfl,rfl⟩⟩,by rw[List.take_zero];exact AF7,by simp⟩
  case round=>
   obtain⟨k,out,y,hk,rfl,rfl,hown,hM,hok⟩:=hrel;have I5:=A3 hown;have HM:=A3 hM;clear hown hM;by_cases hlt:k<n
   ·obtain⟨e,he⟩:∃e,s[k]? =some e:=⟨_,A4 (by have:=Hsl.out;have:=Hn.out;omega)⟩
    have hk0:(0:Int)≤(k:Int):=by omega
    have hkl:(k:Int)<(n:Int):=by omega
    obtain⟨b1,off1,hbo,h1'⟩:=D0.win HS.out he;simp only[Option.some.injEq,Addr.mk.injEq,and_true]at hbo;obtain⟨rfl,rfl⟩:=hbo;have ra0:=h1'.c0;have ra1:=h1'.c1;simp only[Nat.zero_add]at ra0 ra1;have Htk:=A3 (show s.take (k+1)=s.take k ++ [e] by rw[List.take_add_one,he];rfl);have Hev:=A3 (rU.out e (Hp.out.mem_iff.1 (A0 he)));obtain⟨ev1,ev2,ev3⟩:=(gP e).1 Hev.out;have Aw1:=A3 (show∀x∈s.take k,x.f≤e.f from fun x hx=>by
     obtain⟨j,hj⟩:=List.mem_iff_getElem?.1 hx;rw[List.getElem?_take]at hj;split at hj
     ·have h1:=A5 hj
      have h2:=A5 he;have:=List.pairwise_iff_getElem.1 Hss.out j k h1.1 h2.1 (by omega);rw[h1.2,h2.2]at this;exact this
     ·cases hj)
    clear h1' he;go_upto_region 10 with fail;obtain⟨y5,e2,C9,hsz0,hlt0,HX0⟩:=L8 y [.int .i64 e.f,.int .i64 e.t] 156;rw[e2];obtain⟨hx0,hx1,hxf⟩:=aC HX0;(replace I5:=A3 (J8 I5.out C9))
    clear e2 C9;generalize y.w.heap.size=gw at *;obtain⟨E6,G9,I3⟩:=p8 HX0;have I9:=A3 (And.intro hsz0 hlt0);clear hlt0 hsz0 HX0;clear hx0 hx1 hxf ra0 ra1;by_cases hee:e.f=e.t
    ·have heb:(e.f == e.t)=true:=by simpa using hee
     have HM2:=A3 (show bC (s.take (k+1)) out by rw[Htk.out];exact HM.out.skip hee);clear hee HM;have hol:((out.length:Nat):Int)≤100000:=by omega
     obtain⟨hlen,a5,c5,rfl,_⟩:=O9 B3.len (by decide) I5.out;obtain⟨q5,hq0⟩:=A7.refl y5.w;rw[hq0];clear hq0;go_wp2_with fail;obtain⟨y6,h6⟩:=y5.trans q5;have Y0:=A3 (J8 I5.out ⟨q5,rfl⟩);rw[h6]at Y0⊢;go_roundw
     case rel=>exact⟨k+1,out,y6,by omega,by go_num,rfl,Y0.out,HM2.out,by omega⟩
     case measure=>simp[intOf]<;>omega
    ·have heb:(e.f == e.t)=false:=by simpa using hee
     have hlt2:e.f<e.t:=by omega
     clear hee;by_cases hoe:out=[]
     ·subst hoe
      have HM2:=A3 (show bC (s.take (k+1)) ([] ++ [e]) by rw[Htk.out];exact HM.out.new Hev.out hlt2 (fun v hv=>by cases hv));clear HM;obtain⟨_,a5,c5,hv5,_⟩:=O9 B3.len (by decide) I5.out;have hv5':u5= .slice a5 0 c5:=hv5;subst hv5';clear hv5;obtain⟨q5,hq0⟩:=A7.refl y5.w;rw[hq0];clear hq0;go_wp2_with fail;refine L5 (by kernel_rfl) (by kernel_rfl) ?_;repeat(go_big_quiet_step(fail))
      refine wpQuiet_nil ?_;rintro _ ⟨z,rfl⟩;go_wp2_with(at_builtin;(refine fM (w0:=y3.w) ?hw rfl _ _ 110 rfl y3.w.heap.size (Nat.le_refl _) ?hb 156 (.agg #[.int .i64 0,.int .i64 0]) 16 eV (.slice a5 0 c5) 0 (B4 B3.cs []) rfl ?hown ⟨z.w.heap.size,0,none⟩ 1 1 e.cs rfl rfl ?hc (eU e) ?h63 ?hbytes ?_;rotate_right 1;intro v2 q2 hown4 _ hg4))
      case hw=>obtain⟨yz,hyz⟩:=y5.trans z;rw[hyz];exact A8.alloc (A8.of yz) _
      case hb=>have:=y5.b.size;have:=z.b.size;simp;omega
      case hown=>exact J8 (J8 I5.out ⟨z,rfl⟩) (A8.alloc (A8.self _) _)
      case hc=>exact Z6 z.w e.cs _
      case h63=>unfold maxLen;omega
      case hbytes=>omega
      rw[←Y1 B3.cs e,←U6]at hown4;have V8:=A3 hown4;clear hown4 hg4;go_wp2_with fail;go_roundw
      case rel=>exact⟨k+1,[] ++ [e],q2,by omega,by go_num,rfl,by rw[List.length_append,List.length_singleton];exact V8.out,HM2.out,by(try simp at *)<;>omega⟩
      case measure=>simp[intOf]<;>omega
     ·obtain⟨o,lw,rfl⟩:=AJ9 hoe
      clear hoe;have hm:(o ++ [lw]).length=o.length+1:=by simp
      rw[hm]at I5 hok;obtain⟨g5,c5,rfl,hg5,hc5⟩:=eQ I5.out (by omega);obtain⟨kl,fl,_⟩:=P6 I5.out (H7 B3.len (o ++ [lw]) o.length lw 1 (.int .i64 lw.t) (by simp) rfl);have hm0:(0:Int)≤(o.length:Int):=by omega
      have hmb:decide (0≤(o.length:Int))=true:=decide_eq_true hm0;have hm1:(o.length:Int)≤100000:=by omega
      have hlf:=HM.out.b e.f Aw1.out lw (by simp);by_cases hle:e.f≤lw.t
      ·have oE:decide (e.f≤lw.t)=true:=decide_eq_true hle
       have HM2:=A3 (show bC (s.take (k+1)) (o ++ [⟨lw.f,max lw.t e.t⟩]) by rw[Htk.out];exact HM.out.join Hev.out hlf hle Aw1.out);clear hle hlf HM;obtain⟨q5,hq0⟩:=A7.refl y5.w;rw[hq0];clear hq0;go_wp2_with fail;refine L5 (by kernel_rfl) (by kernel_rfl) ?_;repeat(go_big_quiet_step(fail))
       refine wpQuiet_nil ?_;rintro _ ⟨z,rfl⟩;go_upto_region 14 with fail;have kl2:=A7.cellTo (⟨z,rfl⟩:∃zz:A7 y5.w,z.w=zz.w) kl;have ke2:=A7.cellTo (⟨z,rfl⟩:∃zz:A7 y5.w,z.w=zz.w) G9;have fl2:∀q:A7 z.w,q.w.frozen? ⟨g5,o.length*2+1,none⟩=false:=fun q=>by
        obtain⟨u,hu⟩:=z.trans q;rw[hu];exact fl u
       have Y0:=A3 (J8 I5.out (⟨z,rfl⟩:∃zz:A7 y5.w,z.w=zz.w));obtain⟨yz,hyz⟩:=y5.trans z;have Hyz:=A3 hyz;clear kl fl E6 G9 I3 hyz;refine AD4 (fun w'=>∃q:A7 (z.w),w'=q.w) [] [0,1,2,3,4,5,6,7,8,9,10,11] 12 (by kernel_rfl) (by kernel_rfl) (fun _ _ _ _ _ h=>h) (A7.drawn _) ?_;simp only[List.nil_append,zR,AD3,List.getD_cons_zero,List.getD_cons_succ];repeat(go_big_quiet_step(fail))
       refine wpQuiet_nil ?_;rintro _ ⟨q,rfl⟩;simp only[List.drop_succ_cons,List.drop_zero];obtain⟨z2,hz2⟩:=z.trans q;obtain⟨yq,hyq⟩:=y5.trans z2;have yM:=iR (J8 Y0.out (⟨q,rfl⟩:∃zz:A7 z.w,q.w=zz.w)) (j:=o.length*2+1) (by rw[U7 B3.len];simp;omega) (.int .i64 (max lw.t e.t));rw[AJ8]at yM;have eL:=A3 yM;obtain⟨y6,h6⟩:=yq.set ⟨g5,o.length*2+1,none⟩ (by show _≤g5;exact hg5) (.int .i64 (max lw.t e.t));rw[←hyq,←hz2]at h6;have H6:=A3 h6;clear yM h6 hz2 hyq;go_wp2_with fail;go_roundw
       case rel=>exact⟨k+1,o ++ [⟨lw.f,max lw.t e.t⟩],y6,by omega,by go_num,H6.out,by rw[←H6.out,show(o ++ [(⟨lw.f,max lw.t e.t⟩:B3)]).length=o.length+1 by simp];exact eL.out,HM2.out,by simp;omega⟩
       case measure=>simp[intOf]<;>omega
      ·have oE:decide (e.f≤lw.t)=false:=decide_eq_false hle
       have HM2:=A3 (show bC (s.take (k+1)) ((o ++ [lw]) ++ [e]) by rw[Htk.out];exact HM.out.new Hev.out hlt2 (AF8 HM.out.n (by omega)));clear hle hlf HM;obtain⟨q5,hq0⟩:=A7.refl y5.w;rw[hq0];clear hq0;go_wp2_with fail;refine L5 (by kernel_rfl) (by kernel_rfl) ?_;repeat(go_big_quiet_step(fail))
       refine wpQuiet_nil ?_;rintro _ ⟨z,rfl⟩;go_wp2_with(at_builtin;(refine fM (w0:=y3.w) ?hw rfl _ _ 110 rfl y3.w.heap.size (Nat.le_refl _) ?hb 156 (.agg #[.int .i64 0,.int .i64 0]) 16 eV (.slice (some ⟨g5,0,none⟩) (o.length+1) c5) (o.length+1) (B4 B3.cs (o ++ [lw])) rfl ?hown ⟨z.w.heap.size,0,none⟩ 1 1 e.cs rfl rfl ?hc (eU e) ?h63 ?hbytes ?_;rotate_right 1;intro v2 q2 hown4 _ hg4))
       case hw=>obtain⟨yz,hyz⟩:=y5.trans z;rw[hyz];exact A8.alloc (A8.of yz) _
       case hb=>have:=y5.b.size;have:=z.b.size;simp;omega
       case hown=>exact J8 (J8 I5.out ⟨z,rfl⟩) (A8.alloc (A8.self _) _)
       case hc=>exact Z6 z.w e.cs _
       case h63=>unfold maxLen;omega
       case hbytes=>omega
       rw[←Y1 B3.cs e,←U6]at hown4;have V8:=A3 hown4;clear hown4 hg4;go_wp2_with fail;go_roundw
       case rel=>exact⟨k+1,(o ++ [lw]) ++ [e],q2,by omega,by go_num,rfl,by rw[show((o ++ [lw]) ++ [e]).length=o.length+1+1 by simp];exact V8.out,HM2.out,by(try simp at *)<;>omega⟩
       case measure=>simp[intOf]<;>omega
   ·obtain rfl:k=n:=by omega
    have eL:=A3 (show X8 out (E3 l)from⟨HM.out.n,fun t=>by
     rw[HM.out.h,List.take_of_length_le (by have:=Hsl.out;have:=Hn.out;omega)];exact AF6 Hp.out t⟩)
    obtain⟨hlen,a5,c5,rfl,hc5,he5,_,_⟩:=O9 B3.len (by decide) I5.out;obtain⟨y5,h5⟩:=y3.trans y;have H5:=A3 (HP.out a5 c5 out y5 (h5 ▸ he5) hc5 eL.out (by have:=Hn.out;omega));rw[h5];clear hlen hc5 he5 h5;go_wp2_with fail;exact H5.out
end
section
open Go.RowKit
theorem AK0 (W:World) (u v:Value) (T:TypeId):∃y:A7 W,(W.alloc (.cells #[u,v] T)).drew=y.w∧(∀q:A7 y.w,q.w.cell? ⟨W.heap.size,0,none⟩=some u)∧(∀q:A7 y.w,q.w.cell? ⟨W.heap.size,1,none⟩=some v):=by
 have h0:(W.alloc (.cells #[u,v] T)).drew.cell? ⟨W.heap.size,0,none⟩=some u:=by simp[go_sem]
 have h1:(W.alloc (.cells #[u,v] T)).drew.cell? ⟨W.heap.size,1,none⟩=some v:=by simp[go_sem]
 have hl:W.heap.size<(W.alloc (.cells #[u,v] T)).drew.heap.size:=by simp
 obtain⟨y,hy⟩:=A8.drew' (A8.alloc (A8.self W) (.cells #[u,v] T));rw[hy]at h0 h1 hl;exact⟨y,hy,fun q=>A7.cell h0 hl q,fun q=>A7.cell h1 hl q⟩
def setE (a b:List B3):Int:=if L4 a || L4 b then 1 else 0
structure AK1 (a b u v:List B3):Prop where
 ok:(L4 a || L4 b)=false→X8 u (E3 a)∧X8 v (E3 b)
 no:(L4 a || L4 b)=true→u=[]∧v=[]
 n:u.length≤a.length∧v.length≤b.length
def pF (w:World) (a b:List B3) (o:Ending) (w':World):Prop:=
 ∃(ax:Option Addr) (cx:Nat) (u:List B3) (ay:Option Addr) (cy:Nat) (v:List B3) (y:A7 w),o= .returned (.tuple #[.slice ax u.length cx,.slice ay v.length cy,.int .i64 (setE a b)])∧w'=y.w∧Q7 y.w ax u∧Q7 y.w ay v∧u.length≤cx∧v.length≤cy∧AK1 a b u v
theorem Ac5 (w:World) (x:A7 w) (pa:Option Addr) (a:List B3) (ca:Nat) (pb:Option Addr) (b:List B3) (cb:Nat) (ha:Q7 w pa a) (hb:Q7 w pb b) (hla:a.length≤100000) (hlb:b.length≤100000):
 Calls Tryz.prog 129 #[.slice pa a.length ca,.slice pb b.length cb] x.w (pF w a b):=by
 have HA:=A3 (tX w x pa a ca ha hla);have HB:=A3 (fun y:A7 w=>tX y.w (A7.self _) pb b cb (A7.els hb y) hlb);have Hno:=A3 (show∀y:A7 w,(L4 a || L4 b)=true→pF w a b (.returned (.tuple #[.slice none 0 0,.slice none 0 0,.int .i64 1])) y.w from fun y h=>
  ⟨none,0,[],none,0,[],y,by unfold setE;rw[h];rfl,rfl,fL _ _,fL _ _,Nat.le_refl _,Nat.le_refl _,⟨fun h'=>by rw[h]at h';(cases h'),fun _ =>⟨rfl,rfl⟩,by simp,by simp⟩⟩)
 clear ha hb
 cases hba:L4 a with
 |true=>
  have H1:=A3 (fun y:A7 w=>Hno.out y (by rw[hba];rfl))
  have Hu:=A3 (show j3 a=1 by unfold j3;rw[hba];rfl)
  generalize pF w a b=PO at *
  clear hba Hno HB
  go_enter Tryz.func129,Tryz.ntmps129
  go_wp2_with fail
  refine HA.out.mono ?_
  rintro _ _ ⟨ax,cx,u,y1,rfl,rfl,_,_,_⟩
  rw[Hu.out]
  go_wp2_with fail
  go_ret3
  exact H1.out y1
 |false=>
  have Hu:=A3 (show j3 a=0 by unfold j3;rw[hba];rfl)
  cases hbb:L4 b with
  |true=>
   have H1:=A3 (fun y:A7 w=>Hno.out y (by rw[hbb];simp))
   have Hv:=A3 (show j3 b=1 by unfold j3;rw[hbb];rfl)
   generalize pF w a b=PO at *
   clear hba hbb Hno
   go_enter Tryz.func129,Tryz.ntmps129
   go_wp2_with fail
   refine HA.out.mono ?_
   rintro _ _ ⟨ax,cx,u,y1,rfl,rfl,_,_,_⟩
   rw[Hu.out]
   go_wp2_with fail
   refine(HB.out y1).mono ?_
   rintro _ _ ⟨ay,cy,v,z1,rfl,rfl,_,_,_⟩
   obtain⟨y2,h2⟩:=y1.trans z1
   rw[Hv.out,h2]
   clear h2
   go_wp2_with fail
   go_ret3
   exact H1.out y2
  |false=>
   have Hv:=A3 (show j3 b=0 by unfold j3;rw[hbb];rfl)
   have Hb0:=A3 (And.intro hba hbb)
   have Hse:=A3 (show setE a b=0 by unfold setE;rw[hba,hbb];rfl)
   clear hba hbb Hno
   go_enter Tryz.func129,Tryz.ntmps129
   go_wp2_with fail
   refine HA.out.mono ?_
   rintro _ _ ⟨ax,cx,u,y1,rfl,rfl,hu1,hu2,hu3⟩
   have HU:=A3 (And.intro hu1 (And.intro hu2 hu3))
   clear hu1 hu2 hu3
   rw[Hu.out]
   go_wp2_with fail
   refine(HB.out y1).mono ?_
   rintro _ _ ⟨ay,cy,v,z1,rfl,rfl,hv1,hv2,hv3⟩
   have HV:=A3 (And.intro hv1 (And.intro hv2 hv3))
   have HU1:=A3 (A7.els HU.out.1 z1)
   clear hv1 hv2 hv3
   obtain⟨y2,h2⟩:=y1.trans z1
   rw[h2]at HV HU1
   rw[Hv.out,h2]
   clear h2
   go_wp2_with fail
   go_ret3
   exact⟨ax,cx,u,ay,cy,v,y2,by rw[Hse.out];rfl,rfl,HU1.out,HV.out.1,HU.out.2.1,HV.out.2.1,⟨fun _ =>⟨HU.out.2.2.ok Hb0.out.1,HV.out.2.2.ok Hb0.out.2⟩,fun h=>by rw[Hb0.out.1,Hb0.out.2]at h;(cases h),HU.out.2.2.n,HV.out.2.2.n⟩⟩
structure gV (a b c:List B3):Prop where
 ok:(L4 a || L4 b)=false→X8 c (fun t=>E3 a t && E3 b t)
 no:(L4 a || L4 b)=true→c=[]
 n:c.length≤a.length+b.length
theorem AK2 (w:World) (x:A7 w) (pa:Option Addr) (a:List B3) (ca:Nat) (pb:Option Addr) (b:List B3) (cb:Nat) (ha:Q7 w pa a) (hb:Q7 w pb b) (hla:a.length≤100000) (hlb:b.length≤100000):
 Calls Tryz.prog 86 #[.slice pa a.length ca,.slice pb b.length cb] x.w (O3 w (gV a b) (setE a b)):=by
 have HB:=A3 (Ac5 w x pa a ca pb b cb ha hb hla hlb);have Hse:=A3 (show setE a b=if L4 a || L4 b then 1 else 0 from rfl);clear ha hb
 cases hbd:L4 a || L4 b with
 |true=>
  have H1:=A3 (show∀y:A7 w,O3 w (gV a b) (setE a b) (.returned (.tuple #[.slice none 0 0,.int .i64 1])) y.w from fun y=>by
   rw[Hse.out,hbd];exact mJ ⟨fun h=>by rw[hbd]at h;(cases h),fun _ =>rfl,by simp⟩ y)
  rw[hbd]at Hse
  generalize O3 w (gV a b) (setE a b)=PO at *
  clear hbd
  go_enter Tryz.func86,Tryz.ntmps86
  go_wp2_with fail
  refine HB.out.mono ?_
  rintro _ _ ⟨ax,cx,u,ay,cy,v,y1,rfl,rfl,_⟩
  rw[Hse.out]
  go_wp2_with fail
  exact H1.out y1
 |false=>
  have HP:=A3 (show∀(p:Option Addr) (cap:Nat) (u:List B3) (y:A7 w),Q7 y.w p u→u.length≤cap→X8 u (fun t=>E3 a t && E3 b t)→u.length≤a.length+b.length→O3 w (gV a b) (setE a b) (.returned (.tuple #[.slice p u.length cap,.int .i64 0])) y.w from fun p cap u y h1 h2 h3 h4=>by
   rw[Hse.out,hbd];exact⟨p,cap,u,y,rfl,rfl,h1,h2,⟨fun _ =>h3,fun h=>by rw[hbd]at h;(cases h),h4⟩⟩)
  have Hbd:=A3 hbd
  rw[hbd]at Hse
  generalize O3 w (gV a b) (setE a b)=PO at *
  clear hbd
  go_enter Tryz.func86,Tryz.ntmps86
  go_wp2_with fail
  refine HB.out.mono ?_
  rintro _ _ ⟨ax,cx,U,ay,cy,V,y1,rfl,rfl,hU,hV,hcx,hcy,hB⟩
  obtain⟨hsU,hsV⟩:=hB.ok Hbd.out
  have hlU:=hB.n.1
  have hlV:=hB.n.2
  have Hst:=A3 (show cQ U V U V []from AG1 hsU.n hsV.n)
  have nS:=A3 (And.intro hsU.h hsV.h)
  have HU0:=A3 hU;have HV0:=A3 hV
  obtain⟨N,hN⟩:∃N,N=U.length+V.length:=⟨_,rfl⟩
  have HN:=A3 hN
  rw[Hse.out]
  clear hB hsU hsV hU hV hN
  go_wp2_with fail
  go_loopw [6,7,9] (fun sx sy so wr=>∃(p:Option Addr) (nx dx:Nat) (q:Option Addr) (ny dy:Nat) (xs ys out:List B3) (y:A7 y1.w),sx= .slice p nx dx∧nx=xs.length∧nx≤dx∧sy= .slice q ny dy∧ny=ys.length∧ny≤dy∧Q7 y1.w p xs∧Q7 y1.w q ys∧wr=y.w∧y.w.ownsRow y1.w.heap.size 156 2 so out.length (B4 B3.cs out)∧cQ U V xs ys out∧out.length+nx+ny≤N) (fun sx sy _ _ =>(match sx,sy with| .slice _ m _,.slice _ k _ =>m+k| _,_ =>0))
  case atStart=>exact⟨ax,U.length,cx,ay,V.length,cy,U,V,[],A7.self _,rfl,rfl,hcx,rfl,rfl,hcy,HU0.out,HV0.out,rfl,⟨rfl,.inl ⟨rfl,rfl⟩⟩,Hst.out,by have:=HN.out;simp;omega⟩
  case round=>
   clear Hst HU0 HV0 hcx hcy;obtain⟨p,nx,dx,q,ny,dy,xs,ys,out,y,rfl,hnx,hdx,rfl,hny,hdy,hxs,hys,rfl,hown,hC,hlen⟩:=hrel;have Hnx:=A3 hnx;have Hny:=A3 hny;have Hxs:=A3 hxs;have Hys:=A3 hys;have I5:=A3 hown;have HC:=A3 hC;have hNb:N≤200000:=by have:=HN.out;omega
   clear hnx hny hxs hys hown hC;by_cases h0:0<nx∧0<ny
   ·obtain⟨h1,h2⟩:=h0
    obtain⟨ea,xs',rfl⟩:∃e l,xs=e :: l:=by
     cases xs with
     |nil=>have:=Hnx.out;simp at this;omega
     |cons e l=>exact⟨e,l,rfl⟩
    obtain⟨eb,ys',rfl⟩:∃e l,ys=e :: l:=by
     cases ys with
     |nil=>have:=Hny.out;simp at this;omega
     |cons e l=>exact⟨e,l,rfl⟩
    obtain⟨b1,off1,rfl,h1'⟩:=D0.win (A7.els Hxs.out y) (k:=0) rfl;obtain⟨b2,off2,rfl,h2'⟩:=D0.win (A7.els Hys.out y) (k:=0) rfl;have ka0:=fun w' (h:A8 y.w w')=>A8.cell h1'.c0 h;have ka1:=fun w' (h:A8 y.w w')=>A8.cell h1'.c1 h;have kb0:=fun w' (h:A8 y.w w')=>A8.cell h2'.c0 h;have kb1:=fun w' (h:A8 y.w w')=>A8.cell h2'.c1 h;simp only[Nat.zero_mul,Nat.add_zero]at ka0 ka1 kb0 kb1;clear h1' h2';have hx0:(0:Int)<(nx:Int):=by omega
    have hy0:(0:Int)<(ny:Int):=by omega
    go_upto_region 6 with fail;go_cut [10] (fun s10 wr=>∃(gw:Nat) (y5:A7 y.w),s10= .pointer (some ⟨gw,0,none⟩)∧wr=y5.w∧(∀q:A7 y5.w,q.w.cell? ⟨gw,0,none⟩=some (.int .i64 (max ea.f eb.f)))∧(∀q:A7 y5.w,q.w.cell? ⟨gw,1,none⟩=some (.int .i64 (min ea.t eb.t))))
    case first=>
     go_region_held3 (fun w'=>A8 y.w w') (first|assumption|exact A8.drew' (A8.self _)|exact A8.alloc (by assumption) _|exact A8.drew' (A8.alloc (A8.self _) _)) (fail);all_goals
      go_wp2_with fail;go_meet;obtain⟨y5,h1,h2,h3⟩:=AK0 y.w (.int .i64 (max ea.f eb.f)) (.int .i64 (min ea.t eb.t)) 156;exact⟨_,y5,rfl,h1,h2,h3⟩
    case rest=>
     obtain⟨gw,y5,rfl,rfl,E6,G9⟩:=hcut;replace I5:=A3 (J8 I5.out (⟨y5,rfl⟩:∃zz:A7 y.w,y5.w=zz.w));obtain⟨y5',h5'⟩:=y.trans y5;have H5':=A3 h5';clear h5' ka0 ka1 kb0 kb1;have hle:ea.t<eb.t∨eb.t≤ea.t:=by omega
     have At9:=A3 (show iX ea eb=⟨max ea.f eb.f,min ea.t eb.t⟩from rfl);generalize max ea.f eb.f=F at *;generalize min ea.t eb.t=T at *;have hol:out.length≤200000:=by omega
     have Hx1:=A3 (show nx-1=xs'.length by have:=Hnx.out;simp at this;omega);have Hy1:=A3 (show ny-1=ys'.length by have:=Hny.out;simp at this;omega);have Hxc:=A3 ((Hxs.out.cut 1 dx (by have:=Hnx.out;omega)));have Hyc:=A3 ((Hys.out.cut 1 dy (by have:=Hny.out;omega)));rw[List.drop_succ_cons,List.drop_zero]at Hxc Hyc;obtain⟨q5,hq0⟩:=A7.refl y5.w;rw[hq0];clear hq0;have hft:F<T∨¬F<T:=by omega
     rcases hft with hft|hft
     ·have Z3:=A3 (show U1 out (iX ea eb)=out ++ [⟨F,T⟩] by rw[At9.out];exact oV hft)
      go_upto_region 9 with(at_builtin;(refine fM (w0:=y1.w) ?hw rfl _ _ 110 rfl y1.w.heap.size (Nat.le_refl _) ?hb 156 (.agg #[.int .i64 0,.int .i64 0]) 16 eV u9 out.length (B4 B3.cs out) rfl ?hown ⟨q5.w.heap.size,0,none⟩ 1 1 (⟨F,T⟩:B3).cs rfl rfl ?hc (eU _) ?h63 ?hbytes ?_;rotate_right 1;intro v2 q2 hown4 _ hg4))
      case hw=>obtain⟨yz,hyz⟩:=y5.trans q5;rw[hyz];obtain⟨yq,hyq⟩:=y.trans yz;rw[hyq];exact A8.alloc (A8.of yq) _
      case hb=>have:=y.b.size;have:=y5.b.size;have:=q5.b.size;simp;omega
      case hown=>exact J8 (J8 I5.out ⟨q5,rfl⟩) (A8.alloc (A8.self _) _)
      case hc=>exact Z6 q5.w (⟨F,T⟩:B3).cs _
      case h63=>unfold maxLen;omega
      case hbytes=>omega
      rw[←Y1 B3.cs (⟨F,T⟩:B3),←U6]at hown4;have V8:=A3 (show q2.w.ownsRow y1.w.heap.size 156 2 v2 (out ++ [(⟨F,T⟩:B3)]).length (B4 B3.cs (out ++ [(⟨F,T⟩:B3)])) by rw[List.length_append,List.length_singleton];exact hown4);clear hown4 hg4 hft I5;obtain⟨b3,off3,oB,hc3⟩:=D0.win Hxs.out (k:=0) rfl;obtain⟨b4,off4,oC,hc4⟩:=D0.win Hys.out (k:=0) rfl;simp only[Option.some.injEq,Addr.mk.injEq,and_true]at oB oC;obtain⟨rfl,rfl⟩:=oB;obtain⟨rfl,rfl⟩:=oC;have ra1:=A7.cellTo (A8.of q2) hc3.c1;have rb1:=A7.cellTo (A8.of q2) hc4.c1;simp only[Nat.zero_mul,Nat.add_zero]at ra1 rb1;clear hc3 hc4 E6 G9;obtain⟨q6,hq0⟩:=A7.refl q2.w;rw[hq0];clear hq0;rcases hle with hle|hle
      ·have oE:decide (ea.t<eb.t)=true:=decide_eq_true hle
       have t8:=A3 (by have h:=HC.out.left hle;rw[Z3.out]at h;exact h);clear HC Z3 hle;go_wp2_with fail;refine L5 (by kernel_rfl) (by kernel_rfl) ?_;repeat(go_big_quiet_step(fail))
       refine wpQuiet_nil ?_;rintro _ ⟨z,rfl⟩;go_wp2_with fail;obtain⟨z2,hz2⟩:=(A8.of q2:A8 y1.w q2.w)
       have Y0:=A3 (J8 V8.out (⟨z,rfl⟩:∃zz:A7 q2.w,z.w=zz.w));obtain⟨y6,h6⟩:=q2.trans z;rw[h6]at Y0⊢;clear h6 hz2;go_roundw
       case rel=>exact⟨_,nx-1,dx-1,_,ny,dy,xs',eb :: ys',out ++ [⟨F,T⟩],y6,rfl,Hx1.out,by omega,rfl,Hny.out,hdy,Hxc.out,Hys.out,rfl,Y0.out,t8.out,by simp;omega⟩
       case measure=>simp;omega
      ·have oE:decide (ea.t<eb.t)=false:=decide_eq_false (by omega)
       have t8:=A3 (by have h:=HC.out.right hle;rw[Z3.out]at h;exact h);clear HC Z3 hle;go_wp2_with fail;refine L5 (by kernel_rfl) (by kernel_rfl) ?_;repeat(go_big_quiet_step(fail))
       refine wpQuiet_nil ?_;rintro _ ⟨z,rfl⟩;go_wp2_with fail;obtain⟨z2,hz2⟩:=(A8.of q2:A8 y1.w q2.w)
       have Y0:=A3 (J8 V8.out (⟨z,rfl⟩:∃zz:A7 q2.w,z.w=zz.w));obtain⟨y6,h6⟩:=q2.trans z;rw[h6]at Y0⊢;clear h6 hz2;go_roundw
       case rel=>exact⟨_,nx,dx,_,ny-1,dy-1,ea :: xs',ys',out ++ [⟨F,T⟩],y6,rfl,Hnx.out,hdx,rfl,Hy1.out,by omega,Hxs.out,Hyc.out,rfl,Y0.out,t8.out,by simp;omega⟩
       case measure=>simp;omega
     ·have Z3:=A3 (show U1 out (iX ea eb)=out by rw[At9.out];exact oW hft)
      go_upto_region 9 with fail;obtain⟨q1,hq1⟩:=y5.trans q5;obtain⟨q2,hq2⟩:=y.trans q1;rw[←hq1]at hq2;have V8:=A3 (J8 I5.out (⟨q5,rfl⟩:∃zz:A7 y5.w,q5.w=zz.w));rw[hq2]at V8⊢;clear hq1 hq2 hft I5;obtain⟨b3,off3,oB,hc3⟩:=D0.win Hxs.out (k:=0) rfl;obtain⟨b4,off4,oC,hc4⟩:=D0.win Hys.out (k:=0) rfl;simp only[Option.some.injEq,Addr.mk.injEq,and_true]at oB oC;obtain⟨rfl,rfl⟩:=oB;obtain⟨rfl,rfl⟩:=oC;have ra1:=A7.cellTo (A8.of q2) hc3.c1;have rb1:=A7.cellTo (A8.of q2) hc4.c1;simp only[Nat.zero_mul,Nat.add_zero]at ra1 rb1;clear hc3 hc4 E6 G9;obtain⟨q6,hq0⟩:=A7.refl q2.w;rw[hq0];clear hq0;rcases hle with hle|hle
      ·have oE:decide (ea.t<eb.t)=true:=decide_eq_true hle
       have t8:=A3 (by have h:=HC.out.left hle;rw[Z3.out]at h;exact h);clear HC Z3 hle;go_wp2_with fail;refine L5 (by kernel_rfl) (by kernel_rfl) ?_;repeat(go_big_quiet_step(fail))
       refine wpQuiet_nil ?_;rintro _ ⟨z,rfl⟩;go_wp2_with fail;obtain⟨z2,hz2⟩:=(A8.of q2:A8 y1.w q2.w)
       have Y0:=A3 (J8 V8.out (⟨z,rfl⟩:∃zz:A7 q2.w,z.w=zz.w));obtain⟨y6,h6⟩:=q2.trans z;rw[h6]at Y0⊢;clear h6 hz2;go_roundw
       case rel=>exact⟨_,nx-1,dx-1,_,ny,dy,xs',eb :: ys',out,y6,rfl,Hx1.out,by omega,rfl,Hny.out,hdy,Hxc.out,Hys.out,rfl,Y0.out,t8.out,by omega⟩
       case measure=>simp;omega
      ·have oE:decide (ea.t<eb.t)=false:=decide_eq_false (by omega)
       have t8:=A3 (by have h:=HC.out.right hle;rw[Z3.out]at h;exact h);clear HC Z3 hle;go_wp2_with fail;refine L5 (by kernel_rfl) (by kernel_rfl) ?_;repeat(go_big_quiet_step(fail))
       refine wpQuiet_nil ?_;rintro _ ⟨z,rfl⟩;go_wp2_with fail;obtain⟨z2,hz2⟩:=(A8.of q2:A8 y1.w q2.w)
       have Y0:=A3 (J8 V8.out (⟨z,rfl⟩:∃zz:A7 q2.w,z.w=zz.w));obtain⟨y6,h6⟩:=q2.trans z;rw[h6]at Y0⊢;clear h6 hz2;go_roundw
       case rel=>exact⟨_,nx,dx,_,ny-1,dy-1,ea :: xs',ys',out,y6,rfl,Hnx.out,hdx,rfl,Hy1.out,by omega,Hxs.out,Hyc.out,rfl,Y0.out,t8.out,by omega⟩
       case measure=>simp;omega
   ·have Bs5:=A3 (show X8 out (fun t=>E3 a t && E3 b t)from by
     have h9:=HC.out.done (by
      rcases(by omega:nx=0∨ny=0)with h|h
      ·left;exact List.eq_nil_of_length_eq_zero (by rw[←Hnx.out];exact h)
      ·right;exact List.eq_nil_of_length_eq_zero (by rw[←Hny.out];exact h))
     exact⟨h9.n,fun t=>by rw[h9.h];show(E3 U t && E3 V t)= _;rw[nS.out.1,nS.out.2]⟩)
    obtain⟨hlen1,a5,c5,rfl,hc5,he5,_,_⟩:=O9 B3.len (by decide) I5.out;obtain⟨y5,h5⟩:=y1.trans y;have H5:=A3 (HP.out a5 c5 out y5 (h5 ▸ he5) hc5 Bs5.out (by have:=HN.out;omega));rw[h5];clear hlen1 hc5 he5 h5;rcases(by omega:nx=0∨(0<nx∧ny=0))with h|⟨h,h'⟩
    ·subst h
     go_wp2_with fail;exact H5.out
    ·subst h'
     have hx0:(0:Int)<(nx:Int):=by omega
     go_wp2_with fail;exact H5.out
end
section
open Go.RowKit
structure gW (a b c:List B3):Prop where
 ok:(L4 a || L4 b)=false→X8 c (fun t=>E3 a t && !E3 b t)
 no:(L4 a || L4 b)=true→c=[]
 n:c.length≤a.length*(b.length+1)
theorem add_len (out:List B3) (w:B3):(U1 out w).length≤out.length+1:=by unfold U1;split<;>simp
theorem AK3 (w:World) (x:A7 w) (pa:Option Addr) (a:List B3) (ca:Nat) (pb:Option Addr) (b:List B3) (cb:Nat) (ha:Q7 w pa a) (hb:Q7 w pb b) (hla:a.length≤100000) (hlb:b.length≤100000):
 Calls Tryz.prog 84 #[.slice pa a.length ca,.slice pb b.length cb] x.w (O3 w (gW a b) (setE a b)):=by
 have HB:=A3 (Ac5 w x pa a ca pb b cb ha hb hla hlb);have Hse:=A3 (show setE a b=if L4 a || L4 b then 1 else 0 from rfl);clear ha hb
 cases hbd:L4 a || L4 b with
 |true=>
  have H1:=A3 (show∀y:A7 w,O3 w (gW a b) (setE a b) (.returned (.tuple #[.slice none 0 0,.int .i64 1])) y.w from fun y=>by
   rw[Hse.out,hbd];exact mJ ⟨fun h=>by rw[hbd]at h;(cases h),fun _ =>rfl,by simp⟩ y)
  rw[hbd]at Hse
  generalize O3 w (gW a b) (setE a b)=PO at *
  clear hbd
  go_enter Tryz.func84,Tryz.ntmps84
  go_wp2_with fail
  refine HB.out.mono ?_
  rintro _ _ ⟨ax,cx,u,ay,cy,v,y1,rfl,rfl,_⟩
  rw[Hse.out]
  go_wp2_with fail
  exact H1.out y1
 |false=>
  have HP:=A3 (show∀(p:Option Addr) (cap:Nat) (u:List B3) (y:A7 w),Q7 y.w p u→u.length≤cap→X8 u (fun t=>E3 a t && !E3 b t)→u.length≤a.length*(b.length+1)→O3 w (gW a b) (setE a b) (.returned (.tuple #[.slice p u.length cap,.int .i64 0])) y.w from fun p cap u y h1 h2 h3 h4=>by
   rw[Hse.out,hbd];exact⟨p,cap,u,y,rfl,rfl,h1,h2,⟨fun _ =>h3,fun h=>by rw[hbd]at h;(cases h),h4⟩⟩)
  have Hbd:=A3 hbd
  rw[hbd]at Hse
  generalize O3 w (gW a b) (setE a b)=PO at *
  clear hbd
  go_enter Tryz.func84,Tryz.ntmps84
  go_wp2_with fail
  refine HB.out.mono ?_
  rintro _ _ ⟨ax,cx,U,ay,cy,V,y1,rfl,rfl,hU,hV,hcx,hcy,hB⟩
  obtain⟨hsU,hsV⟩:=hB.ok Hbd.out
  have hlU:=hB.n.1
  have hlV:=hB.n.2
  have nS:=A3 (And.intro hsU.h hsV.h)
  have HnU:=A3 hsU.n;have HnV:=A3 hsV.n
  have HU0:=A3 hU;have HV0:=A3 hV
  obtain⟨nu,hnu⟩:∃nu,nu=U.length:=⟨_,rfl⟩
  obtain⟨M,hM⟩:∃M,M=V.length:=⟨_,rfl⟩
  rw[←hnu,←hM,Hse.out]
  rw[←hnu]at hlU
  rw[←hM]at hlV hcy
  have Hnu:=A3 hnu;have HM:=A3 hM
  have BD3:nu≤100000:=by omega
  have hM2:M≤100000:=by omega
  clear hB hsU hsV hU hV hnu hM hcx
  go_wp2_with fail
  go_loopw [7,9,27] (fun sy so si wr=>∃(k:Nat) (q:Option Addr) (ny dy:Nat) (yd ys out:List B3) (y:A7 y1.w),si= .int .i64 k∧k≤nu∧sy= .slice q ny dy∧ny=ys.length∧ny≤dy∧ny≤M∧V=yd ++ ys∧Q7 y1.w q ys∧wr=y.w∧y.w.ownsRow y1.w.heap.size 156 2 so out.length (B4 B3.cs out)∧mB V (U.take k) (U.drop k) out∧(∀c∈yd,∀e∈U.drop k,c.t≤e.f)∧out.length≤k*(M+1)) (fun _ _ si _ =>nu-(intOf si).toNat)
  case atStart=>exact⟨0,ay,M,cy,[],V,[],A7.self _,rfl,by omega,rfl,HM.out,hcy,Nat.le_refl _,rfl,HV0.out,rfl,⟨rfl,.inl ⟨rfl,rfl⟩⟩,AG2 V U,fun c hc=>(by cases hc),by simp⟩
  case round=>
   clear hcy;obtain⟨k,q,ny,dy,yd,ys,out,y,rfl,hk,rfl,hny,hdy,hnM,hV,hys,rfl,hown,hO,hyd,hlen⟩:=hrel;have Hny:=A3 hny;have HV:=A3 hV;have Hys:=A3 hys;have I5:=A3 hown;have HO:=A3 hO;have Hyd:=A3 hyd;clear hny hV hys hown hO hyd;by_cases hlt:k<nu
   ·obtain⟨e,he⟩:∃e,U[k]? =some e:=⟨_,A4 (by have:=Hnu.out;omega)⟩
    have hk0:(0:Int)≤(k:Int):=by omega
    have hkl:(k:Int)<(nu:Int):=by omega
    have hdk:U.drop k=e :: U.drop (k+1):=by
     have h1:=A5 he;rw[←h1.2,←List.drop_eq_getElem_cons h1.1]
    have htk:U.take (k+1)=U.take k ++ [e]:=by rw[List.take_add_one,he];rfl
    rw[hdk]at HO Hyd;have Hev:=A3 (HnU.out.v e (A0 he));have HeU:=A3 (show N3 (e :: U.drop (k+1)) by rw[←hdk];exact HnU.out.drop k);have Htk:=A3 htk;obtain⟨b1,off1,rfl,h1'⟩:=D0.win HU0.out he;have ra0:=h1'.c0;have ra1:=h1'.c1;obtain⟨KB,hKB⟩:∃KB,KB=k*(M+1):=⟨_,rfl⟩
    have BB9:KB≤10000100000:=by
     rw[hKB];calc k*(M+1)≤100000*100001:=Nat.mul_le_mul (by omega) (by omega)
      _ =10000100000:=rfl
    rw[←hKB]at hlen;have HKB:=A3 hKB;clear h1' he hdk htk hKB;go_upto_region 8 with fail;obtain⟨y5,e2,C9,hsz0,hlt0,HX0⟩:=L8 y [.int .i64 e.f,.int .i64 e.t] 156;rw[e2];obtain⟨hx0,hx1,hxf⟩:=aC HX0;(have hne:∀b,u9.ownBlock=some b→b<y.w.heap.size:=fun b hb=>(World.ownsRow.lt I5.out b hb).2;replace I5:=A3 (J8 I5.out C9))
    clear e2 C9;generalize y.w.heap.size=gw at *;obtain⟨E6,G9,I3⟩:=p8 HX0;have I9:=A3 (And.intro hsz0 hlt0);clear hlt0 hsz0 HX0;have Hbx:=A3 (⟨I9.out.2,hx0,hx1,fun b hb=>by have:=hne b hb;omega⟩:eR y5.w gw (.int .i64 e.f) (.int .i64 e.t) u9);clear hx0 hx1 hxf hne ra0 ra1;have lJ:=A3 (show∀c∈yd,c.t≤e.f from fun c hc=>Hyd.out c hc e (by simp));clear Hyd;go_loopw [7] (fun sy wr=>∃(q:Option Addr) (ny dy:Nat) (yd ys:List B3) (y6:A7 y5.w),sy= .slice q ny dy∧ny=ys.length∧ny≤dy∧ny≤M∧V=yd ++ ys∧Q7 y1.w q ys∧wr=y6.w∧(∀c∈yd,c.t≤e.f)) (fun sy _ =>(match sy with| .slice _ m _ =>m| _ =>0))
    case atStart=>exact⟨q,ny,dy,yd,ys,A7.self _,rfl,Hny.out,hdy,hnM,HV.out,Hys.out,rfl,lJ.out⟩
    case round=>
     clear Hny HV Hys lJ hdy hnM;obtain⟨q,ny,dy,yd,ys,y6,rfl,hny,hdy,hnM,hV,hys,rfl,hyd⟩:=hrel;have Hny:=A3 hny;have HV:=A3 hV;have Hys:=A3 hys;have lJ:=A3 hyd;clear hny hV hys hyd;have hhead:(∃b0 ys',ys=b0 :: ys'∧b0.t≤e.f)∨(∀b0 ys',ys=b0 :: ys'→e.f<b0.t):=by
      cases ys with
      |nil=>right;intro b0 ys' h;cases h
      |cons b0 ys'=>
       rcases(by omega:b0.t≤e.f∨e.f<b0.t)with h|h
       ·exact .inl ⟨b0,ys',rfl,h⟩
       ·right;intro b1 ys1 h1;cases h1;exact h
     rcases hhead with⟨b0,ys',rfl,hb0⟩|hstop
     ·have Bx1:decide (b0.t≤e.f)=true:=decide_eq_true hb0
      have h1:0<ny:=by have:=Hny.out;simp at this;omega
      have hx0:(0:Int)<(ny:Int):=by omega
      have Bz0:decide ((0:Int)<(ny:Int))=true:=decide_eq_true hx0;have Bz1:decide (0<ny)=true:=decide_eq_true h1;obtain⟨yz,hyz⟩:=y5.trans y6;obtain⟨b2,off2,rfl,h2'⟩:=D0.win Hys.out (k:=0) rfl;have kb1:∀q:A7 y6.w,q.w.cell? ⟨b2,off2+1,none⟩=some (.int .i64 b0.t):=fun q=>by
       obtain⟨u,hu⟩:=y6.trans q;obtain⟨u2,hu2⟩:=y5.trans u;rw[hu,hu2];have:=h2'.c1 u2;simpa using this
      have kw0:=A7.cellTo (⟨y6,rfl⟩:∃zz:A7 y5.w,y6.w=zz.w) E6;have Hx1:=A3 (show ny-1=ys'.length by have:=Hny.out;simp at this;omega);have Hxc:=A3 ((Hys.out.cut 1 dy (by have:=Hny.out;omega)));rw[List.drop_succ_cons,List.drop_zero]at Hxc;have Bw3:=A3 (show∀c∈yd ++ [b0],c.t≤e.f from fun c hc=>by
       rcases List.mem_append.1 hc with h|h
       ·exact lJ.out c h
       ·simp at h;subst h;exact hb0)
      clear h2' hyz hb0 E6 G9 I3;obtain⟨q6,hq0⟩:=A7.refl y6.w;rw[hq0];clear hq0;go_wp2_with fail;refine L5 (by kernel_rfl) (by kernel_rfl) ?_;repeat(go_big_quiet_step(fail))
      refine wpQuiet_nil ?_;rintro _ ⟨z,rfl⟩;go_wp2_with fail;obtain⟨y7,h7⟩:=y6.trans z;rw[h7];clear h7;go_roundw
      case rel=>exact⟨_,ny-1,dy-1,yd ++ [b0],ys',y7,rfl,Hx1.out,by omega,by omega,by rw[List.append_assoc];exact HV.out,Hxc.out,rfl,Bw3.out⟩
      case measure=>simp<;>omega
     ·go_upto_region 8 with fail
      go_cut [42] (fun s42 wr=>s42= .bool false∧∃z:A7 y6.w,wr=z.w)
      case first=>
       have kw0:=A7.cellTo (⟨y6,rfl⟩:∃zz:A7 y5.w,y6.w=zz.w) E6
       cases ys with
       |nil=>
        obtain rfl:ny=0:=by have:=Hny.out;simpa using this
        clear E6 G9 I3
        obtain⟨q6,hq0⟩:=A7.refl y6.w
        rw[hq0]
        clear hq0
        refine L5 (by kernel_rfl) (by kernel_rfl) ?_
        repeat(go_big_quiet_step(fail))
        refine wpQuiet_nil ?_
        rintro _ ⟨z,rfl⟩
        go_wp2_with fail
        go_meet
        exact⟨rfl,z,rfl⟩
       |cons b0 ys'=>
        have Bx1:decide (b0.t≤e.f)=false:=decide_eq_false (by have:=hstop b0 ys' rfl;omega)
        have h1:0<ny:=by have:=Hny.out;simp at this;omega
        have hx0:(0:Int)<(ny:Int):=by omega
        have Bz0:decide ((0:Int)<(ny:Int))=true:=decide_eq_true hx0
        have Bz1:decide (0<ny)=true:=decide_eq_true h1
        obtain⟨b2,off2,rfl,h2'⟩:=D0.win Hys.out (k:=0) rfl
        have kb1:∀q:A7 y6.w,q.w.cell? ⟨b2,off2+1,none⟩=some (.int .i64 b0.t):=fun q=>by
         obtain⟨u,hu⟩:=y6.trans q;obtain⟨u2,hu2⟩:=y5.trans u;rw[hu,hu2];have:=h2'.c1 u2;simpa using this
        clear h2' E6 G9 I3 hstop
        obtain⟨q6,hq0⟩:=A7.refl y6.w
        rw[hq0]
        clear hq0
        refine L5 (by kernel_rfl) (by kernel_rfl) ?_
        repeat(go_big_quiet_step(fail))
        refine wpQuiet_nil ?_
        rintro _ ⟨z,rfl⟩
        go_wp2_with fail
        go_meet
        exact⟨rfl,z,rfl⟩
      case rest=>
       obtain⟨rfl,z,rfl⟩:=hcut;clear hstop E6 G9 I3;obtain⟨y7,h7⟩:=y6.trans z;obtain⟨y8,h8⟩:=y5.trans y7;rw[←h7]at h8;have HB8:=A3 (show eR z.w gw (.int .i64 e.f) (.int .i64 e.t) u9 by rw[h7];exact Hbx.out.to ⟨y7,rfl⟩);have xS:=A3 (show z.w.ownsRow y1.w.heap.size 156 2 u9 out.length (B4 B3.cs out) by rw[h7];exact J8 I5.out ⟨y7,rfl⟩);rw[h8]at HB8 xS⊢;have kb0:=HB8.out.a0;have sE:=A3 (show∀c∈yd,∀g∈U.drop (k+1),c.t≤g.f from fun c hc g hg=>by
        have h1:=lJ.out c hc;have h2:=HeU.out.hd g hg;have h3:=Hev.out;omega)
       have HI0:=A3 (HO.out.enter Hev.out.2.1);have HP0:=A3 (show r6 e e.f (yd ++ ys.take 0)from fun c hc=>.inl (lJ.out c (by simpa using hc)));clear h7 h8 I5 Hbx HO;go_wp2_with fail;go_loopw [9,12,49] (fun so sa sj wr=>∃(j:Nat) (at_:Int) (out:List B3) (y9:A7 y1.w),sj= .int .i64 j∧j≤ny∧sa= .int .i64 at_∧wr=y9.w∧y9.w.ownsRow y1.w.heap.size 156 2 so out.length (B4 B3.cs out)∧eR y9.w gw (.int .i64 e.f) (.int .i64 e.t) so∧dB (fun t=>E3 (U.take k) t && !E3 V t) (E3 V) e at_ out∧r6 e at_ (yd ++ ys.take j)∧out.length≤KB+j) (fun _ _ sj _ =>ny-(intOf sj).toNat)
       case atStart=>exact⟨0,e.f,out,y8,rfl,by omega,rfl,rfl,xS.out,HB8.out,HI0.out,HP0.out,by omega⟩
       case round=>
        clear HB8 xS kb0 HI0 HP0;obtain⟨j,at_,out,y9,rfl,hj,rfl,rfl,hown,hbx,hI,hPs,hlen3'⟩:=hrel;have hlen3:out.length≤KB+M:=by omega
        by_cases hjn:j<ny
        ·obtain⟨b0,hb0⟩:∃b0,ys[j]? =some b0:=⟨_,A4 (by have:=Hny.out;omega)⟩
         have hj0:(0:Int)≤(j:Int):=by omega
         have hjl:(j:Int)<(ny:Int):=by omega
         have hdj:V=(yd ++ ys.take j) ++ b0 :: ys.drop (j+1):=by
          have h1:=A5 hb0;rw[HV.out,List.append_assoc,←h1.2,←List.drop_eq_getElem_cons h1.1,List.take_append_drop]
         have Htj:=A3 (show yd ++ ys.take (j+1)=(yd ++ ys.take j) ++ [b0] by rw[List.take_add_one,hb0,List.append_assoc];rfl);have hnb:N3 (b0 :: ys.drop (j+1)):=by
          have:=HnV.out;rw[hdj]at this;exact⟨fun x hx=>this.v x (List.mem_append_right _ hx),(List.pairwise_append.1 this.s).2.1⟩
         obtain⟨b2,off2,rfl,h2'⟩:=D0.win Hys.out hb0;have rh0:=h2'.c0;have rh1:=h2'.c1;have aX:=A3 hown;have HBx:=A3 hbx;have HI:=A3 hI;have HPs:=A3 hPs;have Hdj:=A3 hdj;have Hnb:=A3 hnb;clear h2' hb0 hown hbx hI hPs hdj hnb;go_upto_region 14 with fail;obtain⟨y10,e2,C9,hsz0,hlt0,HX0⟩:=L8 y9 [.int .i64 b0.f,.int .i64 b0.t] 156;rw[e2];obtain⟨hx0,hx1,hxf⟩:=aC HX0;(have hne:∀b,u9.ownBlock=some b→b<y9.w.heap.size:=fun b hb=>(World.ownsRow.lt aX.out b hb).2;replace aX:=A3 (J8 aX.out C9);replace HBx:=A3 (HBx.out.to C9))
         clear e2 C9;generalize y9.w.heap.size=gh at *;obtain⟨E6,G9,I3⟩:=p8 HX0;have I9:=A3 (And.intro hsz0 hlt0);clear hlt0 hsz0 HX0;have HGx:=A3 (⟨I9.out.2,hx0,hx1,fun b hb=>by have:=hne b hb;omega⟩:eR y10.w gh (.int .i64 b0.f) (.int .i64 b0.t) u9);have ka0:=HBx.out.a1;have kg0:=HGx.out.a0;have kg0':=HGx.out.a1;clear hx0 hx1 hxf hne rh0 rh1 E6 G9 I3;rcases(by omega:e.t≤b0.f∨b0.f<e.t)with hbr|hbr
         ·have jS:=A3 (show r6 e at_ V from fun c hc=>by
           rw[Hdj.out]at hc;rcases List.mem_append.1 hc with h|h
           ·exact HPs.out c h
           ·right
            rcases List.mem_cons.1 h with rfl|h
            ·exact hbr
            ·have:=Hnb.out.hd c h
             have:=Hnb.out.v b0 (by simp);omega)
          clear HPs Hnb HGx Htj Hdj;have Hlv:=A3 (HI.out.leave jS.out HeU.out);have kb1:=HBx.out.a1;have HLen:=A3 (add_len out ⟨at_,e.t⟩);rcases(by omega:at_<e.t∨e.t≤at_)with hat|hat
          ·have Z3:=A3 (show U1 out ⟨at_,e.t⟩=out ++ [⟨at_,e.t⟩]from oV hat)
           rw[Z3.out]at Hlv HLen;go_upto_region 21 with(at_builtin;(refine gL (w0:=y1.w) ?hw rfl _ _ 110 rfl y1.w.heap.size (Nat.le_refl _) ?hb 156 (.agg #[.int .i64 0,.int .i64 0]) 16 eV u9 out.length (B4 B3.cs out) rfl ?hown ⟨y10.w.heap.size,0,none⟩ 1 1 (⟨at_,e.t⟩:B3).cs rfl rfl ?hc (eU _) (by decide) ?h63 ?hbytes ?_;rotate_right 1;intro v2 q2 hown4 hg4 hl4))
           case hw=>exact A8.alloc (A8.of y10) _
           case hb=>have:=(A8.size (A8.of y10));simp;omega
           case hown=>exact J8 (aX.out) (A8.alloc (A8.self _) _)
           case hc=>exact Z6 y10.w (⟨at_,e.t⟩:B3).cs _
           case h63=>unfold maxLen;omega
           case hbytes=>omega
           rw[←Y1 B3.cs (⟨at_,e.t⟩:B3),←U6]at hown4;have V8:=A3 (show q2.w.ownsRow y1.w.heap.size 156 2 v2 (out ++ [(⟨at_,e.t⟩:B3)]).length (B4 B3.cs (out ++ [(⟨at_,e.t⟩:B3)])) by rw[List.length_append,List.length_singleton];exact hown4);clear hown4 hg4 hl4 hat HI jS HBx;go_wp2_with fail;go_roundw
           case rel=>exact⟨k+1,_,ny,dy,yd,ys,out ++ [⟨at_,e.t⟩],q2,by go_num,by omega,rfl,Hny.out,hdy,hnM,HV.out,Hys.out,rfl,V8.out,by rw[Htk.out];exact Hlv.out,sE.out,by have h1:=HLen.out;have h2:=HKB.out;have h3:(k+1)*(M+1)=k*(M+1)+(M+1):=Nat.succ_mul k (M+1);omega⟩
           case measure=>simp[intOf]<;>omega
          ·have Bx0:e.t≤at_:=hat
           have Z3:=A3 (show U1 out ⟨at_,e.t⟩=out from oW (by show¬at_<e.t;omega));rw[Z3.out]at Hlv;clear HI jS;go_wp2_with fail;go_roundw
           case rel=>exact⟨k+1,_,ny,dy,yd,ys,out,y10,by go_num,by omega,rfl,Hny.out,hdy,hnM,HV.out,Hys.out,rfl,aX.out,by rw[Htk.out];exact Hlv.out,sE.out,by have h2:=HKB.out;have h3:(k+1)*(M+1)=k*(M+1)+(M+1):=Nat.succ_mul k (M+1);omega⟩
           case measure=>simp[intOf]<;>omega
         ·have Hh:=A3 (show dB (fun t=>E3 (U.take k) t && !E3 V t) (E3 V) e (max at_ b0.t) (U1 out ⟨at_,b0.f⟩)∧r6 e (max at_ b0.t) (yd ++ ys.take (j+1)) by
           have hI:=HI.out;have he:=Hev.out;have key:∀W,W=(yd ++ ys.take j) ++ b0 :: ys.drop (j+1)→dB (fun t=>E3 (U.take k) t && !E3 V t) (E3 W) e at_ out→dB (fun t=>E3 (U.take k) t && !E3 V t) (E3 W) e (max at_ b0.t) (U1 out ⟨at_,b0.f⟩)∧r6 e (max at_ b0.t) ((yd ++ ys.take j) ++ [b0]):=fun W hW h=>by
            subst hW;exact h.hole HPs.out ⟨he.1,he.2.2⟩ Hnb.out hbr
           rw[Htj.out];exact key V Hdj.out hI)
          clear HI HPs Hnb Htj Hdj;rcases(by omega:at_<b0.f∨b0.f≤at_)with hat|hat
          ·have Z3:=A3 (show U1 out ⟨at_,b0.f⟩=out ++ [⟨at_,b0.f⟩]from oV hat)
           rw[Z3.out]at Hh;go_upto_region 17 with(at_builtin;(refine gL (w0:=y1.w) ?hw rfl _ _ 110 rfl y1.w.heap.size (Nat.le_refl _) ?hb 156 (.agg #[.int .i64 0,.int .i64 0]) 16 eV u9 out.length (B4 B3.cs out) rfl ?hown ⟨y10.w.heap.size,0,none⟩ 1 1 (⟨at_,b0.f⟩:B3).cs rfl rfl ?hc (eU _) (by decide) ?h63 ?hbytes ?_;rotate_right 1;intro v2 q2 hown4 hg4 hl4))
           case hw=>exact A8.alloc (A8.of y10) _
           case hb=>have:=y10.b.size;simp;omega
           case hown=>exact J8 aX.out (A8.alloc (A8.self _) _)
           case hc=>exact Z6 y10.w (⟨at_,b0.f⟩:B3).cs _
           case h63=>unfold maxLen;omega
           case hbytes=>omega
           rw[←Y1 B3.cs (⟨at_,b0.f⟩:B3),←U6]at hown4;have V8:=A3 (show q2.w.ownsRow y1.w.heap.size 156 2 v2 (out ++ [(⟨at_,b0.f⟩:B3)]).length (B4 B3.cs (out ++ [(⟨at_,b0.f⟩:B3)])) by rw[List.length_append,List.length_singleton];exact hown4);have HB4:=A3 ((HBx.out.to (A8.alloc (A8.self _) (.cells (⟨at_,b0.f⟩:B3).cs.toArray 156))).app hg4 hl4);have HG4:=A3 ((HGx.out.to (A8.alloc (A8.self _) (.cells (⟨at_,b0.f⟩:B3).cs.toArray 156))).app hg4 hl4);have kg1:=HG4.out.a1;clear hown4 hg4 hl4 HBx HGx ka0 kg0;go_wp2_with fail;go_roundw
           case rel=>exact⟨j+1,max at_ b0.t,out ++ [⟨at_,b0.f⟩],q2,by go_num,by omega,rfl,rfl,V8.out,HB4.out,Hh.out.1,Hh.out.2,by simp;omega⟩
           case measure=>simp[intOf]<;>omega
          ·have Z3:=A3 (show U1 out ⟨at_,b0.f⟩=out from oW (by show¬at_<b0.f;omega))
           rw[Z3.out]at Hh;go_wp2_with fail;go_roundw
           case rel=>exact⟨j+1,max at_ b0.t,out,y10,by go_num,by omega,rfl,rfl,aX.out,HBx.out,Hh.out.1,Hh.out.2,by omega⟩
           case measure=>simp[intOf]<;>omega
        ·obtain rfl:ny=j:=by omega
         have aX:=A3 hown;have HBx:=A3 hbx;have HI:=A3 hI;have jS:=A3 (show r6 e at_ V by
          rw[HV.out];have h:=hPs;rw[List.take_of_length_le (by have:=Hny.out;omega)]at h;exact h)
         clear hown hbx hI hPs;have Hlv:=A3 (HI.out.leave jS.out HeU.out);have kb1:=HBx.out.a1;have HLen:=A3 (add_len out ⟨at_,e.t⟩);rcases(by omega:at_<e.t∨e.t≤at_)with hat|hat
         ·have Z3:=A3 (show U1 out ⟨at_,e.t⟩=out ++ [⟨at_,e.t⟩]from oV hat)
          rw[Z3.out]at Hlv HLen;go_upto_region 21 with(at_builtin;(refine gL (w0:=y1.w) ?hw rfl _ _ 110 rfl y1.w.heap.size (Nat.le_refl _) ?hb 156 (.agg #[.int .i64 0,.int .i64 0]) 16 eV u9 out.length (B4 B3.cs out) rfl ?hown ⟨y9.w.heap.size,0,none⟩ 1 1 (⟨at_,e.t⟩:B3).cs rfl rfl ?hc (eU _) (by decide) ?h63 ?hbytes ?_;rotate_right 1;intro v2 q2 hown4 hg4 hl4))
          case hw=>exact A8.alloc (A8.of y9) _
          case hb=>have:=(A8.size (A8.of y9));simp;omega
          case hown=>exact J8 (aX.out) (A8.alloc (A8.self _) _)
          case hc=>exact Z6 y9.w (⟨at_,e.t⟩:B3).cs _
          case h63=>unfold maxLen;omega
          case hbytes=>omega
          rw[←Y1 B3.cs (⟨at_,e.t⟩:B3),←U6]at hown4;have V8:=A3 (show q2.w.ownsRow y1.w.heap.size 156 2 v2 (out ++ [(⟨at_,e.t⟩:B3)]).length (B4 B3.cs (out ++ [(⟨at_,e.t⟩:B3)])) by rw[List.length_append,List.length_singleton];exact hown4);clear hown4 hg4 hl4 hat HI jS HBx;go_wp2_with fail;go_roundw
          case rel=>exact⟨k+1,_,ny,dy,yd,ys,out ++ [⟨at_,e.t⟩],q2,by go_num,by omega,rfl,Hny.out,hdy,hnM,HV.out,Hys.out,rfl,V8.out,by rw[Htk.out];exact Hlv.out,sE.out,by have h1:=HLen.out;have h2:=HKB.out;have h3:(k+1)*(M+1)=k*(M+1)+(M+1):=Nat.succ_mul k (M+1);omega⟩
          case measure=>simp[intOf]<;>omega
         ·have Bx0:e.t≤at_:=hat
          have Z3:=A3 (show U1 out ⟨at_,e.t⟩=out from oW (by show¬at_<e.t;omega));rw[Z3.out]at Hlv;clear HI jS;go_wp2_with fail;go_roundw
          case rel=>exact⟨k+1,_,ny,dy,yd,ys,out,y9,by go_num,by omega,rfl,Hny.out,hdy,hnM,HV.out,Hys.out,rfl,aX.out,by rw[Htk.out];exact Hlv.out,sE.out,by have h2:=HKB.out;have h3:(k+1)*(M+1)=k*(M+1)+(M+1):=Nat.succ_mul k (M+1);omega⟩
          case measure=>simp[intOf]<;>omega
   ·obtain rfl:k=nu:=by omega
    have eL:=A3 (show X8 out (fun t=>E3 a t && !E3 b t)from by
     have h:=HO.out;rw[List.take_of_length_le (by have:=Hnu.out;omega)]at h;exact⟨h.n,fun t=>by rw[h.h,nS.out.1,nS.out.2]⟩)
    have Bv6:=A3 (show out.length≤a.length*(b.length+1)from Nat.le_trans hlen (Nat.mul_le_mul hlU (by omega)));obtain⟨hlen1,a5,c5,rfl,hc5,he5,_,_⟩:=O9 B3.len (by decide) I5.out;obtain⟨y5,h5⟩:=y1.trans y;have H5:=A3 (HP.out a5 c5 out y5 (h5 ▸ he5) hc5 eL.out Bv6.out);rw[h5];clear hlen1 hc5 he5 h5;go_wp2_with fail;exact H5.out
end
section
open Go.RowKit
def Ac6 (w:World) (l:List B3) (o:Ending) (w':World):Prop:=
 ∃(u:List B3) (y:A7 w),o= .returned (.tuple #[.int .i64 (V6 u),.int .i64 (j3 l)])∧w'=y.w∧eW l u
theorem AK4 (u:List B3) (k:Nat) (e:B3) (h:u[k]? =some e):V6 (u.take (k+1))=V6 (u.take k)+(e.t-e.f):=by
 rw[List.take_add_one,h];exact AF9 _ _
theorem Ac7:∀{u:List B3},N3 u→∀c,(∀x∈u,c≤x.f)→0≤V6 u∧(u≠[]→V6 u≤4294944000-c)
 |[],_,_,_ =>⟨by simp[V6],fun h=>(h rfl).elim⟩
 |x :: u,hn,c,hc=>by
  have hx:=hn.v x (by simp);have hxc:=hc x (by simp);have e:V6 (x :: u)=(x.t-x.f)+V6 u:=by simp[V6]
  obtain⟨h1,h2⟩:=Ac7 hn.tail x.t (fun y hy=>by have:=hn.hd y hy;omega);refine⟨by omega,fun _ =>?_⟩;by_cases hu:u=[]
  ·subst hu
   have:V6 ([]:List B3)=0:=rfl;omega
  ·have:=h2 hu;omega
theorem Ac8 {u:List B3} (h:N3 u):0≤V6 u∧V6 u≤4294944000:=by
 have:=Ac7 h 0 (fun x hx=>(h.v x hx).1);refine⟨this.1,?_⟩;by_cases hu:u=[]
 ·subst hu;have:V6 ([]:List B3)=0:=rfl;omega
 ·have:=this.2 hu;omega
theorem AK5 (w:World) (x:A7 w) (pa:Option Addr) (a:List B3) (ca:Nat) (ha:Q7 w pa a) (hla:a.length≤100000):
 Calls Tryz.prog 40 #[.slice pa a.length ca] x.w (Ac6 w a):=by
 have HA:=A3 (tX w x pa a ca ha hla);have bK:=A3 (show∀(u:List B3) (y:A7 w) (v e:Int),eW a u→v=V6 u→e=j3 a→Ac6 w a (.returned (.tuple #[.int .i64 v,.int .i64 e])) y.w from fun u y v e h1 h2 h3=>⟨u,y,by rw[h2,h3],rfl,h1⟩);have Hue:=A3 (show j3 a=if L4 a then 1 else 0 from rfl);clear ha
 cases hb:L4 a with
 |true=>
  rw[hb]at Hue
  have Hno:=A3 (show∀u,eW a u→u=[]from fun u h=>h.no hb)
  clear hb
  go_enter Tryz.func40,Tryz.ntmps40
  go_wp2_with fail
  refine HA.out.mono ?_
  rintro _ _ ⟨ax,cx,u,y1,rfl,rfl,_,_,hu⟩
  have Hu:=A3 hu
  clear hu
  rw[Hue.out]
  go_wp2_with fail
  go_ret2
  exact bK.out u y1 _ _ Hu.out (by rw[Hno.out u Hu.out];rfl) Hue.out.symm
 |false=>
  rw[hb]at Hue
  have eL:=A3 (show∀u,eW a u→N3 u from fun u h=>(h.ok hb).n)
  clear hb
  go_enter Tryz.func40,Tryz.ntmps40
  go_wp2_with fail
  refine HA.out.mono ?_
  rintro _ _ ⟨ax,cx,u,y1,rfl,rfl,hrow,_,hu⟩
  have Hu:=A3 hu
  have HR:=A3 hrow
  have Hn:=A3 (eL.out u hu)
  have hul:=hu.n
  clear hu hrow
  rw[Hue.out]
  obtain⟨n,hn⟩:∃n,n=u.length:=⟨_,rfl⟩
  rw[←hn]
  rw[←hn]at hul
  have Hnn:=A3 hn
  clear hn
  go_wp2_with fail
  go_loopw [6,19] (fun s i wr=>∃(k:Nat) (y:A7 y1.w),k≤n∧i= .int .i64 k∧s= .int .i64 (V6 (u.take k))∧wr=y.w) (fun _ i _ =>n-(intOf i).toNat)
  case atStart=>exact⟨0,A7.self _,by omega,rfl,rfl,rfl⟩
  case round=>
   obtain⟨k,y,hk,rfl,rfl,rfl⟩:=hrel;by_cases hlt:k<n
   ·obtain⟨e,he⟩:∃e,u[k]? =some e:=⟨_,A4 (by have:=Hnn.out;omega)⟩
    have hk0:(0:Int)≤(k:Int):=by omega
    have hkl:(k:Int)<(n:Int):=by omega
    obtain⟨b1,off1,rfl,h1'⟩:=D0.win HR.out he;have ra0:=h1'.c0;have ra1:=h1'.c1;have Hx:=A3 (AK4 u k e he);have hev:=Hn.out.v e (A0 he);obtain⟨e1,e2,e3⟩:=hev;have hnt:∀k,N3 (u.take k):=fun k=>⟨fun x hx=>Hn.out.v x (List.mem_of_mem_take hx),Hn.out.s.sublist (List.take_sublist k u)⟩
    obtain⟨l1,l2⟩:=Ac8 (hnt k);obtain⟨l3,l4⟩:=Ac8 (hnt (k+1));have l5:V6 (u.take k)+(e.t-e.f)≤4294944000:=by have:=Hx.out;omega
    clear h1' he hnt l3 l4;go_wp2_with fail;obtain⟨y5,h5⟩:=y.alloc (.cells #[.int .i64 e.f,.int .i64 e.t] 156);rw[h5];clear h5;go_roundw
    case rel=>exact⟨k+1,y5,by omega,by go_num,by rw[Hx.out],rfl⟩
    case measure=>simp[intOf]<;>omega
   ·obtain rfl:n=k:=by omega
    obtain⟨y5,h5⟩:=y1.trans y;rw[h5];clear h5;have Htk:=A3 (show u.take n=u from List.take_of_length_le (by have:=Hnn.out;omega));rw[Htk.out];go_wp2_with fail;go_ret2
    exact bK.out u y5 _ _ Hu.out rfl Hue.out.symm
end
end Go.Proofs.YtmmlmhnjjfnpnaaGreat
