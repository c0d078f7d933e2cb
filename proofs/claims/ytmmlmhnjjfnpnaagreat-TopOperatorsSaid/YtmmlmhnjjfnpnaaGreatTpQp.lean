/- Texts that belong together. -/
import Derived.Test.YtmmlmhnjjfnpnaaGreatTpQb
import Derived.Test.YtmmlmhnjjfnpnaaGreatTpQo
import Derived.Test.YtmmlmhnjjfnpnaaGreatProg
import Derived.Shelf.Lay
import Derived.Shelf.Small.Bits
import Derived.Ground.Names2Prog
import Derived.Shelf.Bits.Mul64
set_option linter.all false
namespace Go.Proofs.YtmmlmhnjjfnpnaaGreat
set_option maxRecDepth 200000
set_option maxHeartbeats 64000000
section
open Go.Shelf Go.RowKit Go.Lib
def Tryz.lays129_ren:Go.Shelf.Ren:=⟨fun|129=>150|n=>n,fun|53=>255|3=>3|4=>4|46=>202|5=>5|9=>9|n=>n,fun|n=>n⟩
theorem Tryz.lays129:Go.Proofs.Lays.n129 Tryz.prog Tryz.lays129_ren:={mixed:=by kernel_rfl,f129:=Tryz.func150.trans (congrArg some (by kernel_rfl)),t3:=Tryz.underlying3,a3:=Tryz.isAgg3,z3:=Tryz.sizeOf3,v3:=Tryz.zeroValue3,t4:=Tryz.underlying4,a4:=Tryz.isAgg4,z4:=Tryz.sizeOf4,v4:=Tryz.zeroValue4,t5:=Tryz.underlying5,a5:=Tryz.isAgg5,z5:=Tryz.sizeOf5,v5:=Tryz.zeroValue5,t9:=Tryz.underlying9,a9:=Tryz.isAgg9,z9:=Tryz.sizeOf9,v9:=Tryz.zeroValue9,t46:=Tryz.underlying202,a46:=Tryz.isAgg202,z46:=Tryz.sizeOf202,v46:=Tryz.zeroValue202,t53:=Tryz.underlying255,a53:=Tryz.isAgg255,z53:=Tryz.sizeOf255,v53:=Tryz.zeroValue255}
theorem AO6 (w:World) (n:Nat) (h:n<18446744073709551616):
 Calls Tryz.prog 150 #[.int .u64 (n:Int)] w fun o w'=>o= .returned (.int .i64 (Lib.bitLen n))∧w'=w:=by
 have:=Any.bits_Len64 Tryz.lays129 (n:Int) w (by omega) (by omega);exact this
theorem AO7 (w:World) (x:A7 w) (n s:Nat) (h:n<18446744073709551616) (hs:Lib.bitLen n+s=64):
 Calls Tryz.prog 211 #[.int .u64 (n:Int)] x.w fun o w'=>o= .returned (.int .i64 (s:Int))∧∃y:A7 w,w'=y.w:=by
 have hc:=AO6 x.w n h;have hb:(64:Int)-(Lib.bitLen n:Int)=(s:Int):=by omega
 have hw:IntKind.i64.wrap (s:Int)=(s:Int):=IntWalk.i64_in _ ⟨by omega,by omega⟩;have HW:=A3 hw;have HB:=A3 hb;go_enter Tryz.func211,Tryz.ntmps211;go_wp2_with(go_at_call 150;(with_reducible refine hc.mono ?_);rintro _ _ ⟨rfl,rfl⟩);go_ret;exact⟨rfl,x,rfl⟩
end
section
open Go.RowKit
def uJ (w:World) (q y:Nat) (o:Ending) (w':World):Prop:=∃r:Nat,r<y∧o= .returned (.tuple #[.int .u64 (q:Int),.int .u64 (r:Int)])∧∃z:A7 w,w'=z.w
theorem dH {u n v q u2:Nat} (h:u*4294967296+n=q*v+u2) (h2:u2<18446744073709551616):IntKind.u64.wrap (IntKind.u64.wrap (IntKind.u64.wrap ((u:Int)*4294967296)+(n:Int))-IntKind.u64.wrap ((q:Int)*(v:Int)))=(u2:Int):=by
 have h3:((u*4294967296+n:Nat):Int)=((q*v+u2:Nat):Int):=congrArg _ h;rw[Int.natCast_add,Int.natCast_add,Int.natCast_mul,Int.natCast_mul]at h3;generalize(q:Int)*(v:Int)=C at *;simp only[IntKind.wrap_u64];omega
theorem AO8 (w:World) (x:A7 w) (hi lo y:Nat) (h0:hi<y) (hy:y<18446744073709551616) (hl:lo<18446744073709551616):
 Calls Tryz.prog 170 #[.int .u64 (hi:Int),.int .u64 (lo:Int),.int .u64 (y:Int)] x.w (uJ w ((hi*18446744073709551616+lo)/y) y):=by
 have HP:=A3 (fun(q r:Nat) (u:World) (hr:r<y) (hq:q=(hi*18446744073709551616+lo)/y) (hu:∃z:A7 w,u=z.w)=>show uJ w ((hi*18446744073709551616+lo)/y) y (.returned (.tuple #[.int .u64 (q:Int),.int .u64 (r:Int)])) u from by subst hq;exact⟨r,hr,rfl,hu⟩);generalize uJ w ((hi*18446744073709551616+lo)/y) y=PO at *;have hy1:¬(y:Int)=0:=by omega
 have hy2:¬(y:Int)≤(hi:Int):=by omega
 go_enter Tryz.func170,Tryz.ntmps170;by_cases hz:hi=0
 ·subst hz
  have hz1:((0:Nat):Int)=0:=rfl;have E1:=A3 (show IntKind.u64.wrap ((lo:Int)/(y:Int))=((lo/y:Nat):Int)from by
   rw[←Int.natCast_ediv];exact Mul64.wrapN _ (Nat.lt_of_le_of_lt (Nat.div_le_self lo y) hl))
  have E2:=A3 (show(lo:Int) % (y:Int)=((lo % y:Nat):Int)from(Int.natCast_emod _ _).symm);go_wp2_with fail;refine L5 (by kernel_rfl) (by kernel_rfl) ?_;repeat(go_big_quiet_step(fail))
  refine wpQuiet_nil ?_;rintro _ ⟨z,rfl⟩;go_wp2_with fail;simp only[E1.out,E2.out];exact HP.out (lo/y) (lo % y) z.w (Nat.mod_lt _ (by omega)) (by rw[Nat.zero_mul,Nat.zero_add]) ⟨z,rfl⟩
 ·have hz1:¬(hi:Int)=0:=by omega
  obtain⟨s,hs1,hs2,hs3,hs4,hs5⟩:=AO4 (y:=y) (by omega) hy;have hlz:=AO7 w x y s hy hs2;obtain⟨v,hv⟩:∃v,y*2 ^ s=v:=⟨_,rfl⟩
  obtain⟨u,hu⟩:∃u,hi*2 ^ s+lo/2 ^ (64-s)=u:=⟨_,rfl⟩
  obtain⟨d,hd⟩:∃d,lo*2 ^ s % 18446744073709551616=d:=⟨_,rfl⟩
  have hP:0<2 ^ s:=Nat.two_pow_pos s;have hPP:0<2 ^ (64-s):=Nat.two_pow_pos _;have hlp:lo/2 ^ (64-s)<2 ^ s:=by
   rw[Nat.div_lt_iff_lt_mul hPP,hs5];exact hl
  have hsum:hi*2 ^ s+2 ^ s≤y*2 ^ s:=by
   rw[←Nat.succ_mul];exact Nat.mul_le_mul_right _ h0
  have huv:u<v:=by omega
  have F1:=A3 (show IntKind.u64.wrap ((y:Int)*2 ^ s)=(v:Int)from by
   rw[show(y:Int)*2 ^ s=((y*2 ^ s:Nat):Int) by rw[Int.natCast_mul,Int.natCast_pow];rfl,Mul64.wrapN _ hs4,hv])
  have F4:=A3 (show bits BinOp.or IntKind.u64 (IntKind.u64.wrap ((hi:Int)*2 ^ s)) ((lo:Int)/2 ^ (64-s))=(u:Int)from by
   rw[show(hi:Int)*2 ^ s=((hi*2 ^ s:Nat):Int) by rw[Int.natCast_mul,Int.natCast_pow];rfl,Mul64.wrapN _ (by omega),show(lo:Int)/2 ^ (64-s)=((lo/2 ^ (64-s):Nat):Int) by rw[Int.natCast_ediv,Int.natCast_pow];rfl,bits_or_u64_nat _ _ (by omega) (by omega),AO5 hlp,hu])
  have F5:=A3 (show IntKind.u64.wrap ((lo:Int)*2 ^ s)=(d:Int)from by
   rw[show(lo:Int)*2 ^ s=((lo*2 ^ s:Nat):Int) by rw[Int.natCast_mul,Int.natCast_pow];rfl,Mul64.wrapM,hd])
  have F2:=A3 (Mul64.divN v);have F3:=A3 (Mul64.maskN v (by omega));have F6:=A3 (Mul64.divN d);have F7:=A3 (Mul64.maskN d (by omega));have HN:=A3 (show(hi*18446744073709551616+lo)/y=(u*18446744073709551616+d)/v from by
   rw[←hv,←hu,←hd,←AO1 hs5 hP];exact(Nat.mul_div_mul_right _ _ hP).symm)
  have Hv:=A3 hv;have Hsv:=A3 (show 9223372036854775808≤v∧v<18446744073709551616∧d<18446744073709551616 from⟨by rw[←hv];exact hs3,by rw[←hv];exact hs4,by rw[←hd];exact Nat.mod_lt _ (by omega)⟩);clear hv hu hd hlp hsum hs5 hs3 hs4;go_upto_region 8 with(go_at_call 211;(with_reducible refine hlz.mono ?_);clear hlz;rintro _ _ ⟨rfl,x1,rfl⟩)
  go_upto_region 15 with fail;simp only[F1.out,F2.out,F3.out,F4.out,F5.out,F6.out,F7.out];clear F1 F2 F3 F4 F5 F6 F7;have C1:=A3 (show dF (v/4294967296) (v % 4294967296) u (d/4294967296) v from by have:=Hsv.out;exact⟨⟨by omega,by omega⟩,by omega,by omega,huv,by omega⟩);have Hdm:=A3 (show d=d/4294967296*4294967296+d % 4294967296∧d % 4294967296<4294967296 from by omega);generalize v/4294967296=a at *;generalize v % 4294967296=b at *;generalize d/4294967296=n at *;generalize d % 4294967296=m at *;have HAZ:=A3 (show¬(a:Int)=0 from by have:=C1.out.ha;omega);have aV:=A3 (show v<18446744073709551616 from Hsv.out.2.1);have hb1:¬(a:Int)=0:=HAZ.out;have hB0:¬(4294967296:Int)=0:=by omega
  have D1:=A3 (pK C1.out);obtain⟨q1,hq1⟩:∃q1,u/a=q1:=⟨_,rfl⟩
  obtain⟨r1,hr1⟩:∃r1,u % a=r1:=⟨_,rfl⟩
  obtain⟨s1,hs1⟩:∃s1,q1*a=s1:=⟨_,rfl⟩
  have hus:u=s1+r1:=by rw[←hs1,←hq1,←hr1];exact(Nat.div_add_mod' _ _).symm
  have hr0:r1<4294967296:=by rw[←hr1];have:=C1.out.ha;exact Nat.lt_trans (Nat.mod_lt _ (by omega)) (by omega)
  have hlu:u<18446744073709551616:=by have:=C1.out.hu;have:=aV.out;omega
  rw[hq1,hr1]at D1;have e1:IntKind.u64.wrap ((u:Int)/(a:Int))=(q1:Int):=by rw[←Int.natCast_ediv,hq1];exact Mul64.wrapN _ (by rw[←hq1];exact Nat.lt_of_le_of_lt (Nat.div_le_self _ _) hlu)
  have e2:IntKind.u64.wrap ((q1:Int)*(a:Int))=(s1:Int):=by rw[←Int.natCast_mul,hs1];exact Mul64.wrapN _ (by omega)
  have e3:IntKind.u64.wrap ((u:Int)-(s1:Int))=(r1:Int):=by rw[show(u:Int)-(s1:Int)=(r1:Int) by omega];exact Mul64.wrapN _ (by omega)
  have Hr0:=A3 hr0;clear hq1 hr1 hs1 hus hr0 hlu;go_wp2_with fail;clear e1 e2 e3;go_loopw [15,16] (fun iq ir wr=>∃q r:Nat,iq= .int .u64 (q:Int)∧ir= .int .u64 (r:Int)∧wr=x1.w∧j4 a b u n v q r∧r<4294967296) (fun iq _ _ =>(intOf iq).toNat)
  case atStart=>exact⟨q1,r1,rfl,rfl,rfl,D1.out,Hr0.out⟩
  case round=>
   clear D1 Hr0;obtain⟨Q1,R1,rfl,rfl,rfl,hD,hr1⟩:=hrel;have D1:=A3 hD;have Hr1:=A3 hr1;clear hD;obtain⟨qb,hqb⟩:∃qb,Q1*b=qb:=⟨_,rfl⟩
   have eM:qb<18446744073709551616:=by rw[←hqb];exact pM C1.out D1.out
   have hn1:n<4294967296:=C1.out.hn;have e1:IntKind.u64.wrap ((Q1:Int)*(b:Int))=(qb:Int):=by rw[←Int.natCast_mul,hqb];exact Mul64.wrapN _ eM
   have e2:IntKind.u64.wrap (4294967296*(R1:Int))=4294967296*(R1:Int):=by rw[IntKind.wrap_u64];omega
   have e3:IntKind.u64.wrap (4294967296*(R1:Int)+(n:Int))=4294967296*(R1:Int)+(n:Int):=by rw[IntKind.wrap_u64];omega
   clear eM hn1 hr1;by_cases hc:4294967296≤Q1∨4294967296*R1+n<Q1*b
   ·have HS:=A3 (pL C1.out D1.out hc)
    obtain⟨p1,hp1⟩:∃p1,Q1=p1+1:=⟨Q1-1,by have:=HS.out.1;omega⟩
    have e4:IntKind.u64.wrap ((Q1:Int)-1)=(p1:Int):=by rw[show(Q1:Int)-1=(p1:Int) by omega];exact Mul64.wrapN _ (by have:=D1.out.hb;omega)
    have e5:IntKind.u64.wrap ((R1:Int)+(a:Int))=(R1:Int)+(a:Int):=by rw[IntKind.wrap_u64];have:=C1.out.ha;have:=Hr1.out;omega
    have HQ:=A3 (show Q1-1=p1 from by omega);have HQb:=A3 (show p1≤4294967296 from by have:=D1.out.hb;omega);have Hq1:=A3 (show p1<Q1 from by omega);clear hp1;rcases Nat.lt_or_ge Q1 4294967296 with h1|h1
    ·have h2:¬(4294967296:Int)≤(Q1:Int):=by omega
     have h3:4294967296*(R1:Int)+(n:Int)<(qb:Int):=by omega
     by_cases hr:4294967296≤R1+a
     ·have hr1:(4294967296:Int)≤(R1:Int)+(a:Int):=by omega
      have HE:=A3 (show p1=(u*4294967296+n)/v from by have h1:=gX C1.out HS.out.2 (by rw[HQ.out];exact HQb.out) hr;rw[HQ.out]at h1;exact h1);clear hc hr h1 hqb HS HQ HQb;go_upto_region 22 with fail;have HE1:=HE;have Hq:=A3 (dG C1.out);rw[←HE.out]at Hq;obtain⟨u2,hu2⟩:∃u2,(u*4294967296+n) % v=u2:=⟨_,rfl⟩
      rw[hu2]at Hq;have C2:=A3 (show dF a b u2 m v from⟨C1.out.ha,C1.out.hb,Hdm.out.2,Hq.out.2,C1.out.hv⟩);have G:=A3 (dH Hq.out.1 (Nat.lt_trans Hq.out.2 aV.out));have HU:=A3 hu2;simp only[G.out];clear G hu2 Hq;have D2:=A3 (pK C2.out);obtain⟨q2,hq2⟩:∃q2,u2/a=q2:=⟨_,rfl⟩
      obtain⟨r2,hr2⟩:∃r2,u2 % a=r2:=⟨_,rfl⟩
      obtain⟨s2,hs2⟩:∃s2,q2*a=s2:=⟨_,rfl⟩
      have hus:u2=s2+r2:=by rw[←hs2,←hq2,←hr2];exact(Nat.div_add_mod' _ _).symm
      have hr0:r2<4294967296:=by rw[←hr2];have:=C1.out.ha;exact Nat.lt_trans (Nat.mod_lt _ (by omega)) (by omega)
      have hlu:u2<18446744073709551616:=by have:=C2.out.hu;have:=aV.out;omega
      rw[hq2,hr2]at D2;have e1:IntKind.u64.wrap ((u2:Int)/(a:Int))=(q2:Int):=by rw[←Int.natCast_ediv,hq2];exact Mul64.wrapN _ (by rw[←hq2];exact Nat.lt_of_le_of_lt (Nat.div_le_self _ _) hlu)
      have e2:IntKind.u64.wrap ((q2:Int)*(a:Int))=(s2:Int):=by rw[←Int.natCast_mul,hs2];exact Mul64.wrapN _ (by omega)
      have e3:IntKind.u64.wrap ((u2:Int)-(s2:Int))=(r2:Int):=by rw[show(u2:Int)-(s2:Int)=(r2:Int) by omega];exact Mul64.wrapN _ (by omega)
      have Hr0:=A3 hr0;clear hq2 hr2 hs2 hus hr0 hlu;go_wp2_with fail;clear e1 e2 e3;go_loopw [18,16] (fun iq ir wr=>∃q r:Nat,iq= .int .u64 (q:Int)∧ir= .int .u64 (r:Int)∧wr=x1.w∧j4 a b u2 m v q r∧r<4294967296) (fun iq _ _ =>(intOf iq).toNat)
      case atStart=>exact⟨q2,r2,rfl,rfl,rfl,D2.out,Hr0.out⟩
      case round=>
       clear D2 Hr0;obtain⟨Q2,R2,rfl,rfl,rfl,hD,hr2⟩:=hrel;have D2:=A3 hD;have Hr2:=A3 hr2;clear hD;obtain⟨qb,hqb⟩:∃qb,Q2*b=qb:=⟨_,rfl⟩
       have eM:qb<18446744073709551616:=by rw[←hqb];exact pM C2.out D2.out
       have hn1:m<4294967296:=C2.out.hn;have e1:IntKind.u64.wrap ((Q2:Int)*(b:Int))=(qb:Int):=by rw[←Int.natCast_mul,hqb];exact Mul64.wrapN _ eM
       have e2:IntKind.u64.wrap (4294967296*(R2:Int))=4294967296*(R2:Int):=by rw[IntKind.wrap_u64];omega
       have e3:IntKind.u64.wrap (4294967296*(R2:Int)+(m:Int))=4294967296*(R2:Int)+(m:Int):=by rw[IntKind.wrap_u64];omega
       clear eM hn1 hr2;by_cases hc:4294967296≤Q2∨4294967296*R2+m<Q2*b
       ·have HS:=A3 (pL C2.out D2.out hc)
        obtain⟨p2,hp2⟩:∃p2,Q2=p2+1:=⟨Q2-1,by have:=HS.out.1;omega⟩
        have e4:IntKind.u64.wrap ((Q2:Int)-1)=(p2:Int):=by rw[show(Q2:Int)-1=(p2:Int) by omega];exact Mul64.wrapN _ (by have:=D2.out.hb;omega)
        have e5:IntKind.u64.wrap ((R2:Int)+(a:Int))=(R2:Int)+(a:Int):=by rw[IntKind.wrap_u64];have:=C1.out.ha;have:=Hr2.out;omega
        have HQ:=A3 (show Q2-1=p2 from by omega);have HQb:=A3 (show p2≤4294967296 from by have:=D2.out.hb;omega);have Hq1:=A3 (show p2<Q2 from by omega);clear hp2;rcases Nat.lt_or_ge Q2 4294967296 with h1|h1
        ·have h2:¬(4294967296:Int)≤(Q2:Int):=by omega
         have h3:4294967296*(R2:Int)+(m:Int)<(qb:Int):=by omega
         by_cases hr:4294967296≤R2+a
         ·have hr1:(4294967296:Int)≤(R2:Int)+(a:Int):=by omega
          have HE:=A3 (show p2=(u2*4294967296+m)/v from by have h1:=gX C2.out HS.out.2 (by rw[HQ.out];exact HQb.out) hr;rw[HQ.out]at h1;exact h1);clear hc hr h1 hqb HS HQ HQb;go_wp2_with fail;have Hw:=A3 (dG C2.out);rw[←HE.out]at Hw;obtain⟨u3,hu3⟩:∃u3,(u2*4294967296+m) % v=u3:=⟨_,rfl⟩
          rw[hu3]at Hw;have L1:=A3 (show IntKind.u64.wrap (IntKind.u64.wrap ((p1:Int)*4294967296)+(p2:Int))=((p1*4294967296+p2:Nat):Int)from by have h1:=P3 C1.out;have h2:=P3 C2.out;rw[←HE1.out]at h1;rw[←HE.out]at h2;simp only[IntKind.wrap_u64];omega);have L1b:=A3 (show IntKind.u64.wrap ((p1:Int)*4294967296+(p2:Int))=((p1*4294967296+p2:Nat):Int)from by have h1:=P3 C1.out;have h2:=P3 C2.out;rw[←HE1.out]at h1;rw[←HE.out]at h2;simp only[IntKind.wrap_u64];omega);have L2:=A3 (dH Hw.out.1 (Nat.lt_trans Hw.out.2 aV.out));have L3:=A3 (show(u3:Int)/2 ^ s=((u3/2 ^ s:Nat):Int)from by rw[Int.natCast_ediv,Int.natCast_pow];rfl);simp only[L1.out,L1b.out,L2.out,L3.out];exact HP.out (p1*4294967296+p2) (u3/2 ^ s) x1.w ((Nat.div_lt_iff_lt_mul hP).2 (by rw[Hv.out];exact Hw.out.2)) (by rw[HN.out,Hdm.out.1,fX (by have:=huv;omega),HU.out,←HE1.out,←HE.out]) ⟨x1,rfl⟩
         ·have hr1:¬(4294967296:Int)≤(R2:Int)+(a:Int):=by omega
          have HD:=A3 (show j4 a b u2 m v p2 (R2+a)from by have h1:=HS.out.2;rw[HQ.out]at h1;exact h1);have HR:=A3 (show R2+a<4294967296 from by omega);clear hc hr h1 hqb HS HQ HQb;go_wp2_with fail;go_roundw
          case rel=>exact⟨p2,R2+a,by first|rfl|trivial,by first|rw[Int.natCast_add]|trivial,by first|rfl|trivial,HD.out,HR.out⟩
          case measure=>have:=Hq1.out;simp[intOf];omega
        ·have h2:(4294967296:Int)≤(Q2:Int):=by omega
         by_cases hr:4294967296≤R2+a
         ·have hr1:(4294967296:Int)≤(R2:Int)+(a:Int):=by omega
          have HE:=A3 (show p2=(u2*4294967296+m)/v from by have h1:=gX C2.out HS.out.2 (by rw[HQ.out];exact HQb.out) hr;rw[HQ.out]at h1;exact h1);clear hc hr h1 hqb HS HQ HQb;go_wp2_with fail;have Hw:=A3 (dG C2.out);rw[←HE.out]at Hw;obtain⟨u3,hu3⟩:∃u3,(u2*4294967296+m) % v=u3:=⟨_,rfl⟩
          rw[hu3]at Hw;have L1:=A3 (show IntKind.u64.wrap (IntKind.u64.wrap ((p1:Int)*4294967296)+(p2:Int))=((p1*4294967296+p2:Nat):Int)from by have h1:=P3 C1.out;have h2:=P3 C2.out;rw[←HE1.out]at h1;rw[←HE.out]at h2;simp only[IntKind.wrap_u64];omega);have L1b:=A3 (show IntKind.u64.wrap ((p1:Int)*4294967296+(p2:Int))=((p1*4294967296+p2:Nat):Int)from by have h1:=P3 C1.out;have h2:=P3 C2.out;rw[←HE1.out]at h1;rw[←HE.out]at h2;simp only[IntKind.wrap_u64];omega);have L2:=A3 (dH Hw.out.1 (Nat.lt_trans Hw.out.2 aV.out));have L3:=A3 (show(u3:Int)/2 ^ s=((u3/2 ^ s:Nat):Int)from by rw[Int.natCast_ediv,Int.natCast_pow];rfl);simp only[L1.out,L1b.out,L2.out,L3.out];exact HP.out (p1*4294967296+p2) (u3/2 ^ s) x1.w ((Nat.div_lt_iff_lt_mul hP).2 (by rw[Hv.out];exact Hw.out.2)) (by rw[HN.out,Hdm.out.1,fX (by have:=huv;omega),HU.out,←HE1.out,←HE.out]) ⟨x1,rfl⟩
         ·have hr1:¬(4294967296:Int)≤(R2:Int)+(a:Int):=by omega
          have HD:=A3 (show j4 a b u2 m v p2 (R2+a)from by have h1:=HS.out.2;rw[HQ.out]at h1;exact h1);have HR:=A3 (show R2+a<4294967296 from by omega);clear hc hr h1 hqb HS HQ HQb;go_wp2_with fail;go_roundw
          case rel=>exact⟨p2,R2+a,by first|rfl|trivial,by first|rw[Int.natCast_add]|trivial,by first|rfl|trivial,HD.out,HR.out⟩
          case measure=>have:=Hq1.out;simp[intOf];omega
       ·have h2:¬(4294967296:Int)≤(Q2:Int):=by omega
        have h3:¬4294967296*(R2:Int)+(m:Int)<(qb:Int):=by omega
        have HE:=A3 (show Q2=(u2*4294967296+m)/v from mK C2.out D2.out (by omega));clear hc hqb;go_wp2_with fail;have Hw:=A3 (dG C2.out);rw[←HE.out]at Hw;obtain⟨u3,hu3⟩:∃u3,(u2*4294967296+m) % v=u3:=⟨_,rfl⟩
        rw[hu3]at Hw;have L1:=A3 (show IntKind.u64.wrap (IntKind.u64.wrap ((p1:Int)*4294967296)+(Q2:Int))=((p1*4294967296+Q2:Nat):Int)from by have h1:=P3 C1.out;have h2:=P3 C2.out;rw[←HE1.out]at h1;rw[←HE.out]at h2;simp only[IntKind.wrap_u64];omega);have L1b:=A3 (show IntKind.u64.wrap ((p1:Int)*4294967296+(Q2:Int))=((p1*4294967296+Q2:Nat):Int)from by have h1:=P3 C1.out;have h2:=P3 C2.out;rw[←HE1.out]at h1;rw[←HE.out]at h2;simp only[IntKind.wrap_u64];omega);have L2:=A3 (dH Hw.out.1 (Nat.lt_trans Hw.out.2 aV.out));have L3:=A3 (show(u3:Int)/2 ^ s=((u3/2 ^ s:Nat):Int)from by rw[Int.natCast_ediv,Int.natCast_pow];rfl);simp only[L1.out,L1b.out,L2.out,L3.out];exact HP.out (p1*4294967296+Q2) (u3/2 ^ s) x1.w ((Nat.div_lt_iff_lt_mul hP).2 (by rw[Hv.out];exact Hw.out.2)) (by rw[HN.out,Hdm.out.1,fX (by have:=huv;omega),HU.out,←HE1.out,←HE.out]) ⟨x1,rfl⟩
     ·have hr1:¬(4294967296:Int)≤(R1:Int)+(a:Int):=by omega
      have HD:=A3 (show j4 a b u n v p1 (R1+a)from by have h1:=HS.out.2;rw[HQ.out]at h1;exact h1);have HR:=A3 (show R1+a<4294967296 from by omega);clear hc hr h1 hqb HS HQ HQb;go_wp2_with fail;go_roundw
      case rel=>exact⟨p1,R1+a,by first|rfl|trivial,by first|rw[Int.natCast_add]|trivial,by first|rfl|trivial,HD.out,HR.out⟩
      case measure=>have:=Hq1.out;simp[intOf];omega
    ·have h2:(4294967296:Int)≤(Q1:Int):=by omega
     by_cases hr:4294967296≤R1+a
     ·have hr1:(4294967296:Int)≤(R1:Int)+(a:Int):=by omega
      have HE:=A3 (show p1=(u*4294967296+n)/v from by have h1:=gX C1.out HS.out.2 (by rw[HQ.out];exact HQb.out) hr;rw[HQ.out]at h1;exact h1);clear hc hr h1 hqb HS HQ HQb;go_upto_region 22 with fail;have HE1:=HE;have Hq:=A3 (dG C1.out);rw[←HE.out]at Hq;obtain⟨u2,hu2⟩:∃u2,(u*4294967296+n) % v=u2:=⟨_,rfl⟩
      rw[hu2]at Hq;have C2:=A3 (show dF a b u2 m v from⟨C1.out.ha,C1.out.hb,Hdm.out.2,Hq.out.2,C1.out.hv⟩);have G:=A3 (dH Hq.out.1 (Nat.lt_trans Hq.out.2 aV.out));have HU:=A3 hu2;simp only[G.out];clear G hu2 Hq;have D2:=A3 (pK C2.out);obtain⟨q2,hq2⟩:∃q2,u2/a=q2:=⟨_,rfl⟩
      obtain⟨r2,hr2⟩:∃r2,u2 % a=r2:=⟨_,rfl⟩
      obtain⟨s2,hs2⟩:∃s2,q2*a=s2:=⟨_,rfl⟩
      have hus:u2=s2+r2:=by rw[←hs2,←hq2,←hr2];exact(Nat.div_add_mod' _ _).symm
      have hr0:r2<4294967296:=by rw[←hr2];have:=C1.out.ha;exact Nat.lt_trans (Nat.mod_lt _ (by omega)) (by omega)
      have hlu:u2<18446744073709551616:=by have:=C2.out.hu;have:=aV.out;omega
      rw[hq2,hr2]at D2;have e1:IntKind.u64.wrap ((u2:Int)/(a:Int))=(q2:Int):=by rw[←Int.natCast_ediv,hq2];exact Mul64.wrapN _ (by rw[←hq2];exact Nat.lt_of_le_of_lt (Nat.div_le_self _ _) hlu)
      have e2:IntKind.u64.wrap ((q2:Int)*(a:Int))=(s2:Int):=by rw[←Int.natCast_mul,hs2];exact Mul64.wrapN _ (by omega)
      have e3:IntKind.u64.wrap ((u2:Int)-(s2:Int))=(r2:Int):=by rw[show(u2:Int)-(s2:Int)=(r2:Int) by omega];exact Mul64.wrapN _ (by omega)
      have Hr0:=A3 hr0;clear hq2 hr2 hs2 hus hr0 hlu;go_wp2_with fail;clear e1 e2 e3;go_loopw [18,16] (fun iq ir wr=>∃q r:Nat,iq= .int .u64 (q:Int)∧ir= .int .u64 (r:Int)∧wr=x1.w∧j4 a b u2 m v q r∧r<4294967296) (fun iq _ _ =>(intOf iq).toNat)
      case atStart=>exact⟨q2,r2,rfl,rfl,rfl,D2.out,Hr0.out⟩
      case round=>
       clear D2 Hr0;obtain⟨Q2,R2,rfl,rfl,rfl,hD,hr2⟩:=hrel;have D2:=A3 hD;have Hr2:=A3 hr2;clear hD;obtain⟨qb,hqb⟩:∃qb,Q2*b=qb:=⟨_,rfl⟩
       have eM:qb<18446744073709551616:=by rw[←hqb];exact pM C2.out D2.out
       have hn1:m<4294967296:=C2.out.hn;have e1:IntKind.u64.wrap ((Q2:Int)*(b:Int))=(qb:Int):=by rw[←Int.natCast_mul,hqb];exact Mul64.wrapN _ eM
       have e2:IntKind.u64.wrap (4294967296*(R2:Int))=4294967296*(R2:Int):=by rw[IntKind.wrap_u64];omega
       have e3:IntKind.u64.wrap (4294967296*(R2:Int)+(m:Int))=4294967296*(R2:Int)+(m:Int):=by rw[IntKind.wrap_u64];omega
       clear eM hn1 hr2;by_cases hc:4294967296≤Q2∨4294967296*R2+m<Q2*b
       ·have HS:=A3 (pL C2.out D2.out hc)
        obtain⟨p2,hp2⟩:∃p2,Q2=p2+1:=⟨Q2-1,by have:=HS.out.1;omega⟩
        have e4:IntKind.u64.wrap ((Q2:Int)-1)=(p2:Int):=by rw[show(Q2:Int)-1=(p2:Int) by omega];exact Mul64.wrapN _ (by have:=D2.out.hb;omega)
        have e5:IntKind.u64.wrap ((R2:Int)+(a:Int))=(R2:Int)+(a:Int):=by rw[IntKind.wrap_u64];have:=C1.out.ha;have:=Hr2.out;omega
        have HQ:=A3 (show Q2-1=p2 from by omega);have HQb:=A3 (show p2≤4294967296 from by have:=D2.out.hb;omega);have Hq1:=A3 (show p2<Q2 from by omega);clear hp2;rcases Nat.lt_or_ge Q2 4294967296 with h1|h1
        ·have h2:¬(4294967296:Int)≤(Q2:Int):=by omega
         have h3:4294967296*(R2:Int)+(m:Int)<(qb:Int):=by omega
         by_cases hr:4294967296≤R2+a
         ·have hr1:(4294967296:Int)≤(R2:Int)+(a:Int):=by omega
          have HE:=A3 (show p2=(u2*4294967296+m)/v from by have h1:=gX C2.out HS.out.2 (by rw[HQ.out];exact HQb.out) hr;rw[HQ.out]at h1;exact h1);clear hc hr h1 hqb HS HQ HQb;go_wp2_with fail;have Hw:=A3 (dG C2.out);rw[←HE.out]at Hw;obtain⟨u3,hu3⟩:∃u3,(u2*4294967296+m) % v=u3:=⟨_,rfl⟩
          rw[hu3]at Hw;have L1:=A3 (show IntKind.u64.wrap (IntKind.u64.wrap ((p1:Int)*4294967296)+(p2:Int))=((p1*4294967296+p2:Nat):Int)from by have h1:=P3 C1.out;have h2:=P3 C2.out;rw[←HE1.out]at h1;rw[←HE.out]at h2;simp only[IntKind.wrap_u64];omega);have L1b:=A3 (show IntKind.u64.wrap ((p1:Int)*4294967296+(p2:Int))=((p1*4294967296+p2:Nat):Int)from by have h1:=P3 C1.out;have h2:=P3 C2.out;rw[←HE1.out]at h1;rw[←HE.out]at h2;simp only[IntKind.wrap_u64];omega);have L2:=A3 (dH Hw.out.1 (Nat.lt_trans Hw.out.2 aV.out));have L3:=A3 (show(u3:Int)/2 ^ s=((u3/2 ^ s:Nat):Int)from by rw[Int.natCast_ediv,Int.natCast_pow];rfl);simp only[L1.out,L1b.out,L2.out,L3.out];exact HP.out (p1*4294967296+p2) (u3/2 ^ s) x1.w ((Nat.div_lt_iff_lt_mul hP).2 (by rw[Hv.out];exact Hw.out.2)) (by rw[HN.out,Hdm.out.1,fX (by have:=huv;omega),HU.out,←HE1.out,←HE.out]) ⟨x1,rfl⟩
         ·have hr1:¬(4294967296:Int)≤(R2:Int)+(a:Int):=by omega
          have HD:=A3 (show j4 a b u2 m v p2 (R2+a)from by have h1:=HS.out.2;rw[HQ.out]at h1;exact h1);have HR:=A3 (show R2+a<4294967296 from by omega);clear hc hr h1 hqb HS HQ HQb;go_wp2_with fail;go_roundw
          case rel=>exact⟨p2,R2+a,by first|rfl|trivial,by first|rw[Int.natCast_add]|trivial,by first|rfl|trivial,HD.out,HR.out⟩
          case measure=>have:=Hq1.out;simp[intOf];omega
        ·have h2:(4294967296:Int)≤(Q2:Int):=by omega
         by_cases hr:4294967296≤R2+a
         ·have hr1:(4294967296:Int)≤(R2:Int)+(a:Int):=by omega
          have HE:=A3 (show p2=(u2*4294967296+m)/v from by have h1:=gX C2.out HS.out.2 (by rw[HQ.out];exact HQb.out) hr;rw[HQ.out]at h1;exact h1);clear hc hr h1 hqb HS HQ HQb;go_wp2_with fail;have Hw:=A3 (dG C2.out);rw[←HE.out]at Hw;obtain⟨u3,hu3⟩:∃u3,(u2*4294967296+m) % v=u3:=⟨_,rfl⟩
          rw[hu3]at Hw;have L1:=A3 (show IntKind.u64.wrap (IntKind.u64.wrap ((p1:Int)*4294967296)+(p2:Int))=((p1*4294967296+p2:Nat):Int)from by have h1:=P3 C1.out;have h2:=P3 C2.out;rw[←HE1.out]at h1;rw[←HE.out]at h2;simp only[IntKind.wrap_u64];omega);have L1b:=A3 (show IntKind.u64.wrap ((p1:Int)*4294967296+(p2:Int))=((p1*4294967296+p2:Nat):Int)from by have h1:=P3 C1.out;have h2:=P3 C2.out;rw[←HE1.out]at h1;rw[←HE.out]at h2;simp only[IntKind.wrap_u64];omega);have L2:=A3 (dH Hw.out.1 (Nat.lt_trans Hw.out.2 aV.out));have L3:=A3 (show(u3:Int)/2 ^ s=((u3/2 ^ s:Nat):Int)from by rw[Int.natCast_ediv,Int.natCast_pow];rfl);simp only[L1.out,L1b.out,L2.out,L3.out];exact HP.out (p1*4294967296+p2) (u3/2 ^ s) x1.w ((Nat.div_lt_iff_lt_mul hP).2 (by rw[Hv.out];exact Hw.out.2)) (by rw[HN.out,Hdm.out.1,fX (by have:=huv;omega),HU.out,←HE1.out,←HE.out]) ⟨x1,rfl⟩
         ·have hr1:¬(4294967296:Int)≤(R2:Int)+(a:Int):=by omega
          have HD:=A3 (show j4 a b u2 m v p2 (R2+a)from by have h1:=HS.out.2;rw[HQ.out]at h1;exact h1);have HR:=A3 (show R2+a<4294967296 from by omega);clear hc hr h1 hqb HS HQ HQb;go_wp2_with fail;go_roundw
          case rel=>exact⟨p2,R2+a,by first|rfl|trivial,by first|rw[Int.natCast_add]|trivial,by first|rfl|trivial,HD.out,HR.out⟩
          case measure=>have:=Hq1.out;simp[intOf];omega
       ·have h2:¬(4294967296:Int)≤(Q2:Int):=by omega
        have h3:¬4294967296*(R2:Int)+(m:Int)<(qb:Int):=by omega
        have HE:=A3 (show Q2=(u2*4294967296+m)/v from mK C2.out D2.out (by omega));clear hc hqb;go_wp2_with fail;have Hw:=A3 (dG C2.out);rw[←HE.out]at Hw;obtain⟨u3,hu3⟩:∃u3,(u2*4294967296+m) % v=u3:=⟨_,rfl⟩
        rw[hu3]at Hw;have L1:=A3 (show IntKind.u64.wrap (IntKind.u64.wrap ((p1:Int)*4294967296)+(Q2:Int))=((p1*4294967296+Q2:Nat):Int)from by have h1:=P3 C1.out;have h2:=P3 C2.out;rw[←HE1.out]at h1;rw[←HE.out]at h2;simp only[IntKind.wrap_u64];omega);have L1b:=A3 (show IntKind.u64.wrap ((p1:Int)*4294967296+(Q2:Int))=((p1*4294967296+Q2:Nat):Int)from by have h1:=P3 C1.out;have h2:=P3 C2.out;rw[←HE1.out]at h1;rw[←HE.out]at h2;simp only[IntKind.wrap_u64];omega);have L2:=A3 (dH Hw.out.1 (Nat.lt_trans Hw.out.2 aV.out));have L3:=A3 (show(u3:Int)/2 ^ s=((u3/2 ^ s:Nat):Int)from by rw[Int.natCast_ediv,Int.natCast_pow];rfl);simp only[L1.out,L1b.out,L2.out,L3.out];exact HP.out (p1*4294967296+Q2) (u3/2 ^ s) x1.w ((Nat.div_lt_iff_lt_mul hP).2 (by rw[Hv.out];exact Hw.out.2)) (by rw[HN.out,Hdm.out.1,fX (by have:=huv;omega),HU.out,←HE1.out,←HE.out]) ⟨x1,rfl⟩
     ·have hr1:¬(4294967296:Int)≤(R1:Int)+(a:Int):=by omega
      have HD:=A3 (show j4 a b u n v p1 (R1+a)from by have h1:=HS.out.2;rw[HQ.out]at h1;exact h1);have HR:=A3 (show R1+a<4294967296 from by omega);clear hc hr h1 hqb HS HQ HQb;go_wp2_with fail;go_roundw
      case rel=>exact⟨p1,R1+a,by first|rfl|trivial,by first|rw[Int.natCast_add]|trivial,by first|rfl|trivial,HD.out,HR.out⟩
      case measure=>have:=Hq1.out;simp[intOf];omega
   ·have h2:¬(4294967296:Int)≤(Q1:Int):=by omega
    have h3:¬4294967296*(R1:Int)+(n:Int)<(qb:Int):=by omega
    have HE:=A3 (show Q1=(u*4294967296+n)/v from mK C1.out D1.out (by omega));clear hc hqb;go_upto_region 22 with fail;have HE1:=HE;have Hq:=A3 (dG C1.out);rw[←HE.out]at Hq;obtain⟨u2,hu2⟩:∃u2,(u*4294967296+n) % v=u2:=⟨_,rfl⟩
    rw[hu2]at Hq;have C2:=A3 (show dF a b u2 m v from⟨C1.out.ha,C1.out.hb,Hdm.out.2,Hq.out.2,C1.out.hv⟩);have G:=A3 (dH Hq.out.1 (Nat.lt_trans Hq.out.2 aV.out));have HU:=A3 hu2;simp only[G.out];clear G hu2 Hq;have D2:=A3 (pK C2.out);obtain⟨q2,hq2⟩:∃q2,u2/a=q2:=⟨_,rfl⟩
    obtain⟨r2,hr2⟩:∃r2,u2 % a=r2:=⟨_,rfl⟩
    obtain⟨s2,hs2⟩:∃s2,q2*a=s2:=⟨_,rfl⟩
    have hus:u2=s2+r2:=by rw[←hs2,←hq2,←hr2];exact(Nat.div_add_mod' _ _).symm
    have hr0:r2<4294967296:=by rw[←hr2];have:=C1.out.ha;exact Nat.lt_trans (Nat.mod_lt _ (by omega)) (by omega)
    have hlu:u2<18446744073709551616:=by have:=C2.out.hu;have:=aV.out;omega
    rw[hq2,hr2]at D2;have e1:IntKind.u64.wrap ((u2:Int)/(a:Int))=(q2:Int):=by rw[←Int.natCast_ediv,hq2];exact Mul64.wrapN _ (by rw[←hq2];exact Nat.lt_of_le_of_lt (Nat.div_le_self _ _) hlu)
    have e2:IntKind.u64.wrap ((q2:Int)*(a:Int))=(s2:Int):=by rw[←Int.natCast_mul,hs2];exact Mul64.wrapN _ (by omega)
    have e3:IntKind.u64.wrap ((u2:Int)-(s2:Int))=(r2:Int):=by rw[show(u2:Int)-(s2:Int)=(r2:Int) by omega];exact Mul64.wrapN _ (by omega)
    have Hr0:=A3 hr0;clear hq2 hr2 hs2 hus hr0 hlu;go_wp2_with fail;clear e1 e2 e3;go_loopw [18,16] (fun iq ir wr=>∃q r:Nat,iq= .int .u64 (q:Int)∧ir= .int .u64 (r:Int)∧wr=x1.w∧j4 a b u2 m v q r∧r<4294967296) (fun iq _ _ =>(intOf iq).toNat)
    case atStart=>exact⟨q2,r2,rfl,rfl,rfl,D2.out,Hr0.out⟩
    case round=>
     clear D2 Hr0;obtain⟨Q2,R2,rfl,rfl,rfl,hD,hr2⟩:=hrel;have D2:=A3 hD;have Hr2:=A3 hr2;clear hD;obtain⟨qb,hqb⟩:∃qb,Q2*b=qb:=⟨_,rfl⟩
     have eM:qb<18446744073709551616:=by rw[←hqb];exact pM C2.out D2.out
     have hn1:m<4294967296:=C2.out.hn;have e1:IntKind.u64.wrap ((Q2:Int)*(b:Int))=(qb:Int):=by rw[←Int.natCast_mul,hqb];exact Mul64.wrapN _ eM
     have e2:IntKind.u64.wrap (4294967296*(R2:Int))=4294967296*(R2:Int):=by rw[IntKind.wrap_u64];omega
     have e3:IntKind.u64.wrap (4294967296*(R2:Int)+(m:Int))=4294967296*(R2:Int)+(m:Int):=by rw[IntKind.wrap_u64];omega
     clear eM hn1 hr2;by_cases hc:4294967296≤Q2∨4294967296*R2+m<Q2*b
     ·have HS:=A3 (pL C2.out D2.out hc)
      obtain⟨p2,hp2⟩:∃p2,Q2=p2+1:=⟨Q2-1,by have:=HS.out.1;omega⟩
      have e4:IntKind.u64.wrap ((Q2:Int)-1)=(p2:Int):=by rw[show(Q2:Int)-1=(p2:Int) by omega];exact Mul64.wrapN _ (by have:=D2.out.hb;omega)
      have e5:IntKind.u64.wrap ((R2:Int)+(a:Int))=(R2:Int)+(a:Int):=by rw[IntKind.wrap_u64];have:=C1.out.ha;have:=Hr2.out;omega
      have HQ:=A3 (show Q2-1=p2 from by omega);have HQb:=A3 (show p2≤4294967296 from by have:=D2.out.hb;omega);have Hq1:=A3 (show p2<Q2 from by omega);clear hp2;rcases Nat.lt_or_ge Q2 4294967296 with h1|h1
      ·have h2:¬(4294967296:Int)≤(Q2:Int):=by omega
       have h3:4294967296*(R2:Int)+(m:Int)<(qb:Int):=by omega
       by_cases hr:4294967296≤R2+a
       ·have hr1:(4294967296:Int)≤(R2:Int)+(a:Int):=by omega
        have HE:=A3 (show p2=(u2*4294967296+m)/v from by have h1:=gX C2.out HS.out.2 (by rw[HQ.out];exact HQb.out) hr;rw[HQ.out]at h1;exact h1);clear hc hr h1 hqb HS HQ HQb;go_wp2_with fail;have Hw:=A3 (dG C2.out);rw[←HE.out]at Hw;obtain⟨u3,hu3⟩:∃u3,(u2*4294967296+m) % v=u3:=⟨_,rfl⟩
        rw[hu3]at Hw;have L1:=A3 (show IntKind.u64.wrap (IntKind.u64.wrap ((Q1:Int)*4294967296)+(p2:Int))=((Q1*4294967296+p2:Nat):Int)from by have h1:=P3 C1.out;have h2:=P3 C2.out;rw[←HE1.out]at h1;rw[←HE.out]at h2;simp only[IntKind.wrap_u64];omega);have L1b:=A3 (show IntKind.u64.wrap ((Q1:Int)*4294967296+(p2:Int))=((Q1*4294967296+p2:Nat):Int)from by have h1:=P3 C1.out;have h2:=P3 C2.out;rw[←HE1.out]at h1;rw[←HE.out]at h2;simp only[IntKind.wrap_u64];omega);have L2:=A3 (dH Hw.out.1 (Nat.lt_trans Hw.out.2 aV.out));have L3:=A3 (show(u3:Int)/2 ^ s=((u3/2 ^ s:Nat):Int)from by rw[Int.natCast_ediv,Int.natCast_pow];rfl);simp only[L1.out,L1b.out,L2.out,L3.out];exact HP.out (Q1*4294967296+p2) (u3/2 ^ s) x1.w ((Nat.div_lt_iff_lt_mul hP).2 (by rw[Hv.out];exact Hw.out.2)) (by rw[HN.out,Hdm.out.1,fX (by have:=huv;omega),HU.out,←HE1.out,←HE.out]) ⟨x1,rfl⟩
       ·have hr1:¬(4294967296:Int)≤(R2:Int)+(a:Int):=by omega
        have HD:=A3 (show j4 a b u2 m v p2 (R2+a)from by have h1:=HS.out.2;rw[HQ.out]at h1;exact h1);have HR:=A3 (show R2+a<4294967296 from by omega);clear hc hr h1 hqb HS HQ HQb;go_wp2_with fail;go_roundw
        case rel=>exact⟨p2,R2+a,by first|rfl|trivial,by first|rw[Int.natCast_add]|trivial,by first|rfl|trivial,HD.out,HR.out⟩
        case measure=>have:=Hq1.out;simp[intOf];omega
      ·have h2:(4294967296:Int)≤(Q2:Int):=by omega
       by_cases hr:4294967296≤R2+a
       ·have hr1:(4294967296:Int)≤(R2:Int)+(a:Int):=by omega
        have HE:=A3 (show p2=(u2*4294967296+m)/v from by have h1:=gX C2.out HS.out.2 (by rw[HQ.out];exact HQb.out) hr;rw[HQ.out]at h1;exact h1);clear hc hr h1 hqb HS HQ HQb;go_wp2_with fail;have Hw:=A3 (dG C2.out);rw[←HE.out]at Hw;obtain⟨u3,hu3⟩:∃u3,(u2*4294967296+m) % v=u3:=⟨_,rfl⟩
        rw[hu3]at Hw;have L1:=A3 (show IntKind.u64.wrap (IntKind.u64.wrap ((Q1:Int)*4294967296)+(p2:Int))=((Q1*4294967296+p2:Nat):Int)from by have h1:=P3 C1.out;have h2:=P3 C2.out;rw[←HE1.out]at h1;rw[←HE.out]at h2;simp only[IntKind.wrap_u64];omega);have L1b:=A3 (show IntKind.u64.wrap ((Q1:Int)*4294967296+(p2:Int))=((Q1*4294967296+p2:Nat):Int)from by have h1:=P3 C1.out;have h2:=P3 C2.out;rw[←HE1.out]at h1;rw[←HE.out]at h2;simp only[IntKind.wrap_u64];omega);have L2:=A3 (dH Hw.out.1 (Nat.lt_trans Hw.out.2 aV.out));have L3:=A3 (show(u3:Int)/2 ^ s=((u3/2 ^ s:Nat):Int)from by rw[Int.natCast_ediv,Int.natCast_pow];rfl);simp only[L1.out,L1b.out,L2.out,L3.out];exact HP.out (Q1*4294967296+p2) (u3/2 ^ s) x1.w ((Nat.div_lt_iff_lt_mul hP).2 (by rw[Hv.out];exact Hw.out.2)) (by rw[HN.out,Hdm.out.1,fX (by have:=huv;omega),HU.out,←HE1.out,←HE.out]) ⟨x1,rfl⟩
       ·have hr1:¬(4294967296:Int)≤(R2:Int)+(a:Int):=by omega
        have HD:=A3 (show j4 a b u2 m v p2 (R2+a)from by have h1:=HS.out.2;rw[HQ.out]at h1;exact h1);have HR:=A3 (show R2+a<4294967296 from by omega);clear hc hr h1 hqb HS HQ HQb;go_wp2_with fail;go_roundw
        case rel=>exact⟨p2,R2+a,by first|rfl|trivial,by first|rw[Int.natCast_add]|trivial,by first|rfl|trivial,HD.out,HR.out⟩
        case measure=>have:=Hq1.out;simp[intOf];omega
     ·have h2:¬(4294967296:Int)≤(Q2:Int):=by omega
      have h3:¬4294967296*(R2:Int)+(m:Int)<(qb:Int):=by omega
      have HE:=A3 (show Q2=(u2*4294967296+m)/v from mK C2.out D2.out (by omega));clear hc hqb;go_wp2_with fail;have Hw:=A3 (dG C2.out);rw[←HE.out]at Hw;obtain⟨u3,hu3⟩:∃u3,(u2*4294967296+m) % v=u3:=⟨_,rfl⟩
      rw[hu3]at Hw;have L1:=A3 (show IntKind.u64.wrap (IntKind.u64.wrap ((Q1:Int)*4294967296)+(Q2:Int))=((Q1*4294967296+Q2:Nat):Int)from by have h1:=P3 C1.out;have h2:=P3 C2.out;rw[←HE1.out]at h1;rw[←HE.out]at h2;simp only[IntKind.wrap_u64];omega);have L1b:=A3 (show IntKind.u64.wrap ((Q1:Int)*4294967296+(Q2:Int))=((Q1*4294967296+Q2:Nat):Int)from by have h1:=P3 C1.out;have h2:=P3 C2.out;rw[←HE1.out]at h1;rw[←HE.out]at h2;simp only[IntKind.wrap_u64];omega);have L2:=A3 (dH Hw.out.1 (Nat.lt_trans Hw.out.2 aV.out));have L3:=A3 (show(u3:Int)/2 ^ s=((u3/2 ^ s:Nat):Int)from by rw[Int.natCast_ediv,Int.natCast_pow];rfl);simp only[L1.out,L1b.out,L2.out,L3.out];exact HP.out (Q1*4294967296+Q2) (u3/2 ^ s) x1.w ((Nat.div_lt_iff_lt_mul hP).2 (by rw[Hv.out];exact Hw.out.2)) (by rw[HN.out,Hdm.out.1,fX (by have:=huv;omega),HU.out,←HE1.out,←HE.out]) ⟨x1,rfl⟩
end
end Go.Proofs.YtmmlmhnjjfnpnaaGreat
