/- Texts that belong together. -/
import Derived.Test.YtmmlmhnjjfnpnaaGreatTpNb
import Derived.Test.YtmmlmhnjjfnpnaaGreatProg
import Derived.BigQuiet
set_option linter.all false
namespace Go.Proofs.YtmmlmhnjjfnpnaaGreat
set_option maxRecDepth 200000
set_option maxHeartbeats 64000000
section
open Go.RowKit
structure F0 where
 b:Int
 f0:Int
 f1:Int
 t0:Int
 t1:Int
def F0.cs (x:F0):List Value:=[.int .i64 x.b,.int .i64 x.f0,.int .i64 x.f1,.int .i64 x.t0,.int .i64 x.t1]
theorem F0.len (x:F0):x.cs.length=5:=rfl
structure F4 where
 f0:Int
 f1:Int
 t0:Int
 t1:Int
def F4.cs (x:F4):List Value:=[.int .i64 x.f0,.int .i64 x.f1,.int .i64 x.t0,.int .i64 x.t1]
theorem F4.len (x:F4):x.cs.length=4:=rfl
structure A8 where
 id:Int
 rd:Int
 s0:Int
 s1:Int
 e0:Int
 e1:Int
 op:Bool
 la:Option Addr
 legs:List F0
 lc:Nat
 pa:Option Addr
 pauses:List F4
 pc:Nat
 fw:Int
 fp:Int
 wh:Int
 pl:Int
def A8.cs (x:A8):List Value:=[.int .i64 x.id,.int .i64 x.rd,.int .i64 x.s0,.int .i64 x.s1,.int .i64 x.e0,.int .i64 x.e1,.bool x.op,.slice x.la x.legs.length x.lc,.slice x.pa x.pauses.length x.pc,.int .i64 x.fw,.int .i64 x.fp,.int .i64 x.wh,.int .i64 x.pl]
def A8.ag (x:A8):Value:=.agg #[.int .i64 x.id,.int .i64 x.rd,.int .i64 x.s0,.int .i64 x.s1,.int .i64 x.e0,.int .i64 x.e1,.bool x.op,.slice x.la x.legs.length x.lc,.slice x.pa x.pauses.length x.pc,.int .i64 x.fw,.int .i64 x.fp,.int .i64 x.wh,.int .i64 x.pl]
theorem A8.len (x:A8):x.cs.length=13:=rfl
instance:Inhabited F0:=⟨⟨0,0,0,0,0⟩⟩
instance:Inhabited F4:=⟨⟨0,0,0,0⟩⟩
instance:Inhabited A8:=⟨⟨0,0,0,0,0,0,false,none,[],0,none,[],0,0,0,0,0⟩⟩
structure A8.At (w:World) (x:A8):Prop where
 l:D0 F0.cs 5 w x.la x.legs
 p:D0 F4.cs 4 w x.pa x.pauses
 lm:x.legs.length≤9223372036854775807
 pm:x.pauses.length≤9223372036854775807
theorem A8.At.since {w:World} {x:A8} (h:x.At w) (y:A6 w):x.At y.w:=⟨A6.els h.l y,A6.els h.p y,h.lm,h.pm⟩
theorem A8.At.to {w W:World} {x:A8} (h:x.At w) (hW:∃z:A6 w,W=z.w):x.At W:=by
 obtain⟨z,rfl⟩:=hW;exact h.since z
structure j3 (w:World) (a:Option Addr) (l:List A8):Prop where
 c:D0 A8.cs 13 w a l
 r:∀x∈l,x.At w
theorem j3.since {w:World} {a:Option Addr} {l:List A8} (h:j3 w a l) (y:A6 w):j3 y.w a l:=⟨A6.els h.c y,fun x hx=>(h.r x hx).since y⟩
theorem j3.to {w W:World} {a:Option Addr} {l:List A8} (h:j3 w a l) (hW:∃z:A6 w,W=z.w):j3 W a l:=by
 obtain⟨z,rfl⟩:=hW;exact h.since z
def U9 (lo hi:Int):Bool:=decide (0≤lo) && decide (lo≤hi) && decide (hi≤4294943999)
theorem gA (lo hi:Int):U9 lo hi=true↔0≤lo∧lo≤hi∧hi≤4294943999:=by simp[U9,and_assoc]
def dM (x:F0):Bool:=U9 x.f0 x.f1 && U9 x.t0 x.t1
def bV (x:F4):Bool:=U9 x.f0 x.f1 && U9 x.t0 x.t1
def dN (x:A8):Bool:=decide (1≤x.id) && decide (x.id≤1000000) && decide (0≤x.rd) && decide (x.rd≤127) && U9 x.s0 x.s1 && U9 x.e0 x.e1
def o9 (x:A8):Bool:=dN x && x.legs.all dM && x.pauses.all bV
def W6:Int→Int→List F0→Int→Int→Bool
 |a0,a1,[],e0,e1=>decide (a0=e0) && decide (a1=e1)
 |a0,a1,x :: l,e0,e1=>decide (x.f0=a0) && decide (x.f1=a1) && W6 x.t0 x.t1 l e0 e1
def j4 (x:A8):Bool:=decide (1≤x.legs.length) && decide (x.legs.length≤512) && decide (x.pauses.length≤512) && W6 x.s0 x.s1 x.legs x.e0 x.e1
def p4 (op:Bool):List F0→Bool
 |[]=>true
 |x :: l=>(decide (x.f0≤x.t0) || (op && l.isEmpty)) && p4 op l
def j5 (op:Bool) (e:Int):Int→List F4→Bool
 |last,[]=>op || decide (last≤e)
 |last,x :: l=>decide (last≤x.f0) && ((op && l.isEmpty && decide (x.t0=0)) || (decide (x.f0≤x.t0) && j5 op e x.t0 l))
def W7 (x:A8):Bool:=p4 x.op x.legs && (x.pauses.isEmpty || j5 x.op x.e0 x.s0 x.pauses)
def gB (x:A8):Bool:=(x.op && !(decide (x.e0=0) && decide (x.e1=0))) || (x.op != decide (x.wh=3))
def I7 (x:A8):Int:=if o9 x=false then 1 else if j4 x=false then 3 else if W7 x=false then 9 else if gB x=true then 12 else 0
end
section
open Go.RowKit
structure AK0 (w:World) (b o:Nat) (e:F0):Prop where
 c0:∀y:A6 w,y.w.cell? ⟨b,o,none⟩=some (.int .i64 e.b)
 c1:∀y:A6 w,y.w.cell? ⟨b,o+1,none⟩=some (.int .i64 e.f0)
 c2:∀y:A6 w,y.w.cell? ⟨b,o+2,none⟩=some (.int .i64 e.f1)
 c3:∀y:A6 w,y.w.cell? ⟨b,o+3,none⟩=some (.int .i64 e.t0)
 c4:∀y:A6 w,y.w.cell? ⟨b,o+4,none⟩=some (.int .i64 e.t1)
theorem D0.leg {w:World} {a:Option Addr} {l:List F0} (h:D0 F0.cs 5 w a l) {k:Nat} {x:F0} (hk:l[k]? =some x):∃b off,a=some ⟨b,off,none⟩∧AK0 w b (off+k*5) x:=by
 obtain⟨b,off,ha,hb,hc⟩:=h k x hk;refine⟨b,off,ha,?_⟩;have hh:∀j v,x.cs[j]? =some v→∀y:A6 w,y.w.cell? ⟨b,off+k*5+j,none⟩=some v:=fun j v hv=>A6.cell (hc j v hv) hb;exact⟨hh 0 _ rfl,hh 1 _ rfl,hh 2 _ rfl,hh 3 _ rfl,hh 4 _ rfl⟩
structure AK1 (w:World) (b o:Nat) (e:F4):Prop where
 c0:∀y:A6 w,y.w.cell? ⟨b,o,none⟩=some (.int .i64 e.f0)
 c1:∀y:A6 w,y.w.cell? ⟨b,o+1,none⟩=some (.int .i64 e.f1)
 c2:∀y:A6 w,y.w.cell? ⟨b,o+2,none⟩=some (.int .i64 e.t0)
 c3:∀y:A6 w,y.w.cell? ⟨b,o+3,none⟩=some (.int .i64 e.t1)
theorem D0.pse {w:World} {a:Option Addr} {l:List F4} (h:D0 F4.cs 4 w a l) {k:Nat} {x:F4} (hk:l[k]? =some x):∃b off,a=some ⟨b,off,none⟩∧AK1 w b (off+k*4) x:=by
 obtain⟨b,off,ha,hb,hc⟩:=h k x hk;refine⟨b,off,ha,?_⟩;have hh:∀j v,x.cs[j]? =some v→∀y:A6 w,y.w.cell? ⟨b,off+k*4+j,none⟩=some v:=fun j v hv=>A6.cell (hc j v hv) hb;exact⟨hh 0 _ rfl,hh 1 _ rfl,hh 2 _ rfl,hh 3 _ rfl⟩
structure uB (w:World) (b o:Nat) (e:A8):Prop where
 c0:∀y:A6 w,y.w.cell? ⟨b,o,none⟩=some (.int .i64 e.id)
 c1:∀y:A6 w,y.w.cell? ⟨b,o+1,none⟩=some (.int .i64 e.rd)
 c2:∀y:A6 w,y.w.cell? ⟨b,o+2,none⟩=some (.int .i64 e.s0)
 c3:∀y:A6 w,y.w.cell? ⟨b,o+3,none⟩=some (.int .i64 e.s1)
 c4:∀y:A6 w,y.w.cell? ⟨b,o+4,none⟩=some (.int .i64 e.e0)
 c5:∀y:A6 w,y.w.cell? ⟨b,o+5,none⟩=some (.int .i64 e.e1)
 c6:∀y:A6 w,y.w.cell? ⟨b,o+6,none⟩=some (.bool e.op)
 c7:∀y:A6 w,y.w.cell? ⟨b,o+7,none⟩=some (.slice e.la e.legs.length e.lc)
 c8:∀y:A6 w,y.w.cell? ⟨b,o+8,none⟩=some (.slice e.pa e.pauses.length e.pc)
 c9:∀y:A6 w,y.w.cell? ⟨b,o+9,none⟩=some (.int .i64 e.fw)
 c10:∀y:A6 w,y.w.cell? ⟨b,o+10,none⟩=some (.int .i64 e.fp)
 c11:∀y:A6 w,y.w.cell? ⟨b,o+11,none⟩=some (.int .i64 e.wh)
 c12:∀y:A6 w,y.w.cell? ⟨b,o+12,none⟩=some (.int .i64 e.pl)
theorem D0.ride {w:World} {a:Option Addr} {l:List A8} (h:D0 A8.cs 13 w a l) {k:Nat} {x:A8} (hk:l[k]? =some x):∃b off,a=some ⟨b,off,none⟩∧uB w b (off+k*13) x:=by
 obtain⟨b,off,ha,hb,hc⟩:=h k x hk;refine⟨b,off,ha,?_⟩;have hh:∀j v,x.cs[j]? =some v→∀y:A6 w,y.w.cell? ⟨b,off+k*13+j,none⟩=some v:=fun j v hv=>A6.cell (hc j v hv) hb;exact⟨hh 0 _ rfl,hh 1 _ rfl,hh 2 _ rfl,hh 3 _ rfl,hh 4 _ rfl,hh 5 _ rfl,hh 6 _ rfl,hh 7 _ rfl,hh 8 _ rfl,hh 9 _ rfl,hh 10 _ rfl,hh 11 _ rfl,hh 12 _ rfl⟩
theorem mH {α:Type} {p:α→Bool} {l:List α} {k:Nat} {e:α} (h:l[k]? =some e) (hp:p e=false):l.all p=false:=by
 cases ha:l.all p
 ·rfl
 ·have:=List.all_eq_true.1 ha e (A0 h);rw[hp]at this;cases this
theorem uC {α:Type} {p:α→Bool} {l:List α} (h:∀j,j<l.length→∀e,l[j]? =some e→p e=true):l.all p=true:=by
 refine List.all_eq_true.2 fun e he=>?_;obtain⟨j,hj⟩:=List.mem_iff_getElem?.1 he;exact h j (A4 hj).1 e hj
theorem mI {α:Type} {P:α→Prop} {l:List α} {k:Nat} {e:α} (h:∀j,j<k→∀e,l[j]? =some e→P e) (he:l[k]? =some e) (hp:P e):∀j,j<k+1→∀e,l[j]? =some e→P e:=by
 intro j hj e' he';by_cases hjk:j<k
 ·exact h j hjk e' he'
 ·obtain rfl:j=k:=by omega
  rw[he]at he';cases he';exact hp
end
section
open Go.RowKit
theorem pJ (a b c d:Int) (w:World):(Op.equalIn 10000 36 (.agg #[.int .i64 a,.int .i64 b]) (.agg #[.int .i64 c,.int .i64 d])).run Tryz.prog w= .ok (decide (a=c) && decide (b=d)) w:=by
 have hS:Tryz.prog.underlying 36=some (.struct (Tryz.prog.fieldsOf 36)):=by kernel_rfl
 have hp:Tryz.prog.stoodInHeld 36=false:=by kernel_rfl
 have u3:=Tryz.underlying3;have a3:=Tryz.isAgg3;have z3:=Tryz.sizeOf3;rw[show(10000:Nat)=9999+1 from rfl,run_equalIn_struct w 9999 36 _ _ hS hp];simp only[Program.fieldsOf,Tryz.underlying36];go_simp;by_cases h1:a=c
 ·by_cases h2:b=d<;>simp[h1,h2]
 ·simp[h1]
theorem uD (op:BinOp) (a b:Operand) (xs ys:Array Value) (w:World):(eqGuard op 36 a b (.agg xs) (.agg ys)).run Tryz.prog w= .ok () w:=run_eqGuard_agg w op 36 a b xs ys (by kernel_rfl)
end
section
open Go.RowKit
theorem aP (w:World) (x:A6 w) (lo hi:Int):
 Calls Tryz.prog 82 #[.agg #[.int .i64 lo,.int .i64 hi]] x.w fun o w'=>o= .returned (.bool (U9 lo hi))∧∃y:A6 w,w'=y.w:=by
 rcases(by omega:lo<0∨(0≤lo∧hi<lo)∨(0≤lo∧lo≤hi∧4294943999<hi)∨(0≤lo∧lo≤hi∧hi≤4294943999))with h1|⟨h1,h2⟩|⟨h1,h2,h3⟩|⟨h1,h2,h3⟩
 case inr.inr.inr=>
  have hv:U9 lo hi=true:=(gA lo hi).2 ⟨h1,h2,h3⟩;have Hv:=A2 hv;clear hv;go_enter Tryz.func82,Tryz.ntmps82;go_wp2_with fail;go_ret;exact⟨F9 Hv.out.symm,x.alloc _⟩
 all_goals
  have hv:U9 lo hi=false:=by
   cases h:U9 lo hi
   ·rfl
   ·rw[gA]at h;omega
  have Hv:=A2 hv;clear hv;go_enter Tryz.func82,Tryz.ntmps82;go_wp2_with fail;go_ret;exact⟨F9 (by first|exact Hv.out.symm|(rw[Hv.out];exact decide_eq_false (by omega))),x.alloc _⟩
theorem iO {r:A8} (h:dN r=false∨r.legs.all dM=false∨r.pauses.all bV=false):o9 r=false:=by
 unfold o9;rcases h with h|h|h<;>simp[h]
theorem AK2 {r:A8} (h1:dN r=true) (h2:r.legs.all dM=true) (h3:r.pauses.all bV=true):o9 r=true:=by
 unfold o9;rw[h1,h2,h3];rfl
theorem AK3 (w:World) (x:A6 w) (r:A8) (h:r.At w):
 Calls Tryz.prog 35 #[.agg #[.int .i64 r.id,.int .i64 r.rd,.int .i64 r.s0,.int .i64 r.s1,.int .i64 r.e0,.int .i64 r.e1,.bool r.op,.slice r.la r.legs.length r.lc,.slice r.pa r.pauses.length r.pc,.int .i64 r.fw,.int .i64 r.fp,.int .i64 r.wh,.int .i64 r.pl]] x.w fun o w'=>o= .returned (.bool (o9 r))∧∃y:A6 w,w'=y.w:=by
 have HL:=A2 h.l;have HP:=A2 h.p;have hlm:=h.lm;have hpm:=h.pm;clear h;generalize r.la=la at HL⊢;generalize r.pa=pa at HP⊢;rcases(by omega:r.id<1∨(1≤r.id∧1000000<r.id)∨(1≤r.id∧r.id≤1000000∧r.rd<0)∨(1≤r.id∧r.id≤1000000∧0≤r.rd∧127<r.rd)∨(1≤r.id∧r.id≤1000000∧0≤r.rd∧r.rd≤127))with h1|⟨h1,h2⟩|⟨h1,h2,h3⟩|⟨h1,h2,h3,h4⟩|⟨h1,h2,h3,h4⟩
 case inr.inr.inr.inr=>
  have hhead:dN r=(U9 r.s0 r.s1 && U9 r.e0 r.e1):=by unfold dN;simp[h1,h2,h3,h4]
  have yO:=A2 hhead;clear hhead;go_enter Tryz.func35,Tryz.ntmps35;go_upto_region 1 with fail;obtain⟨W,bx,y0,hW,hbx,-,B8,Hup,Hbx,HB0⟩:=J8 x [.int .i64 r.id,.int .i64 r.rd,.int .i64 r.s0,.int .i64 r.s1,.int .i64 r.e0,.int .i64 r.e1,.bool r.op,.slice la r.legs.length r.lc,.slice pa r.pauses.length r.pc,.int .i64 r.fw,.int .i64 r.fp,.int .i64 r.wh,.int .i64 r.pl] 40;rw[hW,hbx];clear hW hbx;obtain⟨D7,D9,E3,E5,F3,I0,K9,O5,O6,X5,X3,X4,i9,hf0⟩:=P8 HB0;clear HB0;replace HL:=A2 (HL.out.to B8);replace HP:=A2 (HP.out.to B8);clear B8
  cases hs:U9 r.s0 r.s1 with
  |false=>
   have Hr:=A2 (iO (r:=r) (.inl (by rw[yO.out,hs];rfl)))
   have Hs:=A2 hs;clear hs
   go_wp2_with(go_at_call 82;refine(aP W _ _ _).mono ?_;rintro _ _ ⟨rfl,y1,rfl⟩;rw[Hs.out])
   go_ret
   exact⟨F9 Hr.out.symm,Hup.out _⟩
  |true=>
   cases he:U9 r.e0 r.e1 with
   |false=>
    have Hr:=A2 (iO (r:=r) (.inl (by rw[yO.out,hs,he];rfl)))
    have Hs:=A2 hs;have He:=A2 he;clear hs he
    go_wp2_with(first|(go_at_call 82;((with_reducible refine(aP W _ r.s0 r.s1).mono ?_);rintro _ _ ⟨rfl,y1,rfl⟩;rw[Hs.out]))|(go_at_call 82;((with_reducible refine(aP W _ r.e0 r.e1).mono ?_);rintro _ _ ⟨rfl,y1,rfl⟩;rw[He.out])))
    go_ret
    exact⟨F9 Hr.out.symm,Hup.out _⟩
   |true=>
    have Hh:=A2 (show dN r=true by rw[yO.out,hs,he];rfl)
    have Hs:=A2 hs;have He:=A2 he;clear hs he
    go_upto_region 4 with(first|(go_at_call 82;((with_reducible refine(aP W _ r.s0 r.s1).mono ?_);rintro _ _ ⟨rfl,y1,rfl⟩;rw[Hs.out]))|(go_at_call 82;((with_reducible refine(aP W _ r.e0 r.e1).mono ?_);rintro _ _ ⟨rfl,y1,rfl⟩;rw[He.out])))
    go_loopw [40] (fun i wr=>∃(k:Nat) (y:A6 W),k≤r.legs.length∧i= .int .i64 k∧wr=y.w∧∀j,j<k→∀e,r.legs[j]? =some e→dM e=true) (fun i _ =>r.legs.length-(intOf i).toNat)
    case atStart=>exact⟨0,_,by omega,rfl,rfl,fun j hj=>by omega⟩
    case round=>
     obtain⟨k,y,hk,rfl,rfl,hok⟩:=hrel;have Hok:=A2 hok;clear hok;by_cases hlt:k<r.legs.length
     ·obtain⟨e,he⟩:∃e,r.legs[k]? =some e:=⟨_,A3 hlt⟩
      obtain⟨b1,off1,rfl,h1'⟩:=D0.leg HL.out he;have pa0:=h1'.c0;have pa1:=h1'.c1;have pa2:=h1'.c2;have pa3:=h1'.c3;have pa4:=h1'.c4;have hk0:(0:Int)≤(k:Int):=by omega
      have hkl:(k:Int)<(r.legs.length:Int):=by omega
      have He':=A2 he;clear h1' he;go_upto_region 6 with fail;obtain⟨y2,e2,C5,hsz0,hlt0,HX0⟩:=L9 y [.int .i64 e.b,.int .i64 e.f0,.int .i64 e.f1,.int .i64 e.t0,.int .i64 e.t1] 152;rw[e2];obtain⟨hx0,hx1,hx2,hx3,hx4,hxf⟩:=pG HX0;skip;clear e2 C5;generalize y.w.heap.size=g at *;obtain⟨E9,G1,J4,I9,M8,G8⟩:=Z2 HX0;have I5:=A2 (And.intro hsz0 hlt0);clear hlt0 hsz0 HX0;obtain⟨q0,hq0⟩:=A6.refl y2.w;rw[hq0];clear hq0
      cases hf:U9 e.f0 e.f1 with
      |false=>
       have Hr:=A2 (iO (r:=r) (.inr <| .inl (mH He'.out (by unfold dM;rw[hf];rfl))))
       have Hf:=A2 hf;clear hf
       go_wp2_with(go_at_call 82;((with_reducible refine(aP y2.w _ e.f0 e.f1).mono ?_);rintro _ _ ⟨rfl,z1,rfl⟩;rw[Hf.out]))
       go_ret
       exact⟨F9 Hr.out.symm,by obtain⟨q,e⟩:=y2.trans z1;rw[e];exact Hup.out q⟩
      |true=>
       have Hf:=A2 hf;clear hf
       cases ht:U9 e.t0 e.t1 with
       |false=>
        have Hr:=A2 (iO (r:=r) (.inr <| .inl (mH He'.out (by unfold dM;rw[Hf.out,ht];rfl))))
        have Ht:=A2 ht;clear ht
        go_wp2_with(first|(go_at_call 82;((with_reducible refine(aP y2.w _ e.f0 e.f1).mono ?_);rintro _ _ ⟨rfl,z1,rfl⟩;rw[Hf.out]))|(go_at_call 82;((with_reducible refine(aP y2.w _ e.t0 e.t1).mono ?_);rintro _ _ ⟨rfl,z1,rfl⟩;rw[Ht.out])))
        go_ret
        exact⟨F9 Hr.out.symm,by obtain⟨q,e⟩:=y2.trans z1;rw[e];exact Hup.out q⟩
       |true=>
        have Hv:=A2 (show dM e=true by unfold dM;rw[Hf.out,ht];rfl)
        have Ht:=A2 ht;clear ht
        go_wp2_with(first|(go_at_call 82;((with_reducible refine(aP y2.w _ e.f0 e.f1).mono ?_);rintro _ _ ⟨rfl,z1,rfl⟩;rw[Hf.out]))|(go_at_call 82;((with_reducible refine(aP y2.w _ e.t0 e.t1).mono ?_);rintro _ _ ⟨rfl,z1,rfl⟩;rw[Ht.out])))
        obtain⟨q,eq⟩:=y2.trans z1
        rw[eq]
        go_roundw
        case rel=>exact⟨k+1,q,by omega,by go_num,rfl,mI Hok.out He'.out Hv.out⟩
        case measure=>simp[intOf]<;>omega
     ·obtain rfl:k=r.legs.length:=by omega
      have HvL:=A2 (uC Hok.out);go_upto_region 10 with fail;go_loopw [58] (fun i wr=>∃(k:Nat) (y:A6 W),k≤r.pauses.length∧i= .int .i64 k∧wr=y.w∧∀j,j<k→∀e,r.pauses[j]? =some e→bV e=true) (fun i _ =>r.pauses.length-(intOf i).toNat)
      case atStart=>exact⟨0,_,by omega,rfl,rfl,fun j hj=>by omega⟩
      case round=>
       obtain⟨k,y,hk,rfl,rfl,hok⟩:=hrel;have Hok:=A2 hok;clear hok;by_cases hlt:k<r.pauses.length
       ·obtain⟨e,he⟩:∃e,r.pauses[k]? =some e:=⟨_,A3 hlt⟩
        obtain⟨b1,off1,rfl,h1'⟩:=D0.pse HP.out he;have pa0:=h1'.c0;have pa1:=h1'.c1;have pa2:=h1'.c2;have pa3:=h1'.c3;have hk0:(0:Int)≤(k:Int):=by omega
        have hkl:(k:Int)<(r.pauses.length:Int):=by omega
        have He':=A2 he;clear h1' he;go_upto_region 12 with fail;obtain⟨y2,e2,C5,hsz0,hlt0,HX0⟩:=L9 y [.int .i64 e.f0,.int .i64 e.f1,.int .i64 e.t0,.int .i64 e.t1] 44;rw[e2];obtain⟨hx0,hx1,hx2,hx3,hxf⟩:=fA HX0;skip;clear e2 C5;generalize y.w.heap.size=g at *;obtain⟨E9,G1,J4,I9,G8⟩:=bF HX0;have I5:=A2 (And.intro hsz0 hlt0);clear hlt0 hsz0 HX0;obtain⟨q0,hq0⟩:=A6.refl y2.w;rw[hq0];clear hq0
        cases hf:U9 e.f0 e.f1 with
        |false=>
         have Hr:=A2 (iO (r:=r) (.inr <| .inr (mH He'.out (by unfold bV;rw[hf];rfl))))
         have Hf:=A2 hf;clear hf
         go_wp2_with(go_at_call 82;((with_reducible refine(aP y2.w _ e.f0 e.f1).mono ?_);rintro _ _ ⟨rfl,z1,rfl⟩;rw[Hf.out]))
         go_ret
         exact⟨F9 Hr.out.symm,by obtain⟨q,e⟩:=y2.trans z1;rw[e];exact Hup.out q⟩
        |true=>
         have Hf:=A2 hf;clear hf
         cases ht:U9 e.t0 e.t1 with
         |false=>
          have Hr:=A2 (iO (r:=r) (.inr <| .inr (mH He'.out (by unfold bV;rw[Hf.out,ht];rfl))))
          have Ht:=A2 ht;clear ht
          go_wp2_with(first|(go_at_call 82;((with_reducible refine(aP y2.w _ e.f0 e.f1).mono ?_);rintro _ _ ⟨rfl,z1,rfl⟩;rw[Hf.out]))|(go_at_call 82;((with_reducible refine(aP y2.w _ e.t0 e.t1).mono ?_);rintro _ _ ⟨rfl,z1,rfl⟩;rw[Ht.out])))
          go_ret
          exact⟨F9 Hr.out.symm,by obtain⟨q,e⟩:=y2.trans z1;rw[e];exact Hup.out q⟩
         |true=>
          have Hv:=A2 (show bV e=true by unfold bV;rw[Hf.out,ht];rfl)
          have Ht:=A2 ht;clear ht
          go_wp2_with(first|(go_at_call 82;((with_reducible refine(aP y2.w _ e.f0 e.f1).mono ?_);rintro _ _ ⟨rfl,z1,rfl⟩;rw[Hf.out]))|(go_at_call 82;((with_reducible refine(aP y2.w _ e.t0 e.t1).mono ?_);rintro _ _ ⟨rfl,z1,rfl⟩;rw[Ht.out])))
          obtain⟨q,eq⟩:=y2.trans z1
          rw[eq]
          go_roundw
          case rel=>exact⟨k+1,q,by omega,by go_num,rfl,mI Hok.out He'.out Hv.out⟩
          case measure=>simp[intOf]<;>omega
       ·obtain rfl:k=r.pauses.length:=by omega
        have HvP:=A2 (uC Hok.out);go_wp2_with fail;go_ret;exact⟨F9 (AK2 Hh.out HvL.out HvP.out).symm,Hup.out _⟩
 all_goals
  have Hr:=A2 (iO (r:=r) (.inl (by
   cases hh:dN r
   ·rfl
   ·unfold dN at hh
    simp only[Bool.and_eq_true,decide_eq_true_eq]at hh;omega)))
  go_enter Tryz.func35,Tryz.ntmps35;go_wp2_with fail;go_ret;exact⟨F9 Hr.out.symm,x.alloc _⟩
end
section
open Go.RowKit
theorem AK4 (w:World) (x:A6 w) (r:A8) (h:r.At w):
 Calls Tryz.prog 36 #[.agg #[.int .i64 r.id,.int .i64 r.rd,.int .i64 r.s0,.int .i64 r.s1,.int .i64 r.e0,.int .i64 r.e1,.bool r.op,.slice r.la r.legs.length r.lc,.slice r.pa r.pauses.length r.pc,.int .i64 r.fw,.int .i64 r.fp,.int .i64 r.wh,.int .i64 r.pl]] x.w fun o w'=>o= .returned (.bool (j4 r))∧∃y:A6 w,w'=y.w:=by
 have HL:=A2 h.l;have hlm:=h.lm;have hpm:=h.pm;clear h;generalize r.la=la at HL⊢;rcases(by omega:r.legs.length<1∨(1≤r.legs.length∧512<r.legs.length)∨(1≤r.legs.length∧r.legs.length≤512∧512<r.pauses.length)∨(1≤r.legs.length∧r.legs.length≤512∧r.pauses.length≤512))with h1|⟨h1,h2⟩|⟨h1,h2,h3⟩|⟨h1,h2,h3⟩
 case inr.inr.inr=>
  have hj:j4 r=W6 r.s0 r.s1 r.legs r.e0 r.e1:=by unfold j4;simp[h1,h2,h3]
  have Hj:=A2 hj;clear hj;go_enter Tryz.func36,Tryz.ntmps36;go_upto_region 1 with fail;obtain⟨W,bx,y0,hW,hbx,-,B8,Hup,Hbx,HB0⟩:=J8 x [.int .i64 r.id,.int .i64 r.rd,.int .i64 r.s0,.int .i64 r.s1,.int .i64 r.e0,.int .i64 r.e1,.bool r.op,.slice la r.legs.length r.lc,.slice r.pa r.pauses.length r.pc,.int .i64 r.fw,.int .i64 r.fp,.int .i64 r.wh,.int .i64 r.pl] 40;rw[hW,hbx];clear hW hbx;obtain⟨D7,D9,E3,E5,F3,I0,K9,O5,O6,X5,X3,X4,i9,hf0⟩:=P8 HB0;clear HB0;replace HL:=A2 (HL.out.to B8);clear B8;go_upto_region 4 with fail;obtain⟨y1,e2,C5,hsz0,hlt0,HX0⟩:=L9 y0 [.int .i64 r.s0,.int .i64 r.s1] 36;rw[e2];obtain⟨ha0,ha1,haf⟩:=cQ HX0;(have hbox:=C3.new y0.w [.int .i64 r.s0,.int .i64 r.s1] 36;rw[e2]at hbox)
  clear e2 C5;generalize y0.w.heap.size=ga at *;obtain⟨By0,By1,By2⟩:=o8 HX0;have Az9:=A2 (And.intro hsz0 hlt0);clear hlt0 hsz0 HX0;have dZ:=A2 hbox;have Hga:=A2 (show W.heap.size≤ga by have:=Az9.out.1;omega);clear hbox ha0 ha1 haf By0 By1 By2;go_wp2_with fail;go_loopw [27] (fun i wr=>∃(k:Nat) (a0 a1:Int) (y:A6 W),k≤r.legs.length∧i= .int .i64 k∧wr=y.w∧C3 y.w ga [.int .i64 a0,.int .i64 a1]∧W6 r.s0 r.s1 r.legs r.e0 r.e1=W6 a0 a1 (r.legs.drop k) r.e0 r.e1) (fun i _ =>r.legs.length-(intOf i).toNat)
  case atStart=>exact⟨0,r.s0,r.s1,y1,by omega,rfl,rfl,dZ.out,rfl⟩
  case round=>
   clear dZ Az9;obtain⟨k,a0,a1,y,hk,rfl,rfl,hbox,hch⟩:=hrel;have dZ:=A2 hbox;have Hch:=A2 hch;clear hbox hch;have tE:=pJ;have hgd:=uD;have Heq:=A2 tE;clear tE;by_cases hlt:k<r.legs.length
   ·obtain⟨e,he⟩:∃e,r.legs[k]? =some e:=⟨_,A3 hlt⟩
    obtain⟨b1,off1,rfl,h1'⟩:=D0.leg HL.out he;have pa0:=h1'.c0;have pa1:=h1'.c1;have pa2:=h1'.c2;have pa3:=h1'.c3;have pa4:=h1'.c4;have hdrop:r.legs.drop k=e :: r.legs.drop (k+1):=by
     rw[List.drop_eq_getElem_cons hlt,(A4 he).2]
    have Az6:=A2 hdrop;have hk0:(0:Int)≤(k:Int):=by omega
    have hkl:(k:Int)<(r.legs.length:Int):=by omega
    clear h1' he hdrop;go_upto_region 7 with fail;obtain⟨y2,e2,C5,hsz0,hlt0,HX0⟩:=L9 y [.int .i64 e.b,.int .i64 e.f0,.int .i64 e.f1,.int .i64 e.t0,.int .i64 e.t1] 152;rw[e2];obtain⟨hx0,hx1,hx2,hx3,hx4,hxf⟩:=pG HX0;(replace dZ:=A2 (dZ.out.to C5))
    clear e2 C5;generalize y.w.heap.size=g at *;obtain⟨E9,G1,J4,I9,M8,G8⟩:=Z2 HX0;have I5:=A2 (And.intro hsz0 hlt0);clear hlt0 hsz0 HX0;have ka0:∀q:A6 y2.w,q.w.cell? ⟨ga,0,none⟩=some (.int .i64 a0):=fun q=>(dZ.out.since q).c 0 _ rfl;have ka1:∀q:A6 y2.w,q.w.cell? ⟨ga,1,none⟩=some (.int .i64 a1):=fun q=>(dZ.out.since q).c 1 _ rfl;have kaf:∀(q:A6 y2.w) o,q.w.frozen? ⟨ga,o,none⟩=false:=fun q o=>(dZ.out.since q).f o;have heq:=Heq.out e.f0 e.f1 a0 a1;obtain⟨q0,hq0⟩:=A6.refl y2.w;rw[hq0];clear hq0
    cases hb:(decide (e.f0=a0) && decide (e.f1=a1))with
    |false=>
     rw[hb]at heq
     have Hr:=A2 (show j4 r=false by rw[Hj.out,Hch.out,Az6.out];unfold W6;rw[hb];rfl)
     clear hb
     go_wp2_with fail
     go_ret
     exact⟨F9 Hr.out.symm,by obtain⟨q,e⟩:=y2.trans q0;rw[e];exact Hup.out q⟩
    |true=>
     rw[hb]at heq
     have Hr:=A2 (show W6 a0 a1 (r.legs.drop k) r.e0 r.e1=W6 e.t0 e.t1 (r.legs.drop (k+1)) r.e0 r.e1 by rw[Az6.out];show(_ && _ && _)= _;rw[hb];rfl)
     clear hb
     go_wp2_with fail
     have hb2:=(dZ.out.since q0).sets (us:=[.int .i64 e.t0,.int .i64 e.t1]) rfl
     obtain⟨q,eq⟩:=y2.trans q0
     obtain⟨y4,h4⟩:=q.sets ga Hga.out [.int .i64 e.t0,.int .i64 e.t1] 0
     rw[eq,h4]at hb2
     rw[eq]
     have H4:=A2 h4;have Hb2:=A2 hb2
     clear h4 hb2 eq
     go_roundw
     case rel=>exact⟨k+1,e.t0,e.t1,y4,by omega,by go_num,H4.out,Hb2.out,by rw[Hch.out,Hr.out]⟩
     case measure=>simp[intOf]<;>omega
   ·obtain rfl:k=r.legs.length:=by omega
    rw[List.drop_length]at Hch;have hj2:j4 r=(decide (a0=r.e0) && decide (a1=r.e1)):=by rw[Hj.out,Hch.out];rfl
    have Hj2:=A2 hj2;clear hj2;obtain⟨q1,hq1⟩:=A6.refl y.w;have ka0:∀q:A6 y.w,q.w.cell? ⟨ga,0,none⟩=some (.int .i64 a0):=fun q=>(dZ.out.since q).c 0 _ rfl;have ka1:∀q:A6 y.w,q.w.cell? ⟨ga,1,none⟩=some (.int .i64 a1):=fun q=>(dZ.out.since q).c 1 _ rfl;have heq:=Heq.out a0 a1 r.e0 r.e1;have kh4:∀q:A6 y.w,q.w.cell? ⟨bx,4,none⟩=some (.int .i64 r.e0):=fun q=>by obtain⟨z,e⟩:=y.trans q;rw[e];exact F3 z
    have kh5:∀q:A6 y.w,q.w.cell? ⟨bx,5,none⟩=some (.int .i64 r.e1):=fun q=>by obtain⟨z,e⟩:=y.trans q;rw[e];exact I0 z
    rw[hq1];clear hq1;go_wp2_with fail;go_ret;exact⟨F9 Hj2.out.symm,by obtain⟨q,e⟩:=y.trans q1;rw[e];exact Hup.out q⟩
 all_goals
  have Hr:=A2 (show j4 r=false by
   cases hh:j4 r
   ·rfl
   ·unfold j4 at hh
    simp only[Bool.and_eq_true,decide_eq_true_eq]at hh;omega)
  go_enter Tryz.func36,Tryz.ntmps36;go_wp2_with fail;go_ret;exact⟨F9 Hr.out.symm,x.alloc _⟩
end
section
open Go.RowKit
theorem Ad6 {α:Type} {l:List α} {k:Nat} {e:α} (he:l[k]? =some e):l.drop k=e :: l.drop (k+1):=by
 rw[List.drop_eq_getElem_cons (A4 he).1,(A4 he).2]
theorem Ad7 {α:Type} {l:List α} {k:Nat} (h:k<l.length):(l.drop (k+1)).isEmpty=decide (k+1=l.length):=by
 rw[Bool.eq_iff_iff,List.isEmpty_iff,List.drop_eq_nil_iff,decide_eq_true_eq];omega
theorem AK5 (w:World) (x:A6 w) (r:A8) (h:r.At w):
 Calls Tryz.prog 37 #[.agg #[.int .i64 r.id,.int .i64 r.rd,.int .i64 r.s0,.int .i64 r.s1,.int .i64 r.e0,.int .i64 r.e1,.bool r.op,.slice r.la r.legs.length r.lc,.slice r.pa r.pauses.length r.pc,.int .i64 r.fw,.int .i64 r.fp,.int .i64 r.wh,.int .i64 r.pl]] x.w fun o w'=>o= .returned (.bool (W7 r))∧∃y:A6 w,w'=y.w:=by
 have HL:=A2 h.l;have HP:=A2 h.p;have hlm:=h.lm;have hpm:=h.pm;have hO:W7 r=(p4 r.op r.legs && (r.pauses.isEmpty || j5 r.op r.e0 r.s0 r.pauses)):=rfl;have HO:=A2 hO;clear h hO;generalize r.la=la at HL⊢;generalize r.pa=pa at HP⊢;generalize r.op=op at HO⊢;go_enter Tryz.func37,Tryz.ntmps37;go_upto_region 1 with fail;obtain⟨W,bx,y0,hW,hbx,-,B8,Hup,Hbx,HB0⟩:=J8 x [.int .i64 r.id,.int .i64 r.rd,.int .i64 r.s0,.int .i64 r.s1,.int .i64 r.e0,.int .i64 r.e1,.bool op,.slice la r.legs.length r.lc,.slice pa r.pauses.length r.pc,.int .i64 r.fw,.int .i64 r.fp,.int .i64 r.wh,.int .i64 r.pl] 40;rw[hW,hbx];clear hW hbx;obtain⟨D7,D9,E3,E5,F3,I0,K9,O5,O6,X5,X3,X4,i9,hf0⟩:=P8 HB0;clear HB0;replace HL:=A2 (HL.out.to B8);replace HP:=A2 (HP.out.to B8);clear B8;go_wp2_with fail;go_loopw [11] (fun i wr=>∃(k:Nat) (y:A6 W),k≤r.legs.length∧i= .int .i64 k∧wr=y.w∧p4 op r.legs=p4 op (r.legs.drop k)) (fun i _ =>r.legs.length-(intOf i).toNat)
 case atStart=>exact⟨0,_,by omega,rfl,rfl,rfl⟩
 case round=>
  obtain⟨k,y,hk,rfl,rfl,hch⟩:=hrel;have Hch:=A2 hch;clear hch;by_cases hlt:k<r.legs.length
  ·obtain⟨e,he⟩:∃e,r.legs[k]? =some e:=⟨_,A3 hlt⟩
   obtain⟨b1,off1,rfl,h1'⟩:=D0.leg HL.out he;have pa0:=h1'.c0;have pa1:=h1'.c1;have pa2:=h1'.c2;have pa3:=h1'.c3;have pa4:=h1'.c4;have hstep:p4 op (r.legs.drop k)=((decide (e.f0≤e.t0) || (op && decide (k+1=r.legs.length))) && p4 op (r.legs.drop (k+1))):=by
    rw[Ad6 he,←Ad7 hlt];rfl
   have s9:=A2 hstep;have hk0:(0:Int)≤(k:Int):=by omega
   have hkl:(k:Int)<(r.legs.length:Int):=by omega
   clear h1' he hstep;go_upto_region 4 with fail;obtain⟨y2,e2,C5,hsz0,hlt0,HX0⟩:=L9 y [.int .i64 e.b,.int .i64 e.f0,.int .i64 e.f1,.int .i64 e.t0,.int .i64 e.t1] 152;rw[e2];obtain⟨hx0,hx1,hx2,hx3,hx4,hxf⟩:=pG HX0;skip;clear e2 C5;generalize y.w.heap.size=g at *;obtain⟨E9,G1,J4,I9,M8,G8⟩:=Z2 HX0;have I5:=A2 (And.intro hsz0 hlt0);clear hlt0 hsz0 HX0;replace D7:=A6.cellTo ⟨y2,rfl⟩ D7;replace D9:=A6.cellTo ⟨y2,rfl⟩ D9;replace E3:=A6.cellTo ⟨y2,rfl⟩ E3;replace E5:=A6.cellTo ⟨y2,rfl⟩ E5;replace F3:=A6.cellTo ⟨y2,rfl⟩ F3;replace I0:=A6.cellTo ⟨y2,rfl⟩ I0;replace K9:=A6.cellTo ⟨y2,rfl⟩ K9;replace O5:=A6.cellTo ⟨y2,rfl⟩ O5;replace O6:=A6.cellTo ⟨y2,rfl⟩ O6;replace X5:=A6.cellTo ⟨y2,rfl⟩ X5;replace X3:=A6.cellTo ⟨y2,rfl⟩ X3;replace X4:=A6.cellTo ⟨y2,rfl⟩ X4;replace i9:=A6.cellTo ⟨y2,rfl⟩ i9;obtain⟨q0,hq0⟩:=A6.refl y2.w;rw[hq0];clear hq0;rcases(by omega:e.f0≤e.t0∨(e.t0<e.f0∧k+1=r.legs.length)∨(e.t0<e.f0∧k+1<r.legs.length))with hle|⟨hgt,hkk⟩|⟨hgt,hkk⟩
   ·have Hr:=A2 (show p4 op (r.legs.drop k)=p4 op (r.legs.drop (k+1)) by rw[s9.out];simp[hle])
    go_wp2_with fail;obtain⟨q,eq⟩:=y2.trans q0;rw[eq];go_roundw
    case rel=>exact⟨k+1,q,by omega,by go_num,rfl,by rw[Hch.out,Hr.out]⟩
    case measure=>simp[intOf]<;>omega
   ·have hkb:((k:Int) == (r.legs.length:Int)-1)=true:=by simp;omega
    have Hkk:=A2 hkk;clear hkk
    cases op with
    |true=>
     have Hr:=A2 (show p4 true (r.legs.drop k)=p4 true (r.legs.drop (k+1)) by rw[s9.out];simp[Hkk.out])
     go_wp2_with fail
     obtain⟨q,eq⟩:=y2.trans q0
     rw[eq]
     go_roundw
     case rel=>exact⟨k+1,q,by omega,by go_num,rfl,by rw[Hch.out,Hr.out]⟩
     case measure=>simp[intOf]<;>omega
    |false=>
     have Hr:=A2 (show W7 r=false by rw[HO.out,Hch.out,s9.out];simp;omega)
     go_wp2_with fail
     go_ret
     exact⟨F9 Hr.out.symm,by obtain⟨q,e⟩:=y2.trans q0;rw[e];exact Hup.out q⟩
   ·have hkb:((k:Int) == (r.legs.length:Int)-1)=false:=by simp;omega
    have Hr:=A2 (show W7 r=false by rw[HO.out,Hch.out,s9.out];simp;omega)
    cases op;all_goals
     go_wp2_with fail;go_ret;exact⟨F9 Hr.out.symm,by obtain⟨q,e⟩:=y2.trans q0;rw[e];exact Hup.out q⟩
  ·obtain rfl:k=r.legs.length:=by omega
   rw[List.drop_length]at Hch;have HO2:=A2 (show W7 r=(r.pauses.isEmpty || j5 op r.e0 r.s0 r.pauses) by rw[HO.out,Hch.out];rfl);clear HO Hch;go_wp2_with fail;go_loopw [5,43] (fun v i wr=>∃(k:Nat) (a:Int) (y:A6 W),k≤r.pauses.length∧i= .int .i64 k∧v= .int .i64 a∧wr=y.w∧j5 op r.e0 r.s0 r.pauses=j5 op r.e0 a (r.pauses.drop k)) (fun _ i _ =>r.pauses.length-(intOf i).toNat)
   case atStart=>exact⟨0,r.s0,y,by omega,rfl,rfl,rfl,rfl⟩
   case round=>
    obtain⟨k,a,y,hk,rfl,rfl,rfl,hch⟩:=hrel;have Hch:=A2 hch;clear hch;by_cases hlt:k<r.pauses.length
    ·obtain⟨e,he⟩:∃e,r.pauses[k]? =some e:=⟨_,A3 hlt⟩
     obtain⟨b1,off1,rfl,h1'⟩:=D0.pse HP.out he;have pb0:=h1'.c0;have pb1:=h1'.c1;have pb2:=h1'.c2;have pb3:=h1'.c3;have hstep:j5 op r.e0 a (r.pauses.drop k)=(decide (a≤e.f0) && ((op && decide (k+1=r.pauses.length) && decide (e.t0=0)) || (decide (e.f0≤e.t0) && j5 op r.e0 e.t0 (r.pauses.drop (k+1))))):=by
      rw[Ad6 he,←Ad7 hlt];rfl
     have s9:=A2 hstep;have hne:r.pauses.isEmpty=false:=by cases hh:r.pauses<;>simp_all
     have HO3:=A2 (show W7 r=j5 op r.e0 a (r.pauses.drop k) by rw[HO2.out,hne,Hch.out];rfl);have hk0:(0:Int)≤(k:Int):=by omega
     have hkl:(k:Int)<(r.pauses.length:Int):=by omega
     clear h1' he hstep hne;go_upto_region 11 with fail;obtain⟨y2,e2,C5,hsz0,hlt0,HX0⟩:=L9 y [.int .i64 e.f0,.int .i64 e.f1,.int .i64 e.t0,.int .i64 e.t1] 44;rw[e2];obtain⟨hx0,hx1,hx2,hx3,hxf⟩:=fA HX0;skip;clear e2 C5;generalize y.w.heap.size=g at *;obtain⟨E9,G1,J4,I9,G8⟩:=bF HX0;have I5:=A2 (And.intro hsz0 hlt0);clear hlt0 hsz0 HX0;replace D7:=A6.cellTo ⟨y2,rfl⟩ D7;replace D9:=A6.cellTo ⟨y2,rfl⟩ D9;replace E3:=A6.cellTo ⟨y2,rfl⟩ E3;replace E5:=A6.cellTo ⟨y2,rfl⟩ E5;replace F3:=A6.cellTo ⟨y2,rfl⟩ F3;replace I0:=A6.cellTo ⟨y2,rfl⟩ I0;replace K9:=A6.cellTo ⟨y2,rfl⟩ K9;replace O5:=A6.cellTo ⟨y2,rfl⟩ O5;replace O6:=A6.cellTo ⟨y2,rfl⟩ O6;replace X5:=A6.cellTo ⟨y2,rfl⟩ X5;replace X3:=A6.cellTo ⟨y2,rfl⟩ X3;replace X4:=A6.cellTo ⟨y2,rfl⟩ X4;replace i9:=A6.cellTo ⟨y2,rfl⟩ i9;obtain⟨q0,hq0⟩:=A6.refl y2.w;rw[hq0];clear hq0;by_cases hfa:e.f0<a
     ·have Hr:=A2 (show W7 r=false by rw[HO3.out,s9.out,decide_eq_false (by omega)];rfl)
      go_wp2_with fail;go_ret;exact⟨F9 Hr.out.symm,by obtain⟨q,e⟩:=y2.trans q0;rw[e];exact Hup.out q⟩
     have hfa':a≤e.f0:=by omega
     by_cases hret:op=true∧k+1=r.pauses.length∧e.t0=0
     ·obtain⟨rfl,hkk,ht0⟩:=hret
      have Hr:=A2 (show W7 r=true by rw[HO3.out,s9.out,decide_eq_true hfa',decide_eq_true hkk,decide_eq_true ht0];rfl);have hkb:((k:Int) == (r.pauses.length:Int)-1)=true:=by simp;omega
      have htb:(e.t0 == 0)=true:=by simpa using ht0
      have Hkk:=A2 hkk;have Ht0:=A2 ht0;clear hkk ht0 hfa;go_wp2_with fail;go_ret;exact⟨F9 Hr.out.symm,by obtain⟨q,e⟩:=y2.trans q0;rw[e];exact Hup.out q⟩
     have hno:(op && decide (k+1=r.pauses.length) && decide (e.t0=0))=false:=by
      cases op
      ·rfl
      ·by_cases h1:k+1=r.pauses.length
       ·by_cases h2:e.t0=0
        ·exact(hret ⟨rfl,h1,h2⟩).elim
        ·simp[h2]
       ·simp[h1]
     have Hno:=A2 hno;have hcase:(op=false)∨(op=true∧((k:Int) == (r.pauses.length:Int)-1)=false)∨(op=true∧((k:Int) == (r.pauses.length:Int)-1)=true∧(e.t0 == 0)=false):=by
      cases op
      ·exact .inl rfl
      ·by_cases h1:k+1=r.pauses.length
       ·exact .inr (.inr ⟨rfl,by simp;omega,by simp;intro h2;exact hret ⟨rfl,h1,h2⟩⟩)
       ·exact .inr (.inl ⟨rfl,by simp;omega⟩)
     clear hno hret hfa;by_cases hft:e.f0≤e.t0
     ·have Hr:=A2 (show j5 op r.e0 a (r.pauses.drop k)=j5 op r.e0 e.t0 (r.pauses.drop (k+1)) by rw[s9.out,Hno.out,decide_eq_true hfa',decide_eq_true hft];rfl)
      rcases hcase with rfl|⟨rfl,hkb⟩|⟨rfl,hkb,htb⟩
      all_goals
       go_wp2_with fail;obtain⟨q,eq⟩:=y2.trans q0;rw[eq];go_roundw
       case rel=>exact⟨k+1,e.t0,q,by omega,by go_num,rfl,rfl,by rw[Hch.out,Hr.out]⟩
       case measure=>simp[intOf]<;>omega
     ·have Hr:=A2 (show W7 r=false by rw[HO3.out,s9.out,Hno.out,decide_eq_true hfa',decide_eq_false hft];rfl)
      rcases hcase with rfl|⟨rfl,hkb⟩|⟨rfl,hkb,htb⟩
      all_goals
       go_wp2_with fail;go_ret;exact⟨F9 Hr.out.symm,by obtain⟨q,e⟩:=y2.trans q0;rw[e];exact Hup.out q⟩
    ·obtain rfl:k=r.pauses.length:=by omega
     rw[List.drop_length]at Hch;have HO3:=A2 (show W7 r=(decide (r.pauses.length=0) || op || decide (a≤r.e0)) by
      rw[HO2.out,Hch.out];have:r.pauses.isEmpty=decide (r.pauses.length=0):=by rw[Bool.eq_iff_iff];simp
      rw[this,Bool.or_assoc];rfl)
     clear HO2 Hch;have hcase:op=true∨(op=false∧((r.pauses.length:Int) == 0)=true∧W7 r=true)∨(op=false∧((r.pauses.length:Int) == 0)=false∧W7 r=decide (a≤r.e0)):=by
      cases op
      ·by_cases h0:r.pauses.length=0
       ·exact .inr (.inl ⟨rfl,by simp;simpa using h0,by rw[HO3.out,decide_eq_true h0];rfl⟩)
       ·exact .inr (.inr ⟨rfl,by simp;simpa using h0,by rw[HO3.out,decide_eq_false h0];rfl⟩)
      ·exact .inl rfl
     rcases hcase with rfl|⟨rfl,h0,hr⟩|⟨rfl,h0,hr⟩
     ·have Hr:=A2 (show W7 r=true by rw[HO3.out];simp)
      go_wp2_with fail;go_ret;exact⟨F9 Hr.out.symm,Hup.out _⟩
     ·have Hr:=A2 hr;clear hr
      go_wp2_with fail;go_ret;exact⟨F9 Hr.out.symm,Hup.out _⟩
     ·have Hr:=A2 hr;clear hr
      go_wp2_with fail;go_ret;exact⟨F9 Hr.out.symm,Hup.out _⟩
end
section
open Go.RowKit
theorem uE (w:World) (x:A6 w) (r:A8) (h:r.At w):
 Calls Tryz.prog 9 #[.agg #[.int .i64 r.id,.int .i64 r.rd,.int .i64 r.s0,.int .i64 r.s1,.int .i64 r.e0,.int .i64 r.e1,.bool r.op,.slice r.la r.legs.length r.lc,.slice r.pa r.pauses.length r.pc,.int .i64 r.fw,.int .i64 r.fp,.int .i64 r.wh,.int .i64 r.pl]] x.w fun o w'=>o= .returned (.int .i64 (I7 r))∧∃y:A6 w,w'=y.w:=by
 have H:=A2 h;clear h;go_enter Tryz.func9,Tryz.ntmps9;go_upto_region 1 with fail;obtain⟨W,bx,y0,hW,hbx,-,B8,Hup,Hbx,HB0⟩:=J8 x [.int .i64 r.id,.int .i64 r.rd,.int .i64 r.s0,.int .i64 r.s1,.int .i64 r.e0,.int .i64 r.e1,.bool r.op,.slice r.la r.legs.length r.lc,.slice r.pa r.pauses.length r.pc,.int .i64 r.fw,.int .i64 r.fp,.int .i64 r.wh,.int .i64 r.pl] 40;rw[hW,hbx];clear hW hbx;obtain⟨D7,D9,E3,E5,F3,I0,K9,O5,O6,X5,X3,X4,i9,hf0⟩:=P8 HB0;clear HB0;replace H:=A2 (H.out.to B8);clear B8;have Hra:=A2 (fun y:A6 W=>AK3 W y r H.out);have Hjo:=A2 (fun y:A6 W=>AK4 W y r H.out);have Hor:=A2 (fun y:A6 W=>AK5 W y r H.out);have hgd:=uD;have heq:=pJ r.e0 r.e1 0 0;have HE:=A2 (show I7 r=if o9 r=false then 1 else if j4 r=false then 3 else if W7 r=false then 9 else if gB r=true then 12 else 0 from rfl);have Hst:=A2 (show gB r=((r.op && !(decide (r.e0=0) && decide (r.e1=0))) || (r.op != decide (r.wh=3)))from rfl);generalize gB r=sb at *;generalize o9 r=rb at *;generalize j4 r=jb at *;generalize W7 r=ob at *
 cases rb with
 |false=>
  go_wp2_with(go_at_call 35;((with_reducible refine(Hra.out _).mono ?_);rintro _ _ ⟨rfl,y1,rfl⟩))
  go_ret
  exact⟨D1 (by rw[HE.out];rfl),Hup.out _⟩
 |true=>
  cases jb with
  |false=>
   go_wp2_with(first|(go_at_call 35;((with_reducible refine(Hra.out _).mono ?_);rintro _ _ ⟨rfl,y1,rfl⟩))|(go_at_call 36;((with_reducible refine(Hjo.out _).mono ?_);rintro _ _ ⟨rfl,y2,rfl⟩)))
   go_ret
   exact⟨D1 (by rw[HE.out];rfl),Hup.out _⟩
  |true=>
   cases ob with
   |false=>
    go_wp2_with(first|(go_at_call 35;((with_reducible refine(Hra.out _).mono ?_);rintro _ _ ⟨rfl,y1,rfl⟩))|(go_at_call 36;((with_reducible refine(Hjo.out _).mono ?_);rintro _ _ ⟨rfl,y2,rfl⟩))|(go_at_call 37;((with_reducible refine(Hor.out _).mono ?_);rintro _ _ ⟨rfl,y3,rfl⟩)))
    go_ret
    exact⟨D1 (by rw[HE.out];rfl),Hup.out _⟩
   |true=>
    go_upto_region 7 with(first|(go_at_call 35;((with_reducible refine(Hra.out _).mono ?_);rintro _ _ ⟨rfl,y1,rfl⟩))|(go_at_call 36;((with_reducible refine(Hjo.out _).mono ?_);rintro _ _ ⟨rfl,y2,rfl⟩))|(go_at_call 37;((with_reducible refine(Hor.out _).mono ?_);rintro _ _ ⟨rfl,y3,rfl⟩)))
    clear Hra Hjo Hor
    cases hz:(decide (r.e0=0) && decide (r.e1=0))with
    |false=>
     rw[hz]at heq Hst
     clear hz
     by_cases hw:r.wh=3
     ·have hwb:(r.wh == 3)=true:=by simpa using hw
      rw[decide_eq_true hw]at Hst;clear hw
      cases hop:r.op with
      |false=>
       rw[hop]at Hst
       go_wp2_with fail
       go_ret
       exact⟨D1 (by rw[HE.out,Hst.out];rfl),Hup.out _⟩
      |true=>
       rw[hop]at Hst
       go_wp2_with fail
       go_ret
       exact⟨D1 (by rw[HE.out,Hst.out];rfl),Hup.out _⟩
     ·have hwb:(r.wh == 3)=false:=by simpa using hw
      rw[decide_eq_false hw]at Hst;clear hw
      cases hop:r.op with
      |false=>
       rw[hop]at Hst
       go_wp2_with fail
       go_ret
       exact⟨D1 (by rw[HE.out,Hst.out];rfl),Hup.out _⟩
      |true=>
       rw[hop]at Hst
       go_wp2_with fail
       go_ret
       exact⟨D1 (by rw[HE.out,Hst.out];rfl),Hup.out _⟩
    |true=>
     rw[hz]at heq Hst
     clear hz
     by_cases hw:r.wh=3
     ·have hwb:(r.wh == 3)=true:=by simpa using hw
      rw[decide_eq_true hw]at Hst;clear hw
      cases hop:r.op with
      |false=>
       rw[hop]at Hst
       go_wp2_with fail
       go_ret
       exact⟨D1 (by rw[HE.out,Hst.out];rfl),Hup.out _⟩
      |true=>
       rw[hop]at Hst
       go_wp2_with fail
       go_ret
       exact⟨D1 (by rw[HE.out,Hst.out];rfl),Hup.out _⟩
     ·have hwb:(r.wh == 3)=false:=by simpa using hw
      rw[decide_eq_false hw]at Hst;clear hw
      cases hop:r.op with
      |false=>
       rw[hop]at Hst
       go_wp2_with fail
       go_ret
       exact⟨D1 (by rw[HE.out,Hst.out];rfl),Hup.out _⟩
      |true=>
       rw[hop]at Hst
       go_wp2_with fail
       go_ret
       exact⟨D1 (by rw[HE.out,Hst.out];rfl),Hup.out _⟩
end
end Go.Proofs.YtmmlmhnjjfnpnaaGreat
