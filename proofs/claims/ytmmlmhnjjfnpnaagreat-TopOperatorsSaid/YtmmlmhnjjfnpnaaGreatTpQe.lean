/- Texts that belong together. -/
import Derived.Test.YtmmlmhnjjfnpnaaGreatTpQb
import Derived.Test.YtmmlmhnjjfnpnaaGreatProg
import Derived.BigQuiet
set_option linter.all false
namespace Go.Proofs.YtmmlmhnjjfnpnaaGreat
set_option maxRecDepth 200000
set_option maxHeartbeats 64000000
section
open Go.RowKit
structure E0 where
 b:Int
 f0:Int
 f1:Int
 t0:Int
 t1:Int
def E0.cs (x:E0):List Value:=[.int .i64 x.b,.int .i64 x.f0,.int .i64 x.f1,.int .i64 x.t0,.int .i64 x.t1]
theorem E0.len (x:E0):x.cs.length=5:=rfl
structure I2 where
 f0:Int
 f1:Int
 t0:Int
 t1:Int
def I2.cs (x:I2):List Value:=[.int .i64 x.f0,.int .i64 x.f1,.int .i64 x.t0,.int .i64 x.t1]
theorem I2.len (x:I2):x.cs.length=4:=rfl
structure A9 where
 id:Int
 rd:Int
 s0:Int
 s1:Int
 e0:Int
 e1:Int
 op:Bool
 la:Option Addr
 legs:List E0
 lc:Nat
 pa:Option Addr
 pauses:List I2
 pc:Nat
 fw:Int
 fp:Int
 wh:Int
 pl:Int
def A9.cs (x:A9):List Value:=[.int .i64 x.id,.int .i64 x.rd,.int .i64 x.s0,.int .i64 x.s1,.int .i64 x.e0,.int .i64 x.e1,.bool x.op,.slice x.la x.legs.length x.lc,.slice x.pa x.pauses.length x.pc,.int .i64 x.fw,.int .i64 x.fp,.int .i64 x.wh,.int .i64 x.pl]
def A9.ag (x:A9):Value:=.agg #[.int .i64 x.id,.int .i64 x.rd,.int .i64 x.s0,.int .i64 x.s1,.int .i64 x.e0,.int .i64 x.e1,.bool x.op,.slice x.la x.legs.length x.lc,.slice x.pa x.pauses.length x.pc,.int .i64 x.fw,.int .i64 x.fp,.int .i64 x.wh,.int .i64 x.pl]
theorem A9.len (x:A9):x.cs.length=13:=rfl
instance:Inhabited E0:=⟨⟨0,0,0,0,0⟩⟩
instance:Inhabited I2:=⟨⟨0,0,0,0⟩⟩
instance:Inhabited A9:=⟨⟨0,0,0,0,0,0,false,none,[],0,none,[],0,0,0,0,0⟩⟩
structure A9.At (w:World) (x:A9):Prop where
 l:D0 E0.cs 5 w x.la x.legs
 p:D0 I2.cs 4 w x.pa x.pauses
 lm:x.legs.length≤9223372036854775807
 pm:x.pauses.length≤9223372036854775807
theorem A9.At.since {w:World} {x:A9} (h:x.At w) (y:A7 w):x.At y.w:=⟨A7.els h.l y,A7.els h.p y,h.lm,h.pm⟩
theorem A9.At.to {w W:World} {x:A9} (h:x.At w) (hW:∃z:A7 w,W=z.w):x.At W:=by
 obtain⟨z,rfl⟩:=hW;exact h.since z
structure bQ (w:World) (a:Option Addr) (l:List A9):Prop where
 c:D0 A9.cs 13 w a l
 r:∀x∈l,x.At w
theorem bQ.since {w:World} {a:Option Addr} {l:List A9} (h:bQ w a l) (y:A7 w):bQ y.w a l:=⟨A7.els h.c y,fun x hx=>(h.r x hx).since y⟩
theorem bQ.to {w W:World} {a:Option Addr} {l:List A9} (h:bQ w a l) (hW:∃z:A7 w,W=z.w):bQ W a l:=by
 obtain⟨z,rfl⟩:=hW;exact h.since z
def W8 (lo hi:Int):Bool:=decide (0≤lo) && decide (lo≤hi) && decide (hi≤4294943999)
theorem fP (lo hi:Int):W8 lo hi=true↔0≤lo∧lo≤hi∧hi≤4294943999:=by simp[W8,and_assoc]
def dA (x:E0):Bool:=W8 x.f0 x.f1 && W8 x.t0 x.t1
def cP (x:I2):Bool:=W8 x.f0 x.f1 && W8 x.t0 x.t1
def dW (x:A9):Bool:=decide (1≤x.id) && decide (x.id≤1000000) && decide (0≤x.rd) && decide (x.rd≤127) && W8 x.s0 x.s1 && W8 x.e0 x.e1
def i9 (x:A9):Bool:=dW x && x.legs.all dA && x.pauses.all cP
def j1:Int→Int→List E0→Int→Int→Bool
 |a0,a1,[],e0,e1=>decide (a0=e0) && decide (a1=e1)
 |a0,a1,x :: l,e0,e1=>decide (x.f0=a0) && decide (x.f1=a1) && j1 x.t0 x.t1 l e0 e1
def j2 (x:A9):Bool:=decide (1≤x.legs.length) && decide (x.legs.length≤512) && decide (x.pauses.length≤512) && j1 x.s0 x.s1 x.legs x.e0 x.e1
def p9 (op:Bool):List E0→Bool
 |[]=>true
 |x :: l=>(decide (x.f0≤x.t0) || (op && l.isEmpty)) && p9 op l
def l6 (op:Bool) (e:Int):Int→List I2→Bool
 |last,[]=>op || decide (last≤e)
 |last,x :: l=>decide (last≤x.f0) && ((op && l.isEmpty && decide (x.t0=0)) || (decide (x.f0≤x.t0) && l6 op e x.t0 l))
def X2 (x:A9):Bool:=p9 x.op x.legs && (x.pauses.isEmpty || l6 x.op x.e0 x.s0 x.pauses)
def gO (x:A9):Bool:=(x.op && !(decide (x.e0=0) && decide (x.e1=0))) || (x.op != decide (x.wh=3))
def J9 (x:A9):Int:=if i9 x=false then 1 else if j2 x=false then 3 else if X2 x=false then 9 else if gO x=true then 12 else 0
end
section
open Go.RowKit
structure AE9 (w:World) (b o:Nat) (e:E0):Prop where
 c0:∀y:A7 w,y.w.cell? ⟨b,o,none⟩=some (.int .i64 e.b)
 c1:∀y:A7 w,y.w.cell? ⟨b,o+1,none⟩=some (.int .i64 e.f0)
 c2:∀y:A7 w,y.w.cell? ⟨b,o+2,none⟩=some (.int .i64 e.f1)
 c3:∀y:A7 w,y.w.cell? ⟨b,o+3,none⟩=some (.int .i64 e.t0)
 c4:∀y:A7 w,y.w.cell? ⟨b,o+4,none⟩=some (.int .i64 e.t1)
theorem D0.leg {w:World} {a:Option Addr} {l:List E0} (h:D0 E0.cs 5 w a l) {k:Nat} {x:E0} (hk:l[k]? =some x):∃b off,a=some ⟨b,off,none⟩∧AE9 w b (off+k*5) x:=by
 obtain⟨b,off,ha,hb,hc⟩:=h k x hk;refine⟨b,off,ha,?_⟩;have hh:∀j v,x.cs[j]? =some v→∀y:A7 w,y.w.cell? ⟨b,off+k*5+j,none⟩=some v:=fun j v hv=>A7.cell (hc j v hv) hb;exact⟨hh 0 _ rfl,hh 1 _ rfl,hh 2 _ rfl,hh 3 _ rfl,hh 4 _ rfl⟩
structure AF0 (w:World) (b o:Nat) (e:I2):Prop where
 c0:∀y:A7 w,y.w.cell? ⟨b,o,none⟩=some (.int .i64 e.f0)
 c1:∀y:A7 w,y.w.cell? ⟨b,o+1,none⟩=some (.int .i64 e.f1)
 c2:∀y:A7 w,y.w.cell? ⟨b,o+2,none⟩=some (.int .i64 e.t0)
 c3:∀y:A7 w,y.w.cell? ⟨b,o+3,none⟩=some (.int .i64 e.t1)
theorem D0.pse {w:World} {a:Option Addr} {l:List I2} (h:D0 I2.cs 4 w a l) {k:Nat} {x:I2} (hk:l[k]? =some x):∃b off,a=some ⟨b,off,none⟩∧AF0 w b (off+k*4) x:=by
 obtain⟨b,off,ha,hb,hc⟩:=h k x hk;refine⟨b,off,ha,?_⟩;have hh:∀j v,x.cs[j]? =some v→∀y:A7 w,y.w.cell? ⟨b,off+k*4+j,none⟩=some v:=fun j v hv=>A7.cell (hc j v hv) hb;exact⟨hh 0 _ rfl,hh 1 _ rfl,hh 2 _ rfl,hh 3 _ rfl⟩
structure tB (w:World) (b o:Nat) (e:A9):Prop where
 c0:∀y:A7 w,y.w.cell? ⟨b,o,none⟩=some (.int .i64 e.id)
 c1:∀y:A7 w,y.w.cell? ⟨b,o+1,none⟩=some (.int .i64 e.rd)
 c2:∀y:A7 w,y.w.cell? ⟨b,o+2,none⟩=some (.int .i64 e.s0)
 c3:∀y:A7 w,y.w.cell? ⟨b,o+3,none⟩=some (.int .i64 e.s1)
 c4:∀y:A7 w,y.w.cell? ⟨b,o+4,none⟩=some (.int .i64 e.e0)
 c5:∀y:A7 w,y.w.cell? ⟨b,o+5,none⟩=some (.int .i64 e.e1)
 c6:∀y:A7 w,y.w.cell? ⟨b,o+6,none⟩=some (.bool e.op)
 c7:∀y:A7 w,y.w.cell? ⟨b,o+7,none⟩=some (.slice e.la e.legs.length e.lc)
 c8:∀y:A7 w,y.w.cell? ⟨b,o+8,none⟩=some (.slice e.pa e.pauses.length e.pc)
 c9:∀y:A7 w,y.w.cell? ⟨b,o+9,none⟩=some (.int .i64 e.fw)
 c10:∀y:A7 w,y.w.cell? ⟨b,o+10,none⟩=some (.int .i64 e.fp)
 c11:∀y:A7 w,y.w.cell? ⟨b,o+11,none⟩=some (.int .i64 e.wh)
 c12:∀y:A7 w,y.w.cell? ⟨b,o+12,none⟩=some (.int .i64 e.pl)
theorem D0.ride {w:World} {a:Option Addr} {l:List A9} (h:D0 A9.cs 13 w a l) {k:Nat} {x:A9} (hk:l[k]? =some x):∃b off,a=some ⟨b,off,none⟩∧tB w b (off+k*13) x:=by
 obtain⟨b,off,ha,hb,hc⟩:=h k x hk;refine⟨b,off,ha,?_⟩;have hh:∀j v,x.cs[j]? =some v→∀y:A7 w,y.w.cell? ⟨b,off+k*13+j,none⟩=some v:=fun j v hv=>A7.cell (hc j v hv) hb;exact⟨hh 0 _ rfl,hh 1 _ rfl,hh 2 _ rfl,hh 3 _ rfl,hh 4 _ rfl,hh 5 _ rfl,hh 6 _ rfl,hh 7 _ rfl,hh 8 _ rfl,hh 9 _ rfl,hh 10 _ rfl,hh 11 _ rfl,hh 12 _ rfl⟩
theorem lZ {α:Type} {p:α→Bool} {l:List α} {k:Nat} {e:α} (h:l[k]? =some e) (hp:p e=false):l.all p=false:=by
 cases ha:l.all p
 ·rfl
 ·have:=List.all_eq_true.1 ha e (A0 h);rw[hp]at this;cases this
theorem tC {α:Type} {p:α→Bool} {l:List α} (h:∀j,j<l.length→∀e,l[j]? =some e→p e=true):l.all p=true:=by
 refine List.all_eq_true.2 fun e he=>?_;obtain⟨j,hj⟩:=List.mem_iff_getElem?.1 he;exact h j (A5 hj).1 e hj
theorem mA {α:Type} {P:α→Prop} {l:List α} {k:Nat} {e:α} (h:∀j,j<k→∀e,l[j]? =some e→P e) (he:l[k]? =some e) (hp:P e):∀j,j<k+1→∀e,l[j]? =some e→P e:=by
 intro j hj e' he';by_cases hjk:j<k
 ·exact h j hjk e' he'
 ·obtain rfl:j=k:=by omega
  rw[he]at he';cases he';exact hp
end
section
open Go.RowKit
theorem Aa2 (a b c d:Int) (w:World):(Op.equalIn 10000 36 (.agg #[.int .i64 a,.int .i64 b]) (.agg #[.int .i64 c,.int .i64 d])).run Tryz.prog w= .ok (decide (a=c) && decide (b=d)) w:=by
 have hS:Tryz.prog.underlying 36=some (.struct (Tryz.prog.fieldsOf 36)):=by kernel_rfl
 have hp:Tryz.prog.stoodInHeld 36=false:=by kernel_rfl
 have u3:=Tryz.underlying3;have a3:=Tryz.isAgg3;have z3:=Tryz.sizeOf3;rw[show(10000:Nat)=9999+1 from rfl,run_equalIn_struct w 9999 36 _ _ hS hp];simp only[Program.fieldsOf,Tryz.underlying36];go_simp;by_cases h1:a=c
 ·by_cases h2:b=d<;>simp[h1,h2]
 ·simp[h1]
theorem Aa3 (op:BinOp) (a b:Operand) (xs ys:Array Value) (w:World):(eqGuard op 36 a b (.agg xs) (.agg ys)).run Tryz.prog w= .ok () w:=run_eqGuard_agg w op 36 a b xs ys (by kernel_rfl)
end
section
open Go.RowKit
theorem bB (w:World) (x:A7 w) (lo hi:Int):
 Calls Tryz.prog 82 #[.agg #[.int .i64 lo,.int .i64 hi]] x.w fun o w'=>o= .returned (.bool (W8 lo hi))∧∃y:A7 w,w'=y.w:=by
 rcases(by omega:lo<0∨(0≤lo∧hi<lo)∨(0≤lo∧lo≤hi∧4294943999<hi)∨(0≤lo∧lo≤hi∧hi≤4294943999))with h1|⟨h1,h2⟩|⟨h1,h2,h3⟩|⟨h1,h2,h3⟩
 case inr.inr.inr=>
  have hv:W8 lo hi=true:=(fP lo hi).2 ⟨h1,h2,h3⟩;have Hv:=A3 hv;clear hv;go_enter Tryz.func82,Tryz.ntmps82;go_wp2_with fail;go_ret;exact⟨I1 Hv.out.symm,x.alloc _⟩
 all_goals
  have hv:W8 lo hi=false:=by
   cases h:W8 lo hi
   ·rfl
   ·rw[fP]at h;omega
  have Hv:=A3 hv;clear hv;go_enter Tryz.func82,Tryz.ntmps82;go_wp2_with fail;go_ret;exact⟨I1 (by first|exact Hv.out.symm|(rw[Hv.out];exact decide_eq_false (by omega))),x.alloc _⟩
theorem iT {r:A9} (h:dW r=false∨r.legs.all dA=false∨r.pauses.all cP=false):i9 r=false:=by
 unfold i9;rcases h with h|h|h<;>simp[h]
theorem AF1 {r:A9} (h1:dW r=true) (h2:r.legs.all dA=true) (h3:r.pauses.all cP=true):i9 r=true:=by
 unfold i9;rw[h1,h2,h3];rfl
theorem AF2 (w:World) (x:A7 w) (r:A9) (h:r.At w):
 Calls Tryz.prog 35 #[.agg #[.int .i64 r.id,.int .i64 r.rd,.int .i64 r.s0,.int .i64 r.s1,.int .i64 r.e0,.int .i64 r.e1,.bool r.op,.slice r.la r.legs.length r.lc,.slice r.pa r.pauses.length r.pc,.int .i64 r.fw,.int .i64 r.fp,.int .i64 r.wh,.int .i64 r.pl]] x.w fun o w'=>o= .returned (.bool (i9 r))∧∃y:A7 w,w'=y.w:=by
 have HL:=A3 h.l;have HP:=A3 h.p;have hlm:=h.lm;have hpm:=h.pm;clear h;generalize r.la=la at HL⊢;generalize r.pa=pa at HP⊢;rcases(by omega:r.id<1∨(1≤r.id∧1000000<r.id)∨(1≤r.id∧r.id≤1000000∧r.rd<0)∨(1≤r.id∧r.id≤1000000∧0≤r.rd∧127<r.rd)∨(1≤r.id∧r.id≤1000000∧0≤r.rd∧r.rd≤127))with h1|⟨h1,h2⟩|⟨h1,h2,h3⟩|⟨h1,h2,h3,h4⟩|⟨h1,h2,h3,h4⟩
 case inr.inr.inr.inr=>
  have hhead:dW r=(W8 r.s0 r.s1 && W8 r.e0 r.e1):=by unfold dW;simp[h1,h2,h3,h4]
  have xL:=A3 hhead;clear hhead;go_enter Tryz.func35,Tryz.ntmps35;go_upto_region 1 with fail;obtain⟨W,bx,y0,hW,hbx,-,B8,Hup,Hbx,HB0⟩:=K7 x [.int .i64 r.id,.int .i64 r.rd,.int .i64 r.s0,.int .i64 r.s1,.int .i64 r.e0,.int .i64 r.e1,.bool r.op,.slice la r.legs.length r.lc,.slice pa r.pauses.length r.pc,.int .i64 r.fw,.int .i64 r.fp,.int .i64 r.wh,.int .i64 r.pl] 40;rw[hW,hbx];clear hW hbx;obtain⟨D9,E7,F9,G0,G8,K4,O0,Q6,R0,X7,X5,X6,i6,hf0⟩:=R5 HB0;clear HB0;replace HL:=A3 (HL.out.to B8);replace HP:=A3 (HP.out.to B8);clear B8
  cases hs:W8 r.s0 r.s1 with
  |false=>
   have Hr:=A3 (iT (r:=r) (.inl (by rw[xL.out,hs];rfl)))
   have Hs:=A3 hs;clear hs
   go_wp2_with(go_at_call 82;refine(bB W _ _ _).mono ?_;rintro _ _ ⟨rfl,y1,rfl⟩;rw[Hs.out])
   go_ret
   exact⟨I1 Hr.out.symm,Hup.out _⟩
  |true=>
   cases he:W8 r.e0 r.e1 with
   |false=>
    have Hr:=A3 (iT (r:=r) (.inl (by rw[xL.out,hs,he];rfl)))
    have Hs:=A3 hs;have He:=A3 he;clear hs he
    go_wp2_with(first|(go_at_call 82;((with_reducible refine(bB W _ r.s0 r.s1).mono ?_);rintro _ _ ⟨rfl,y1,rfl⟩;rw[Hs.out]))|(go_at_call 82;((with_reducible refine(bB W _ r.e0 r.e1).mono ?_);rintro _ _ ⟨rfl,y1,rfl⟩;rw[He.out])))
    go_ret
    exact⟨I1 Hr.out.symm,Hup.out _⟩
   |true=>
    have Hh:=A3 (show dW r=true by rw[xL.out,hs,he];rfl)
    have Hs:=A3 hs;have He:=A3 he;clear hs he
    go_upto_region 4 with(first|(go_at_call 82;((with_reducible refine(bB W _ r.s0 r.s1).mono ?_);rintro _ _ ⟨rfl,y1,rfl⟩;rw[Hs.out]))|(go_at_call 82;((with_reducible refine(bB W _ r.e0 r.e1).mono ?_);rintro _ _ ⟨rfl,y1,rfl⟩;rw[He.out])))
    go_loopw [40] (fun i wr=>∃(k:Nat) (y:A7 W),k≤r.legs.length∧i= .int .i64 k∧wr=y.w∧∀j,j<k→∀e,r.legs[j]? =some e→dA e=true) (fun i _ =>r.legs.length-(intOf i).toNat)
    case atStart=>exact⟨0,_,by omega,rfl,rfl,fun j hj=>by omega⟩
    case round=>
     obtain⟨k,y,hk,rfl,rfl,hok⟩:=hrel;have Hok:=A3 hok;clear hok;by_cases hlt:k<r.legs.length
     ·obtain⟨e,he⟩:∃e,r.legs[k]? =some e:=⟨_,A4 hlt⟩
      obtain⟨b1,off1,rfl,h1'⟩:=D0.leg HL.out he;have pa0:=h1'.c0;have pa1:=h1'.c1;have pa2:=h1'.c2;have pa3:=h1'.c3;have pa4:=h1'.c4;have hk0:(0:Int)≤(k:Int):=by omega
      have hkl:(k:Int)<(r.legs.length:Int):=by omega
      have He':=A3 he;clear h1' he;go_upto_region 6 with fail;obtain⟨y2,e2,C9,hsz0,hlt0,HX0⟩:=L8 y [.int .i64 e.b,.int .i64 e.f0,.int .i64 e.f1,.int .i64 e.t0,.int .i64 e.t1] 152;rw[e2];obtain⟨hx0,hx1,hx2,hx3,hx4,hxf⟩:=fO HX0;skip;clear e2 C9;generalize y.w.heap.size=g at *;obtain⟨E6,G9,K1,J5,O8,I3⟩:=V5 HX0;have I9:=A3 (And.intro hsz0 hlt0);clear hlt0 hsz0 HX0;obtain⟨q0,hq0⟩:=A7.refl y2.w;rw[hq0];clear hq0
      cases hf:W8 e.f0 e.f1 with
      |false=>
       have Hr:=A3 (iT (r:=r) (.inr <| .inl (lZ He'.out (by unfold dA;rw[hf];rfl))))
       have Hf:=A3 hf;clear hf
       go_wp2_with(go_at_call 82;((with_reducible refine(bB y2.w _ e.f0 e.f1).mono ?_);rintro _ _ ⟨rfl,z1,rfl⟩;rw[Hf.out]))
       go_ret
       exact⟨I1 Hr.out.symm,by obtain⟨q,e⟩:=y2.trans z1;rw[e];exact Hup.out q⟩
      |true=>
       have Hf:=A3 hf;clear hf
       cases ht:W8 e.t0 e.t1 with
       |false=>
        have Hr:=A3 (iT (r:=r) (.inr <| .inl (lZ He'.out (by unfold dA;rw[Hf.out,ht];rfl))))
        have Ht:=A3 ht;clear ht
        go_wp2_with(first|(go_at_call 82;((with_reducible refine(bB y2.w _ e.f0 e.f1).mono ?_);rintro _ _ ⟨rfl,z1,rfl⟩;rw[Hf.out]))|(go_at_call 82;((with_reducible refine(bB y2.w _ e.t0 e.t1).mono ?_);rintro _ _ ⟨rfl,z1,rfl⟩;rw[Ht.out])))
        go_ret
        exact⟨I1 Hr.out.symm,by obtain⟨q,e⟩:=y2.trans z1;rw[e];exact Hup.out q⟩
       |true=>
        have Hv:=A3 (show dA e=true by unfold dA;rw[Hf.out,ht];rfl)
        have Ht:=A3 ht;clear ht
        go_wp2_with(first|(go_at_call 82;((with_reducible refine(bB y2.w _ e.f0 e.f1).mono ?_);rintro _ _ ⟨rfl,z1,rfl⟩;rw[Hf.out]))|(go_at_call 82;((with_reducible refine(bB y2.w _ e.t0 e.t1).mono ?_);rintro _ _ ⟨rfl,z1,rfl⟩;rw[Ht.out])))
        obtain⟨q,eq⟩:=y2.trans z1
        rw[eq]
        go_roundw
        case rel=>exact⟨k+1,q,by omega,by go_num,rfl,mA Hok.out He'.out Hv.out⟩
        case measure=>simp[intOf]<;>omega
     ·obtain rfl:k=r.legs.length:=by omega
      have HvL:=A3 (tC Hok.out);go_upto_region 10 with fail;go_loopw [58] (fun i wr=>∃(k:Nat) (y:A7 W),k≤r.pauses.length∧i= .int .i64 k∧wr=y.w∧∀j,j<k→∀e,r.pauses[j]? =some e→cP e=true) (fun i _ =>r.pauses.length-(intOf i).toNat)
      case atStart=>exact⟨0,_,by omega,rfl,rfl,fun j hj=>by omega⟩
      case round=>
       obtain⟨k,y,hk,rfl,rfl,hok⟩:=hrel;have Hok:=A3 hok;clear hok;by_cases hlt:k<r.pauses.length
       ·obtain⟨e,he⟩:∃e,r.pauses[k]? =some e:=⟨_,A4 hlt⟩
        obtain⟨b1,off1,rfl,h1'⟩:=D0.pse HP.out he;have pa0:=h1'.c0;have pa1:=h1'.c1;have pa2:=h1'.c2;have pa3:=h1'.c3;have hk0:(0:Int)≤(k:Int):=by omega
        have hkl:(k:Int)<(r.pauses.length:Int):=by omega
        have He':=A3 he;clear h1' he;go_upto_region 12 with fail;obtain⟨y2,e2,C9,hsz0,hlt0,HX0⟩:=L8 y [.int .i64 e.f0,.int .i64 e.f1,.int .i64 e.t0,.int .i64 e.t1] 44;rw[e2];obtain⟨hx0,hx1,hx2,hx3,hxf⟩:=dU HX0;skip;clear e2 C9;generalize y.w.heap.size=g at *;obtain⟨E6,G9,K1,J5,I3⟩:=bO HX0;have I9:=A3 (And.intro hsz0 hlt0);clear hlt0 hsz0 HX0;obtain⟨q0,hq0⟩:=A7.refl y2.w;rw[hq0];clear hq0
        cases hf:W8 e.f0 e.f1 with
        |false=>
         have Hr:=A3 (iT (r:=r) (.inr <| .inr (lZ He'.out (by unfold cP;rw[hf];rfl))))
         have Hf:=A3 hf;clear hf
         go_wp2_with(go_at_call 82;((with_reducible refine(bB y2.w _ e.f0 e.f1).mono ?_);rintro _ _ ⟨rfl,z1,rfl⟩;rw[Hf.out]))
         go_ret
         exact⟨I1 Hr.out.symm,by obtain⟨q,e⟩:=y2.trans z1;rw[e];exact Hup.out q⟩
        |true=>
         have Hf:=A3 hf;clear hf
         cases ht:W8 e.t0 e.t1 with
         |false=>
          have Hr:=A3 (iT (r:=r) (.inr <| .inr (lZ He'.out (by unfold cP;rw[Hf.out,ht];rfl))))
          have Ht:=A3 ht;clear ht
          go_wp2_with(first|(go_at_call 82;((with_reducible refine(bB y2.w _ e.f0 e.f1).mono ?_);rintro _ _ ⟨rfl,z1,rfl⟩;rw[Hf.out]))|(go_at_call 82;((with_reducible refine(bB y2.w _ e.t0 e.t1).mono ?_);rintro _ _ ⟨rfl,z1,rfl⟩;rw[Ht.out])))
          go_ret
          exact⟨I1 Hr.out.symm,by obtain⟨q,e⟩:=y2.trans z1;rw[e];exact Hup.out q⟩
         |true=>
          have Hv:=A3 (show cP e=true by unfold cP;rw[Hf.out,ht];rfl)
          have Ht:=A3 ht;clear ht
          go_wp2_with(first|(go_at_call 82;((with_reducible refine(bB y2.w _ e.f0 e.f1).mono ?_);rintro _ _ ⟨rfl,z1,rfl⟩;rw[Hf.out]))|(go_at_call 82;((with_reducible refine(bB y2.w _ e.t0 e.t1).mono ?_);rintro _ _ ⟨rfl,z1,rfl⟩;rw[Ht.out])))
          obtain⟨q,eq⟩:=y2.trans z1
          rw[eq]
          go_roundw
          case rel=>exact⟨k+1,q,by omega,by go_num,rfl,mA Hok.out He'.out Hv.out⟩
          case measure=>simp[intOf]<;>omega
       ·obtain rfl:k=r.pauses.length:=by omega
        have HvP:=A3 (tC Hok.out);go_wp2_with fail;go_ret;exact⟨I1 (AF1 Hh.out HvL.out HvP.out).symm,Hup.out _⟩
 all_goals
  have Hr:=A3 (iT (r:=r) (.inl (by
   cases hh:dW r
   ·rfl
   ·unfold dW at hh
    simp only[Bool.and_eq_true,decide_eq_true_eq]at hh;omega)))
  go_enter Tryz.func35,Tryz.ntmps35;go_wp2_with fail;go_ret;exact⟨I1 Hr.out.symm,x.alloc _⟩
end
section
open Go.RowKit
theorem AF3 (w:World) (x:A7 w) (r:A9) (h:r.At w):
 Calls Tryz.prog 36 #[.agg #[.int .i64 r.id,.int .i64 r.rd,.int .i64 r.s0,.int .i64 r.s1,.int .i64 r.e0,.int .i64 r.e1,.bool r.op,.slice r.la r.legs.length r.lc,.slice r.pa r.pauses.length r.pc,.int .i64 r.fw,.int .i64 r.fp,.int .i64 r.wh,.int .i64 r.pl]] x.w fun o w'=>o= .returned (.bool (j2 r))∧∃y:A7 w,w'=y.w:=by
 have HL:=A3 h.l;have hlm:=h.lm;have hpm:=h.pm;clear h;generalize r.la=la at HL⊢;rcases(by omega:r.legs.length<1∨(1≤r.legs.length∧512<r.legs.length)∨(1≤r.legs.length∧r.legs.length≤512∧512<r.pauses.length)∨(1≤r.legs.length∧r.legs.length≤512∧r.pauses.length≤512))with h1|⟨h1,h2⟩|⟨h1,h2,h3⟩|⟨h1,h2,h3⟩
 case inr.inr.inr=>
  have hj:j2 r=j1 r.s0 r.s1 r.legs r.e0 r.e1:=by unfold j2;simp[h1,h2,h3]
  have Hj:=A3 hj;clear hj;go_enter Tryz.func36,Tryz.ntmps36;go_upto_region 1 with fail;obtain⟨W,bx,y0,hW,hbx,-,B8,Hup,Hbx,HB0⟩:=K7 x [.int .i64 r.id,.int .i64 r.rd,.int .i64 r.s0,.int .i64 r.s1,.int .i64 r.e0,.int .i64 r.e1,.bool r.op,.slice la r.legs.length r.lc,.slice r.pa r.pauses.length r.pc,.int .i64 r.fw,.int .i64 r.fp,.int .i64 r.wh,.int .i64 r.pl] 40;rw[hW,hbx];clear hW hbx;obtain⟨D9,E7,F9,G0,G8,K4,O0,Q6,R0,X7,X5,X6,i6,hf0⟩:=R5 HB0;clear HB0;replace HL:=A3 (HL.out.to B8);clear B8;go_upto_region 4 with fail;obtain⟨y1,e2,C9,hsz0,hlt0,HX0⟩:=L8 y0 [.int .i64 r.s0,.int .i64 r.s1] 36;rw[e2];obtain⟨ha0,ha1,haf⟩:=aC HX0;(have hbox:=C4.new y0.w [.int .i64 r.s0,.int .i64 r.s1] 36;rw[e2]at hbox)
  clear e2 C9;generalize y0.w.heap.size=ga at *;obtain⟨Bs8,Bs9,Bt0⟩:=p8 HX0;have Au3:=A3 (And.intro hsz0 hlt0);clear hlt0 hsz0 HX0;have eK:=A3 hbox;have Hga:=A3 (show W.heap.size≤ga by have:=Au3.out.1;omega);clear hbox ha0 ha1 haf Bs8 Bs9 Bt0;go_wp2_with fail;go_loopw [27] (fun i wr=>∃(k:Nat) (a0 a1:Int) (y:A7 W),k≤r.legs.length∧i= .int .i64 k∧wr=y.w∧C4 y.w ga [.int .i64 a0,.int .i64 a1]∧j1 r.s0 r.s1 r.legs r.e0 r.e1=j1 a0 a1 (r.legs.drop k) r.e0 r.e1) (fun i _ =>r.legs.length-(intOf i).toNat)
  case atStart=>exact⟨0,r.s0,r.s1,y1,by omega,rfl,rfl,eK.out,rfl⟩
  case round=>
   clear eK Au3;obtain⟨k,a0,a1,y,hk,rfl,rfl,hbox,hch⟩:=hrel;have eK:=A3 hbox;have Hch:=A3 hch;clear hbox hch;have sG:=Aa2;have hgd:=Aa3;have Heq:=A3 sG;clear sG;by_cases hlt:k<r.legs.length
   ·obtain⟨e,he⟩:∃e,r.legs[k]? =some e:=⟨_,A4 hlt⟩
    obtain⟨b1,off1,rfl,h1'⟩:=D0.leg HL.out he;have pa0:=h1'.c0;have pa1:=h1'.c1;have pa2:=h1'.c2;have pa3:=h1'.c3;have pa4:=h1'.c4;have hdrop:r.legs.drop k=e :: r.legs.drop (k+1):=by
     rw[List.drop_eq_getElem_cons hlt,(A5 he).2]
    have Au1:=A3 hdrop;have hk0:(0:Int)≤(k:Int):=by omega
    have hkl:(k:Int)<(r.legs.length:Int):=by omega
    clear h1' he hdrop;go_upto_region 7 with fail;obtain⟨y2,e2,C9,hsz0,hlt0,HX0⟩:=L8 y [.int .i64 e.b,.int .i64 e.f0,.int .i64 e.f1,.int .i64 e.t0,.int .i64 e.t1] 152;rw[e2];obtain⟨hx0,hx1,hx2,hx3,hx4,hxf⟩:=fO HX0;(replace eK:=A3 (eK.out.to C9))
    clear e2 C9;generalize y.w.heap.size=g at *;obtain⟨E6,G9,K1,J5,O8,I3⟩:=V5 HX0;have I9:=A3 (And.intro hsz0 hlt0);clear hlt0 hsz0 HX0;have ka0:∀q:A7 y2.w,q.w.cell? ⟨ga,0,none⟩=some (.int .i64 a0):=fun q=>(eK.out.since q).c 0 _ rfl;have ka1:∀q:A7 y2.w,q.w.cell? ⟨ga,1,none⟩=some (.int .i64 a1):=fun q=>(eK.out.since q).c 1 _ rfl;have kaf:∀(q:A7 y2.w) o,q.w.frozen? ⟨ga,o,none⟩=false:=fun q o=>(eK.out.since q).f o;have heq:=Heq.out e.f0 e.f1 a0 a1;obtain⟨q0,hq0⟩:=A7.refl y2.w;rw[hq0];clear hq0
    cases hb:(decide (e.f0=a0) && decide (e.f1=a1))with
    |false=>
     rw[hb]at heq
     have Hr:=A3 (show j2 r=false by rw[Hj.out,Hch.out,Au1.out];unfold j1;rw[hb];rfl)
     clear hb
     go_wp2_with fail
     go_ret
     exact⟨I1 Hr.out.symm,by obtain⟨q,e⟩:=y2.trans q0;rw[e];exact Hup.out q⟩
    |true=>
     rw[hb]at heq
     have Hr:=A3 (show j1 a0 a1 (r.legs.drop k) r.e0 r.e1=j1 e.t0 e.t1 (r.legs.drop (k+1)) r.e0 r.e1 by rw[Au1.out];show(_ && _ && _)= _;rw[hb];rfl)
     clear hb
     go_wp2_with fail
     have hb2:=(eK.out.since q0).sets (us:=[.int .i64 e.t0,.int .i64 e.t1]) rfl
     obtain⟨q,eq⟩:=y2.trans q0
     obtain⟨y4,h4⟩:=q.sets ga Hga.out [.int .i64 e.t0,.int .i64 e.t1] 0
     rw[eq,h4]at hb2
     rw[eq]
     have H4:=A3 h4;have Hb2:=A3 hb2
     clear h4 hb2 eq
     go_roundw
     case rel=>exact⟨k+1,e.t0,e.t1,y4,by omega,by go_num,H4.out,Hb2.out,by rw[Hch.out,Hr.out]⟩
     case measure=>simp[intOf]<;>omega
   ·obtain rfl:k=r.legs.length:=by omega
    rw[List.drop_length]at Hch;have hj2:j2 r=(decide (a0=r.e0) && decide (a1=r.e1)):=by rw[Hj.out,Hch.out];rfl
    have Hj2:=A3 hj2;clear hj2;obtain⟨q1,hq1⟩:=A7.refl y.w;have ka0:∀q:A7 y.w,q.w.cell? ⟨ga,0,none⟩=some (.int .i64 a0):=fun q=>(eK.out.since q).c 0 _ rfl;have ka1:∀q:A7 y.w,q.w.cell? ⟨ga,1,none⟩=some (.int .i64 a1):=fun q=>(eK.out.since q).c 1 _ rfl;have heq:=Heq.out a0 a1 r.e0 r.e1;have kh4:∀q:A7 y.w,q.w.cell? ⟨bx,4,none⟩=some (.int .i64 r.e0):=fun q=>by obtain⟨z,e⟩:=y.trans q;rw[e];exact G8 z
    have kh5:∀q:A7 y.w,q.w.cell? ⟨bx,5,none⟩=some (.int .i64 r.e1):=fun q=>by obtain⟨z,e⟩:=y.trans q;rw[e];exact K4 z
    rw[hq1];clear hq1;go_wp2_with fail;go_ret;exact⟨I1 Hj2.out.symm,by obtain⟨q,e⟩:=y.trans q1;rw[e];exact Hup.out q⟩
 all_goals
  have Hr:=A3 (show j2 r=false by
   cases hh:j2 r
   ·rfl
   ·unfold j2 at hh
    simp only[Bool.and_eq_true,decide_eq_true_eq]at hh;omega)
  go_enter Tryz.func36,Tryz.ntmps36;go_wp2_with fail;go_ret;exact⟨I1 Hr.out.symm,x.alloc _⟩
end
section
open Go.RowKit
theorem Aa4 {α:Type} {l:List α} {k:Nat} {e:α} (he:l[k]? =some e):l.drop k=e :: l.drop (k+1):=by
 rw[List.drop_eq_getElem_cons (A5 he).1,(A5 he).2]
theorem Aa5 {α:Type} {l:List α} {k:Nat} (h:k<l.length):(l.drop (k+1)).isEmpty=decide (k+1=l.length):=by
 rw[Bool.eq_iff_iff,List.isEmpty_iff,List.drop_eq_nil_iff,decide_eq_true_eq];omega
theorem AF4 (w:World) (x:A7 w) (r:A9) (h:r.At w):
 Calls Tryz.prog 37 #[.agg #[.int .i64 r.id,.int .i64 r.rd,.int .i64 r.s0,.int .i64 r.s1,.int .i64 r.e0,.int .i64 r.e1,.bool r.op,.slice r.la r.legs.length r.lc,.slice r.pa r.pauses.length r.pc,.int .i64 r.fw,.int .i64 r.fp,.int .i64 r.wh,.int .i64 r.pl]] x.w fun o w'=>o= .returned (.bool (X2 r))∧∃y:A7 w,w'=y.w:=by
 have HL:=A3 h.l;have HP:=A3 h.p;have hlm:=h.lm;have hpm:=h.pm;have hO:X2 r=(p9 r.op r.legs && (r.pauses.isEmpty || l6 r.op r.e0 r.s0 r.pauses)):=rfl;have HO:=A3 hO;clear h hO;generalize r.la=la at HL⊢;generalize r.pa=pa at HP⊢;generalize r.op=op at HO⊢;go_enter Tryz.func37,Tryz.ntmps37;go_upto_region 1 with fail;obtain⟨W,bx,y0,hW,hbx,-,B8,Hup,Hbx,HB0⟩:=K7 x [.int .i64 r.id,.int .i64 r.rd,.int .i64 r.s0,.int .i64 r.s1,.int .i64 r.e0,.int .i64 r.e1,.bool op,.slice la r.legs.length r.lc,.slice pa r.pauses.length r.pc,.int .i64 r.fw,.int .i64 r.fp,.int .i64 r.wh,.int .i64 r.pl] 40;rw[hW,hbx];clear hW hbx;obtain⟨D9,E7,F9,G0,G8,K4,O0,Q6,R0,X7,X5,X6,i6,hf0⟩:=R5 HB0;clear HB0;replace HL:=A3 (HL.out.to B8);replace HP:=A3 (HP.out.to B8);clear B8;go_wp2_with fail;go_loopw [11] (fun i wr=>∃(k:Nat) (y:A7 W),k≤r.legs.length∧i= .int .i64 k∧wr=y.w∧p9 op r.legs=p9 op (r.legs.drop k)) (fun i _ =>r.legs.length-(intOf i).toNat)
 case atStart=>exact⟨0,_,by omega,rfl,rfl,rfl⟩
 case round=>
  obtain⟨k,y,hk,rfl,rfl,hch⟩:=hrel;have Hch:=A3 hch;clear hch;by_cases hlt:k<r.legs.length
  ·obtain⟨e,he⟩:∃e,r.legs[k]? =some e:=⟨_,A4 hlt⟩
   obtain⟨b1,off1,rfl,h1'⟩:=D0.leg HL.out he;have pa0:=h1'.c0;have pa1:=h1'.c1;have pa2:=h1'.c2;have pa3:=h1'.c3;have pa4:=h1'.c4;have hstep:p9 op (r.legs.drop k)=((decide (e.f0≤e.t0) || (op && decide (k+1=r.legs.length))) && p9 op (r.legs.drop (k+1))):=by
    rw[Aa4 he,←Aa5 hlt];rfl
   have t8:=A3 hstep;have hk0:(0:Int)≤(k:Int):=by omega
   have hkl:(k:Int)<(r.legs.length:Int):=by omega
   clear h1' he hstep;go_upto_region 4 with fail;obtain⟨y2,e2,C9,hsz0,hlt0,HX0⟩:=L8 y [.int .i64 e.b,.int .i64 e.f0,.int .i64 e.f1,.int .i64 e.t0,.int .i64 e.t1] 152;rw[e2];obtain⟨hx0,hx1,hx2,hx3,hx4,hxf⟩:=fO HX0;skip;clear e2 C9;generalize y.w.heap.size=g at *;obtain⟨E6,G9,K1,J5,O8,I3⟩:=V5 HX0;have I9:=A3 (And.intro hsz0 hlt0);clear hlt0 hsz0 HX0;replace D9:=A7.cellTo ⟨y2,rfl⟩ D9;replace E7:=A7.cellTo ⟨y2,rfl⟩ E7;replace F9:=A7.cellTo ⟨y2,rfl⟩ F9;replace G0:=A7.cellTo ⟨y2,rfl⟩ G0;replace G8:=A7.cellTo ⟨y2,rfl⟩ G8;replace K4:=A7.cellTo ⟨y2,rfl⟩ K4;replace O0:=A7.cellTo ⟨y2,rfl⟩ O0;replace Q6:=A7.cellTo ⟨y2,rfl⟩ Q6;replace R0:=A7.cellTo ⟨y2,rfl⟩ R0;replace X7:=A7.cellTo ⟨y2,rfl⟩ X7;replace X5:=A7.cellTo ⟨y2,rfl⟩ X5;replace X6:=A7.cellTo ⟨y2,rfl⟩ X6;replace i6:=A7.cellTo ⟨y2,rfl⟩ i6;obtain⟨q0,hq0⟩:=A7.refl y2.w;rw[hq0];clear hq0;rcases(by omega:e.f0≤e.t0∨(e.t0<e.f0∧k+1=r.legs.length)∨(e.t0<e.f0∧k+1<r.legs.length))with hle|⟨hgt,hkk⟩|⟨hgt,hkk⟩
   ·have Hr:=A3 (show p9 op (r.legs.drop k)=p9 op (r.legs.drop (k+1)) by rw[t8.out];simp[hle])
    go_wp2_with fail;obtain⟨q,eq⟩:=y2.trans q0;rw[eq];go_roundw
    case rel=>exact⟨k+1,q,by omega,by go_num,rfl,by rw[Hch.out,Hr.out]⟩
    case measure=>simp[intOf]<;>omega
   ·have hkb:((k:Int) == (r.legs.length:Int)-1)=true:=by simp;omega
    have Hkk:=A3 hkk;clear hkk
    cases op with
    |true=>
     have Hr:=A3 (show p9 true (r.legs.drop k)=p9 true (r.legs.drop (k+1)) by rw[t8.out];simp[Hkk.out])
     go_wp2_with fail
     obtain⟨q,eq⟩:=y2.trans q0
     rw[eq]
     go_roundw
     case rel=>exact⟨k+1,q,by omega,by go_num,rfl,by rw[Hch.out,Hr.out]⟩
     case measure=>simp[intOf]<;>omega
    |false=>
     have Hr:=A3 (show X2 r=false by rw[HO.out,Hch.out,t8.out];simp;omega)
     go_wp2_with fail
     go_ret
     exact⟨I1 Hr.out.symm,by obtain⟨q,e⟩:=y2.trans q0;rw[e];exact Hup.out q⟩
   ·have hkb:((k:Int) == (r.legs.length:Int)-1)=false:=by simp;omega
    have Hr:=A3 (show X2 r=false by rw[HO.out,Hch.out,t8.out];simp;omega)
    cases op;all_goals
     go_wp2_with fail;go_ret;exact⟨I1 Hr.out.symm,by obtain⟨q,e⟩:=y2.trans q0;rw[e];exact Hup.out q⟩
  ·obtain rfl:k=r.legs.length:=by omega
   rw[List.drop_length]at Hch;have HO2:=A3 (show X2 r=(r.pauses.isEmpty || l6 op r.e0 r.s0 r.pauses) by rw[HO.out,Hch.out];rfl);clear HO Hch;go_wp2_with fail;go_loopw [5,43] (fun v i wr=>∃(k:Nat) (a:Int) (y:A7 W),k≤r.pauses.length∧i= .int .i64 k∧v= .int .i64 a∧wr=y.w∧l6 op r.e0 r.s0 r.pauses=l6 op r.e0 a (r.pauses.drop k)) (fun _ i _ =>r.pauses.length-(intOf i).toNat)
   case atStart=>exact⟨0,r.s0,y,by omega,rfl,rfl,rfl,rfl⟩
   case round=>
    obtain⟨k,a,y,hk,rfl,rfl,rfl,hch⟩:=hrel;have Hch:=A3 hch;clear hch;by_cases hlt:k<r.pauses.length
    ·obtain⟨e,he⟩:∃e,r.pauses[k]? =some e:=⟨_,A4 hlt⟩
     obtain⟨b1,off1,rfl,h1'⟩:=D0.pse HP.out he;have pb0:=h1'.c0;have pb1:=h1'.c1;have pb2:=h1'.c2;have pb3:=h1'.c3;have hstep:l6 op r.e0 a (r.pauses.drop k)=(decide (a≤e.f0) && ((op && decide (k+1=r.pauses.length) && decide (e.t0=0)) || (decide (e.f0≤e.t0) && l6 op r.e0 e.t0 (r.pauses.drop (k+1))))):=by
      rw[Aa4 he,←Aa5 hlt];rfl
     have t8:=A3 hstep;have hne:r.pauses.isEmpty=false:=by cases hh:r.pauses<;>simp_all
     have HO3:=A3 (show X2 r=l6 op r.e0 a (r.pauses.drop k) by rw[HO2.out,hne,Hch.out];rfl);have hk0:(0:Int)≤(k:Int):=by omega
     have hkl:(k:Int)<(r.pauses.length:Int):=by omega
     clear h1' he hstep hne;go_upto_region 11 with fail;obtain⟨y2,e2,C9,hsz0,hlt0,HX0⟩:=L8 y [.int .i64 e.f0,.int .i64 e.f1,.int .i64 e.t0,.int .i64 e.t1] 44;rw[e2];obtain⟨hx0,hx1,hx2,hx3,hxf⟩:=dU HX0;skip;clear e2 C9;generalize y.w.heap.size=g at *;obtain⟨E6,G9,K1,J5,I3⟩:=bO HX0;have I9:=A3 (And.intro hsz0 hlt0);clear hlt0 hsz0 HX0;replace D9:=A7.cellTo ⟨y2,rfl⟩ D9;replace E7:=A7.cellTo ⟨y2,rfl⟩ E7;replace F9:=A7.cellTo ⟨y2,rfl⟩ F9;replace G0:=A7.cellTo ⟨y2,rfl⟩ G0;replace G8:=A7.cellTo ⟨y2,rfl⟩ G8;replace K4:=A7.cellTo ⟨y2,rfl⟩ K4;replace O0:=A7.cellTo ⟨y2,rfl⟩ O0;replace Q6:=A7.cellTo ⟨y2,rfl⟩ Q6;replace R0:=A7.cellTo ⟨y2,rfl⟩ R0;replace X7:=A7.cellTo ⟨y2,rfl⟩ X7;replace X5:=A7.cellTo ⟨y2,rfl⟩ X5;replace X6:=A7.cellTo ⟨y2,rfl⟩ X6;replace i6:=A7.cellTo ⟨y2,rfl⟩ i6;obtain⟨q0,hq0⟩:=A7.refl y2.w;rw[hq0];clear hq0;by_cases hfa:e.f0<a
     ·have Hr:=A3 (show X2 r=false by rw[HO3.out,t8.out,decide_eq_false (by omega)];rfl)
      go_wp2_with fail;go_ret;exact⟨I1 Hr.out.symm,by obtain⟨q,e⟩:=y2.trans q0;rw[e];exact Hup.out q⟩
     have hfa':a≤e.f0:=by omega
     by_cases hret:op=true∧k+1=r.pauses.length∧e.t0=0
     ·obtain⟨rfl,hkk,ht0⟩:=hret
      have Hr:=A3 (show X2 r=true by rw[HO3.out,t8.out,decide_eq_true hfa',decide_eq_true hkk,decide_eq_true ht0];rfl);have hkb:((k:Int) == (r.pauses.length:Int)-1)=true:=by simp;omega
      have htb:(e.t0 == 0)=true:=by simpa using ht0
      have Hkk:=A3 hkk;have Ht0:=A3 ht0;clear hkk ht0 hfa;go_wp2_with fail;go_ret;exact⟨I1 Hr.out.symm,by obtain⟨q,e⟩:=y2.trans q0;rw[e];exact Hup.out q⟩
     have hno:(op && decide (k+1=r.pauses.length) && decide (e.t0=0))=false:=by
      cases op
      ·rfl
      ·by_cases h1:k+1=r.pauses.length
       ·by_cases h2:e.t0=0
        ·exact(hret ⟨rfl,h1,h2⟩).elim
        ·simp[h2]
       ·simp[h1]
     have Hno:=A3 hno;have hcase:(op=false)∨(op=true∧((k:Int) == (r.pauses.length:Int)-1)=false)∨(op=true∧((k:Int) == (r.pauses.length:Int)-1)=true∧(e.t0 == 0)=false):=by
      cases op
      ·exact .inl rfl
      ·by_cases h1:k+1=r.pauses.length
       ·exact .inr (.inr ⟨rfl,by simp;omega,by simp;intro h2;exact hret ⟨rfl,h1,h2⟩⟩)
       ·exact .inr (.inl ⟨rfl,by simp;omega⟩)
     clear hno hret hfa;by_cases hft:e.f0≤e.t0
     ·have Hr:=A3 (show l6 op r.e0 a (r.pauses.drop k)=l6 op r.e0 e.t0 (r.pauses.drop (k+1)) by rw[t8.out,Hno.out,decide_eq_true hfa',decide_eq_true hft];rfl)
      rcases hcase with rfl|⟨rfl,hkb⟩|⟨rfl,hkb,htb⟩
      all_goals
       go_wp2_with fail;obtain⟨q,eq⟩:=y2.trans q0;rw[eq];go_roundw
       case rel=>exact⟨k+1,e.t0,q,by omega,by go_num,rfl,rfl,by rw[Hch.out,Hr.out]⟩
       case measure=>simp[intOf]<;>omega
     ·have Hr:=A3 (show X2 r=false by rw[HO3.out,t8.out,Hno.out,decide_eq_true hfa',decide_eq_false hft];rfl)
      rcases hcase with rfl|⟨rfl,hkb⟩|⟨rfl,hkb,htb⟩
      all_goals
       go_wp2_with fail;go_ret;exact⟨I1 Hr.out.symm,by obtain⟨q,e⟩:=y2.trans q0;rw[e];exact Hup.out q⟩
    ·obtain rfl:k=r.pauses.length:=by omega
     rw[List.drop_length]at Hch;have HO3:=A3 (show X2 r=(decide (r.pauses.length=0) || op || decide (a≤r.e0)) by
      rw[HO2.out,Hch.out];have:r.pauses.isEmpty=decide (r.pauses.length=0):=by rw[Bool.eq_iff_iff];simp
      rw[this,Bool.or_assoc];rfl)
     clear HO2 Hch;have hcase:op=true∨(op=false∧((r.pauses.length:Int) == 0)=true∧X2 r=true)∨(op=false∧((r.pauses.length:Int) == 0)=false∧X2 r=decide (a≤r.e0)):=by
      cases op
      ·by_cases h0:r.pauses.length=0
       ·exact .inr (.inl ⟨rfl,by simp;simpa using h0,by rw[HO3.out,decide_eq_true h0];rfl⟩)
       ·exact .inr (.inr ⟨rfl,by simp;simpa using h0,by rw[HO3.out,decide_eq_false h0];rfl⟩)
      ·exact .inl rfl
     rcases hcase with rfl|⟨rfl,h0,hr⟩|⟨rfl,h0,hr⟩
     ·have Hr:=A3 (show X2 r=true by rw[HO3.out];simp)
      go_wp2_with fail;go_ret;exact⟨I1 Hr.out.symm,Hup.out _⟩
     ·have Hr:=A3 hr;clear hr
      go_wp2_with fail;go_ret;exact⟨I1 Hr.out.symm,Hup.out _⟩
     ·have Hr:=A3 hr;clear hr
      go_wp2_with fail;go_ret;exact⟨I1 Hr.out.symm,Hup.out _⟩
end
section
open Go.RowKit
theorem oU (w:World) (x:A7 w) (r:A9) (h:r.At w):
 Calls Tryz.prog 9 #[.agg #[.int .i64 r.id,.int .i64 r.rd,.int .i64 r.s0,.int .i64 r.s1,.int .i64 r.e0,.int .i64 r.e1,.bool r.op,.slice r.la r.legs.length r.lc,.slice r.pa r.pauses.length r.pc,.int .i64 r.fw,.int .i64 r.fp,.int .i64 r.wh,.int .i64 r.pl]] x.w fun o w'=>o= .returned (.int .i64 (J9 r))∧∃y:A7 w,w'=y.w:=by
 have H:=A3 h;clear h;go_enter Tryz.func9,Tryz.ntmps9;go_upto_region 1 with fail;obtain⟨W,bx,y0,hW,hbx,-,B8,Hup,Hbx,HB0⟩:=K7 x [.int .i64 r.id,.int .i64 r.rd,.int .i64 r.s0,.int .i64 r.s1,.int .i64 r.e0,.int .i64 r.e1,.bool r.op,.slice r.la r.legs.length r.lc,.slice r.pa r.pauses.length r.pc,.int .i64 r.fw,.int .i64 r.fp,.int .i64 r.wh,.int .i64 r.pl] 40;rw[hW,hbx];clear hW hbx;obtain⟨D9,E7,F9,G0,G8,K4,O0,Q6,R0,X7,X5,X6,i6,hf0⟩:=R5 HB0;clear HB0;replace H:=A3 (H.out.to B8);clear B8;have Hra:=A3 (fun y:A7 W=>AF2 W y r H.out);have Hjo:=A3 (fun y:A7 W=>AF3 W y r H.out);have Hor:=A3 (fun y:A7 W=>AF4 W y r H.out);have hgd:=Aa3;have heq:=Aa2 r.e0 r.e1 0 0;have HE:=A3 (show J9 r=if i9 r=false then 1 else if j2 r=false then 3 else if X2 r=false then 9 else if gO r=true then 12 else 0 from rfl);have Hst:=A3 (show gO r=((r.op && !(decide (r.e0=0) && decide (r.e1=0))) || (r.op != decide (r.wh=3)))from rfl);generalize gO r=sb at *;generalize i9 r=rb at *;generalize j2 r=jb at *;generalize X2 r=ob at *
 cases rb with
 |false=>
  go_wp2_with(go_at_call 35;((with_reducible refine(Hra.out _).mono ?_);rintro _ _ ⟨rfl,y1,rfl⟩))
  go_ret
  exact⟨D5 (by rw[HE.out];rfl),Hup.out _⟩
 |true=>
  cases jb with
  |false=>
   go_wp2_with(first|(go_at_call 35;((with_reducible refine(Hra.out _).mono ?_);rintro _ _ ⟨rfl,y1,rfl⟩))|(go_at_call 36;((with_reducible refine(Hjo.out _).mono ?_);rintro _ _ ⟨rfl,y2,rfl⟩)))
   go_ret
   exact⟨D5 (by rw[HE.out];rfl),Hup.out _⟩
  |true=>
   cases ob with
   |false=>
    go_wp2_with(first|(go_at_call 35;((with_reducible refine(Hra.out _).mono ?_);rintro _ _ ⟨rfl,y1,rfl⟩))|(go_at_call 36;((with_reducible refine(Hjo.out _).mono ?_);rintro _ _ ⟨rfl,y2,rfl⟩))|(go_at_call 37;((with_reducible refine(Hor.out _).mono ?_);rintro _ _ ⟨rfl,y3,rfl⟩)))
    go_ret
    exact⟨D5 (by rw[HE.out];rfl),Hup.out _⟩
   |true=>
    go_upto_region 7 with(first|(go_at_call 35;((with_reducible refine(Hra.out _).mono ?_);rintro _ _ ⟨rfl,y1,rfl⟩))|(go_at_call 36;((with_reducible refine(Hjo.out _).mono ?_);rintro _ _ ⟨rfl,y2,rfl⟩))|(go_at_call 37;((with_reducible refine(Hor.out _).mono ?_);rintro _ _ ⟨rfl,y3,rfl⟩)))
    clear Hra Hjo Hor
    cases hz:(decide (r.e0=0) && decide (r.e1=0))with
    |false=>
     rw[hz]at heq Hst
     clear hz
     by_cases hw:r.wh=3
     ·have hwb:(r.wh == 3)=true:=by simpa using hw
      rw[decide_eq_true hw]at Hst;clear hw
      cases hop:r.op with
      |false=>
       rw[hop]at Hst
       go_wp2_with fail
       go_ret
       exact⟨D5 (by rw[HE.out,Hst.out];rfl),Hup.out _⟩
      |true=>
       rw[hop]at Hst
       go_wp2_with fail
       go_ret
       exact⟨D5 (by rw[HE.out,Hst.out];rfl),Hup.out _⟩
     ·have hwb:(r.wh == 3)=false:=by simpa using hw
      rw[decide_eq_false hw]at Hst;clear hw
      cases hop:r.op with
      |false=>
       rw[hop]at Hst
       go_wp2_with fail
       go_ret
       exact⟨D5 (by rw[HE.out,Hst.out];rfl),Hup.out _⟩
      |true=>
       rw[hop]at Hst
       go_wp2_with fail
       go_ret
       exact⟨D5 (by rw[HE.out,Hst.out];rfl),Hup.out _⟩
    |true=>
     rw[hz]at heq Hst
     clear hz
     by_cases hw:r.wh=3
     ·have hwb:(r.wh == 3)=true:=by simpa using hw
      rw[decide_eq_true hw]at Hst;clear hw
      cases hop:r.op with
      |false=>
       rw[hop]at Hst
       go_wp2_with fail
       go_ret
       exact⟨D5 (by rw[HE.out,Hst.out];rfl),Hup.out _⟩
      |true=>
       rw[hop]at Hst
       go_wp2_with fail
       go_ret
       exact⟨D5 (by rw[HE.out,Hst.out];rfl),Hup.out _⟩
     ·have hwb:(r.wh == 3)=false:=by simpa using hw
      rw[decide_eq_false hw]at Hst;clear hw
      cases hop:r.op with
      |false=>
       rw[hop]at Hst
       go_wp2_with fail
       go_ret
       exact⟨D5 (by rw[HE.out,Hst.out];rfl),Hup.out _⟩
      |true=>
       rw[hop]at Hst
       go_wp2_with fail
       go_ret
       exact⟨D5 (by rw[HE.out,Hst.out];rfl),Hup.out _⟩
end
end Go.Proofs.YtmmlmhnjjfnpnaaGreat
