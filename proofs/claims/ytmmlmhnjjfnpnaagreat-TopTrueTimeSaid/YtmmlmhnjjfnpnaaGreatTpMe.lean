/- Texts that belong together. -/
import Derived.Test.YtmmlmhnjjfnpnaaGreatTpMb
import Derived.Test.YtmmlmhnjjfnpnaaGreatProg
import Derived.BigQuiet
set_option linter.all false
namespace Go.Proofs.YtmmlmhnjjfnpnaaGreat
open Go.RowKit
structure Leg where
 b:Int
 f0:Int
 f1:Int
 t0:Int
 t1:Int
def Leg.cs (x:Leg):List Value:=[.int .i64 x.b,.int .i64 x.f0,.int .i64 x.f1,.int .i64 x.t0,.int .i64 x.t1]
theorem Leg.len (x:Leg):x.cs.length=5:=rfl
structure Pse where
 f0:Int
 f1:Int
 t0:Int
 t1:Int
def Pse.cs (x:Pse):List Value:=[.int .i64 x.f0,.int .i64 x.f1,.int .i64 x.t0,.int .i64 x.t1]
theorem Pse.len (x:Pse):x.cs.length=4:=rfl
structure Ride where
 id:Int
 rd:Int
 s0:Int
 s1:Int
 e0:Int
 e1:Int
 op:Bool
 la:Option Addr
 legs:List Leg
 lc:Nat
 pa:Option Addr
 pauses:List Pse
 pc:Nat
 fw:Int
 fp:Int
 wh:Int
 pl:Int
def Ride.cs (x:Ride):List Value:=[.int .i64 x.id,.int .i64 x.rd,.int .i64 x.s0,.int .i64 x.s1,.int .i64 x.e0,.int .i64 x.e1,.bool x.op,.slice x.la x.legs.length x.lc,.slice x.pa x.pauses.length x.pc,.int .i64 x.fw,.int .i64 x.fp,.int .i64 x.wh,.int .i64 x.pl]
def Ride.ag (x:Ride):Value:=.agg #[.int .i64 x.id,.int .i64 x.rd,.int .i64 x.s0,.int .i64 x.s1,.int .i64 x.e0,.int .i64 x.e1,.bool x.op,.slice x.la x.legs.length x.lc,.slice x.pa x.pauses.length x.pc,.int .i64 x.fw,.int .i64 x.fp,.int .i64 x.wh,.int .i64 x.pl]
theorem Ride.len (x:Ride):x.cs.length=13:=rfl
instance:Inhabited Leg:=⟨⟨0,0,0,0,0⟩⟩
instance:Inhabited Pse:=⟨⟨0,0,0,0⟩⟩
instance:Inhabited Ride:=⟨⟨0,0,0,0,0,0,false,none,[],0,none,[],0,0,0,0,0⟩⟩
structure Ride.At (w:World) (x:Ride):Prop where
 l:Els Leg.cs 5 w x.la x.legs
 p:Els Pse.cs 4 w x.pa x.pauses
 lm:x.legs.length≤9223372036854775807
 pm:x.pauses.length≤9223372036854775807
theorem Ride.At.since {w:World} {x:Ride} (h:x.At w) (y:Since w):x.At y.w:=⟨Since.els h.l y,Since.els h.p y,h.lm,h.pm⟩
theorem Ride.At.to {w W:World} {x:Ride} (h:x.At w) (hW:∃z:Since w,W=z.w):x.At W:=by
 obtain⟨z,rfl⟩:=hW;exact h.since z
structure RideRow (w:World) (a:Option Addr) (l:List Ride):Prop where
 c:Els Ride.cs 13 w a l
 r:∀x∈l,x.At w
theorem RideRow.since {w:World} {a:Option Addr} {l:List Ride} (h:RideRow w a l) (y:Since w):RideRow y.w a l:=⟨Since.els h.c y,fun x hx=>(h.r x hx).since y⟩
theorem RideRow.to {w W:World} {a:Option Addr} {l:List Ride} (h:RideRow w a l) (hW:∃z:Since w,W=z.w):RideRow W a l:=by
 obtain⟨z,rfl⟩:=hW;exact h.since z
def vldS (lo hi:Int):Bool:=decide (0≤lo) && decide (lo≤hi) && decide (hi≤4294943999)
theorem vldS_iff (lo hi:Int):vldS lo hi=true↔0≤lo∧lo≤hi∧hi≤4294943999:=by simp[vldS,and_assoc]
def legV (x:Leg):Bool:=vldS x.f0 x.f1 && vldS x.t0 x.t1
def pseV (x:Pse):Bool:=vldS x.f0 x.f1 && vldS x.t0 x.t1
def headV (x:Ride):Bool:=decide (1≤x.id) && decide (x.id≤1000000) && decide (0≤x.rd) && decide (x.rd≤127) && vldS x.s0 x.s1 && vldS x.e0 x.e1
def rangedB (x:Ride):Bool:=headV x && x.legs.all legV && x.pauses.all pseV
def chainL:Int→Int→List Leg→Int→Int→Bool
 |a0,a1,[],e0,e1=>decide (a0=e0) && decide (a1=e1)
 |a0,a1,x :: l,e0,e1=>decide (x.f0=a0) && decide (x.f1=a1) && chainL x.t0 x.t1 l e0 e1
def joinedB (x:Ride):Bool:=decide (1≤x.legs.length) && decide (x.legs.length≤512) && decide (x.pauses.length≤512) && chainL x.s0 x.s1 x.legs x.e0 x.e1
def legsO (op:Bool):List Leg→Bool
 |[]=>true
 |x :: l=>(decide (x.f0≤x.t0) || (op && l.isEmpty)) && legsO op l
def psesO (op:Bool) (e:Int):Int→List Pse→Bool
 |last,[]=>op || decide (last≤e)
 |last,x :: l=>decide (last≤x.f0) && ((op && l.isEmpty && decide (x.t0=0)) || (decide (x.f0≤x.t0) && psesO op e x.t0 l))
def orderedB (x:Ride):Bool:=legsO x.op x.legs && (x.pauses.isEmpty || psesO x.op x.e0 x.s0 x.pauses)
def stateB (x:Ride):Bool:=(x.op && !(decide (x.e0=0) && decide (x.e1=0))) || (x.op != decide (x.wh=3))
def rideE (x:Ride):Int:=if rangedB x=false then 1 else if joinedB x=false then 3 else if orderedB x=false then 9 else if stateB x=true then 12 else 0
end Go.Proofs.YtmmlmhnjjfnpnaaGreat
namespace Go.Proofs.YtmmlmhnjjfnpnaaGreat
open Go.RowKit
structure LegCells (w:World) (b o:Nat) (e:Leg):Prop where
 c0:∀y:Since w,y.w.cell? ⟨b,o,none⟩=some (.int .i64 e.b)
 c1:∀y:Since w,y.w.cell? ⟨b,o+1,none⟩=some (.int .i64 e.f0)
 c2:∀y:Since w,y.w.cell? ⟨b,o+2,none⟩=some (.int .i64 e.f1)
 c3:∀y:Since w,y.w.cell? ⟨b,o+3,none⟩=some (.int .i64 e.t0)
 c4:∀y:Since w,y.w.cell? ⟨b,o+4,none⟩=some (.int .i64 e.t1)
theorem Els.leg {w:World} {a:Option Addr} {l:List Leg} (h:Els Leg.cs 5 w a l) {k:Nat} {x:Leg} (hk:l[k]? =some x):∃b off,a=some ⟨b,off,none⟩∧LegCells w b (off+k*5) x:=by
 obtain⟨b,off,ha,hb,hc⟩:=h k x hk;refine⟨b,off,ha,?_⟩;have hh:∀j v,x.cs[j]? =some v→∀y:Since w,y.w.cell? ⟨b,off+k*5+j,none⟩=some v:=fun j v hv=>Since.cell (hc j v hv) hb;exact⟨hh 0 _ rfl,hh 1 _ rfl,hh 2 _ rfl,hh 3 _ rfl,hh 4 _ rfl⟩
structure PseCells (w:World) (b o:Nat) (e:Pse):Prop where
 c0:∀y:Since w,y.w.cell? ⟨b,o,none⟩=some (.int .i64 e.f0)
 c1:∀y:Since w,y.w.cell? ⟨b,o+1,none⟩=some (.int .i64 e.f1)
 c2:∀y:Since w,y.w.cell? ⟨b,o+2,none⟩=some (.int .i64 e.t0)
 c3:∀y:Since w,y.w.cell? ⟨b,o+3,none⟩=some (.int .i64 e.t1)
theorem Els.pse {w:World} {a:Option Addr} {l:List Pse} (h:Els Pse.cs 4 w a l) {k:Nat} {x:Pse} (hk:l[k]? =some x):∃b off,a=some ⟨b,off,none⟩∧PseCells w b (off+k*4) x:=by
 obtain⟨b,off,ha,hb,hc⟩:=h k x hk;refine⟨b,off,ha,?_⟩;have hh:∀j v,x.cs[j]? =some v→∀y:Since w,y.w.cell? ⟨b,off+k*4+j,none⟩=some v:=fun j v hv=>Since.cell (hc j v hv) hb;exact⟨hh 0 _ rfl,hh 1 _ rfl,hh 2 _ rfl,hh 3 _ rfl⟩
structure RideCells (w:World) (b o:Nat) (e:Ride):Prop where
 c0:∀y:Since w,y.w.cell? ⟨b,o,none⟩=some (.int .i64 e.id)
 c1:∀y:Since w,y.w.cell? ⟨b,o+1,none⟩=some (.int .i64 e.rd)
 c2:∀y:Since w,y.w.cell? ⟨b,o+2,none⟩=some (.int .i64 e.s0)
 c3:∀y:Since w,y.w.cell? ⟨b,o+3,none⟩=some (.int .i64 e.s1)
 c4:∀y:Since w,y.w.cell? ⟨b,o+4,none⟩=some (.int .i64 e.e0)
 c5:∀y:Since w,y.w.cell? ⟨b,o+5,none⟩=some (.int .i64 e.e1)
 c6:∀y:Since w,y.w.cell? ⟨b,o+6,none⟩=some (.bool e.op)
 c7:∀y:Since w,y.w.cell? ⟨b,o+7,none⟩=some (.slice e.la e.legs.length e.lc)
 c8:∀y:Since w,y.w.cell? ⟨b,o+8,none⟩=some (.slice e.pa e.pauses.length e.pc)
 c9:∀y:Since w,y.w.cell? ⟨b,o+9,none⟩=some (.int .i64 e.fw)
 c10:∀y:Since w,y.w.cell? ⟨b,o+10,none⟩=some (.int .i64 e.fp)
 c11:∀y:Since w,y.w.cell? ⟨b,o+11,none⟩=some (.int .i64 e.wh)
 c12:∀y:Since w,y.w.cell? ⟨b,o+12,none⟩=some (.int .i64 e.pl)
theorem Els.ride {w:World} {a:Option Addr} {l:List Ride} (h:Els Ride.cs 13 w a l) {k:Nat} {x:Ride} (hk:l[k]? =some x):∃b off,a=some ⟨b,off,none⟩∧RideCells w b (off+k*13) x:=by
 obtain⟨b,off,ha,hb,hc⟩:=h k x hk;refine⟨b,off,ha,?_⟩;have hh:∀j v,x.cs[j]? =some v→∀y:Since w,y.w.cell? ⟨b,off+k*13+j,none⟩=some v:=fun j v hv=>Since.cell (hc j v hv) hb;exact⟨hh 0 _ rfl,hh 1 _ rfl,hh 2 _ rfl,hh 3 _ rfl,hh 4 _ rfl,hh 5 _ rfl,hh 6 _ rfl,hh 7 _ rfl,hh 8 _ rfl,hh 9 _ rfl,hh 10 _ rfl,hh 11 _ rfl,hh 12 _ rfl⟩
theorem all_no {α:Type} {p:α→Bool} {l:List α} {k:Nat} {e:α} (h:l[k]? =some e) (hp:p e=false):l.all p=false:=by
 cases ha:l.all p
 ·rfl
 ·have:=List.all_eq_true.1 ha e (List.mem_of_getElem? h);rw[hp]at this;cases this
theorem all_yes {α:Type} {p:α→Bool} {l:List α} (h:∀j,j<l.length→∀e,l[j]? =some e→p e=true):l.all p=true:=by
 refine List.all_eq_true.2 fun e he=>?_;obtain⟨j,hj⟩:=List.mem_iff_getElem?.1 he;exact h j (List.getElem?_eq_some_iff.1 hj).1 e hj
theorem upto_next {α:Type} {P:α→Prop} {l:List α} {k:Nat} {e:α} (h:∀j,j<k→∀e,l[j]? =some e→P e) (he:l[k]? =some e) (hp:P e):∀j,j<k+1→∀e,l[j]? =some e→P e:=by
 intro j hj e' he';by_cases hjk:j<k
 ·exact h j hjk e' he'
 ·obtain rfl:j=k:=by omega
  rw[he]at he';cases he';exact hp
end Go.Proofs.YtmmlmhnjjfnpnaaGreat
namespace Go.Proofs.YtmmlmhnjjfnpnaaGreat
open Go.RowKit
theorem span_equal (a b c d:Int) (w:World):(Op.equalIn 10000 36 (.agg #[.int .i64 a,.int .i64 b]) (.agg #[.int .i64 c,.int .i64 d])).run Tryz.prog w= .ok (decide (a=c) && decide (b=d)) w:=by
 have hS:Tryz.prog.underlying 36=some (.struct (Tryz.prog.fieldsOf 36)):=by kernel_rfl
 have hp:Tryz.prog.stoodInHeld 36=false:=by kernel_rfl
 have u3:=Tryz.underlying3;have a3:=Tryz.isAgg3;have z3:=Tryz.sizeOf3;rw[show(10000:Nat)=9999+1 from rfl,run_equalIn_struct w 9999 36 _ _ hS hp];simp only[Program.fieldsOf,Tryz.underlying36];go_simp;by_cases h1:a=c
 ·by_cases h2:b=d<;>simp[h1,h2]
 ·simp[h1]
theorem span_guard (op:BinOp) (a b:Operand) (xs ys:Array Value) (w:World):(eqGuard op 36 a b (.agg xs) (.agg ys)).run Tryz.prog w= .ok () w:=run_eqGuard_agg w op 36 a b xs ys (by kernel_rfl)
end Go.Proofs.YtmmlmhnjjfnpnaaGreat
namespace Go.Proofs.YtmmlmhnjjfnpnaaGreat
open Go.RowKit
set_option maxHeartbeats 1000000 in
theorem vld_calls (w:World) (x:Since w) (lo hi:Int):
 Calls Tryz.prog 82 #[.agg #[.int .i64 lo,.int .i64 hi]] x.w fun o w'=>o= .returned (.bool (vldS lo hi))∧∃y:Since w,w'=y.w:=by
 rcases(by omega:lo<0∨(0≤lo∧hi<lo)∨(0≤lo∧lo≤hi∧4294943999<hi)∨(0≤lo∧lo≤hi∧hi≤4294943999))with h1|⟨h1,h2⟩|⟨h1,h2,h3⟩|⟨h1,h2,h3⟩
 case inr.inr.inr=>
  have hv:vldS lo hi=true:=(vldS_iff lo hi).2 ⟨h1,h2,h3⟩;have Hv:=Lib.hid hv;clear hv;go_enter Tryz.func82,Tryz.ntmps82;go_wp2_with fail;go_ret;exact⟨ret_bool Hv.out.symm,x.alloc _⟩
 all_goals
  have hv:vldS lo hi=false:=by
   cases h:vldS lo hi
   ·rfl
   ·rw[vldS_iff]at h;omega
  have Hv:=Lib.hid hv;clear hv;go_enter Tryz.func82,Tryz.ntmps82;go_wp2_with fail;go_ret;exact⟨ret_bool (by first|exact Hv.out.symm|(rw[Hv.out];exact decide_eq_false (by omega))),x.alloc _⟩
theorem ranged_no {r:Ride} (h:headV r=false∨r.legs.all legV=false∨r.pauses.all pseV=false):rangedB r=false:=by
 unfold rangedB;rcases h with h|h|h<;>simp[h]
theorem ranged_yes {r:Ride} (h1:headV r=true) (h2:r.legs.all legV=true) (h3:r.pauses.all pseV=true):rangedB r=true:=by
 unfold rangedB;rw[h1,h2,h3];rfl
set_option maxRecDepth 100000 in
set_option maxHeartbeats 8000000 in
theorem ranged_calls (w:World) (x:Since w) (r:Ride) (h:r.At w):
 Calls Tryz.prog 35 #[.agg #[.int .i64 r.id,.int .i64 r.rd,.int .i64 r.s0,.int .i64 r.s1,.int .i64 r.e0,.int .i64 r.e1,.bool r.op,.slice r.la r.legs.length r.lc,.slice r.pa r.pauses.length r.pc,.int .i64 r.fw,.int .i64 r.fp,.int .i64 r.wh,.int .i64 r.pl]] x.w fun o w'=>o= .returned (.bool (rangedB r))∧∃y:Since w,w'=y.w:=by
 have HL:=Lib.hid h.l;have HP:=Lib.hid h.p;have hlm:=h.lm;have hpm:=h.pm;clear h;generalize r.la=la at HL⊢;generalize r.pa=pa at HP⊢;rcases(by omega:r.id<1∨(1≤r.id∧1000000<r.id)∨(1≤r.id∧r.id≤1000000∧r.rd<0)∨(1≤r.id∧r.id≤1000000∧0≤r.rd∧127<r.rd)∨(1≤r.id∧r.id≤1000000∧0≤r.rd∧r.rd≤127))with h1|⟨h1,h2⟩|⟨h1,h2,h3⟩|⟨h1,h2,h3,h4⟩|⟨h1,h2,h3,h4⟩
 case inr.inr.inr.inr=>
  have hhead:headV r=(vldS r.s0 r.s1 && vldS r.e0 r.e1):=by unfold headV;simp[h1,h2,h3,h4]
  have Hhead:=Lib.hid hhead;clear hhead;go_enter Tryz.func35,Tryz.ntmps35;go_upto_region 1 with fail;obtain⟨W,bx,y0,hW,hbx,-,hWup,Hup,Hbx,HB0⟩:=heads1 x [.int .i64 r.id,.int .i64 r.rd,.int .i64 r.s0,.int .i64 r.s1,.int .i64 r.e0,.int .i64 r.e1,.bool r.op,.slice la r.legs.length r.lc,.slice pa r.pauses.length r.pc,.int .i64 r.fw,.int .i64 r.fp,.int .i64 r.wh,.int .i64 r.pl] 40;rw[hW,hbx];clear hW hbx;obtain⟨hb0_0,hb0_1,hb0_2,hb0_3,hb0_4,hb0_5,hb0_6,hb0_7,hb0_8,hb0_9,hb0_10,hb0_11,hb0_12,hf0⟩:=bx13 HB0;clear HB0;replace HL:=Lib.hid (HL.out.to hWup);replace HP:=Lib.hid (HP.out.to hWup);clear hWup
  cases hs:vldS r.s0 r.s1 with
  |false=>
   have Hr:=Lib.hid (ranged_no (r:=r) (.inl (by rw[Hhead.out,hs];rfl)))
   have Hs:=Lib.hid hs;clear hs
   go_wp2_with(go_at_call 82;refine(vld_calls W _ _ _).mono ?_;rintro _ _ ⟨rfl,y1,rfl⟩;rw[Hs.out])
   go_ret
   exact⟨ret_bool Hr.out.symm,Hup.out _⟩
  |true=>
   cases he:vldS r.e0 r.e1 with
   |false=>
    have Hr:=Lib.hid (ranged_no (r:=r) (.inl (by rw[Hhead.out,hs,he];rfl)))
    have Hs:=Lib.hid hs;have He:=Lib.hid he;clear hs he
    go_wp2_with(first|(go_at_call 82;((with_reducible refine(vld_calls W _ r.s0 r.s1).mono ?_);rintro _ _ ⟨rfl,y1,rfl⟩;rw[Hs.out]))|(go_at_call 82;((with_reducible refine(vld_calls W _ r.e0 r.e1).mono ?_);rintro _ _ ⟨rfl,y1,rfl⟩;rw[He.out])))
    go_ret
    exact⟨ret_bool Hr.out.symm,Hup.out _⟩
   |true=>
    have Hh:=Lib.hid (show headV r=true by rw[Hhead.out,hs,he];rfl)
    have Hs:=Lib.hid hs;have He:=Lib.hid he;clear hs he
    go_upto_region 4 with(first|(go_at_call 82;((with_reducible refine(vld_calls W _ r.s0 r.s1).mono ?_);rintro _ _ ⟨rfl,y1,rfl⟩;rw[Hs.out]))|(go_at_call 82;((with_reducible refine(vld_calls W _ r.e0 r.e1).mono ?_);rintro _ _ ⟨rfl,y1,rfl⟩;rw[He.out])))
    go_loopw [40] (fun i wr=>∃(k:Nat) (y:Since W),k≤r.legs.length∧i= .int .i64 k∧wr=y.w∧∀j,j<k→∀e,r.legs[j]? =some e→legV e=true) (fun i _ =>r.legs.length-(intOf i).toNat)
    case atStart=>exact⟨0,_,by omega,rfl,rfl,fun j hj=>by omega⟩
    case round=>
     obtain⟨k,y,hk,rfl,rfl,hok⟩:=hrel;have Hok:=Lib.hid hok;clear hok;by_cases hlt:k<r.legs.length
     ·obtain⟨e,he⟩:∃e,r.legs[k]? =some e:=⟨_,List.getElem?_eq_getElem hlt⟩
      obtain⟨b1,off1,rfl,h1'⟩:=Els.leg HL.out he;have pa0:=h1'.c0;have pa1:=h1'.c1;have pa2:=h1'.c2;have pa3:=h1'.c3;have pa4:=h1'.c4;have hk0:(0:Int)≤(k:Int):=by omega
      have hkl:(k:Int)<(r.legs.length:Int):=by omega
      have He':=Lib.hid he;clear h1' he;go_upto_region 6 with fail;obtain⟨y2,e2,hst0,hsz0,hlt0,HX0⟩:=grow1 y [.int .i64 e.b,.int .i64 e.f0,.int .i64 e.f1,.int .i64 e.t0,.int .i64 e.t1] 152;rw[e2];obtain⟨hx0,hx1,hx2,hx3,hx4,hxf⟩:=cx5 HX0;skip;clear e2 hst0;generalize y.w.heap.size=g at *;obtain⟨Hhx0,Hhx1,Hhx2,Hhx3,Hhx4,Hhxf⟩:=bx5 HX0;have Hhxg:=Lib.hid (And.intro hsz0 hlt0);clear hlt0 hsz0 HX0;obtain⟨q0,hq0⟩:=Since.refl y2.w;rw[hq0];clear hq0
      cases hf:vldS e.f0 e.f1 with
      |false=>
       have Hr:=Lib.hid (ranged_no (r:=r) (.inr <| .inl (all_no He'.out (by unfold legV;rw[hf];rfl))))
       have Hf:=Lib.hid hf;clear hf
       go_wp2_with(go_at_call 82;((with_reducible refine(vld_calls y2.w _ e.f0 e.f1).mono ?_);rintro _ _ ⟨rfl,z1,rfl⟩;rw[Hf.out]))
       go_ret
       exact⟨ret_bool Hr.out.symm,by obtain⟨q,e⟩:=y2.trans z1;rw[e];exact Hup.out q⟩
      |true=>
       have Hf:=Lib.hid hf;clear hf
       cases ht:vldS e.t0 e.t1 with
       |false=>
        have Hr:=Lib.hid (ranged_no (r:=r) (.inr <| .inl (all_no He'.out (by unfold legV;rw[Hf.out,ht];rfl))))
        have Ht:=Lib.hid ht;clear ht
        go_wp2_with(first|(go_at_call 82;((with_reducible refine(vld_calls y2.w _ e.f0 e.f1).mono ?_);rintro _ _ ⟨rfl,z1,rfl⟩;rw[Hf.out]))|(go_at_call 82;((with_reducible refine(vld_calls y2.w _ e.t0 e.t1).mono ?_);rintro _ _ ⟨rfl,z1,rfl⟩;rw[Ht.out])))
        go_ret
        exact⟨ret_bool Hr.out.symm,by obtain⟨q,e⟩:=y2.trans z1;rw[e];exact Hup.out q⟩
       |true=>
        have Hv:=Lib.hid (show legV e=true by unfold legV;rw[Hf.out,ht];rfl)
        have Ht:=Lib.hid ht;clear ht
        go_wp2_with(first|(go_at_call 82;((with_reducible refine(vld_calls y2.w _ e.f0 e.f1).mono ?_);rintro _ _ ⟨rfl,z1,rfl⟩;rw[Hf.out]))|(go_at_call 82;((with_reducible refine(vld_calls y2.w _ e.t0 e.t1).mono ?_);rintro _ _ ⟨rfl,z1,rfl⟩;rw[Ht.out])))
        obtain⟨q,eq⟩:=y2.trans z1
        rw[eq]
        go_roundw
        case rel=>exact⟨k+1,q,by omega,by go_num,rfl,upto_next Hok.out He'.out Hv.out⟩
        case measure=>simp[intOf]<;>omega
     ·obtain rfl:k=r.legs.length:=by omega
      have HvL:=Lib.hid (all_yes Hok.out);go_upto_region 10 with fail;go_loopw [58] (fun i wr=>∃(k:Nat) (y:Since W),k≤r.pauses.length∧i= .int .i64 k∧wr=y.w∧∀j,j<k→∀e,r.pauses[j]? =some e→pseV e=true) (fun i _ =>r.pauses.length-(intOf i).toNat)
      case atStart=>exact⟨0,_,by omega,rfl,rfl,fun j hj=>by omega⟩
      case round=>
       obtain⟨k,y,hk,rfl,rfl,hok⟩:=hrel;have Hok:=Lib.hid hok;clear hok;by_cases hlt:k<r.pauses.length
       ·obtain⟨e,he⟩:∃e,r.pauses[k]? =some e:=⟨_,List.getElem?_eq_getElem hlt⟩
        obtain⟨b1,off1,rfl,h1'⟩:=Els.pse HP.out he;have pa0:=h1'.c0;have pa1:=h1'.c1;have pa2:=h1'.c2;have pa3:=h1'.c3;have hk0:(0:Int)≤(k:Int):=by omega
        have hkl:(k:Int)<(r.pauses.length:Int):=by omega
        have He':=Lib.hid he;clear h1' he;go_upto_region 12 with fail;obtain⟨y2,e2,hst0,hsz0,hlt0,HX0⟩:=grow1 y [.int .i64 e.f0,.int .i64 e.f1,.int .i64 e.t0,.int .i64 e.t1] 44;rw[e2];obtain⟨hx0,hx1,hx2,hx3,hxf⟩:=cx4 HX0;skip;clear e2 hst0;generalize y.w.heap.size=g at *;obtain⟨Hhx0,Hhx1,Hhx2,Hhx3,Hhxf⟩:=bx4 HX0;have Hhxg:=Lib.hid (And.intro hsz0 hlt0);clear hlt0 hsz0 HX0;obtain⟨q0,hq0⟩:=Since.refl y2.w;rw[hq0];clear hq0
        cases hf:vldS e.f0 e.f1 with
        |false=>
         have Hr:=Lib.hid (ranged_no (r:=r) (.inr <| .inr (all_no He'.out (by unfold pseV;rw[hf];rfl))))
         have Hf:=Lib.hid hf;clear hf
         go_wp2_with(go_at_call 82;((with_reducible refine(vld_calls y2.w _ e.f0 e.f1).mono ?_);rintro _ _ ⟨rfl,z1,rfl⟩;rw[Hf.out]))
         go_ret
         exact⟨ret_bool Hr.out.symm,by obtain⟨q,e⟩:=y2.trans z1;rw[e];exact Hup.out q⟩
        |true=>
         have Hf:=Lib.hid hf;clear hf
         cases ht:vldS e.t0 e.t1 with
         |false=>
          have Hr:=Lib.hid (ranged_no (r:=r) (.inr <| .inr (all_no He'.out (by unfold pseV;rw[Hf.out,ht];rfl))))
          have Ht:=Lib.hid ht;clear ht
          go_wp2_with(first|(go_at_call 82;((with_reducible refine(vld_calls y2.w _ e.f0 e.f1).mono ?_);rintro _ _ ⟨rfl,z1,rfl⟩;rw[Hf.out]))|(go_at_call 82;((with_reducible refine(vld_calls y2.w _ e.t0 e.t1).mono ?_);rintro _ _ ⟨rfl,z1,rfl⟩;rw[Ht.out])))
          go_ret
          exact⟨ret_bool Hr.out.symm,by obtain⟨q,e⟩:=y2.trans z1;rw[e];exact Hup.out q⟩
         |true=>
          have Hv:=Lib.hid (show pseV e=true by unfold pseV;rw[Hf.out,ht];rfl)
          have Ht:=Lib.hid ht;clear ht
          go_wp2_with(first|(go_at_call 82;((with_reducible refine(vld_calls y2.w _ e.f0 e.f1).mono ?_);rintro _ _ ⟨rfl,z1,rfl⟩;rw[Hf.out]))|(go_at_call 82;((with_reducible refine(vld_calls y2.w _ e.t0 e.t1).mono ?_);rintro _ _ ⟨rfl,z1,rfl⟩;rw[Ht.out])))
          obtain⟨q,eq⟩:=y2.trans z1
          rw[eq]
          go_roundw
          case rel=>exact⟨k+1,q,by omega,by go_num,rfl,upto_next Hok.out He'.out Hv.out⟩
          case measure=>simp[intOf]<;>omega
       ·obtain rfl:k=r.pauses.length:=by omega
        have HvP:=Lib.hid (all_yes Hok.out);go_wp2_with fail;go_ret;exact⟨ret_bool (ranged_yes Hh.out HvL.out HvP.out).symm,Hup.out _⟩
 all_goals
  have Hr:=Lib.hid (ranged_no (r:=r) (.inl (by
   cases hh:headV r
   ·rfl
   ·unfold headV at hh
    simp only[Bool.and_eq_true,decide_eq_true_eq]at hh;omega)))
  go_enter Tryz.func35,Tryz.ntmps35;go_wp2_with fail;go_ret;exact⟨ret_bool Hr.out.symm,x.alloc _⟩
end Go.Proofs.YtmmlmhnjjfnpnaaGreat
namespace Go.Proofs.YtmmlmhnjjfnpnaaGreat
open Go.RowKit
set_option maxRecDepth 100000 in
set_option maxHeartbeats 8000000 in
theorem joined_calls (w:World) (x:Since w) (r:Ride) (h:r.At w):
 Calls Tryz.prog 36 #[.agg #[.int .i64 r.id,.int .i64 r.rd,.int .i64 r.s0,.int .i64 r.s1,.int .i64 r.e0,.int .i64 r.e1,.bool r.op,.slice r.la r.legs.length r.lc,.slice r.pa r.pauses.length r.pc,.int .i64 r.fw,.int .i64 r.fp,.int .i64 r.wh,.int .i64 r.pl]] x.w fun o w'=>o= .returned (.bool (joinedB r))∧∃y:Since w,w'=y.w:=by
 have HL:=Lib.hid h.l;have hlm:=h.lm;have hpm:=h.pm;clear h;generalize r.la=la at HL⊢;rcases(by omega:r.legs.length<1∨(1≤r.legs.length∧512<r.legs.length)∨(1≤r.legs.length∧r.legs.length≤512∧512<r.pauses.length)∨(1≤r.legs.length∧r.legs.length≤512∧r.pauses.length≤512))with h1|⟨h1,h2⟩|⟨h1,h2,h3⟩|⟨h1,h2,h3⟩
 case inr.inr.inr=>
  have hj:joinedB r=chainL r.s0 r.s1 r.legs r.e0 r.e1:=by unfold joinedB;simp[h1,h2,h3]
  have Hj:=Lib.hid hj;clear hj;go_enter Tryz.func36,Tryz.ntmps36;go_upto_region 1 with fail;obtain⟨W,bx,y0,hW,hbx,-,hWup,Hup,Hbx,HB0⟩:=heads1 x [.int .i64 r.id,.int .i64 r.rd,.int .i64 r.s0,.int .i64 r.s1,.int .i64 r.e0,.int .i64 r.e1,.bool r.op,.slice la r.legs.length r.lc,.slice r.pa r.pauses.length r.pc,.int .i64 r.fw,.int .i64 r.fp,.int .i64 r.wh,.int .i64 r.pl] 40;rw[hW,hbx];clear hW hbx;obtain⟨hb0_0,hb0_1,hb0_2,hb0_3,hb0_4,hb0_5,hb0_6,hb0_7,hb0_8,hb0_9,hb0_10,hb0_11,hb0_12,hf0⟩:=bx13 HB0;clear HB0;replace HL:=Lib.hid (HL.out.to hWup);clear hWup;go_upto_region 4 with fail;obtain⟨y1,e2,hst0,hsz0,hlt0,HX0⟩:=grow1 y0 [.int .i64 r.s0,.int .i64 r.s1] 36;rw[e2];obtain⟨ha0,ha1,haf⟩:=cx2 HX0;(have hbox:=BoxIs.new y0.w [.int .i64 r.s0,.int .i64 r.s1] 36;rw[e2]at hbox)
  clear e2 hst0;generalize y0.w.heap.size=ga at *;obtain⟨Hha0,Hha1,Hhaf⟩:=bx2 HX0;have Hhag:=Lib.hid (And.intro hsz0 hlt0);clear hlt0 hsz0 HX0;have Hbox:=Lib.hid hbox;have Hga:=Lib.hid (show W.heap.size≤ga by have:=Hhag.out.1;omega);clear hbox ha0 ha1 haf Hha0 Hha1 Hhaf;go_wp2_with fail;go_loopw [27] (fun i wr=>∃(k:Nat) (a0 a1:Int) (y:Since W),k≤r.legs.length∧i= .int .i64 k∧wr=y.w∧BoxIs y.w ga [.int .i64 a0,.int .i64 a1]∧chainL r.s0 r.s1 r.legs r.e0 r.e1=chainL a0 a1 (r.legs.drop k) r.e0 r.e1) (fun i _ =>r.legs.length-(intOf i).toNat)
  case atStart=>exact⟨0,r.s0,r.s1,y1,by omega,rfl,rfl,Hbox.out,rfl⟩
  case round=>
   clear Hbox Hhag;obtain⟨k,a0,a1,y,hk,rfl,rfl,hbox,hch⟩:=hrel;have Hbox:=Lib.hid hbox;have Hch:=Lib.hid hch;clear hbox hch;have heq0:=span_equal;have hgd:=span_guard;have Heq:=Lib.hid heq0;clear heq0;by_cases hlt:k<r.legs.length
   ·obtain⟨e,he⟩:∃e,r.legs[k]? =some e:=⟨_,List.getElem?_eq_getElem hlt⟩
    obtain⟨b1,off1,rfl,h1'⟩:=Els.leg HL.out he;have pa0:=h1'.c0;have pa1:=h1'.c1;have pa2:=h1'.c2;have pa3:=h1'.c3;have pa4:=h1'.c4;have hdrop:r.legs.drop k=e :: r.legs.drop (k+1):=by
     rw[List.drop_eq_getElem_cons hlt,(List.getElem?_eq_some_iff.1 he).2]
    have Hdrop:=Lib.hid hdrop;have hk0:(0:Int)≤(k:Int):=by omega
    have hkl:(k:Int)<(r.legs.length:Int):=by omega
    clear h1' he hdrop;go_upto_region 7 with fail;obtain⟨y2,e2,hst0,hsz0,hlt0,HX0⟩:=grow1 y [.int .i64 e.b,.int .i64 e.f0,.int .i64 e.f1,.int .i64 e.t0,.int .i64 e.t1] 152;rw[e2];obtain⟨hx0,hx1,hx2,hx3,hx4,hxf⟩:=cx5 HX0;(replace Hbox:=Lib.hid (Hbox.out.to hst0))
    clear e2 hst0;generalize y.w.heap.size=g at *;obtain⟨Hhx0,Hhx1,Hhx2,Hhx3,Hhx4,Hhxf⟩:=bx5 HX0;have Hhxg:=Lib.hid (And.intro hsz0 hlt0);clear hlt0 hsz0 HX0;have ka0:∀q:Since y2.w,q.w.cell? ⟨ga,0,none⟩=some (.int .i64 a0):=fun q=>(Hbox.out.since q).c 0 _ rfl;have ka1:∀q:Since y2.w,q.w.cell? ⟨ga,1,none⟩=some (.int .i64 a1):=fun q=>(Hbox.out.since q).c 1 _ rfl;have kaf:∀(q:Since y2.w) o,q.w.frozen? ⟨ga,o,none⟩=false:=fun q o=>(Hbox.out.since q).f o;have heq:=Heq.out e.f0 e.f1 a0 a1;obtain⟨q0,hq0⟩:=Since.refl y2.w;rw[hq0];clear hq0
    cases hb:(decide (e.f0=a0) && decide (e.f1=a1))with
    |false=>
     rw[hb]at heq
     have Hr:=Lib.hid (show joinedB r=false by rw[Hj.out,Hch.out,Hdrop.out];unfold chainL;rw[hb];rfl)
     clear hb
     go_wp2_with fail
     go_ret
     exact⟨ret_bool Hr.out.symm,by obtain⟨q,e⟩:=y2.trans q0;rw[e];exact Hup.out q⟩
    |true=>
     rw[hb]at heq
     have Hr:=Lib.hid (show chainL a0 a1 (r.legs.drop k) r.e0 r.e1=chainL e.t0 e.t1 (r.legs.drop (k+1)) r.e0 r.e1 by rw[Hdrop.out];show(_ && _ && _)= _;rw[hb];rfl)
     clear hb
     go_wp2_with fail
     have hb2:=(Hbox.out.since q0).sets (us:=[.int .i64 e.t0,.int .i64 e.t1]) rfl
     obtain⟨q,eq⟩:=y2.trans q0
     obtain⟨y4,h4⟩:=q.sets ga Hga.out [.int .i64 e.t0,.int .i64 e.t1] 0
     rw[eq,h4]at hb2
     rw[eq]
     have H4:=Lib.hid h4;have Hb2:=Lib.hid hb2
     clear h4 hb2 eq
     go_roundw
     case rel=>exact⟨k+1,e.t0,e.t1,y4,by omega,by go_num,H4.out,Hb2.out,by rw[Hch.out,Hr.out]⟩
     case measure=>simp[intOf]<;>omega
   ·obtain rfl:k=r.legs.length:=by omega
    rw[List.drop_length]at Hch;have hj2:joinedB r=(decide (a0=r.e0) && decide (a1=r.e1)):=by rw[Hj.out,Hch.out];rfl
    have Hj2:=Lib.hid hj2;clear hj2;obtain⟨q1,hq1⟩:=Since.refl y.w;have ka0:∀q:Since y.w,q.w.cell? ⟨ga,0,none⟩=some (.int .i64 a0):=fun q=>(Hbox.out.since q).c 0 _ rfl;have ka1:∀q:Since y.w,q.w.cell? ⟨ga,1,none⟩=some (.int .i64 a1):=fun q=>(Hbox.out.since q).c 1 _ rfl;have heq:=Heq.out a0 a1 r.e0 r.e1;have kh4:∀q:Since y.w,q.w.cell? ⟨bx,4,none⟩=some (.int .i64 r.e0):=fun q=>by obtain⟨z,e⟩:=y.trans q;rw[e];exact hb0_4 z
    have kh5:∀q:Since y.w,q.w.cell? ⟨bx,5,none⟩=some (.int .i64 r.e1):=fun q=>by obtain⟨z,e⟩:=y.trans q;rw[e];exact hb0_5 z
    rw[hq1];clear hq1;go_wp2_with fail;go_ret;exact⟨ret_bool Hj2.out.symm,by obtain⟨q,e⟩:=y.trans q1;rw[e];exact Hup.out q⟩
 all_goals
  have Hr:=Lib.hid (show joinedB r=false by
   cases hh:joinedB r
   ·rfl
   ·unfold joinedB at hh
    simp only[Bool.and_eq_true,decide_eq_true_eq]at hh;omega)
  go_enter Tryz.func36,Tryz.ntmps36;go_wp2_with fail;go_ret;exact⟨ret_bool Hr.out.symm,x.alloc _⟩
end Go.Proofs.YtmmlmhnjjfnpnaaGreat
namespace Go.Proofs.YtmmlmhnjjfnpnaaGreat
open Go.RowKit
theorem drop_cons {α:Type} {l:List α} {k:Nat} {e:α} (he:l[k]? =some e):l.drop k=e :: l.drop (k+1):=by
 rw[List.drop_eq_getElem_cons (List.getElem?_eq_some_iff.1 he).1,(List.getElem?_eq_some_iff.1 he).2]
theorem drop_last {α:Type} {l:List α} {k:Nat} (h:k<l.length):(l.drop (k+1)).isEmpty=decide (k+1=l.length):=by
 rw[Bool.eq_iff_iff,List.isEmpty_iff,List.drop_eq_nil_iff,decide_eq_true_eq];omega
set_option maxRecDepth 100000 in
set_option maxHeartbeats 8000000 in
theorem ordered_calls (w:World) (x:Since w) (r:Ride) (h:r.At w):
 Calls Tryz.prog 37 #[.agg #[.int .i64 r.id,.int .i64 r.rd,.int .i64 r.s0,.int .i64 r.s1,.int .i64 r.e0,.int .i64 r.e1,.bool r.op,.slice r.la r.legs.length r.lc,.slice r.pa r.pauses.length r.pc,.int .i64 r.fw,.int .i64 r.fp,.int .i64 r.wh,.int .i64 r.pl]] x.w fun o w'=>o= .returned (.bool (orderedB r))∧∃y:Since w,w'=y.w:=by
 have HL:=Lib.hid h.l;have HP:=Lib.hid h.p;have hlm:=h.lm;have hpm:=h.pm;have hO:orderedB r=(legsO r.op r.legs && (r.pauses.isEmpty || psesO r.op r.e0 r.s0 r.pauses)):=rfl;have HO:=Lib.hid hO;clear h hO;generalize r.la=la at HL⊢;generalize r.pa=pa at HP⊢;generalize r.op=op at HO⊢;go_enter Tryz.func37,Tryz.ntmps37;go_upto_region 1 with fail;obtain⟨W,bx,y0,hW,hbx,-,hWup,Hup,Hbx,HB0⟩:=heads1 x [.int .i64 r.id,.int .i64 r.rd,.int .i64 r.s0,.int .i64 r.s1,.int .i64 r.e0,.int .i64 r.e1,.bool op,.slice la r.legs.length r.lc,.slice pa r.pauses.length r.pc,.int .i64 r.fw,.int .i64 r.fp,.int .i64 r.wh,.int .i64 r.pl] 40;rw[hW,hbx];clear hW hbx;obtain⟨hb0_0,hb0_1,hb0_2,hb0_3,hb0_4,hb0_5,hb0_6,hb0_7,hb0_8,hb0_9,hb0_10,hb0_11,hb0_12,hf0⟩:=bx13 HB0;clear HB0;replace HL:=Lib.hid (HL.out.to hWup);replace HP:=Lib.hid (HP.out.to hWup);clear hWup;go_wp2_with fail;go_loopw [11] (fun i wr=>∃(k:Nat) (y:Since W),k≤r.legs.length∧i= .int .i64 k∧wr=y.w∧legsO op r.legs=legsO op (r.legs.drop k)) (fun i _ =>r.legs.length-(intOf i).toNat)
 case atStart=>exact⟨0,_,by omega,rfl,rfl,rfl⟩
 case round=>
  obtain⟨k,y,hk,rfl,rfl,hch⟩:=hrel;have Hch:=Lib.hid hch;clear hch;by_cases hlt:k<r.legs.length
  ·obtain⟨e,he⟩:∃e,r.legs[k]? =some e:=⟨_,List.getElem?_eq_getElem hlt⟩
   obtain⟨b1,off1,rfl,h1'⟩:=Els.leg HL.out he;have pa0:=h1'.c0;have pa1:=h1'.c1;have pa2:=h1'.c2;have pa3:=h1'.c3;have pa4:=h1'.c4;have hstep:legsO op (r.legs.drop k)=((decide (e.f0≤e.t0) || (op && decide (k+1=r.legs.length))) && legsO op (r.legs.drop (k+1))):=by
    rw[drop_cons he,←drop_last hlt];rfl
   have Hstep:=Lib.hid hstep;have hk0:(0:Int)≤(k:Int):=by omega
   have hkl:(k:Int)<(r.legs.length:Int):=by omega
   clear h1' he hstep;go_upto_region 4 with fail;obtain⟨y2,e2,hst0,hsz0,hlt0,HX0⟩:=grow1 y [.int .i64 e.b,.int .i64 e.f0,.int .i64 e.f1,.int .i64 e.t0,.int .i64 e.t1] 152;rw[e2];obtain⟨hx0,hx1,hx2,hx3,hx4,hxf⟩:=cx5 HX0;skip;clear e2 hst0;generalize y.w.heap.size=g at *;obtain⟨Hhx0,Hhx1,Hhx2,Hhx3,Hhx4,Hhxf⟩:=bx5 HX0;have Hhxg:=Lib.hid (And.intro hsz0 hlt0);clear hlt0 hsz0 HX0;replace hb0_0:=Since.cellTo ⟨y2,rfl⟩ hb0_0;replace hb0_1:=Since.cellTo ⟨y2,rfl⟩ hb0_1;replace hb0_2:=Since.cellTo ⟨y2,rfl⟩ hb0_2;replace hb0_3:=Since.cellTo ⟨y2,rfl⟩ hb0_3;replace hb0_4:=Since.cellTo ⟨y2,rfl⟩ hb0_4;replace hb0_5:=Since.cellTo ⟨y2,rfl⟩ hb0_5;replace hb0_6:=Since.cellTo ⟨y2,rfl⟩ hb0_6;replace hb0_7:=Since.cellTo ⟨y2,rfl⟩ hb0_7;replace hb0_8:=Since.cellTo ⟨y2,rfl⟩ hb0_8;replace hb0_9:=Since.cellTo ⟨y2,rfl⟩ hb0_9;replace hb0_10:=Since.cellTo ⟨y2,rfl⟩ hb0_10;replace hb0_11:=Since.cellTo ⟨y2,rfl⟩ hb0_11;replace hb0_12:=Since.cellTo ⟨y2,rfl⟩ hb0_12;obtain⟨q0,hq0⟩:=Since.refl y2.w;rw[hq0];clear hq0;rcases(by omega:e.f0≤e.t0∨(e.t0<e.f0∧k+1=r.legs.length)∨(e.t0<e.f0∧k+1<r.legs.length))with hle|⟨hgt,hkk⟩|⟨hgt,hkk⟩
   ·have Hr:=Lib.hid (show legsO op (r.legs.drop k)=legsO op (r.legs.drop (k+1)) by rw[Hstep.out];simp[hle])
    go_wp2_with fail;obtain⟨q,eq⟩:=y2.trans q0;rw[eq];go_roundw
    case rel=>exact⟨k+1,q,by omega,by go_num,rfl,by rw[Hch.out,Hr.out]⟩
    case measure=>simp[intOf]<;>omega
   ·have hkb:((k:Int) == (r.legs.length:Int)-1)=true:=by simp;omega
    have Hkk:=Lib.hid hkk;clear hkk
    cases op with
    |true=>
     have Hr:=Lib.hid (show legsO true (r.legs.drop k)=legsO true (r.legs.drop (k+1)) by rw[Hstep.out];simp[Hkk.out])
     go_wp2_with fail
     obtain⟨q,eq⟩:=y2.trans q0
     rw[eq]
     go_roundw
     case rel=>exact⟨k+1,q,by omega,by go_num,rfl,by rw[Hch.out,Hr.out]⟩
     case measure=>simp[intOf]<;>omega
    |false=>
     have Hr:=Lib.hid (show orderedB r=false by rw[HO.out,Hch.out,Hstep.out];simp;omega)
     go_wp2_with fail
     go_ret
     exact⟨ret_bool Hr.out.symm,by obtain⟨q,e⟩:=y2.trans q0;rw[e];exact Hup.out q⟩
   ·have hkb:((k:Int) == (r.legs.length:Int)-1)=false:=by simp;omega
    have Hr:=Lib.hid (show orderedB r=false by rw[HO.out,Hch.out,Hstep.out];simp;omega)
    cases op;all_goals
     go_wp2_with fail;go_ret;exact⟨ret_bool Hr.out.symm,by obtain⟨q,e⟩:=y2.trans q0;rw[e];exact Hup.out q⟩
  ·obtain rfl:k=r.legs.length:=by omega
   rw[List.drop_length]at Hch;have HO2:=Lib.hid (show orderedB r=(r.pauses.isEmpty || psesO op r.e0 r.s0 r.pauses) by rw[HO.out,Hch.out];rfl);clear HO Hch;go_wp2_with fail;go_loopw [5,43] (fun v i wr=>∃(k:Nat) (a:Int) (y:Since W),k≤r.pauses.length∧i= .int .i64 k∧v= .int .i64 a∧wr=y.w∧psesO op r.e0 r.s0 r.pauses=psesO op r.e0 a (r.pauses.drop k)) (fun _ i _ =>r.pauses.length-(intOf i).toNat)
   case atStart=>exact⟨0,r.s0,y,by omega,rfl,rfl,rfl,rfl⟩
   case round=>
    obtain⟨k,a,y,hk,rfl,rfl,rfl,hch⟩:=hrel;have Hch:=Lib.hid hch;clear hch;by_cases hlt:k<r.pauses.length
    ·obtain⟨e,he⟩:∃e,r.pauses[k]? =some e:=⟨_,List.getElem?_eq_getElem hlt⟩
     obtain⟨b1,off1,rfl,h1'⟩:=Els.pse HP.out he;have pb0:=h1'.c0;have pb1:=h1'.c1;have pb2:=h1'.c2;have pb3:=h1'.c3;have hstep:psesO op r.e0 a (r.pauses.drop k)=(decide (a≤e.f0) && ((op && decide (k+1=r.pauses.length) && decide (e.t0=0)) || (decide (e.f0≤e.t0) && psesO op r.e0 e.t0 (r.pauses.drop (k+1))))):=by
      rw[drop_cons he,←drop_last hlt];rfl
     have Hstep:=Lib.hid hstep;have hne:r.pauses.isEmpty=false:=by cases hh:r.pauses<;>simp_all
     have HO3:=Lib.hid (show orderedB r=psesO op r.e0 a (r.pauses.drop k) by rw[HO2.out,hne,Hch.out];rfl);have hk0:(0:Int)≤(k:Int):=by omega
     have hkl:(k:Int)<(r.pauses.length:Int):=by omega
     clear h1' he hstep hne;go_upto_region 11 with fail;obtain⟨y2,e2,hst0,hsz0,hlt0,HX0⟩:=grow1 y [.int .i64 e.f0,.int .i64 e.f1,.int .i64 e.t0,.int .i64 e.t1] 44;rw[e2];obtain⟨hx0,hx1,hx2,hx3,hxf⟩:=cx4 HX0;skip;clear e2 hst0;generalize y.w.heap.size=g at *;obtain⟨Hhx0,Hhx1,Hhx2,Hhx3,Hhxf⟩:=bx4 HX0;have Hhxg:=Lib.hid (And.intro hsz0 hlt0);clear hlt0 hsz0 HX0;replace hb0_0:=Since.cellTo ⟨y2,rfl⟩ hb0_0;replace hb0_1:=Since.cellTo ⟨y2,rfl⟩ hb0_1;replace hb0_2:=Since.cellTo ⟨y2,rfl⟩ hb0_2;replace hb0_3:=Since.cellTo ⟨y2,rfl⟩ hb0_3;replace hb0_4:=Since.cellTo ⟨y2,rfl⟩ hb0_4;replace hb0_5:=Since.cellTo ⟨y2,rfl⟩ hb0_5;replace hb0_6:=Since.cellTo ⟨y2,rfl⟩ hb0_6;replace hb0_7:=Since.cellTo ⟨y2,rfl⟩ hb0_7;replace hb0_8:=Since.cellTo ⟨y2,rfl⟩ hb0_8;replace hb0_9:=Since.cellTo ⟨y2,rfl⟩ hb0_9;replace hb0_10:=Since.cellTo ⟨y2,rfl⟩ hb0_10;replace hb0_11:=Since.cellTo ⟨y2,rfl⟩ hb0_11;replace hb0_12:=Since.cellTo ⟨y2,rfl⟩ hb0_12;obtain⟨q0,hq0⟩:=Since.refl y2.w;rw[hq0];clear hq0;by_cases hfa:e.f0<a
     ·have Hr:=Lib.hid (show orderedB r=false by rw[HO3.out,Hstep.out,decide_eq_false (by omega)];rfl)
      go_wp2_with fail;go_ret;exact⟨ret_bool Hr.out.symm,by obtain⟨q,e⟩:=y2.trans q0;rw[e];exact Hup.out q⟩
     have hfa':a≤e.f0:=by omega
     by_cases hret:op=true∧k+1=r.pauses.length∧e.t0=0
     ·obtain⟨rfl,hkk,ht0⟩:=hret
      have Hr:=Lib.hid (show orderedB r=true by rw[HO3.out,Hstep.out,decide_eq_true hfa',decide_eq_true hkk,decide_eq_true ht0];rfl);have hkb:((k:Int) == (r.pauses.length:Int)-1)=true:=by simp;omega
      have htb:(e.t0 == 0)=true:=by simpa using ht0
      have Hkk:=Lib.hid hkk;have Ht0:=Lib.hid ht0;clear hkk ht0 hfa;go_wp2_with fail;go_ret;exact⟨ret_bool Hr.out.symm,by obtain⟨q,e⟩:=y2.trans q0;rw[e];exact Hup.out q⟩
     have hno:(op && decide (k+1=r.pauses.length) && decide (e.t0=0))=false:=by
      cases op
      ·rfl
      ·by_cases h1:k+1=r.pauses.length
       ·by_cases h2:e.t0=0
        ·exact(hret ⟨rfl,h1,h2⟩).elim
        ·simp[h2]
       ·simp[h1]
     have Hno:=Lib.hid hno;have hcase:(op=false)∨(op=true∧((k:Int) == (r.pauses.length:Int)-1)=false)∨(op=true∧((k:Int) == (r.pauses.length:Int)-1)=true∧(e.t0 == 0)=false):=by
      cases op
      ·exact .inl rfl
      ·by_cases h1:k+1=r.pauses.length
       ·exact .inr (.inr ⟨rfl,by simp;omega,by simp;intro h2;exact hret ⟨rfl,h1,h2⟩⟩)
       ·exact .inr (.inl ⟨rfl,by simp;omega⟩)
     clear hno hret hfa;by_cases hft:e.f0≤e.t0
     ·have Hr:=Lib.hid (show psesO op r.e0 a (r.pauses.drop k)=psesO op r.e0 e.t0 (r.pauses.drop (k+1)) by rw[Hstep.out,Hno.out,decide_eq_true hfa',decide_eq_true hft];rfl)
      rcases hcase with rfl|⟨rfl,hkb⟩|⟨rfl,hkb,htb⟩
      all_goals
       go_wp2_with fail;obtain⟨q,eq⟩:=y2.trans q0;rw[eq];go_roundw
       case rel=>exact⟨k+1,e.t0,q,by omega,by go_num,rfl,rfl,by rw[Hch.out,Hr.out]⟩
       case measure=>simp[intOf]<;>omega
     ·have Hr:=Lib.hid (show orderedB r=false by rw[HO3.out,Hstep.out,Hno.out,decide_eq_true hfa',decide_eq_false hft];rfl)
      rcases hcase with rfl|⟨rfl,hkb⟩|⟨rfl,hkb,htb⟩
      all_goals
       go_wp2_with fail;go_ret;exact⟨ret_bool Hr.out.symm,by obtain⟨q,e⟩:=y2.trans q0;rw[e];exact Hup.out q⟩
    ·obtain rfl:k=r.pauses.length:=by omega
     rw[List.drop_length]at Hch;have HO3:=Lib.hid (show orderedB r=(decide (r.pauses.length=0) || op || decide (a≤r.e0)) by
      rw[HO2.out,Hch.out];have:r.pauses.isEmpty=decide (r.pauses.length=0):=by rw[Bool.eq_iff_iff];simp
      rw[this,Bool.or_assoc];rfl)
     clear HO2 Hch;have hcase:op=true∨(op=false∧((r.pauses.length:Int) == 0)=true∧orderedB r=true)∨(op=false∧((r.pauses.length:Int) == 0)=false∧orderedB r=decide (a≤r.e0)):=by
      cases op
      ·by_cases h0:r.pauses.length=0
       ·exact .inr (.inl ⟨rfl,by simp;simpa using h0,by rw[HO3.out,decide_eq_true h0];rfl⟩)
       ·exact .inr (.inr ⟨rfl,by simp;simpa using h0,by rw[HO3.out,decide_eq_false h0];rfl⟩)
      ·exact .inl rfl
     rcases hcase with rfl|⟨rfl,h0,hr⟩|⟨rfl,h0,hr⟩
     ·have Hr:=Lib.hid (show orderedB r=true by rw[HO3.out];simp)
      go_wp2_with fail;go_ret;exact⟨ret_bool Hr.out.symm,Hup.out _⟩
     ·have Hr:=Lib.hid hr;clear hr
      go_wp2_with fail;go_ret;exact⟨ret_bool Hr.out.symm,Hup.out _⟩
     ·have Hr:=Lib.hid hr;clear hr
      go_wp2_with fail;go_ret;exact⟨ret_bool Hr.out.symm,Hup.out _⟩
end Go.Proofs.YtmmlmhnjjfnpnaaGreat
namespace Go.Proofs.YtmmlmhnjjfnpnaaGreat
open Go.RowKit
set_option maxRecDepth 100000 in
set_option maxHeartbeats 8000000 in
theorem check_calls (w:World) (x:Since w) (r:Ride) (h:r.At w):
 Calls Tryz.prog 9 #[.agg #[.int .i64 r.id,.int .i64 r.rd,.int .i64 r.s0,.int .i64 r.s1,.int .i64 r.e0,.int .i64 r.e1,.bool r.op,.slice r.la r.legs.length r.lc,.slice r.pa r.pauses.length r.pc,.int .i64 r.fw,.int .i64 r.fp,.int .i64 r.wh,.int .i64 r.pl]] x.w fun o w'=>o= .returned (.int .i64 (rideE r))∧∃y:Since w,w'=y.w:=by
 have H:=Lib.hid h;clear h;go_enter Tryz.func9,Tryz.ntmps9;go_upto_region 1 with fail;obtain⟨W,bx,y0,hW,hbx,-,hWup,Hup,Hbx,HB0⟩:=heads1 x [.int .i64 r.id,.int .i64 r.rd,.int .i64 r.s0,.int .i64 r.s1,.int .i64 r.e0,.int .i64 r.e1,.bool r.op,.slice r.la r.legs.length r.lc,.slice r.pa r.pauses.length r.pc,.int .i64 r.fw,.int .i64 r.fp,.int .i64 r.wh,.int .i64 r.pl] 40;rw[hW,hbx];clear hW hbx;obtain⟨hb0_0,hb0_1,hb0_2,hb0_3,hb0_4,hb0_5,hb0_6,hb0_7,hb0_8,hb0_9,hb0_10,hb0_11,hb0_12,hf0⟩:=bx13 HB0;clear HB0;replace H:=Lib.hid (H.out.to hWup);clear hWup;have Hra:=Lib.hid (fun y:Since W=>ranged_calls W y r H.out);have Hjo:=Lib.hid (fun y:Since W=>joined_calls W y r H.out);have Hor:=Lib.hid (fun y:Since W=>ordered_calls W y r H.out);have hgd:=span_guard;have heq:=span_equal r.e0 r.e1 0 0;have HE:=Lib.hid (show rideE r=if rangedB r=false then 1 else if joinedB r=false then 3 else if orderedB r=false then 9 else if stateB r=true then 12 else 0 from rfl);have Hst:=Lib.hid (show stateB r=((r.op && !(decide (r.e0=0) && decide (r.e1=0))) || (r.op != decide (r.wh=3)))from rfl);generalize stateB r=sb at *;generalize rangedB r=rb at *;generalize joinedB r=jb at *;generalize orderedB r=ob at *
 cases rb with
 |false=>
  go_wp2_with(go_at_call 35;((with_reducible refine(Hra.out _).mono ?_);rintro _ _ ⟨rfl,y1,rfl⟩))
  go_ret
  exact⟨ret_int (by rw[HE.out];rfl),Hup.out _⟩
 |true=>
  cases jb with
  |false=>
   go_wp2_with(first|(go_at_call 35;((with_reducible refine(Hra.out _).mono ?_);rintro _ _ ⟨rfl,y1,rfl⟩))|(go_at_call 36;((with_reducible refine(Hjo.out _).mono ?_);rintro _ _ ⟨rfl,y2,rfl⟩)))
   go_ret
   exact⟨ret_int (by rw[HE.out];rfl),Hup.out _⟩
  |true=>
   cases ob with
   |false=>
    go_wp2_with(first|(go_at_call 35;((with_reducible refine(Hra.out _).mono ?_);rintro _ _ ⟨rfl,y1,rfl⟩))|(go_at_call 36;((with_reducible refine(Hjo.out _).mono ?_);rintro _ _ ⟨rfl,y2,rfl⟩))|(go_at_call 37;((with_reducible refine(Hor.out _).mono ?_);rintro _ _ ⟨rfl,y3,rfl⟩)))
    go_ret
    exact⟨ret_int (by rw[HE.out];rfl),Hup.out _⟩
   |true=>
    go_upto_region 7 with(first|(go_at_call 35;((with_reducible refine(Hra.out _).mono ?_);rintro _ _ ⟨rfl,y1,rfl⟩))|(go_at_call 36;((with_reducible refine(Hjo.out _).mono ?_);rintro _ _ ⟨rfl,y2,rfl⟩))|(go_at_call 37;((with_reducible refine(Hor.out _).mono ?_);rintro _ _ ⟨rfl,y3,rfl⟩)))
    clear Hra Hjo Hor
    cases hz:(decide (r.e0=0) && decide (r.e1=0))with
    |false=>
     rw[hz]at heq Hst
     clear hz
     by_cases hw:r.wh=3
     ·have hwb:(r.wh == 3)=true:=by simpa using hw
      rw[decide_eq_true hw]at Hst;clear hw
      cases hop:r.op with
      |false=>
       rw[hop]at Hst
       go_wp2_with fail
       go_ret
       exact⟨ret_int (by rw[HE.out,Hst.out];rfl),Hup.out _⟩
      |true=>
       rw[hop]at Hst
       go_wp2_with fail
       go_ret
       exact⟨ret_int (by rw[HE.out,Hst.out];rfl),Hup.out _⟩
     ·have hwb:(r.wh == 3)=false:=by simpa using hw
      rw[decide_eq_false hw]at Hst;clear hw
      cases hop:r.op with
      |false=>
       rw[hop]at Hst
       go_wp2_with fail
       go_ret
       exact⟨ret_int (by rw[HE.out,Hst.out];rfl),Hup.out _⟩
      |true=>
       rw[hop]at Hst
       go_wp2_with fail
       go_ret
       exact⟨ret_int (by rw[HE.out,Hst.out];rfl),Hup.out _⟩
    |true=>
     rw[hz]at heq Hst
     clear hz
     by_cases hw:r.wh=3
     ·have hwb:(r.wh == 3)=true:=by simpa using hw
      rw[decide_eq_true hw]at Hst;clear hw
      cases hop:r.op with
      |false=>
       rw[hop]at Hst
       go_wp2_with fail
       go_ret
       exact⟨ret_int (by rw[HE.out,Hst.out];rfl),Hup.out _⟩
      |true=>
       rw[hop]at Hst
       go_wp2_with fail
       go_ret
       exact⟨ret_int (by rw[HE.out,Hst.out];rfl),Hup.out _⟩
     ·have hwb:(r.wh == 3)=false:=by simpa using hw
      rw[decide_eq_false hw]at Hst;clear hw
      cases hop:r.op with
      |false=>
       rw[hop]at Hst
       go_wp2_with fail
       go_ret
       exact⟨ret_int (by rw[HE.out,Hst.out];rfl),Hup.out _⟩
      |true=>
       rw[hop]at Hst
       go_wp2_with fail
       go_ret
       exact⟨ret_int (by rw[HE.out,Hst.out];rfl),Hup.out _⟩
end Go.Proofs.YtmmlmhnjjfnpnaaGreat
