/- Texts that belong together. -/
import Derived.Test.YtmmlmhnjjfnpnaaGreatTpQt
import Derived.Test.YtmmlmhnjjfnpnaaGreatProg
set_option linter.all false
namespace Go.Proofs.YtmmlmhnjjfnpnaaGreat
set_option maxRecDepth 200000
set_option maxHeartbeats 64000000
section
open Go.RowKit
theorem E4 (w:World) (x:A7 w) (n lo hi:Int):
 Calls Tryz.prog 137 #[.int .i64 n,.int .i64 lo,.int .i64 hi] x.w fun o w'=>o= .returned (.bool (C6 n lo hi))∧∃y:A7 w,w'=y.w:=by
 rcases(by omega:n<lo∨(lo≤n∧hi<n)∨(lo≤n∧n≤hi))with h1|⟨h1,h2⟩|⟨h1,h2⟩
 ·have Hv:=A3 (show C6 n lo hi=false by unfold C6;rw[decide_eq_false (show¬lo≤n by omega)];rfl)
  go_enter Tryz.func137,Tryz.ntmps137;go_wp2_with fail;go_ret;exact⟨I1 Hv.out.symm,x,rfl⟩
 ·have Hv:=A3 (show C6 n lo hi=false by unfold C6;rw[decide_eq_false (show¬n≤hi by omega),Bool.and_false])
  go_enter Tryz.func137,Tryz.ntmps137;go_wp2_with fail;go_ret;exact⟨I1 (by first|exact Hv.out.symm|(rw[Hv.out];exact decide_eq_false (by omega))),x,rfl⟩
 ·have Hv:=A3 (show C6 n lo hi=true by unfold C6;rw[decide_eq_true h1,decide_eq_true h2];rfl)
  go_enter Tryz.func137,Tryz.ntmps137;go_wp2_with fail;go_ret;exact⟨I1 (by first|exact Hv.out.symm|(rw[Hv.out];exact decide_eq_true (by omega))),x,rfl⟩
theorem vE {l:List Int} {p:Int→Bool} {k:Nat} (hk:k<l.length) (h:p (B0 l k)=false):l.all p=false:=by
 rw[List.all_eq_false];refine⟨B0 l k,?_,by simp[h]⟩;unfold B0;rw[A6,A4 hk];exact List.getElem_mem hk
theorem vF {l:List Int} {p:Int→Bool} (h:∀j,j<l.length→p (B0 l j)=true):l.all p=true:=by
 rw[List.all_eq_true];intro x hx;obtain⟨j,hj,rfl⟩:=List.mem_iff_getElem.1 hx;have:=h j hj;unfold B0 at this;rwa[A6,A4 hj]at this
theorem aJ (w:World) (x:A7 w) (l:List Int) (a:Option Addr) (c:Nat) (most:Int) (hl:l.length≤9223372036854775807) (hr:S9 w a l):
 Calls Tryz.prog 138 #[.slice a l.length c,.int .i64 most] x.w fun o w'=>o= .returned (.bool (l.all fun n=>C6 n 1 most))∧∃y:A7 w,w'=y.w:=by
 go_enter Tryz.func138,Tryz.ntmps138;go_wp2_with fail;go_loopw [9] (fun i wr=>∃(k:Nat) (y:A7 w),k≤l.length∧i= .int .i64 k∧wr=y.w∧∀j,j<k→C6 (B0 l j) 1 most=true) (fun i _ =>l.length-(intOf i).toNat)
 case atStart=>exact⟨0,x,by omega,rfl,rfl,fun j hj=>by omega⟩
 case round=>
  obtain⟨k,y,hk,rfl,rfl,hok⟩:=hrel;have Hok:=A3 hok;clear hok;by_cases hlt:k<l.length
  ·obtain⟨b1,off1,rfl,_,_⟩:=hr k hlt
   have hcell:∀y:A7 w,y.w.cell? ⟨b1,off1+k,none⟩=some (.int .i64 (B0 l k)):=A7.at hr k hlt;have hk0:(0:Int)≤(k:Int):=by omega
   have hkl:(k:Int)<(l.length:Int):=by omega
   cases hv:C6 (B0 l k) 1 most with
   |false=>
    have Hv:=A3 hv;clear hv
    clear hr
    go_wp2_with(go_at_call 137;refine(E4 w _ _ _ _).mono ?_;rintro _ _ ⟨rfl,y1,rfl⟩;rw[Hv.out])
    go_ret
    exact⟨I1 (vE (p:=fun n=>C6 n 1 most) hlt Hv.out).symm,y1,rfl⟩
   |true=>
    have Hv:=A3 hv;clear hv
    clear hr
    go_wp2_with(go_at_call 137;refine(E4 w _ _ _ _).mono ?_;rintro _ _ ⟨rfl,y1,rfl⟩;rw[Hv.out])
    go_roundw
    case rel=>exact⟨k+1,y1,by omega,by go_num,rfl,fun j hj=>by
     by_cases hjk:j<k
     ·exact Hok.out j hjk
     ·obtain rfl:j=k:=by omega
      exact Hv.out⟩
    case measure=>simp[intOf];omega
  ·obtain rfl:k=l.length:=by omega
   have Ha:=A3 (vF (p:=fun n=>C6 n 1 most) Hok.out);clear hr;go_wp2_with fail;go_ret;exact⟨I1 Ha.out.symm,y,rfl⟩
structure i5 (w:World) (f:G4) (da ta:Option Addr):Prop where
 d:S9 w da f.dk
 t:S9 w ta f.tk
 dl:f.dk.length≤9223372036854775807
 tl:f.tk.length≤9223372036854775807
theorem i5.to {w W:World} {f:G4} {da ta:Option Addr} (h:i5 w f da ta) (hW:∃z:A7 w,W=z.w):i5 W f da ta:=⟨N0.to h.d hW,N0.to h.t hW,h.dl,h.tl⟩
theorem kR {f:G4} (h:C6 f.bk 1 128=false∨C6 f.rd 1 128=false∨C6 f.dv 1 256=false):K5 f=1:=by
 unfold K5;rw[if_pos];rcases h with h|h|h<;>simp[h]
theorem AU3 {f:G4} (hA:C6 f.bk 1 128=true) (hB:C6 f.rd 1 128=true) (hC:C6 f.dv 1 256=true):K5 f=if f.dk.length>32∨f.tk.length>8 then 8 else if !(f.dk.all (fun n=>C6 n 1 32) && f.tk.all (fun n=>C6 n 1 32))then 1 else 0:=by
 unfold K5;rw[if_neg];simp[hA,hB,hC]
theorem vG (w:World) (x:A7 w) (f:G4) (da ta:Option Addr) (dc tc:Nat) (hf:i5 w f da ta):
 Calls Tryz.prog 95 #[.agg #[.int .i64 f.bk,.int .i64 f.rd,.int .i64 f.dv,.slice da f.dk.length dc,.slice ta f.tk.length tc]] x.w fun o w'=>o= .returned (.int .i64 (K5 f))∧∃y:A7 w,w'=y.w:=by
 have h1:=And.intro hf.dl hf.tl;have HF0:=A3 hf;clear hf
 cases hA:C6 f.bk 1 128 with
 |false=>
  have HR:=A3 (kR (.inl hA))
  have HA:=A3 hA;clear hA
  go_enter Tryz.func95,Tryz.ntmps95
  go_upto_region 1 with fail
  obtain⟨W,bx,y0,hW,hbx,-,B8,Hup,Hbx,HB0⟩:=K7 x [.int .i64 f.bk,.int .i64 f.rd,.int .i64 f.dv,.slice da f.dk.length dc,.slice ta f.tk.length tc] 24
  rw[hW,hbx]
  clear hW hbx
  obtain⟨D9,E7,F9,G0,G8,hf0⟩:=V5 HB0
  clear HB0
  have HD:=A3 ((HF0.out.to B8).d)
  have HT:=A3 ((HF0.out.to B8).t)
  clear B8
  go_wp2_with(first
   |(go_at_call 137;(with_reducible refine(E4 W _ f.bk 1 128).mono ?_);rintro _ _ ⟨rfl,y1,rfl⟩;rw[HA.out])
   |(go_at_call 137;(with_reducible refine(E4 W _ f.rd 1 128).mono ?_);rintro _ _ ⟨rfl,y1,rfl⟩;rw[HB.out])
   |(go_at_call 137;(with_reducible refine(E4 W _ f.dv 1 256).mono ?_);rintro _ _ ⟨rfl,y1,rfl⟩;rw[HC.out])
   |(go_at_call 138;(with_reducible refine(aJ W _ f.dk da dc 32 h1.1 HD.out).mono ?_);rintro _ _ ⟨rfl,y1,rfl⟩;rw[HE.out])
   |(go_at_call 138;(with_reducible refine(aJ W _ f.tk ta tc 32 h1.2 HT.out).mono ?_);rintro _ _ ⟨rfl,y1,rfl⟩;rw[HF.out]))
  go_ret
  exact⟨D5 HR.out.symm,Hup.out _⟩
 |true=>
 cases hB:C6 f.rd 1 128 with
 |false=>
  have HR:=A3 (kR (.inr (.inl hB)))
  have HA:=A3 hA;have HB:=A3 hB;clear hA hB
  go_enter Tryz.func95,Tryz.ntmps95
  go_upto_region 1 with fail
  obtain⟨W,bx,y0,hW,hbx,-,B8,Hup,Hbx,HB0⟩:=K7 x [.int .i64 f.bk,.int .i64 f.rd,.int .i64 f.dv,.slice da f.dk.length dc,.slice ta f.tk.length tc] 24
  rw[hW,hbx]
  clear hW hbx
  obtain⟨D9,E7,F9,G0,G8,hf0⟩:=V5 HB0
  clear HB0
  have HD:=A3 ((HF0.out.to B8).d)
  have HT:=A3 ((HF0.out.to B8).t)
  clear B8
  go_wp2_with(first
   |(go_at_call 137;(with_reducible refine(E4 W _ f.bk 1 128).mono ?_);rintro _ _ ⟨rfl,y1,rfl⟩;rw[HA.out])
   |(go_at_call 137;(with_reducible refine(E4 W _ f.rd 1 128).mono ?_);rintro _ _ ⟨rfl,y1,rfl⟩;rw[HB.out])
   |(go_at_call 137;(with_reducible refine(E4 W _ f.dv 1 256).mono ?_);rintro _ _ ⟨rfl,y1,rfl⟩;rw[HC.out])
   |(go_at_call 138;(with_reducible refine(aJ W _ f.dk da dc 32 h1.1 HD.out).mono ?_);rintro _ _ ⟨rfl,y1,rfl⟩;rw[HE.out])
   |(go_at_call 138;(with_reducible refine(aJ W _ f.tk ta tc 32 h1.2 HT.out).mono ?_);rintro _ _ ⟨rfl,y1,rfl⟩;rw[HF.out]))
  go_ret
  exact⟨D5 HR.out.symm,Hup.out _⟩
 |true=>
 cases hC:C6 f.dv 1 256 with
 |false=>
  have HR:=A3 (kR (.inr (.inr hC)))
  have HA:=A3 hA;have HB:=A3 hB;have HC:=A3 hC;clear hA hB hC
  go_enter Tryz.func95,Tryz.ntmps95
  go_upto_region 1 with fail
  obtain⟨W,bx,y0,hW,hbx,-,B8,Hup,Hbx,HB0⟩:=K7 x [.int .i64 f.bk,.int .i64 f.rd,.int .i64 f.dv,.slice da f.dk.length dc,.slice ta f.tk.length tc] 24
  rw[hW,hbx]
  clear hW hbx
  obtain⟨D9,E7,F9,G0,G8,hf0⟩:=V5 HB0
  clear HB0
  have HD:=A3 ((HF0.out.to B8).d)
  have HT:=A3 ((HF0.out.to B8).t)
  clear B8
  go_wp2_with(first
   |(go_at_call 137;(with_reducible refine(E4 W _ f.bk 1 128).mono ?_);rintro _ _ ⟨rfl,y1,rfl⟩;rw[HA.out])
   |(go_at_call 137;(with_reducible refine(E4 W _ f.rd 1 128).mono ?_);rintro _ _ ⟨rfl,y1,rfl⟩;rw[HB.out])
   |(go_at_call 137;(with_reducible refine(E4 W _ f.dv 1 256).mono ?_);rintro _ _ ⟨rfl,y1,rfl⟩;rw[HC.out])
   |(go_at_call 138;(with_reducible refine(aJ W _ f.dk da dc 32 h1.1 HD.out).mono ?_);rintro _ _ ⟨rfl,y1,rfl⟩;rw[HE.out])
   |(go_at_call 138;(with_reducible refine(aJ W _ f.tk ta tc 32 h1.2 HT.out).mono ?_);rintro _ _ ⟨rfl,y1,rfl⟩;rw[HF.out]))
  go_ret
  exact⟨D5 HR.out.symm,Hup.out _⟩
 |true=>
 have HR0:=A3 (AU3 hA hB hC);have HA:=A3 hA;have HB:=A3 hB;have HC:=A3 hC;clear hA hB hC;rcases(by omega:32<f.dk.length∨(f.dk.length≤32∧8<f.tk.length)∨(f.dk.length≤32∧f.tk.length≤8))with h2|⟨h2,h3⟩|⟨h2,h3⟩
 ·have HR:=A3 (HR0.out.trans (if_pos (Or.inl h2)))
  have h4:(32:Int)<(f.dk.length:Int):=by omega
  go_enter Tryz.func95,Tryz.ntmps95;go_upto_region 1 with fail;obtain⟨W,bx,y0,hW,hbx,-,B8,Hup,Hbx,HB0⟩:=K7 x [.int .i64 f.bk,.int .i64 f.rd,.int .i64 f.dv,.slice da f.dk.length dc,.slice ta f.tk.length tc] 24;rw[hW,hbx];clear hW hbx;obtain⟨D9,E7,F9,G0,G8,hf0⟩:=V5 HB0;clear HB0;have HD:=A3 ((HF0.out.to B8).d);have HT:=A3 ((HF0.out.to B8).t);clear B8;go_wp2_with(first
   |(go_at_call 137;(with_reducible refine(E4 W _ f.bk 1 128).mono ?_);rintro _ _ ⟨rfl,y1,rfl⟩;rw[HA.out])
   |(go_at_call 137;(with_reducible refine(E4 W _ f.rd 1 128).mono ?_);rintro _ _ ⟨rfl,y1,rfl⟩;rw[HB.out])
   |(go_at_call 137;(with_reducible refine(E4 W _ f.dv 1 256).mono ?_);rintro _ _ ⟨rfl,y1,rfl⟩;rw[HC.out])
   |(go_at_call 138;(with_reducible refine(aJ W _ f.dk da dc 32 h1.1 HD.out).mono ?_);rintro _ _ ⟨rfl,y1,rfl⟩;rw[HE.out])
   |(go_at_call 138;(with_reducible refine(aJ W _ f.tk ta tc 32 h1.2 HT.out).mono ?_);rintro _ _ ⟨rfl,y1,rfl⟩;rw[HF.out]))
  go_ret;exact⟨D5 HR.out.symm,Hup.out _⟩
 ·have HR:=A3 (HR0.out.trans (if_pos (Or.inr h3)))
  have h4:(f.dk.length:Int)≤32:=by omega
  have h5:(8:Int)<(f.tk.length:Int):=by omega
  go_enter Tryz.func95,Tryz.ntmps95;go_upto_region 1 with fail;obtain⟨W,bx,y0,hW,hbx,-,B8,Hup,Hbx,HB0⟩:=K7 x [.int .i64 f.bk,.int .i64 f.rd,.int .i64 f.dv,.slice da f.dk.length dc,.slice ta f.tk.length tc] 24;rw[hW,hbx];clear hW hbx;obtain⟨D9,E7,F9,G0,G8,hf0⟩:=V5 HB0;clear HB0;have HD:=A3 ((HF0.out.to B8).d);have HT:=A3 ((HF0.out.to B8).t);clear B8;go_wp2_with(first
   |(go_at_call 137;(with_reducible refine(E4 W _ f.bk 1 128).mono ?_);rintro _ _ ⟨rfl,y1,rfl⟩;rw[HA.out])
   |(go_at_call 137;(with_reducible refine(E4 W _ f.rd 1 128).mono ?_);rintro _ _ ⟨rfl,y1,rfl⟩;rw[HB.out])
   |(go_at_call 137;(with_reducible refine(E4 W _ f.dv 1 256).mono ?_);rintro _ _ ⟨rfl,y1,rfl⟩;rw[HC.out])
   |(go_at_call 138;(with_reducible refine(aJ W _ f.dk da dc 32 h1.1 HD.out).mono ?_);rintro _ _ ⟨rfl,y1,rfl⟩;rw[HE.out])
   |(go_at_call 138;(with_reducible refine(aJ W _ f.tk ta tc 32 h1.2 HT.out).mono ?_);rintro _ _ ⟨rfl,y1,rfl⟩;rw[HF.out]))
  go_ret;exact⟨D5 HR.out.symm,Hup.out _⟩
 ·have HR2:=A3 (HR0.out.trans (if_neg (by omega)))
  have h4:(f.dk.length:Int)≤32:=by omega
  have h5:(f.tk.length:Int)≤8:=by omega
  cases hE:f.dk.all (fun n=>C6 n 1 32)with
  |false=>
   have HR:=A3 (HR2.out.trans (if_pos (by simp only[hE];rfl)))
   have HE:=A3 hE;clear hE
   go_enter Tryz.func95,Tryz.ntmps95
   go_upto_region 1 with fail
   obtain⟨W,bx,y0,hW,hbx,-,B8,Hup,Hbx,HB0⟩:=K7 x [.int .i64 f.bk,.int .i64 f.rd,.int .i64 f.dv,.slice da f.dk.length dc,.slice ta f.tk.length tc] 24
   rw[hW,hbx]
   clear hW hbx
   obtain⟨D9,E7,F9,G0,G8,hf0⟩:=V5 HB0
   clear HB0
   have HD:=A3 ((HF0.out.to B8).d)
   have HT:=A3 ((HF0.out.to B8).t)
   clear B8
   go_wp2_with(first
    |(go_at_call 137;(with_reducible refine(E4 W _ f.bk 1 128).mono ?_);rintro _ _ ⟨rfl,y1,rfl⟩;rw[HA.out])
    |(go_at_call 137;(with_reducible refine(E4 W _ f.rd 1 128).mono ?_);rintro _ _ ⟨rfl,y1,rfl⟩;rw[HB.out])
    |(go_at_call 137;(with_reducible refine(E4 W _ f.dv 1 256).mono ?_);rintro _ _ ⟨rfl,y1,rfl⟩;rw[HC.out])
    |(go_at_call 138;(with_reducible refine(aJ W _ f.dk da dc 32 h1.1 HD.out).mono ?_);rintro _ _ ⟨rfl,y1,rfl⟩;rw[HE.out])
    |(go_at_call 138;(with_reducible refine(aJ W _ f.tk ta tc 32 h1.2 HT.out).mono ?_);rintro _ _ ⟨rfl,y1,rfl⟩;rw[HF.out]))
   go_ret
   exact⟨D5 HR.out.symm,Hup.out _⟩
  |true=>
   cases hF:f.tk.all (fun n=>C6 n 1 32)with
   |false=>
    have HR:=A3 (HR2.out.trans (if_pos (by simp only[hE,hF];rfl)))
    have HE:=A3 hE;have HF:=A3 hF;clear hE hF
    go_enter Tryz.func95,Tryz.ntmps95
    go_upto_region 1 with fail
    obtain⟨W,bx,y0,hW,hbx,-,B8,Hup,Hbx,HB0⟩:=K7 x [.int .i64 f.bk,.int .i64 f.rd,.int .i64 f.dv,.slice da f.dk.length dc,.slice ta f.tk.length tc] 24
    rw[hW,hbx]
    clear hW hbx
    obtain⟨D9,E7,F9,G0,G8,hf0⟩:=V5 HB0
    clear HB0
    have HD:=A3 ((HF0.out.to B8).d)
    have HT:=A3 ((HF0.out.to B8).t)
    clear B8
    go_wp2_with(first
     |(go_at_call 137;(with_reducible refine(E4 W _ f.bk 1 128).mono ?_);rintro _ _ ⟨rfl,y1,rfl⟩;rw[HA.out])
     |(go_at_call 137;(with_reducible refine(E4 W _ f.rd 1 128).mono ?_);rintro _ _ ⟨rfl,y1,rfl⟩;rw[HB.out])
     |(go_at_call 137;(with_reducible refine(E4 W _ f.dv 1 256).mono ?_);rintro _ _ ⟨rfl,y1,rfl⟩;rw[HC.out])
     |(go_at_call 138;(with_reducible refine(aJ W _ f.dk da dc 32 h1.1 HD.out).mono ?_);rintro _ _ ⟨rfl,y1,rfl⟩;rw[HE.out])
     |(go_at_call 138;(with_reducible refine(aJ W _ f.tk ta tc 32 h1.2 HT.out).mono ?_);rintro _ _ ⟨rfl,y1,rfl⟩;rw[HF.out]))
    go_ret
    exact⟨D5 HR.out.symm,Hup.out _⟩
   |true=>
    have HR:=A3 (HR2.out.trans (if_neg (by simp only[hE,hF];simp)))
    have HE:=A3 hE;have HF:=A3 hF;clear hE hF
    go_enter Tryz.func95,Tryz.ntmps95
    go_upto_region 1 with fail
    obtain⟨W,bx,y0,hW,hbx,-,B8,Hup,Hbx,HB0⟩:=K7 x [.int .i64 f.bk,.int .i64 f.rd,.int .i64 f.dv,.slice da f.dk.length dc,.slice ta f.tk.length tc] 24
    rw[hW,hbx]
    clear hW hbx
    obtain⟨D9,E7,F9,G0,G8,hf0⟩:=V5 HB0
    clear HB0
    have HD:=A3 ((HF0.out.to B8).d)
    have HT:=A3 ((HF0.out.to B8).t)
    clear B8
    go_wp2_with(first
     |(go_at_call 137;(with_reducible refine(E4 W _ f.bk 1 128).mono ?_);rintro _ _ ⟨rfl,y1,rfl⟩;rw[HA.out])
     |(go_at_call 137;(with_reducible refine(E4 W _ f.rd 1 128).mono ?_);rintro _ _ ⟨rfl,y1,rfl⟩;rw[HB.out])
     |(go_at_call 137;(with_reducible refine(E4 W _ f.dv 1 256).mono ?_);rintro _ _ ⟨rfl,y1,rfl⟩;rw[HC.out])
     |(go_at_call 138;(with_reducible refine(aJ W _ f.dk da dc 32 h1.1 HD.out).mono ?_);rintro _ _ ⟨rfl,y1,rfl⟩;rw[HE.out])
     |(go_at_call 138;(with_reducible refine(aJ W _ f.tk ta tc 32 h1.2 HT.out).mono ?_);rintro _ _ ⟨rfl,y1,rfl⟩;rw[HF.out]))
    go_ret
    exact⟨D5 HR.out.symm,Hup.out _⟩
end
section
open Go.RowKit
theorem AU4 (f:G4) (d q a t k b p r i:Int):Y7 f ⟨d,q,a,t,k,b,p,r,i⟩=((if k=3 then C6 r 0 (f.rd-1)else(r == 0)) && (if k=3∨k=4 then C6 i 1 1000000 else(i == 0))):=rfl
theorem AU5 (w:World) (x:A7 w) (f:G4) (e:Ev) (da ta:Option Addr) (dc tc:Nat) (hr:1≤f.rd∧f.rd≤128):
 Calls Tryz.prog 182 #[.agg #[.int .i64 f.bk,.int .i64 f.rd,.int .i64 f.dv,.slice da f.dk.length dc,.slice ta f.tk.length tc],e.ag] x.w fun o w'=>o= .returned (.bool (Y7 f e))∧∃y:A7 w,w'=y.w:=by
 obtain⟨d,q,a,t,k,b,p,r,i⟩:=e;have HE:=A3 (AU4 f d q a t k b p r i);have wd:wrap64 (f.rd-1)=f.rd-1:=IntWalk.wrap64_in _ ⟨by omega,by omega⟩;unfold Ev.ag;dsimp only;go_enter Tryz.func182,Tryz.ntmps182;go_upto_region 1 with fail;obtain⟨W,bx,y0,hW,hbx,-,B8,Hup,Hbx,HB0,HB1⟩:=Z7 x [.int .i64 f.bk,.int .i64 f.rd,.int .i64 f.dv,.slice da f.dk.length dc,.slice ta f.tk.length tc] 24 [.int .i64 d,.int .i64 q,.int .i64 a,.int .i64 t,.int .i64 k,.int .i64 b,.int .i64 p,.int .i64 r,.int .i64 i] 63;rw[hW,hbx];clear hW hbx;obtain⟨D9,E7,F9,G0,G8,hf0⟩:=V5 HB0;obtain⟨T9,V9,i7,j7,j8,p7,i8,x9,aA,hf1⟩:=eT HB1;clear HB0 HB1;clear B8;obtain⟨q0,hq0⟩:=A7.refl y0.w;rw[hq0];clear hq0;have k7:=A7.cellTo ⟨y0,rfl⟩ x9;have k8:=A7.cellTo ⟨y0,rfl⟩ aA;refine L5 (by kernel_rfl) (by kernel_rfl) ?_;repeat(go_big_quiet_step(fail))
 refine wpQuiet_nil ?_;rintro _ ⟨z,rfl⟩;obtain⟨y2,h2⟩:=y0.trans z;rw[h2];clear h2 k7 k8 z q0;generalize(r == 0)=rB at *;generalize(i == 0)=iB at *;rcases(by omega:k=3∨k=4∨(k≠3∧k≠4))with rfl|rfl|⟨h1,h2⟩
 ·have HE0:=HE.out
  rw[if_pos rfl,if_pos (Or.inl rfl)]at HE0;have HE1:=A3 HE0;clear HE0 HE;have hA:(C6 r 0 (f.rd-1))=true∨(C6 r 0 (f.rd-1))=false:=by cases(C6 r 0 (f.rd-1))<;>simp
  have hB:(C6 i 1 1000000)=true∨(C6 i 1 1000000)=false:=by cases(C6 i 1 1000000)<;>simp
  rcases hA with hV|hV<;>rcases hB with hU|hU
  ·have HE2:=A3 (show Y7 f _ =true from by rw[HE1.out,hV,hU];rfl)
   clear HE1;have HV:=A3 hV;clear hV;have HU:=A3 hU;clear hU;go_wp2_with(first|(go_at_call 137;(with_reducible refine(E4 W _ r 0 (f.rd-1)).mono ?_);rintro _ _ ⟨rfl,y1,rfl⟩;rw[HV.out])|(go_at_call 137;(with_reducible refine(E4 W _ i 1 1000000).mono ?_);rintro _ _ ⟨rfl,y1,rfl⟩;rw[HU.out]));go_ret;exact⟨I1 HE2.out.symm,Hup.out _⟩
  ·have HE2:=A3 (show Y7 f _ =false from by rw[HE1.out,hV,hU];rfl)
   clear HE1;have HV:=A3 hV;clear hV;have HU:=A3 hU;clear hU;go_wp2_with(first|(go_at_call 137;(with_reducible refine(E4 W _ r 0 (f.rd-1)).mono ?_);rintro _ _ ⟨rfl,y1,rfl⟩;rw[HV.out])|(go_at_call 137;(with_reducible refine(E4 W _ i 1 1000000).mono ?_);rintro _ _ ⟨rfl,y1,rfl⟩;rw[HU.out]));go_ret;exact⟨I1 HE2.out.symm,Hup.out _⟩
  ·have HE2:=A3 (show Y7 f _ =false from by rw[HE1.out,hV,hU];rfl)
   clear HE1;have HV:=A3 hV;clear hV;have HU:=A3 hU;clear hU;go_wp2_with(first|(go_at_call 137;(with_reducible refine(E4 W _ r 0 (f.rd-1)).mono ?_);rintro _ _ ⟨rfl,y1,rfl⟩;rw[HV.out])|(go_at_call 137;(with_reducible refine(E4 W _ i 1 1000000).mono ?_);rintro _ _ ⟨rfl,y1,rfl⟩;rw[HU.out]));go_ret;exact⟨I1 HE2.out.symm,Hup.out _⟩
  ·have HE2:=A3 (show Y7 f _ =false from by rw[HE1.out,hV,hU];rfl)
   clear HE1;have HV:=A3 hV;clear hV;have HU:=A3 hU;clear hU;go_wp2_with(first|(go_at_call 137;(with_reducible refine(E4 W _ r 0 (f.rd-1)).mono ?_);rintro _ _ ⟨rfl,y1,rfl⟩;rw[HV.out])|(go_at_call 137;(with_reducible refine(E4 W _ i 1 1000000).mono ?_);rintro _ _ ⟨rfl,y1,rfl⟩;rw[HU.out]));go_ret;exact⟨I1 HE2.out.symm,Hup.out _⟩
 ·have HE0:=HE.out
  rw[if_neg (by decide),if_pos (Or.inr rfl)]at HE0;have HE1:=A3 HE0;clear HE0 HE;have hA:(rB)=true∨(rB)=false:=by cases(rB)<;>simp
  have hB:(C6 i 1 1000000)=true∨(C6 i 1 1000000)=false:=by cases(C6 i 1 1000000)<;>simp
  rcases hA with hV|hV<;>rcases hB with hU|hU
  ·have HE2:=A3 (show Y7 f _ =true from by rw[HE1.out,hV,hU];rfl)
   clear HE1;subst hV;have HU:=A3 hU;clear hU;go_wp2_with(go_at_call 137;(with_reducible refine(E4 W _ i 1 1000000).mono ?_);rintro _ _ ⟨rfl,y1,rfl⟩;rw[HU.out]);go_ret;exact⟨I1 HE2.out.symm,Hup.out _⟩
  ·have HE2:=A3 (show Y7 f _ =false from by rw[HE1.out,hV,hU];rfl)
   clear HE1;subst hV;have HU:=A3 hU;clear hU;go_wp2_with(go_at_call 137;(with_reducible refine(E4 W _ i 1 1000000).mono ?_);rintro _ _ ⟨rfl,y1,rfl⟩;rw[HU.out]);go_ret;exact⟨I1 HE2.out.symm,Hup.out _⟩
  ·have HE2:=A3 (show Y7 f _ =false from by rw[HE1.out,hV,hU];rfl)
   clear HE1;subst hV;have HU:=A3 hU;clear hU;go_wp2_with(go_at_call 137;(with_reducible refine(E4 W _ i 1 1000000).mono ?_);rintro _ _ ⟨rfl,y1,rfl⟩;rw[HU.out]);go_ret;exact⟨I1 HE2.out.symm,Hup.out _⟩
  ·have HE2:=A3 (show Y7 f _ =false from by rw[HE1.out,hV,hU];rfl)
   clear HE1;subst hV;have HU:=A3 hU;clear hU;go_wp2_with(go_at_call 137;(with_reducible refine(E4 W _ i 1 1000000).mono ?_);rintro _ _ ⟨rfl,y1,rfl⟩;rw[HU.out]);go_ret;exact⟨I1 HE2.out.symm,Hup.out _⟩
 ·have HE0:=HE.out
  rw[if_neg h1,if_neg (by omega)]at HE0;have HE1:=A3 HE0;clear HE0 HE;have hk3:(k == 3)=false:=by simpa using h1
  have hk4:(k == 4)=false:=by simpa using h2
  have hA:(rB)=true∨(rB)=false:=by cases(rB)<;>simp
  have hB:(iB)=true∨(iB)=false:=by cases(iB)<;>simp
  rcases hA with hV|hV<;>rcases hB with hU|hU
  ·have HE2:=A3 (show Y7 f _ =true from by rw[HE1.out,hV,hU];rfl)
   clear HE1;subst hV;subst hU;go_wp2_with fail;go_ret;exact⟨I1 HE2.out.symm,Hup.out _⟩
  ·have HE2:=A3 (show Y7 f _ =false from by rw[HE1.out,hV,hU];rfl)
   clear HE1;subst hV;subst hU;go_wp2_with fail;go_ret;exact⟨I1 HE2.out.symm,Hup.out _⟩
  ·have HE2:=A3 (show Y7 f _ =false from by rw[HE1.out,hV,hU];rfl)
   clear HE1;subst hV;subst hU;go_wp2_with fail;go_ret;exact⟨I1 HE2.out.symm,Hup.out _⟩
  ·have HE2:=A3 (show Y7 f _ =false from by rw[HE1.out,hV,hU];rfl)
   clear HE1;subst hV;subst hU;go_wp2_with fail;go_ret;exact⟨I1 HE2.out.symm,Hup.out _⟩
end
section
open Go.RowKit
theorem AU6 (f:G4) (d q a t k b p r i:Int):bZ f ⟨d,q,a,t,k,b,p,r,i⟩=(if k=1 then decide (0≤p) && decide (p/32<f.dk.length) && decide (p % 32<B0 f.dk (p/32).toNat)else if k=2 then C6 p 0 63 else if k=7 then C6 p 0 ((f.tk.length:Int)-1)else decide (p=0)):=rfl
theorem AU7 (w:World) (x:A7 w) (f:G4) (e:Ev) (da ta:Option Addr) (dc tc:Nat) (hf:i5 w f da ta) (hp:-9223372036854775808≤e.p∧e.p≤9223372036854775807):
 Calls Tryz.prog 181 #[.agg #[.int .i64 f.bk,.int .i64 f.rd,.int .i64 f.dv,.slice da f.dk.length dc,.slice ta f.tk.length tc],e.ag] x.w fun o w'=>o= .returned (.bool (bZ f e))∧∃y:A7 w,w'=y.w:=by
 obtain⟨d,q,a,t,k,b,p,r,i⟩:=e;have HE:=A3 (AU6 f d q a t k b p r i);unfold Ev.ag;dsimp only at hp⊢;have HT0:=A3 hf.tl;have HD0:=A3 hf.d;clear hf;go_enter Tryz.func181,Tryz.ntmps181;go_upto_region 1 with fail;obtain⟨W,bx,y0,hW,hbx,-,B8,Hup,Hbx,HB0,HB1⟩:=Z7 x [.int .i64 f.bk,.int .i64 f.rd,.int .i64 f.dv,.slice da f.dk.length dc,.slice ta f.tk.length tc] 24 [.int .i64 d,.int .i64 q,.int .i64 a,.int .i64 t,.int .i64 k,.int .i64 b,.int .i64 p,.int .i64 r,.int .i64 i] 63;rw[hW,hbx];clear hW hbx;obtain⟨D9,E7,F9,G0,G8,hf0⟩:=V5 HB0;obtain⟨T9,V9,i7,j7,j8,p7,i8,x9,aA,hf1⟩:=eT HB1;clear HB0 HB1;have HD:=A3 (N0.to HD0.out B8);clear B8 HD0;rcases(by omega:k=1∨k=2∨k=7∨(k≠1∧k≠2∧k≠7))with rfl|rfl|rfl|⟨h1,h2,h3⟩
 ·have HE0:=HE.out
  rw[if_pos rfl]at HE0;have HE1:=A3 HE0;clear HE0 HE;by_cases hp0:0≤p
  ·obtain⟨P,rfl⟩:∃P:Nat,p=(P:Int):=⟨p.toNat,by omega⟩
   go_upto_region 3 with fail;obtain⟨q0,hq0⟩:=A7.refl y0.w;rw[hq0];clear hq0;have k6:=A7.cellTo ⟨y0,rfl⟩ i8;refine L5 (by kernel_rfl) (by kernel_rfl) ?_;repeat(go_big_quiet_step(fail))
   refine wpQuiet_nil ?_;rintro _ ⟨z,rfl⟩;obtain⟨y2,h2⟩:=y0.trans z;rw[h2];clear h2 k6 z q0;obtain⟨u,hu⟩:∃u:Nat,u=P/32:=⟨_,rfl⟩
   obtain⟨v,hv⟩:∃v:Nat,v=P % 32:=⟨_,rfl⟩
   have e1:(P:Int)/32=(u:Int):=by omega
   have e2:(P:Int) % 32=(v:Int):=by omega
   have hv32:(v:Int)<32:=by omega
   have HE2:=HE1.out;rw[e1,e2,Int.toNat_natCast,decide_eq_true hp0,Bool.true_and]at HE2;rw[e1,e2];clear e1 e2 hu hv;replace HE1:=A3 HE2;clear HE2;have hp9:(P:Int)≥0:=hp0;by_cases hlt:u<f.dk.length
   ·obtain⟨b1,off1,rfl,_,_⟩:=HD.out u hlt
    have hcell:∀y:A7 W,y.w.cell? ⟨b1,off1+u,none⟩=some (.int .i64 (B0 f.dk u)):=A7.at HD.out u hlt;have hk0:(0:Int)≤(u:Int):=by omega
    have hkl:(u:Int)<(f.dk.length:Int):=by omega
    by_cases hc:(v:Int)<B0 f.dk u
    ·have HR:=A3 (show bZ f _ =true from by rw[HE1.out,decide_eq_true hkl,decide_eq_true hc];rfl)
     clear HE1;go_wp2_with fail;go_ret;exact⟨I1 (by(try rw[HR.out]);first|done|rfl|exact decide_eq_true (by omega)),Hup.out _⟩
    ·have HR:=A3 (show bZ f _ =false from by rw[HE1.out,decide_eq_true hkl,decide_eq_false hc];rfl)
     clear HE1;have hc':B0 f.dk u≤(v:Int):=by omega
     go_wp2_with fail;go_ret;exact⟨I1 (by(try rw[HR.out]);first|done|rfl|exact decide_eq_false (by omega)),Hup.out _⟩
   ·have hkl:(f.dk.length:Int)≤(u:Int):=by omega
    have HR:=A3 (show bZ f _ =false from by rw[HE1.out,decide_eq_false (by omega)];rfl);clear HE1;go_wp2_with fail;go_ret;exact⟨I1 (by rw[HR.out]),Hup.out _⟩
  ·have HR:=A3 (show bZ f _ =false from by rw[HE1.out,decide_eq_false hp0];rfl)
   clear HE1;go_upto_region 3 with fail;obtain⟨q0,hq0⟩:=A7.refl y0.w;rw[hq0];clear hq0;have k6:=A7.cellTo ⟨y0,rfl⟩ i8;refine L5 (by kernel_rfl) (by kernel_rfl) ?_;repeat(go_big_quiet_step(fail))
   refine wpQuiet_nil ?_;rintro _ ⟨z,rfl⟩;obtain⟨y2,h2⟩:=y0.trans z;rw[h2];clear h2 k6 z q0;generalize p.tdiv 32=u at *;generalize p.tmod 32=v at *;have hp1:p<0:=by omega
   go_wp2_with fail;go_ret;exact⟨I1 (by rw[HR.out]),Hup.out _⟩
 ·have HE0:=HE.out
  rw[if_neg (by decide),if_pos rfl]at HE0;have HE1:=A3 HE0;clear HE0 HE;go_wp2_with(go_at_call 137;refine(E4 W _ _ _ _).mono ?_;rintro _ _ ⟨rfl,y1,rfl⟩;rw[←HE1.out]);go_ret;exact⟨rfl,Hup.out _⟩
 ·have HE0:=HE.out
  rw[if_neg (by decide),if_neg (by decide),if_pos rfl]at HE0;have HE1:=A3 HE0;clear HE0 HE;have wt:wrap64 ((f.tk.length:Int)-1)=(f.tk.length:Int)-1:=by have:=HT0.out;exact IntWalk.wrap64_in _ ⟨by omega,by omega⟩
  go_wp2_with(go_at_call 137;refine(E4 W _ p 0 ((f.tk.length:Int)-1)).mono ?_;rintro _ _ ⟨rfl,y1,rfl⟩;rw[←HE1.out]);go_ret;exact⟨rfl,Hup.out _⟩
 ·have HE0:=HE.out
  rw[if_neg h1,if_neg h2,if_neg h3]at HE0;have HE1:=A3 HE0;clear HE0 HE;have hk1:(k == 1)=false:=by simpa using h1
  have hk2:(k == 2)=false:=by simpa using h2
  have hk7:(k == 7)=false:=by simpa using h3
  go_wp2_with fail;go_ret;exact⟨I1 (by rw[HE1.out];first|rfl|(cases hq:(p == 0)<;>simp_all)),Hup.out _⟩
end
section
open Go.RowKit
theorem Aj5 {f:G4} (h:K5 f=0):(1≤f.bk∧f.bk≤128)∧(1≤f.rd∧f.rd≤128)∧(1≤f.dv∧f.dv≤256):=by
 cases hA:C6 f.bk 1 128 with
 |false=>rw[kR (.inl hA)]at h;cases h
 |true=>
  cases hB:C6 f.rd 1 128 with
  |false=>rw[kR (.inr (.inl hB))]at h;cases h
  |true=>
   cases hC:C6 f.dv 1 256 with
   |false=>rw[kR (.inr (.inr hC))]at h;cases h
   |true=>
    unfold C6 at hA hB hC
    simp only[Bool.and_eq_true,decide_eq_true_eq]at hA hB hC
    exact⟨hA,hB,hC⟩
def cB (f:G4) (e:Ev):Bool:=C6 e.d 0 (f.dv-1) && C6 e.q 1 1048576 && decide (0≤e.a) && decide (e.a≤e.t) && decide (e.t≤4294943999)
theorem AU8 {f:G4} (e:Ev) (h:K5 f=0):t6 f e=if !cB f e then 1 else if !C6 e.k 1 10 then 14 else if !(C6 e.b 0 (f.bk-1)) || (decide (e.k=10) && decide (e.b≠0))then 1 else if !bZ f e then 7 else if !Y7 f e then 1 else 0:=by
 unfold t6 cB;rw[if_neg (by omega)]
theorem AU9 (w:World) (x:A7 w) (f:G4) (e:Ev) (da ta:Option Addr) (dc tc:Nat) (hf:i5 w f da ta) (hp:-9223372036854775808≤e.p∧e.p≤9223372036854775807):
 Calls Tryz.prog 123 #[.agg #[.int .i64 f.bk,.int .i64 f.rd,.int .i64 f.dv,.slice da f.dk.length dc,.slice ta f.tk.length tc],e.ag] x.w fun o w'=>o= .returned (.int .i64 (t6 f e))∧∃y:A7 w,w'=y.w:=by
 obtain⟨d,q,a,t,k,b,p,r,i⟩:=e;unfold Ev.ag;dsimp only at hp⊢;have HF0:=A3 hf;clear hf;have HP:=A3 hp;clear hp;go_enter Tryz.func123,Tryz.ntmps123;go_upto_region 1 with fail;obtain⟨W,bx,y0,hW,hbx,-,B8,Hup,Hbx,HB0,HB1⟩:=Z7 x [.int .i64 f.bk,.int .i64 f.rd,.int .i64 f.dv,.slice da f.dk.length dc,.slice ta f.tk.length tc] 24 [.int .i64 d,.int .i64 q,.int .i64 a,.int .i64 t,.int .i64 k,.int .i64 b,.int .i64 p,.int .i64 r,.int .i64 i] 63;rw[hW,hbx];clear hW hbx;obtain⟨D9,E7,F9,G0,G8,hf0⟩:=V5 HB0;obtain⟨T9,V9,i7,j7,j8,p7,i8,x9,aA,hf1⟩:=eT HB1;clear HB0 HB1;have FL:∀x:A7 W,Calls Tryz.prog 95 #[.agg #[.int .i64 f.bk,.int .i64 f.rd,.int .i64 f.dv,.slice da f.dk.length dc,.slice ta f.tk.length tc]] x.w fun o w'=>o= .returned (.int .i64 (K5 f))∧∃y:A7 W,w'=y.w:=fun x=>vG W x f da ta dc tc (HF0.out.to B8);have PL:∀x:A7 W,Calls Tryz.prog 181 #[.agg #[.int .i64 f.bk,.int .i64 f.rd,.int .i64 f.dv,.slice da f.dk.length dc,.slice ta f.tk.length tc],.agg #[.int .i64 d,.int .i64 q,.int .i64 a,.int .i64 t,.int .i64 k,.int .i64 b,.int .i64 p,.int .i64 r,.int .i64 i]] x.w fun o w'=>o= .returned (.bool (bZ f ⟨d,q,a,t,k,b,p,r,i⟩))∧∃y:A7 W,w'=y.w:=fun x=>AU7 W x f ⟨d,q,a,t,k,b,p,r,i⟩ da ta dc tc (HF0.out.to B8) HP.out;clear B8;by_cases h0:K5 f=0
 case neg=>
  have HR:=A3 (show t6 f ⟨d,q,a,t,k,b,p,r,i⟩=K5 f from by unfold t6;rw[if_pos h0]);have H0:=A3 (show K5 f=K5 f from rfl);have hb:(K5 f != 0)=true:=by simpa using h0
  go_wp2_with(go_at_call 95;(with_reducible refine(FL _).mono ?_);rintro _ _ ⟨rfl,y1,rfl⟩);go_ret;exact⟨D5 HR.out.symm,Hup.out _⟩
 obtain⟨hbk,hrd,hdv⟩:=Aj5 h0;have NM:∀x:A7 W,Calls Tryz.prog 182 #[.agg #[.int .i64 f.bk,.int .i64 f.rd,.int .i64 f.dv,.slice da f.dk.length dc,.slice ta f.tk.length tc],.agg #[.int .i64 d,.int .i64 q,.int .i64 a,.int .i64 t,.int .i64 k,.int .i64 b,.int .i64 p,.int .i64 r,.int .i64 i]] x.w fun o w'=>o= .returned (.bool (Y7 f ⟨d,q,a,t,k,b,p,r,i⟩))∧∃y:A7 W,w'=y.w:=fun x=>AU5 W x f ⟨d,q,a,t,k,b,p,r,i⟩ da ta dc tc hrd;have w1:wrap64 (f.dv-1)=f.dv-1:=IntWalk.wrap64_in _ ⟨by omega,by omega⟩;have w2:wrap64 (f.bk-1)=f.bk-1:=IntWalk.wrap64_in _ ⟨by omega,by omega⟩;have HE:=A3 (AU8 ⟨d,q,a,t,k,b,p,r,i⟩ h0);have H0:=A3 h0;clear h0 hbk hrd hdv
 cases hA:C6 d 0 (f.dv-1)with
 |false=>
  have hc1:cB f ⟨d,q,a,t,k,b,p,r,i⟩=false:=by unfold cB;rw[hA];rfl
  have HA:=A3 hA;clear hA
  have HR:=A3 (HE.out.trans (if_pos (by rw[hc1];rfl)))
  clear HE
  go_wp2_with(first
   |(go_at_call 95;(with_reducible refine(FL _).mono ?_);rintro _ _ ⟨rfl,y1,rfl⟩;rw[H0.out])
   |(go_at_call 137;(with_reducible refine(E4 W _ d 0 (f.dv-1)).mono ?_);rintro _ _ ⟨rfl,y1,rfl⟩;rw[HA.out])
   |(go_at_call 137;(with_reducible refine(E4 W _ q 1 1048576).mono ?_);rintro _ _ ⟨rfl,y1,rfl⟩;rw[HB.out])
   |(go_at_call 137;(with_reducible refine(E4 W _ k 1 10).mono ?_);rintro _ _ ⟨rfl,y1,rfl⟩;rw[HC.out])
   |(go_at_call 137;(with_reducible refine(E4 W _ b 0 (f.bk-1)).mono ?_);rintro _ _ ⟨rfl,y1,rfl⟩;rw[HD.out])
   |(go_at_call 181;(with_reducible refine(PL _).mono ?_);rintro _ _ ⟨rfl,y1,rfl⟩;rw[HG.out])
   |(go_at_call 182;(with_reducible refine(NM _).mono ?_);rintro _ _ ⟨rfl,y1,rfl⟩;rw[HN.out]))
  go_ret
  exact⟨D5 HR.out.symm,Hup.out _⟩
 |true=>
 cases hB:C6 q 1 1048576 with
 |false=>
  have hc1:cB f ⟨d,q,a,t,k,b,p,r,i⟩=false:=by unfold cB;rw[hA,hB];rfl
  have HA:=A3 hA;have HB:=A3 hB;clear hA hB
  have HR:=A3 (HE.out.trans (if_pos (by rw[hc1];rfl)))
  clear HE
  go_wp2_with(first
   |(go_at_call 95;(with_reducible refine(FL _).mono ?_);rintro _ _ ⟨rfl,y1,rfl⟩;rw[H0.out])
   |(go_at_call 137;(with_reducible refine(E4 W _ d 0 (f.dv-1)).mono ?_);rintro _ _ ⟨rfl,y1,rfl⟩;rw[HA.out])
   |(go_at_call 137;(with_reducible refine(E4 W _ q 1 1048576).mono ?_);rintro _ _ ⟨rfl,y1,rfl⟩;rw[HB.out])
   |(go_at_call 137;(with_reducible refine(E4 W _ k 1 10).mono ?_);rintro _ _ ⟨rfl,y1,rfl⟩;rw[HC.out])
   |(go_at_call 137;(with_reducible refine(E4 W _ b 0 (f.bk-1)).mono ?_);rintro _ _ ⟨rfl,y1,rfl⟩;rw[HD.out])
   |(go_at_call 181;(with_reducible refine(PL _).mono ?_);rintro _ _ ⟨rfl,y1,rfl⟩;rw[HG.out])
   |(go_at_call 182;(with_reducible refine(NM _).mono ?_);rintro _ _ ⟨rfl,y1,rfl⟩;rw[HN.out]))
  go_ret
  exact⟨D5 HR.out.symm,Hup.out _⟩
 |true=>
 have HA:=A3 hA;have HB:=A3 hB;clear hA hB;rcases(by omega:a<0∨(0≤a∧t<a)∨(0≤a∧a≤t∧4294943999<t)∨(0≤a∧a≤t∧t≤4294943999))with h1|⟨h1,h2⟩|⟨h1,h2,h3⟩|⟨h1,h2,h3⟩
 ·have hc1:cB f ⟨d,q,a,t,k,b,p,r,i⟩=false:=by unfold cB;dsimp only;rw[decide_eq_false (show¬0≤a by omega)];simp
  have HR:=A3 (HE.out.trans (if_pos (by rw[hc1];rfl)));clear HE;go_wp2_with(first
   |(go_at_call 95;(with_reducible refine(FL _).mono ?_);rintro _ _ ⟨rfl,y1,rfl⟩;rw[H0.out])
   |(go_at_call 137;(with_reducible refine(E4 W _ d 0 (f.dv-1)).mono ?_);rintro _ _ ⟨rfl,y1,rfl⟩;rw[HA.out])
   |(go_at_call 137;(with_reducible refine(E4 W _ q 1 1048576).mono ?_);rintro _ _ ⟨rfl,y1,rfl⟩;rw[HB.out])
   |(go_at_call 137;(with_reducible refine(E4 W _ k 1 10).mono ?_);rintro _ _ ⟨rfl,y1,rfl⟩;rw[HC.out])
   |(go_at_call 137;(with_reducible refine(E4 W _ b 0 (f.bk-1)).mono ?_);rintro _ _ ⟨rfl,y1,rfl⟩;rw[HD.out])
   |(go_at_call 181;(with_reducible refine(PL _).mono ?_);rintro _ _ ⟨rfl,y1,rfl⟩;rw[HG.out])
   |(go_at_call 182;(with_reducible refine(NM _).mono ?_);rintro _ _ ⟨rfl,y1,rfl⟩;rw[HN.out]))
  go_ret;exact⟨D5 HR.out.symm,Hup.out _⟩
 ·have hc1:cB f ⟨d,q,a,t,k,b,p,r,i⟩=false:=by unfold cB;dsimp only;rw[decide_eq_false (show¬a≤t by omega)];simp
  have HR:=A3 (HE.out.trans (if_pos (by rw[hc1];rfl)));clear HE;go_wp2_with(first
   |(go_at_call 95;(with_reducible refine(FL _).mono ?_);rintro _ _ ⟨rfl,y1,rfl⟩;rw[H0.out])
   |(go_at_call 137;(with_reducible refine(E4 W _ d 0 (f.dv-1)).mono ?_);rintro _ _ ⟨rfl,y1,rfl⟩;rw[HA.out])
   |(go_at_call 137;(with_reducible refine(E4 W _ q 1 1048576).mono ?_);rintro _ _ ⟨rfl,y1,rfl⟩;rw[HB.out])
   |(go_at_call 137;(with_reducible refine(E4 W _ k 1 10).mono ?_);rintro _ _ ⟨rfl,y1,rfl⟩;rw[HC.out])
   |(go_at_call 137;(with_reducible refine(E4 W _ b 0 (f.bk-1)).mono ?_);rintro _ _ ⟨rfl,y1,rfl⟩;rw[HD.out])
   |(go_at_call 181;(with_reducible refine(PL _).mono ?_);rintro _ _ ⟨rfl,y1,rfl⟩;rw[HG.out])
   |(go_at_call 182;(with_reducible refine(NM _).mono ?_);rintro _ _ ⟨rfl,y1,rfl⟩;rw[HN.out]))
  go_ret;exact⟨D5 HR.out.symm,Hup.out _⟩
 ·have hc1:cB f ⟨d,q,a,t,k,b,p,r,i⟩=false:=by unfold cB;dsimp only;rw[decide_eq_false (show¬t≤4294943999 by omega)];simp
  have HR:=A3 (HE.out.trans (if_pos (by rw[hc1];rfl)));clear HE;go_wp2_with(first
   |(go_at_call 95;(with_reducible refine(FL _).mono ?_);rintro _ _ ⟨rfl,y1,rfl⟩;rw[H0.out])
   |(go_at_call 137;(with_reducible refine(E4 W _ d 0 (f.dv-1)).mono ?_);rintro _ _ ⟨rfl,y1,rfl⟩;rw[HA.out])
   |(go_at_call 137;(with_reducible refine(E4 W _ q 1 1048576).mono ?_);rintro _ _ ⟨rfl,y1,rfl⟩;rw[HB.out])
   |(go_at_call 137;(with_reducible refine(E4 W _ k 1 10).mono ?_);rintro _ _ ⟨rfl,y1,rfl⟩;rw[HC.out])
   |(go_at_call 137;(with_reducible refine(E4 W _ b 0 (f.bk-1)).mono ?_);rintro _ _ ⟨rfl,y1,rfl⟩;rw[HD.out])
   |(go_at_call 181;(with_reducible refine(PL _).mono ?_);rintro _ _ ⟨rfl,y1,rfl⟩;rw[HG.out])
   |(go_at_call 182;(with_reducible refine(NM _).mono ?_);rintro _ _ ⟨rfl,y1,rfl⟩;rw[HN.out]))
  go_ret;exact⟨D5 HR.out.symm,Hup.out _⟩
 have hc1:cB f ⟨d,q,a,t,k,b,p,r,i⟩=true:=by unfold cB;dsimp only;rw[HA.out,HB.out,decide_eq_true h1,decide_eq_true h2,decide_eq_true h3];rfl
 have HE2:=A3 (HE.out.trans (if_neg (by rw[hc1];decide)));clear HE hc1;replace HE:=HE2;clear HE2
 cases hC:C6 k 1 10 with
 |false=>
  have HC:=A3 hC;clear hC
  have HR:=A3 (HE.out.trans (if_pos (by dsimp only;rw[HC.out];rfl)))
  clear HE
  go_wp2_with(first
   |(go_at_call 95;(with_reducible refine(FL _).mono ?_);rintro _ _ ⟨rfl,y1,rfl⟩;rw[H0.out])
   |(go_at_call 137;(with_reducible refine(E4 W _ d 0 (f.dv-1)).mono ?_);rintro _ _ ⟨rfl,y1,rfl⟩;rw[HA.out])
   |(go_at_call 137;(with_reducible refine(E4 W _ q 1 1048576).mono ?_);rintro _ _ ⟨rfl,y1,rfl⟩;rw[HB.out])
   |(go_at_call 137;(with_reducible refine(E4 W _ k 1 10).mono ?_);rintro _ _ ⟨rfl,y1,rfl⟩;rw[HC.out])
   |(go_at_call 137;(with_reducible refine(E4 W _ b 0 (f.bk-1)).mono ?_);rintro _ _ ⟨rfl,y1,rfl⟩;rw[HD.out])
   |(go_at_call 181;(with_reducible refine(PL _).mono ?_);rintro _ _ ⟨rfl,y1,rfl⟩;rw[HG.out])
   |(go_at_call 182;(with_reducible refine(NM _).mono ?_);rintro _ _ ⟨rfl,y1,rfl⟩;rw[HN.out]))
  go_ret
  exact⟨D5 HR.out.symm,Hup.out _⟩
 |true=>
 have HE2:=A3 (HE.out.trans (if_neg (by dsimp only;rw[hC];decide)));clear HE;replace HE:=HE2;clear HE2;have HC:=A3 hC;clear hC
 cases hD:C6 b 0 (f.bk-1)with
 |false=>
  have HD:=A3 hD;clear hD
  have HR:=A3 (HE.out.trans (if_pos (by dsimp only;rw[HD.out];rfl)))
  clear HE
  go_wp2_with(first
   |(go_at_call 95;(with_reducible refine(FL _).mono ?_);rintro _ _ ⟨rfl,y1,rfl⟩;rw[H0.out])
   |(go_at_call 137;(with_reducible refine(E4 W _ d 0 (f.dv-1)).mono ?_);rintro _ _ ⟨rfl,y1,rfl⟩;rw[HA.out])
   |(go_at_call 137;(with_reducible refine(E4 W _ q 1 1048576).mono ?_);rintro _ _ ⟨rfl,y1,rfl⟩;rw[HB.out])
   |(go_at_call 137;(with_reducible refine(E4 W _ k 1 10).mono ?_);rintro _ _ ⟨rfl,y1,rfl⟩;rw[HC.out])
   |(go_at_call 137;(with_reducible refine(E4 W _ b 0 (f.bk-1)).mono ?_);rintro _ _ ⟨rfl,y1,rfl⟩;rw[HD.out])
   |(go_at_call 181;(with_reducible refine(PL _).mono ?_);rintro _ _ ⟨rfl,y1,rfl⟩;rw[HG.out])
   |(go_at_call 182;(with_reducible refine(NM _).mono ?_);rintro _ _ ⟨rfl,y1,rfl⟩;rw[HN.out]))
  go_ret
  exact⟨D5 HR.out.symm,Hup.out _⟩
 |true=>
 have HD:=A3 hD;clear hD;rcases(by omega:(k=10∧b≠0)∨(k=10∧b=0)∨k≠10)with⟨h4,h5⟩|⟨h4,h5⟩|h4
 ·have hk:(k == 10)=true:=by simpa using h4
  have hb:(b != 0)=true:=by simpa using h5
  have H4:=A3 h4;have H5:=A3 h5;clear h4 h5;have HR:=A3 (HE.out.trans (if_pos (by dsimp only;rw[decide_eq_true H4.out,decide_eq_true H5.out];simp)));clear HE;go_wp2_with(first
   |(go_at_call 95;(with_reducible refine(FL _).mono ?_);rintro _ _ ⟨rfl,y1,rfl⟩;rw[H0.out])
   |(go_at_call 137;(with_reducible refine(E4 W _ d 0 (f.dv-1)).mono ?_);rintro _ _ ⟨rfl,y1,rfl⟩;rw[HA.out])
   |(go_at_call 137;(with_reducible refine(E4 W _ q 1 1048576).mono ?_);rintro _ _ ⟨rfl,y1,rfl⟩;rw[HB.out])
   |(go_at_call 137;(with_reducible refine(E4 W _ k 1 10).mono ?_);rintro _ _ ⟨rfl,y1,rfl⟩;rw[HC.out])
   |(go_at_call 137;(with_reducible refine(E4 W _ b 0 (f.bk-1)).mono ?_);rintro _ _ ⟨rfl,y1,rfl⟩;rw[HD.out])
   |(go_at_call 181;(with_reducible refine(PL _).mono ?_);rintro _ _ ⟨rfl,y1,rfl⟩;rw[HG.out])
   |(go_at_call 182;(with_reducible refine(NM _).mono ?_);rintro _ _ ⟨rfl,y1,rfl⟩;rw[HN.out]))
  go_ret;exact⟨D5 HR.out.symm,Hup.out _⟩
 ·have hk:(k == 10)=true:=by simpa using h4
  have hb:(b != 0)=false:=by simpa using h5
  have HE2:=A3 (HE.out.trans (if_neg (by dsimp only;rw[HD.out,decide_eq_false (show¬b≠0 by omega)];simp)));clear HE h4 h5;replace HE:=HE2;clear HE2
  cases hG:bZ f ⟨d,q,a,t,k,b,p,r,i⟩with
  |false=>
   have HG:=A3 hG;clear hG
   have HR:=A3 (HE.out.trans (if_pos (by rw[HG.out];rfl)))
   clear HE
   go_wp2_with(first
    |(go_at_call 95;(with_reducible refine(FL _).mono ?_);rintro _ _ ⟨rfl,y1,rfl⟩;rw[H0.out])
    |(go_at_call 137;(with_reducible refine(E4 W _ d 0 (f.dv-1)).mono ?_);rintro _ _ ⟨rfl,y1,rfl⟩;rw[HA.out])
    |(go_at_call 137;(with_reducible refine(E4 W _ q 1 1048576).mono ?_);rintro _ _ ⟨rfl,y1,rfl⟩;rw[HB.out])
    |(go_at_call 137;(with_reducible refine(E4 W _ k 1 10).mono ?_);rintro _ _ ⟨rfl,y1,rfl⟩;rw[HC.out])
    |(go_at_call 137;(with_reducible refine(E4 W _ b 0 (f.bk-1)).mono ?_);rintro _ _ ⟨rfl,y1,rfl⟩;rw[HD.out])
    |(go_at_call 181;(with_reducible refine(PL _).mono ?_);rintro _ _ ⟨rfl,y1,rfl⟩;rw[HG.out])
    |(go_at_call 182;(with_reducible refine(NM _).mono ?_);rintro _ _ ⟨rfl,y1,rfl⟩;rw[HN.out]))
   go_ret
   exact⟨D5 HR.out.symm,Hup.out _⟩
  |true=>
  have HE2:=A3 (HE.out.trans (if_neg (by rw[hG];decide)));clear HE;replace HE:=HE2;clear HE2;have HG:=A3 hG;clear hG
  cases hN:Y7 f ⟨d,q,a,t,k,b,p,r,i⟩with
  |false=>
   have HN:=A3 hN;clear hN
   have HR:=A3 (HE.out.trans (if_pos (by rw[HN.out];rfl)))
   clear HE
   go_wp2_with(first
    |(go_at_call 95;(with_reducible refine(FL _).mono ?_);rintro _ _ ⟨rfl,y1,rfl⟩;rw[H0.out])
    |(go_at_call 137;(with_reducible refine(E4 W _ d 0 (f.dv-1)).mono ?_);rintro _ _ ⟨rfl,y1,rfl⟩;rw[HA.out])
    |(go_at_call 137;(with_reducible refine(E4 W _ q 1 1048576).mono ?_);rintro _ _ ⟨rfl,y1,rfl⟩;rw[HB.out])
    |(go_at_call 137;(with_reducible refine(E4 W _ k 1 10).mono ?_);rintro _ _ ⟨rfl,y1,rfl⟩;rw[HC.out])
    |(go_at_call 137;(with_reducible refine(E4 W _ b 0 (f.bk-1)).mono ?_);rintro _ _ ⟨rfl,y1,rfl⟩;rw[HD.out])
    |(go_at_call 181;(with_reducible refine(PL _).mono ?_);rintro _ _ ⟨rfl,y1,rfl⟩;rw[HG.out])
    |(go_at_call 182;(with_reducible refine(NM _).mono ?_);rintro _ _ ⟨rfl,y1,rfl⟩;rw[HN.out]))
   go_ret
   exact⟨D5 HR.out.symm,Hup.out _⟩
  |true=>
   have HN:=A3 hN;clear hN
   have HR:=A3 (HE.out.trans (if_neg (by rw[HN.out];decide)))
   clear HE
   go_wp2_with(first
    |(go_at_call 95;(with_reducible refine(FL _).mono ?_);rintro _ _ ⟨rfl,y1,rfl⟩;rw[H0.out])
    |(go_at_call 137;(with_reducible refine(E4 W _ d 0 (f.dv-1)).mono ?_);rintro _ _ ⟨rfl,y1,rfl⟩;rw[HA.out])
    |(go_at_call 137;(with_reducible refine(E4 W _ q 1 1048576).mono ?_);rintro _ _ ⟨rfl,y1,rfl⟩;rw[HB.out])
    |(go_at_call 137;(with_reducible refine(E4 W _ k 1 10).mono ?_);rintro _ _ ⟨rfl,y1,rfl⟩;rw[HC.out])
    |(go_at_call 137;(with_reducible refine(E4 W _ b 0 (f.bk-1)).mono ?_);rintro _ _ ⟨rfl,y1,rfl⟩;rw[HD.out])
    |(go_at_call 181;(with_reducible refine(PL _).mono ?_);rintro _ _ ⟨rfl,y1,rfl⟩;rw[HG.out])
    |(go_at_call 182;(with_reducible refine(NM _).mono ?_);rintro _ _ ⟨rfl,y1,rfl⟩;rw[HN.out]))
   go_ret
   exact⟨D5 HR.out.symm,Hup.out _⟩
 ·have hk:(k == 10)=false:=by simpa using h4
  have HE2:=A3 (HE.out.trans (if_neg (by dsimp only;rw[HD.out,decide_eq_false h4];simp)));clear HE;replace HE:=HE2;clear HE2
  cases hG:bZ f ⟨d,q,a,t,k,b,p,r,i⟩with
  |false=>
   have HG:=A3 hG;clear hG
   have HR:=A3 (HE.out.trans (if_pos (by rw[HG.out];rfl)))
   clear HE
   go_wp2_with(first
    |(go_at_call 95;(with_reducible refine(FL _).mono ?_);rintro _ _ ⟨rfl,y1,rfl⟩;rw[H0.out])
    |(go_at_call 137;(with_reducible refine(E4 W _ d 0 (f.dv-1)).mono ?_);rintro _ _ ⟨rfl,y1,rfl⟩;rw[HA.out])
    |(go_at_call 137;(with_reducible refine(E4 W _ q 1 1048576).mono ?_);rintro _ _ ⟨rfl,y1,rfl⟩;rw[HB.out])
    |(go_at_call 137;(with_reducible refine(E4 W _ k 1 10).mono ?_);rintro _ _ ⟨rfl,y1,rfl⟩;rw[HC.out])
    |(go_at_call 137;(with_reducible refine(E4 W _ b 0 (f.bk-1)).mono ?_);rintro _ _ ⟨rfl,y1,rfl⟩;rw[HD.out])
    |(go_at_call 181;(with_reducible refine(PL _).mono ?_);rintro _ _ ⟨rfl,y1,rfl⟩;rw[HG.out])
    |(go_at_call 182;(with_reducible refine(NM _).mono ?_);rintro _ _ ⟨rfl,y1,rfl⟩;rw[HN.out]))
   go_ret
   exact⟨D5 HR.out.symm,Hup.out _⟩
  |true=>
  have HE2:=A3 (HE.out.trans (if_neg (by rw[hG];decide)));clear HE;replace HE:=HE2;clear HE2;have HG:=A3 hG;clear hG
  cases hN:Y7 f ⟨d,q,a,t,k,b,p,r,i⟩with
  |false=>
   have HN:=A3 hN;clear hN
   have HR:=A3 (HE.out.trans (if_pos (by rw[HN.out];rfl)))
   clear HE
   go_wp2_with(first
    |(go_at_call 95;(with_reducible refine(FL _).mono ?_);rintro _ _ ⟨rfl,y1,rfl⟩;rw[H0.out])
    |(go_at_call 137;(with_reducible refine(E4 W _ d 0 (f.dv-1)).mono ?_);rintro _ _ ⟨rfl,y1,rfl⟩;rw[HA.out])
    |(go_at_call 137;(with_reducible refine(E4 W _ q 1 1048576).mono ?_);rintro _ _ ⟨rfl,y1,rfl⟩;rw[HB.out])
    |(go_at_call 137;(with_reducible refine(E4 W _ k 1 10).mono ?_);rintro _ _ ⟨rfl,y1,rfl⟩;rw[HC.out])
    |(go_at_call 137;(with_reducible refine(E4 W _ b 0 (f.bk-1)).mono ?_);rintro _ _ ⟨rfl,y1,rfl⟩;rw[HD.out])
    |(go_at_call 181;(with_reducible refine(PL _).mono ?_);rintro _ _ ⟨rfl,y1,rfl⟩;rw[HG.out])
    |(go_at_call 182;(with_reducible refine(NM _).mono ?_);rintro _ _ ⟨rfl,y1,rfl⟩;rw[HN.out]))
   go_ret
   exact⟨D5 HR.out.symm,Hup.out _⟩
  |true=>
   have HN:=A3 hN;clear hN
   have HR:=A3 (HE.out.trans (if_neg (by rw[HN.out];decide)))
   clear HE
   go_wp2_with(first
    |(go_at_call 95;(with_reducible refine(FL _).mono ?_);rintro _ _ ⟨rfl,y1,rfl⟩;rw[H0.out])
    |(go_at_call 137;(with_reducible refine(E4 W _ d 0 (f.dv-1)).mono ?_);rintro _ _ ⟨rfl,y1,rfl⟩;rw[HA.out])
    |(go_at_call 137;(with_reducible refine(E4 W _ q 1 1048576).mono ?_);rintro _ _ ⟨rfl,y1,rfl⟩;rw[HB.out])
    |(go_at_call 137;(with_reducible refine(E4 W _ k 1 10).mono ?_);rintro _ _ ⟨rfl,y1,rfl⟩;rw[HC.out])
    |(go_at_call 137;(with_reducible refine(E4 W _ b 0 (f.bk-1)).mono ?_);rintro _ _ ⟨rfl,y1,rfl⟩;rw[HD.out])
    |(go_at_call 181;(with_reducible refine(PL _).mono ?_);rintro _ _ ⟨rfl,y1,rfl⟩;rw[HG.out])
    |(go_at_call 182;(with_reducible refine(NM _).mono ?_);rintro _ _ ⟨rfl,y1,rfl⟩;rw[HN.out]))
   go_ret
   exact⟨D5 HR.out.symm,Hup.out _⟩
end
end Go.Proofs.YtmmlmhnjjfnpnaaGreat
