/- Texts that belong together. -/
import Derived.Test.YtmmlmhnjjfnpnaaGreatTpNp
import Derived.Test.YtmmlmhnjjfnpnaaGreatProg
set_option linter.all false
namespace Go.Proofs.YtmmlmhnjjfnpnaaGreat
set_option maxRecDepth 200000
set_option maxHeartbeats 64000000
section
open Go.RowKit
theorem E0 (w:World) (x:A6 w) (n lo hi:Int):
 Calls Tryz.prog 137 #[.int .i64 n,.int .i64 lo,.int .i64 hi] x.w fun o w'=>o= .returned (.bool (C4 n lo hi))∧∃y:A6 w,w'=y.w:=by
 rcases(by omega:n<lo∨(lo≤n∧hi<n)∨(lo≤n∧n≤hi))with h1|⟨h1,h2⟩|⟨h1,h2⟩
 ·have Hv:=A2 (show C4 n lo hi=false by unfold C4;rw[decide_eq_false (show¬lo≤n by omega)];rfl)
  go_enter Tryz.func137,Tryz.ntmps137;go_wp2_with fail;go_ret;exact⟨F9 Hv.out.symm,x,rfl⟩
 ·have Hv:=A2 (show C4 n lo hi=false by unfold C4;rw[decide_eq_false (show¬n≤hi by omega),Bool.and_false])
  go_enter Tryz.func137,Tryz.ntmps137;go_wp2_with fail;go_ret;exact⟨F9 (by first|exact Hv.out.symm|(rw[Hv.out];exact decide_eq_false (by omega))),x,rfl⟩
 ·have Hv:=A2 (show C4 n lo hi=true by unfold C4;rw[decide_eq_true h1,decide_eq_true h2];rfl)
  go_enter Tryz.func137,Tryz.ntmps137;go_wp2_with fail;go_ret;exact⟨F9 (by first|exact Hv.out.symm|(rw[Hv.out];exact decide_eq_true (by omega))),x,rfl⟩
theorem wJ {l:List Int} {p:Int→Bool} {k:Nat} (hk:k<l.length) (h:p (B2 l k)=false):l.all p=false:=by
 rw[List.all_eq_false];refine⟨B2 l k,?_,by simp[h]⟩;unfold B2;rw[A5,A3 hk];exact List.getElem_mem hk
theorem wK {l:List Int} {p:Int→Bool} (h:∀j,j<l.length→p (B2 l j)=true):l.all p=true:=by
 rw[List.all_eq_true];intro x hx;obtain⟨j,hj,rfl⟩:=List.mem_iff_getElem.1 hx;have:=h j hj;unfold B2 at this;rwa[A5,A3 hj]at this
theorem t8 (w:World) (x:A6 w) (l:List Int) (a:Option Addr) (c:Nat) (most:Int) (hl:l.length≤9223372036854775807) (hr:Q9 w a l):
 Calls Tryz.prog 138 #[.slice a l.length c,.int .i64 most] x.w fun o w'=>o= .returned (.bool (l.all fun n=>C4 n 1 most))∧∃y:A6 w,w'=y.w:=by
 go_enter Tryz.func138,Tryz.ntmps138;go_wp2_with fail;go_loopw [9] (fun i wr=>∃(k:Nat) (y:A6 w),k≤l.length∧i= .int .i64 k∧wr=y.w∧∀j,j<k→C4 (B2 l j) 1 most=true) (fun i _ =>l.length-(intOf i).toNat)
 case atStart=>exact⟨0,x,by omega,rfl,rfl,fun j hj=>by omega⟩
 case round=>
  obtain⟨k,y,hk,rfl,rfl,hok⟩:=hrel;have Hok:=A2 hok;clear hok;by_cases hlt:k<l.length
  ·obtain⟨b1,off1,rfl,_,_⟩:=hr k hlt
   have hcell:∀y:A6 w,y.w.cell? ⟨b1,off1+k,none⟩=some (.int .i64 (B2 l k)):=A6.at hr k hlt;have hk0:(0:Int)≤(k:Int):=by omega
   have hkl:(k:Int)<(l.length:Int):=by omega
   cases hv:C4 (B2 l k) 1 most with
   |false=>
    have Hv:=A2 hv;clear hv
    clear hr
    go_wp2_with(go_at_call 137;refine(E0 w _ _ _ _).mono ?_;rintro _ _ ⟨rfl,y1,rfl⟩;rw[Hv.out])
    go_ret
    exact⟨F9 (wJ (p:=fun n=>C4 n 1 most) hlt Hv.out).symm,y1,rfl⟩
   |true=>
    have Hv:=A2 hv;clear hv
    clear hr
    go_wp2_with(go_at_call 137;refine(E0 w _ _ _ _).mono ?_;rintro _ _ ⟨rfl,y1,rfl⟩;rw[Hv.out])
    go_roundw
    case rel=>exact⟨k+1,y1,by omega,by go_num,rfl,fun j hj=>by
     by_cases hjk:j<k
     ·exact Hok.out j hjk
     ·obtain rfl:j=k:=by omega
      exact Hv.out⟩
    case measure=>simp[intOf];omega
  ·obtain rfl:k=l.length:=by omega
   have Ha:=A2 (wK (p:=fun n=>C4 n 1 most) Hok.out);clear hr;go_wp2_with fail;go_ret;exact⟨F9 Ha.out.symm,y,rfl⟩
structure Y6 (w:World) (f:D5) (da ta:Option Addr):Prop where
 d:Q9 w da f.dk
 t:Q9 w ta f.tk
 dl:f.dk.length≤9223372036854775807
 tl:f.tk.length≤9223372036854775807
theorem Y6.to {w W:World} {f:D5} {da ta:Option Addr} (h:Y6 w f da ta) (hW:∃z:A6 w,W=z.w):Y6 W f da ta:=⟨O1.to h.d hW,O1.to h.t hW,h.dl,h.tl⟩
theorem kU {f:D5} (h:C4 f.bk 1 128=false∨C4 f.rd 1 128=false∨C4 f.dv 1 256=false):H9 f=1:=by
 unfold H9;rw[if_pos];rcases h with h|h|h<;>simp[h]
theorem AV9 {f:D5} (hA:C4 f.bk 1 128=true) (hB:C4 f.rd 1 128=true) (hC:C4 f.dv 1 256=true):H9 f=if f.dk.length>32∨f.tk.length>8 then 8 else if !(f.dk.all (fun n=>C4 n 1 32) && f.tk.all (fun n=>C4 n 1 32))then 1 else 0:=by
 unfold H9;rw[if_neg];simp[hA,hB,hC]
theorem wL (w:World) (x:A6 w) (f:D5) (da ta:Option Addr) (dc tc:Nat) (hf:Y6 w f da ta):
 Calls Tryz.prog 95 #[.agg #[.int .i64 f.bk,.int .i64 f.rd,.int .i64 f.dv,.slice da f.dk.length dc,.slice ta f.tk.length tc]] x.w fun o w'=>o= .returned (.int .i64 (H9 f))∧∃y:A6 w,w'=y.w:=by
 have h1:=And.intro hf.dl hf.tl;have HF0:=A2 hf;clear hf
 cases hA:C4 f.bk 1 128 with
 |false=>
  have HR:=A2 (kU (.inl hA))
  have HA:=A2 hA;clear hA
  go_enter Tryz.func95,Tryz.ntmps95
  go_upto_region 1 with fail
  obtain⟨W,bx,y0,hW,hbx,-,B8,Hup,Hbx,HB0⟩:=J8 x [.int .i64 f.bk,.int .i64 f.rd,.int .i64 f.dv,.slice da f.dk.length dc,.slice ta f.tk.length tc] 24
  rw[hW,hbx]
  clear hW hbx
  obtain⟨D7,D9,E3,E5,F3,hf0⟩:=Z2 HB0
  clear HB0
  have HD:=A2 ((HF0.out.to B8).d)
  have HT:=A2 ((HF0.out.to B8).t)
  clear B8
  go_wp2_with(first
   |(go_at_call 137;(with_reducible refine(E0 W _ f.bk 1 128).mono ?_);rintro _ _ ⟨rfl,y1,rfl⟩;rw[HA.out])
   |(go_at_call 137;(with_reducible refine(E0 W _ f.rd 1 128).mono ?_);rintro _ _ ⟨rfl,y1,rfl⟩;rw[HB.out])
   |(go_at_call 137;(with_reducible refine(E0 W _ f.dv 1 256).mono ?_);rintro _ _ ⟨rfl,y1,rfl⟩;rw[HC.out])
   |(go_at_call 138;(with_reducible refine(t8 W _ f.dk da dc 32 h1.1 HD.out).mono ?_);rintro _ _ ⟨rfl,y1,rfl⟩;rw[HE.out])
   |(go_at_call 138;(with_reducible refine(t8 W _ f.tk ta tc 32 h1.2 HT.out).mono ?_);rintro _ _ ⟨rfl,y1,rfl⟩;rw[HF.out]))
  go_ret
  exact⟨D1 HR.out.symm,Hup.out _⟩
 |true=>
 cases hB:C4 f.rd 1 128 with
 |false=>
  have HR:=A2 (kU (.inr (.inl hB)))
  have HA:=A2 hA;have HB:=A2 hB;clear hA hB
  go_enter Tryz.func95,Tryz.ntmps95
  go_upto_region 1 with fail
  obtain⟨W,bx,y0,hW,hbx,-,B8,Hup,Hbx,HB0⟩:=J8 x [.int .i64 f.bk,.int .i64 f.rd,.int .i64 f.dv,.slice da f.dk.length dc,.slice ta f.tk.length tc] 24
  rw[hW,hbx]
  clear hW hbx
  obtain⟨D7,D9,E3,E5,F3,hf0⟩:=Z2 HB0
  clear HB0
  have HD:=A2 ((HF0.out.to B8).d)
  have HT:=A2 ((HF0.out.to B8).t)
  clear B8
  go_wp2_with(first
   |(go_at_call 137;(with_reducible refine(E0 W _ f.bk 1 128).mono ?_);rintro _ _ ⟨rfl,y1,rfl⟩;rw[HA.out])
   |(go_at_call 137;(with_reducible refine(E0 W _ f.rd 1 128).mono ?_);rintro _ _ ⟨rfl,y1,rfl⟩;rw[HB.out])
   |(go_at_call 137;(with_reducible refine(E0 W _ f.dv 1 256).mono ?_);rintro _ _ ⟨rfl,y1,rfl⟩;rw[HC.out])
   |(go_at_call 138;(with_reducible refine(t8 W _ f.dk da dc 32 h1.1 HD.out).mono ?_);rintro _ _ ⟨rfl,y1,rfl⟩;rw[HE.out])
   |(go_at_call 138;(with_reducible refine(t8 W _ f.tk ta tc 32 h1.2 HT.out).mono ?_);rintro _ _ ⟨rfl,y1,rfl⟩;rw[HF.out]))
  go_ret
  exact⟨D1 HR.out.symm,Hup.out _⟩
 |true=>
 cases hC:C4 f.dv 1 256 with
 |false=>
  have HR:=A2 (kU (.inr (.inr hC)))
  have HA:=A2 hA;have HB:=A2 hB;have HC:=A2 hC;clear hA hB hC
  go_enter Tryz.func95,Tryz.ntmps95
  go_upto_region 1 with fail
  obtain⟨W,bx,y0,hW,hbx,-,B8,Hup,Hbx,HB0⟩:=J8 x [.int .i64 f.bk,.int .i64 f.rd,.int .i64 f.dv,.slice da f.dk.length dc,.slice ta f.tk.length tc] 24
  rw[hW,hbx]
  clear hW hbx
  obtain⟨D7,D9,E3,E5,F3,hf0⟩:=Z2 HB0
  clear HB0
  have HD:=A2 ((HF0.out.to B8).d)
  have HT:=A2 ((HF0.out.to B8).t)
  clear B8
  go_wp2_with(first
   |(go_at_call 137;(with_reducible refine(E0 W _ f.bk 1 128).mono ?_);rintro _ _ ⟨rfl,y1,rfl⟩;rw[HA.out])
   |(go_at_call 137;(with_reducible refine(E0 W _ f.rd 1 128).mono ?_);rintro _ _ ⟨rfl,y1,rfl⟩;rw[HB.out])
   |(go_at_call 137;(with_reducible refine(E0 W _ f.dv 1 256).mono ?_);rintro _ _ ⟨rfl,y1,rfl⟩;rw[HC.out])
   |(go_at_call 138;(with_reducible refine(t8 W _ f.dk da dc 32 h1.1 HD.out).mono ?_);rintro _ _ ⟨rfl,y1,rfl⟩;rw[HE.out])
   |(go_at_call 138;(with_reducible refine(t8 W _ f.tk ta tc 32 h1.2 HT.out).mono ?_);rintro _ _ ⟨rfl,y1,rfl⟩;rw[HF.out]))
  go_ret
  exact⟨D1 HR.out.symm,Hup.out _⟩
 |true=>
 have HR0:=A2 (AV9 hA hB hC);have HA:=A2 hA;have HB:=A2 hB;have HC:=A2 hC;clear hA hB hC;rcases(by omega:32<f.dk.length∨(f.dk.length≤32∧8<f.tk.length)∨(f.dk.length≤32∧f.tk.length≤8))with h2|⟨h2,h3⟩|⟨h2,h3⟩
 ·have HR:=A2 (HR0.out.trans (if_pos (Or.inl h2)))
  have h4:(32:Int)<(f.dk.length:Int):=by omega
  go_enter Tryz.func95,Tryz.ntmps95;go_upto_region 1 with fail;obtain⟨W,bx,y0,hW,hbx,-,B8,Hup,Hbx,HB0⟩:=J8 x [.int .i64 f.bk,.int .i64 f.rd,.int .i64 f.dv,.slice da f.dk.length dc,.slice ta f.tk.length tc] 24;rw[hW,hbx];clear hW hbx;obtain⟨D7,D9,E3,E5,F3,hf0⟩:=Z2 HB0;clear HB0;have HD:=A2 ((HF0.out.to B8).d);have HT:=A2 ((HF0.out.to B8).t);clear B8;go_wp2_with(first
   |(go_at_call 137;(with_reducible refine(E0 W _ f.bk 1 128).mono ?_);rintro _ _ ⟨rfl,y1,rfl⟩;rw[HA.out])
   |(go_at_call 137;(with_reducible refine(E0 W _ f.rd 1 128).mono ?_);rintro _ _ ⟨rfl,y1,rfl⟩;rw[HB.out])
   |(go_at_call 137;(with_reducible refine(E0 W _ f.dv 1 256).mono ?_);rintro _ _ ⟨rfl,y1,rfl⟩;rw[HC.out])
   |(go_at_call 138;(with_reducible refine(t8 W _ f.dk da dc 32 h1.1 HD.out).mono ?_);rintro _ _ ⟨rfl,y1,rfl⟩;rw[HE.out])
   |(go_at_call 138;(with_reducible refine(t8 W _ f.tk ta tc 32 h1.2 HT.out).mono ?_);rintro _ _ ⟨rfl,y1,rfl⟩;rw[HF.out]))
  go_ret;exact⟨D1 HR.out.symm,Hup.out _⟩
 ·have HR:=A2 (HR0.out.trans (if_pos (Or.inr h3)))
  have h4:(f.dk.length:Int)≤32:=by omega
  have h5:(8:Int)<(f.tk.length:Int):=by omega
  go_enter Tryz.func95,Tryz.ntmps95;go_upto_region 1 with fail;obtain⟨W,bx,y0,hW,hbx,-,B8,Hup,Hbx,HB0⟩:=J8 x [.int .i64 f.bk,.int .i64 f.rd,.int .i64 f.dv,.slice da f.dk.length dc,.slice ta f.tk.length tc] 24;rw[hW,hbx];clear hW hbx;obtain⟨D7,D9,E3,E5,F3,hf0⟩:=Z2 HB0;clear HB0;have HD:=A2 ((HF0.out.to B8).d);have HT:=A2 ((HF0.out.to B8).t);clear B8;go_wp2_with(first
   |(go_at_call 137;(with_reducible refine(E0 W _ f.bk 1 128).mono ?_);rintro _ _ ⟨rfl,y1,rfl⟩;rw[HA.out])
   |(go_at_call 137;(with_reducible refine(E0 W _ f.rd 1 128).mono ?_);rintro _ _ ⟨rfl,y1,rfl⟩;rw[HB.out])
   |(go_at_call 137;(with_reducible refine(E0 W _ f.dv 1 256).mono ?_);rintro _ _ ⟨rfl,y1,rfl⟩;rw[HC.out])
   |(go_at_call 138;(with_reducible refine(t8 W _ f.dk da dc 32 h1.1 HD.out).mono ?_);rintro _ _ ⟨rfl,y1,rfl⟩;rw[HE.out])
   |(go_at_call 138;(with_reducible refine(t8 W _ f.tk ta tc 32 h1.2 HT.out).mono ?_);rintro _ _ ⟨rfl,y1,rfl⟩;rw[HF.out]))
  go_ret;exact⟨D1 HR.out.symm,Hup.out _⟩
 ·have HR2:=A2 (HR0.out.trans (if_neg (by omega)))
  have h4:(f.dk.length:Int)≤32:=by omega
  have h5:(f.tk.length:Int)≤8:=by omega
  cases hE:f.dk.all (fun n=>C4 n 1 32)with
  |false=>
   have HR:=A2 (HR2.out.trans (if_pos (by simp only[hE];rfl)))
   have HE:=A2 hE;clear hE
   go_enter Tryz.func95,Tryz.ntmps95
   go_upto_region 1 with fail
   obtain⟨W,bx,y0,hW,hbx,-,B8,Hup,Hbx,HB0⟩:=J8 x [.int .i64 f.bk,.int .i64 f.rd,.int .i64 f.dv,.slice da f.dk.length dc,.slice ta f.tk.length tc] 24
   rw[hW,hbx]
   clear hW hbx
   obtain⟨D7,D9,E3,E5,F3,hf0⟩:=Z2 HB0
   clear HB0
   have HD:=A2 ((HF0.out.to B8).d)
   have HT:=A2 ((HF0.out.to B8).t)
   clear B8
   go_wp2_with(first
    |(go_at_call 137;(with_reducible refine(E0 W _ f.bk 1 128).mono ?_);rintro _ _ ⟨rfl,y1,rfl⟩;rw[HA.out])
    |(go_at_call 137;(with_reducible refine(E0 W _ f.rd 1 128).mono ?_);rintro _ _ ⟨rfl,y1,rfl⟩;rw[HB.out])
    |(go_at_call 137;(with_reducible refine(E0 W _ f.dv 1 256).mono ?_);rintro _ _ ⟨rfl,y1,rfl⟩;rw[HC.out])
    |(go_at_call 138;(with_reducible refine(t8 W _ f.dk da dc 32 h1.1 HD.out).mono ?_);rintro _ _ ⟨rfl,y1,rfl⟩;rw[HE.out])
    |(go_at_call 138;(with_reducible refine(t8 W _ f.tk ta tc 32 h1.2 HT.out).mono ?_);rintro _ _ ⟨rfl,y1,rfl⟩;rw[HF.out]))
   go_ret
   exact⟨D1 HR.out.symm,Hup.out _⟩
  |true=>
   cases hF:f.tk.all (fun n=>C4 n 1 32)with
   |false=>
    have HR:=A2 (HR2.out.trans (if_pos (by simp only[hE,hF];rfl)))
    have HE:=A2 hE;have HF:=A2 hF;clear hE hF
    go_enter Tryz.func95,Tryz.ntmps95
    go_upto_region 1 with fail
    obtain⟨W,bx,y0,hW,hbx,-,B8,Hup,Hbx,HB0⟩:=J8 x [.int .i64 f.bk,.int .i64 f.rd,.int .i64 f.dv,.slice da f.dk.length dc,.slice ta f.tk.length tc] 24
    rw[hW,hbx]
    clear hW hbx
    obtain⟨D7,D9,E3,E5,F3,hf0⟩:=Z2 HB0
    clear HB0
    have HD:=A2 ((HF0.out.to B8).d)
    have HT:=A2 ((HF0.out.to B8).t)
    clear B8
    go_wp2_with(first
     |(go_at_call 137;(with_reducible refine(E0 W _ f.bk 1 128).mono ?_);rintro _ _ ⟨rfl,y1,rfl⟩;rw[HA.out])
     |(go_at_call 137;(with_reducible refine(E0 W _ f.rd 1 128).mono ?_);rintro _ _ ⟨rfl,y1,rfl⟩;rw[HB.out])
     |(go_at_call 137;(with_reducible refine(E0 W _ f.dv 1 256).mono ?_);rintro _ _ ⟨rfl,y1,rfl⟩;rw[HC.out])
     |(go_at_call 138;(with_reducible refine(t8 W _ f.dk da dc 32 h1.1 HD.out).mono ?_);rintro _ _ ⟨rfl,y1,rfl⟩;rw[HE.out])
     |(go_at_call 138;(with_reducible refine(t8 W _ f.tk ta tc 32 h1.2 HT.out).mono ?_);rintro _ _ ⟨rfl,y1,rfl⟩;rw[HF.out]))
    go_ret
    exact⟨D1 HR.out.symm,Hup.out _⟩
   |true=>
    have HR:=A2 (HR2.out.trans (if_neg (by simp only[hE,hF];simp)))
    have HE:=A2 hE;have HF:=A2 hF;clear hE hF
    go_enter Tryz.func95,Tryz.ntmps95
    go_upto_region 1 with fail
    obtain⟨W,bx,y0,hW,hbx,-,B8,Hup,Hbx,HB0⟩:=J8 x [.int .i64 f.bk,.int .i64 f.rd,.int .i64 f.dv,.slice da f.dk.length dc,.slice ta f.tk.length tc] 24
    rw[hW,hbx]
    clear hW hbx
    obtain⟨D7,D9,E3,E5,F3,hf0⟩:=Z2 HB0
    clear HB0
    have HD:=A2 ((HF0.out.to B8).d)
    have HT:=A2 ((HF0.out.to B8).t)
    clear B8
    go_wp2_with(first
     |(go_at_call 137;(with_reducible refine(E0 W _ f.bk 1 128).mono ?_);rintro _ _ ⟨rfl,y1,rfl⟩;rw[HA.out])
     |(go_at_call 137;(with_reducible refine(E0 W _ f.rd 1 128).mono ?_);rintro _ _ ⟨rfl,y1,rfl⟩;rw[HB.out])
     |(go_at_call 137;(with_reducible refine(E0 W _ f.dv 1 256).mono ?_);rintro _ _ ⟨rfl,y1,rfl⟩;rw[HC.out])
     |(go_at_call 138;(with_reducible refine(t8 W _ f.dk da dc 32 h1.1 HD.out).mono ?_);rintro _ _ ⟨rfl,y1,rfl⟩;rw[HE.out])
     |(go_at_call 138;(with_reducible refine(t8 W _ f.tk ta tc 32 h1.2 HT.out).mono ?_);rintro _ _ ⟨rfl,y1,rfl⟩;rw[HF.out]))
    go_ret
    exact⟨D1 HR.out.symm,Hup.out _⟩
end
section
open Go.RowKit
theorem AW0 (f:D5) (d q a t k b p r i:Int):Y3 f ⟨d,q,a,t,k,b,p,r,i⟩=((if k=3 then C4 r 0 (f.rd-1)else(r == 0)) && (if k=3∨k=4 then C4 i 1 1000000 else(i == 0))):=rfl
theorem AW1 (w:World) (x:A6 w) (f:D5) (e:Ev) (da ta:Option Addr) (dc tc:Nat) (hr:1≤f.rd∧f.rd≤128):
 Calls Tryz.prog 182 #[.agg #[.int .i64 f.bk,.int .i64 f.rd,.int .i64 f.dv,.slice da f.dk.length dc,.slice ta f.tk.length tc],e.ag] x.w fun o w'=>o= .returned (.bool (Y3 f e))∧∃y:A6 w,w'=y.w:=by
 obtain⟨d,q,a,t,k,b,p,r,i⟩:=e;have HE:=A2 (AW0 f d q a t k b p r i);have wd:wrap64 (f.rd-1)=f.rd-1:=IntWalk.wrap64_in _ ⟨by omega,by omega⟩;unfold Ev.ag;dsimp only;go_enter Tryz.func182,Tryz.ntmps182;go_upto_region 1 with fail;obtain⟨W,bx,y0,hW,hbx,-,B8,Hup,Hbx,HB0,HB1⟩:=W5 x [.int .i64 f.bk,.int .i64 f.rd,.int .i64 f.dv,.slice da f.dk.length dc,.slice ta f.tk.length tc] 24 [.int .i64 d,.int .i64 q,.int .i64 a,.int .i64 t,.int .i64 k,.int .i64 b,.int .i64 p,.int .i64 r,.int .i64 i] 63;rw[hW,hbx];clear hW hbx;obtain⟨D7,D9,E3,E5,F3,hf0⟩:=Z2 HB0;obtain⟨P3,Q8,V5,W0,X6,Z0,W2,Z7,Z8,hf1⟩:=j2 HB1;clear HB0 HB1;clear B8;obtain⟨q0,hq0⟩:=A6.refl y0.w;rw[hq0];clear hq0;have k7:=A6.cellTo ⟨y0,rfl⟩ Z7;have k8:=A6.cellTo ⟨y0,rfl⟩ Z8;refine K6 (by kernel_rfl) (by kernel_rfl) ?_;repeat(go_big_quiet_step(fail))
 refine wpQuiet_nil ?_;rintro _ ⟨z,rfl⟩;obtain⟨y2,h2⟩:=y0.trans z;rw[h2];clear h2 k7 k8 z q0;generalize(r == 0)=rB at *;generalize(i == 0)=iB at *;rcases(by omega:k=3∨k=4∨(k≠3∧k≠4))with rfl|rfl|⟨h1,h2⟩
 ·have HE0:=HE.out
  rw[if_pos rfl,if_pos (Or.inl rfl)]at HE0;have HE1:=A2 HE0;clear HE0 HE;have hA:(C4 r 0 (f.rd-1))=true∨(C4 r 0 (f.rd-1))=false:=by cases(C4 r 0 (f.rd-1))<;>simp
  have hB:(C4 i 1 1000000)=true∨(C4 i 1 1000000)=false:=by cases(C4 i 1 1000000)<;>simp
  rcases hA with hV|hV<;>rcases hB with hU|hU
  ·have HE2:=A2 (show Y3 f _ =true from by rw[HE1.out,hV,hU];rfl)
   clear HE1;have HV:=A2 hV;clear hV;have HU:=A2 hU;clear hU;go_wp2_with(first|(go_at_call 137;(with_reducible refine(E0 W _ r 0 (f.rd-1)).mono ?_);rintro _ _ ⟨rfl,y1,rfl⟩;rw[HV.out])|(go_at_call 137;(with_reducible refine(E0 W _ i 1 1000000).mono ?_);rintro _ _ ⟨rfl,y1,rfl⟩;rw[HU.out]));go_ret;exact⟨F9 HE2.out.symm,Hup.out _⟩
  ·have HE2:=A2 (show Y3 f _ =false from by rw[HE1.out,hV,hU];rfl)
   clear HE1;have HV:=A2 hV;clear hV;have HU:=A2 hU;clear hU;go_wp2_with(first|(go_at_call 137;(with_reducible refine(E0 W _ r 0 (f.rd-1)).mono ?_);rintro _ _ ⟨rfl,y1,rfl⟩;rw[HV.out])|(go_at_call 137;(with_reducible refine(E0 W _ i 1 1000000).mono ?_);rintro _ _ ⟨rfl,y1,rfl⟩;rw[HU.out]));go_ret;exact⟨F9 HE2.out.symm,Hup.out _⟩
  ·have HE2:=A2 (show Y3 f _ =false from by rw[HE1.out,hV,hU];rfl)
   clear HE1;have HV:=A2 hV;clear hV;have HU:=A2 hU;clear hU;go_wp2_with(first|(go_at_call 137;(with_reducible refine(E0 W _ r 0 (f.rd-1)).mono ?_);rintro _ _ ⟨rfl,y1,rfl⟩;rw[HV.out])|(go_at_call 137;(with_reducible refine(E0 W _ i 1 1000000).mono ?_);rintro _ _ ⟨rfl,y1,rfl⟩;rw[HU.out]));go_ret;exact⟨F9 HE2.out.symm,Hup.out _⟩
  ·have HE2:=A2 (show Y3 f _ =false from by rw[HE1.out,hV,hU];rfl)
   clear HE1;have HV:=A2 hV;clear hV;have HU:=A2 hU;clear hU;go_wp2_with(first|(go_at_call 137;(with_reducible refine(E0 W _ r 0 (f.rd-1)).mono ?_);rintro _ _ ⟨rfl,y1,rfl⟩;rw[HV.out])|(go_at_call 137;(with_reducible refine(E0 W _ i 1 1000000).mono ?_);rintro _ _ ⟨rfl,y1,rfl⟩;rw[HU.out]));go_ret;exact⟨F9 HE2.out.symm,Hup.out _⟩
 ·have HE0:=HE.out
  rw[if_neg (by decide),if_pos (Or.inr rfl)]at HE0;have HE1:=A2 HE0;clear HE0 HE;have hA:(rB)=true∨(rB)=false:=by cases(rB)<;>simp
  have hB:(C4 i 1 1000000)=true∨(C4 i 1 1000000)=false:=by cases(C4 i 1 1000000)<;>simp
  rcases hA with hV|hV<;>rcases hB with hU|hU
  ·have HE2:=A2 (show Y3 f _ =true from by rw[HE1.out,hV,hU];rfl)
   clear HE1;subst hV;have HU:=A2 hU;clear hU;go_wp2_with(go_at_call 137;(with_reducible refine(E0 W _ i 1 1000000).mono ?_);rintro _ _ ⟨rfl,y1,rfl⟩;rw[HU.out]);go_ret;exact⟨F9 HE2.out.symm,Hup.out _⟩
  ·have HE2:=A2 (show Y3 f _ =false from by rw[HE1.out,hV,hU];rfl)
   clear HE1;subst hV;have HU:=A2 hU;clear hU;go_wp2_with(go_at_call 137;(with_reducible refine(E0 W _ i 1 1000000).mono ?_);rintro _ _ ⟨rfl,y1,rfl⟩;rw[HU.out]);go_ret;exact⟨F9 HE2.out.symm,Hup.out _⟩
  ·have HE2:=A2 (show Y3 f _ =false from by rw[HE1.out,hV,hU];rfl)
   clear HE1;subst hV;have HU:=A2 hU;clear hU;go_wp2_with(go_at_call 137;(with_reducible refine(E0 W _ i 1 1000000).mono ?_);rintro _ _ ⟨rfl,y1,rfl⟩;rw[HU.out]);go_ret;exact⟨F9 HE2.out.symm,Hup.out _⟩
  ·have HE2:=A2 (show Y3 f _ =false from by rw[HE1.out,hV,hU];rfl)
   clear HE1;subst hV;have HU:=A2 hU;clear hU;go_wp2_with(go_at_call 137;(with_reducible refine(E0 W _ i 1 1000000).mono ?_);rintro _ _ ⟨rfl,y1,rfl⟩;rw[HU.out]);go_ret;exact⟨F9 HE2.out.symm,Hup.out _⟩
 ·have HE0:=HE.out
  rw[if_neg h1,if_neg (by omega)]at HE0;have HE1:=A2 HE0;clear HE0 HE;have hk3:(k == 3)=false:=by simpa using h1
  have hk4:(k == 4)=false:=by simpa using h2
  have hA:(rB)=true∨(rB)=false:=by cases(rB)<;>simp
  have hB:(iB)=true∨(iB)=false:=by cases(iB)<;>simp
  rcases hA with hV|hV<;>rcases hB with hU|hU
  ·have HE2:=A2 (show Y3 f _ =true from by rw[HE1.out,hV,hU];rfl)
   clear HE1;subst hV;subst hU;go_wp2_with fail;go_ret;exact⟨F9 HE2.out.symm,Hup.out _⟩
  ·have HE2:=A2 (show Y3 f _ =false from by rw[HE1.out,hV,hU];rfl)
   clear HE1;subst hV;subst hU;go_wp2_with fail;go_ret;exact⟨F9 HE2.out.symm,Hup.out _⟩
  ·have HE2:=A2 (show Y3 f _ =false from by rw[HE1.out,hV,hU];rfl)
   clear HE1;subst hV;subst hU;go_wp2_with fail;go_ret;exact⟨F9 HE2.out.symm,Hup.out _⟩
  ·have HE2:=A2 (show Y3 f _ =false from by rw[HE1.out,hV,hU];rfl)
   clear HE1;subst hV;subst hU;go_wp2_with fail;go_ret;exact⟨F9 HE2.out.symm,Hup.out _⟩
end
section
open Go.RowKit
theorem AW2 (f:D5) (d q a t k b p r i:Int):bK f ⟨d,q,a,t,k,b,p,r,i⟩=(if k=1 then decide (0≤p) && decide (p/32<f.dk.length) && decide (p % 32<B2 f.dk (p/32).toNat)else if k=2 then C4 p 0 63 else if k=7 then C4 p 0 ((f.tk.length:Int)-1)else decide (p=0)):=rfl
theorem AW3 (w:World) (x:A6 w) (f:D5) (e:Ev) (da ta:Option Addr) (dc tc:Nat) (hf:Y6 w f da ta) (hp:-9223372036854775808≤e.p∧e.p≤9223372036854775807):
 Calls Tryz.prog 181 #[.agg #[.int .i64 f.bk,.int .i64 f.rd,.int .i64 f.dv,.slice da f.dk.length dc,.slice ta f.tk.length tc],e.ag] x.w fun o w'=>o= .returned (.bool (bK f e))∧∃y:A6 w,w'=y.w:=by
 obtain⟨d,q,a,t,k,b,p,r,i⟩:=e;have HE:=A2 (AW2 f d q a t k b p r i);unfold Ev.ag;dsimp only at hp⊢;have HT0:=A2 hf.tl;have HD0:=A2 hf.d;clear hf;go_enter Tryz.func181,Tryz.ntmps181;go_upto_region 1 with fail;obtain⟨W,bx,y0,hW,hbx,-,B8,Hup,Hbx,HB0,HB1⟩:=W5 x [.int .i64 f.bk,.int .i64 f.rd,.int .i64 f.dv,.slice da f.dk.length dc,.slice ta f.tk.length tc] 24 [.int .i64 d,.int .i64 q,.int .i64 a,.int .i64 t,.int .i64 k,.int .i64 b,.int .i64 p,.int .i64 r,.int .i64 i] 63;rw[hW,hbx];clear hW hbx;obtain⟨D7,D9,E3,E5,F3,hf0⟩:=Z2 HB0;obtain⟨P3,Q8,V5,W0,X6,Z0,W2,Z7,Z8,hf1⟩:=j2 HB1;clear HB0 HB1;have HD:=A2 (O1.to HD0.out B8);clear B8 HD0;rcases(by omega:k=1∨k=2∨k=7∨(k≠1∧k≠2∧k≠7))with rfl|rfl|rfl|⟨h1,h2,h3⟩
 ·have HE0:=HE.out
  rw[if_pos rfl]at HE0;have HE1:=A2 HE0;clear HE0 HE;by_cases hp0:0≤p
  ·obtain⟨P,rfl⟩:∃P:Nat,p=(P:Int):=⟨p.toNat,by omega⟩
   go_upto_region 3 with fail;obtain⟨q0,hq0⟩:=A6.refl y0.w;rw[hq0];clear hq0;have k6:=A6.cellTo ⟨y0,rfl⟩ W2;refine K6 (by kernel_rfl) (by kernel_rfl) ?_;repeat(go_big_quiet_step(fail))
   refine wpQuiet_nil ?_;rintro _ ⟨z,rfl⟩;obtain⟨y2,h2⟩:=y0.trans z;rw[h2];clear h2 k6 z q0;obtain⟨u,hu⟩:∃u:Nat,u=P/32:=⟨_,rfl⟩
   obtain⟨v,hv⟩:∃v:Nat,v=P % 32:=⟨_,rfl⟩
   have e1:(P:Int)/32=(u:Int):=by omega
   have e2:(P:Int) % 32=(v:Int):=by omega
   have hv32:(v:Int)<32:=by omega
   have HE2:=HE1.out;rw[e1,e2,Int.toNat_natCast,decide_eq_true hp0,Bool.true_and]at HE2;rw[e1,e2];clear e1 e2 hu hv;replace HE1:=A2 HE2;clear HE2;have hp9:(P:Int)≥0:=hp0;by_cases hlt:u<f.dk.length
   ·obtain⟨b1,off1,rfl,_,_⟩:=HD.out u hlt
    have hcell:∀y:A6 W,y.w.cell? ⟨b1,off1+u,none⟩=some (.int .i64 (B2 f.dk u)):=A6.at HD.out u hlt;have hk0:(0:Int)≤(u:Int):=by omega
    have hkl:(u:Int)<(f.dk.length:Int):=by omega
    by_cases hc:(v:Int)<B2 f.dk u
    ·have HR:=A2 (show bK f _ =true from by rw[HE1.out,decide_eq_true hkl,decide_eq_true hc];rfl)
     clear HE1;go_wp2_with fail;go_ret;exact⟨F9 (by(try rw[HR.out]);first|done|rfl|exact decide_eq_true (by omega)),Hup.out _⟩
    ·have HR:=A2 (show bK f _ =false from by rw[HE1.out,decide_eq_true hkl,decide_eq_false hc];rfl)
     clear HE1;have hc':B2 f.dk u≤(v:Int):=by omega
     go_wp2_with fail;go_ret;exact⟨F9 (by(try rw[HR.out]);first|done|rfl|exact decide_eq_false (by omega)),Hup.out _⟩
   ·have hkl:(f.dk.length:Int)≤(u:Int):=by omega
    have HR:=A2 (show bK f _ =false from by rw[HE1.out,decide_eq_false (by omega)];rfl);clear HE1;go_wp2_with fail;go_ret;exact⟨F9 (by rw[HR.out]),Hup.out _⟩
  ·have HR:=A2 (show bK f _ =false from by rw[HE1.out,decide_eq_false hp0];rfl)
   clear HE1;go_upto_region 3 with fail;obtain⟨q0,hq0⟩:=A6.refl y0.w;rw[hq0];clear hq0;have k6:=A6.cellTo ⟨y0,rfl⟩ W2;refine K6 (by kernel_rfl) (by kernel_rfl) ?_;repeat(go_big_quiet_step(fail))
   refine wpQuiet_nil ?_;rintro _ ⟨z,rfl⟩;obtain⟨y2,h2⟩:=y0.trans z;rw[h2];clear h2 k6 z q0;generalize p.tdiv 32=u at *;generalize p.tmod 32=v at *;have hp1:p<0:=by omega
   go_wp2_with fail;go_ret;exact⟨F9 (by rw[HR.out]),Hup.out _⟩
 ·have HE0:=HE.out
  rw[if_neg (by decide),if_pos rfl]at HE0;have HE1:=A2 HE0;clear HE0 HE;go_wp2_with(go_at_call 137;refine(E0 W _ _ _ _).mono ?_;rintro _ _ ⟨rfl,y1,rfl⟩;rw[←HE1.out]);go_ret;exact⟨rfl,Hup.out _⟩
 ·have HE0:=HE.out
  rw[if_neg (by decide),if_neg (by decide),if_pos rfl]at HE0;have HE1:=A2 HE0;clear HE0 HE;have wt:wrap64 ((f.tk.length:Int)-1)=(f.tk.length:Int)-1:=by have:=HT0.out;exact IntWalk.wrap64_in _ ⟨by omega,by omega⟩
  go_wp2_with(go_at_call 137;refine(E0 W _ p 0 ((f.tk.length:Int)-1)).mono ?_;rintro _ _ ⟨rfl,y1,rfl⟩;rw[←HE1.out]);go_ret;exact⟨rfl,Hup.out _⟩
 ·have HE0:=HE.out
  rw[if_neg h1,if_neg h2,if_neg h3]at HE0;have HE1:=A2 HE0;clear HE0 HE;have hk1:(k == 1)=false:=by simpa using h1
  have hk2:(k == 2)=false:=by simpa using h2
  have hk7:(k == 7)=false:=by simpa using h3
  go_wp2_with fail;go_ret;exact⟨F9 (by rw[HE1.out];first|rfl|(cases hq:(p == 0)<;>simp_all)),Hup.out _⟩
end
section
open Go.RowKit
theorem Al4 {f:D5} (h:H9 f=0):(1≤f.bk∧f.bk≤128)∧(1≤f.rd∧f.rd≤128)∧(1≤f.dv∧f.dv≤256):=by
 cases hA:C4 f.bk 1 128 with
 |false=>rw[kU (.inl hA)]at h;cases h
 |true=>
  cases hB:C4 f.rd 1 128 with
  |false=>rw[kU (.inr (.inl hB))]at h;cases h
  |true=>
   cases hC:C4 f.dv 1 256 with
   |false=>rw[kU (.inr (.inr hC))]at h;cases h
   |true=>
    unfold C4 at hA hB hC
    simp only[Bool.and_eq_true,decide_eq_true_eq]at hA hB hC
    exact⟨hA,hB,hC⟩
def bM (f:D5) (e:Ev):Bool:=C4 e.d 0 (f.dv-1) && C4 e.q 1 1048576 && decide (0≤e.a) && decide (e.a≤e.t) && decide (e.t≤4294943999)
theorem AW4 {f:D5} (e:Ev) (h:H9 f=0):p8 f e=if !bM f e then 1 else if !C4 e.k 1 10 then 14 else if !(C4 e.b 0 (f.bk-1)) || (decide (e.k=10) && decide (e.b≠0))then 1 else if !bK f e then 7 else if !Y3 f e then 1 else 0:=by
 unfold p8 bM;rw[if_neg (by omega)]
theorem AW5 (w:World) (x:A6 w) (f:D5) (e:Ev) (da ta:Option Addr) (dc tc:Nat) (hf:Y6 w f da ta) (hp:-9223372036854775808≤e.p∧e.p≤9223372036854775807):
 Calls Tryz.prog 123 #[.agg #[.int .i64 f.bk,.int .i64 f.rd,.int .i64 f.dv,.slice da f.dk.length dc,.slice ta f.tk.length tc],e.ag] x.w fun o w'=>o= .returned (.int .i64 (p8 f e))∧∃y:A6 w,w'=y.w:=by
 obtain⟨d,q,a,t,k,b,p,r,i⟩:=e;unfold Ev.ag;dsimp only at hp⊢;have HF0:=A2 hf;clear hf;have HP:=A2 hp;clear hp;go_enter Tryz.func123,Tryz.ntmps123;go_upto_region 1 with fail;obtain⟨W,bx,y0,hW,hbx,-,B8,Hup,Hbx,HB0,HB1⟩:=W5 x [.int .i64 f.bk,.int .i64 f.rd,.int .i64 f.dv,.slice da f.dk.length dc,.slice ta f.tk.length tc] 24 [.int .i64 d,.int .i64 q,.int .i64 a,.int .i64 t,.int .i64 k,.int .i64 b,.int .i64 p,.int .i64 r,.int .i64 i] 63;rw[hW,hbx];clear hW hbx;obtain⟨D7,D9,E3,E5,F3,hf0⟩:=Z2 HB0;obtain⟨P3,Q8,V5,W0,X6,Z0,W2,Z7,Z8,hf1⟩:=j2 HB1;clear HB0 HB1;have FL:∀x:A6 W,Calls Tryz.prog 95 #[.agg #[.int .i64 f.bk,.int .i64 f.rd,.int .i64 f.dv,.slice da f.dk.length dc,.slice ta f.tk.length tc]] x.w fun o w'=>o= .returned (.int .i64 (H9 f))∧∃y:A6 W,w'=y.w:=fun x=>wL W x f da ta dc tc (HF0.out.to B8);have PL:∀x:A6 W,Calls Tryz.prog 181 #[.agg #[.int .i64 f.bk,.int .i64 f.rd,.int .i64 f.dv,.slice da f.dk.length dc,.slice ta f.tk.length tc],.agg #[.int .i64 d,.int .i64 q,.int .i64 a,.int .i64 t,.int .i64 k,.int .i64 b,.int .i64 p,.int .i64 r,.int .i64 i]] x.w fun o w'=>o= .returned (.bool (bK f ⟨d,q,a,t,k,b,p,r,i⟩))∧∃y:A6 W,w'=y.w:=fun x=>AW3 W x f ⟨d,q,a,t,k,b,p,r,i⟩ da ta dc tc (HF0.out.to B8) HP.out;clear B8;by_cases h0:H9 f=0
 case neg=>
  have HR:=A2 (show p8 f ⟨d,q,a,t,k,b,p,r,i⟩=H9 f from by unfold p8;rw[if_pos h0]);have H0:=A2 (show H9 f=H9 f from rfl);have hb:(H9 f != 0)=true:=by simpa using h0
  go_wp2_with(go_at_call 95;(with_reducible refine(FL _).mono ?_);rintro _ _ ⟨rfl,y1,rfl⟩);go_ret;exact⟨D1 HR.out.symm,Hup.out _⟩
 obtain⟨hbk,hrd,hdv⟩:=Al4 h0;have NM:∀x:A6 W,Calls Tryz.prog 182 #[.agg #[.int .i64 f.bk,.int .i64 f.rd,.int .i64 f.dv,.slice da f.dk.length dc,.slice ta f.tk.length tc],.agg #[.int .i64 d,.int .i64 q,.int .i64 a,.int .i64 t,.int .i64 k,.int .i64 b,.int .i64 p,.int .i64 r,.int .i64 i]] x.w fun o w'=>o= .returned (.bool (Y3 f ⟨d,q,a,t,k,b,p,r,i⟩))∧∃y:A6 W,w'=y.w:=fun x=>AW1 W x f ⟨d,q,a,t,k,b,p,r,i⟩ da ta dc tc hrd;have w1:wrap64 (f.dv-1)=f.dv-1:=IntWalk.wrap64_in _ ⟨by omega,by omega⟩;have w2:wrap64 (f.bk-1)=f.bk-1:=IntWalk.wrap64_in _ ⟨by omega,by omega⟩;have HE:=A2 (AW4 ⟨d,q,a,t,k,b,p,r,i⟩ h0);have H0:=A2 h0;clear h0 hbk hrd hdv
 cases hA:C4 d 0 (f.dv-1)with
 |false=>
  have hc1:bM f ⟨d,q,a,t,k,b,p,r,i⟩=false:=by unfold bM;rw[hA];rfl
  have HA:=A2 hA;clear hA
  have HR:=A2 (HE.out.trans (if_pos (by rw[hc1];rfl)))
  clear HE
  go_wp2_with(first
   |(go_at_call 95;(with_reducible refine(FL _).mono ?_);rintro _ _ ⟨rfl,y1,rfl⟩;rw[H0.out])
   |(go_at_call 137;(with_reducible refine(E0 W _ d 0 (f.dv-1)).mono ?_);rintro _ _ ⟨rfl,y1,rfl⟩;rw[HA.out])
   |(go_at_call 137;(with_reducible refine(E0 W _ q 1 1048576).mono ?_);rintro _ _ ⟨rfl,y1,rfl⟩;rw[HB.out])
   |(go_at_call 137;(with_reducible refine(E0 W _ k 1 10).mono ?_);rintro _ _ ⟨rfl,y1,rfl⟩;rw[HC.out])
   |(go_at_call 137;(with_reducible refine(E0 W _ b 0 (f.bk-1)).mono ?_);rintro _ _ ⟨rfl,y1,rfl⟩;rw[HD.out])
   |(go_at_call 181;(with_reducible refine(PL _).mono ?_);rintro _ _ ⟨rfl,y1,rfl⟩;rw[HG.out])
   |(go_at_call 182;(with_reducible refine(NM _).mono ?_);rintro _ _ ⟨rfl,y1,rfl⟩;rw[HN.out]))
  go_ret
  exact⟨D1 HR.out.symm,Hup.out _⟩
 |true=>
 cases hB:C4 q 1 1048576 with
 |false=>
  have hc1:bM f ⟨d,q,a,t,k,b,p,r,i⟩=false:=by unfold bM;rw[hA,hB];rfl
  have HA:=A2 hA;have HB:=A2 hB;clear hA hB
  have HR:=A2 (HE.out.trans (if_pos (by rw[hc1];rfl)))
  clear HE
  go_wp2_with(first
   |(go_at_call 95;(with_reducible refine(FL _).mono ?_);rintro _ _ ⟨rfl,y1,rfl⟩;rw[H0.out])
   |(go_at_call 137;(with_reducible refine(E0 W _ d 0 (f.dv-1)).mono ?_);rintro _ _ ⟨rfl,y1,rfl⟩;rw[HA.out])
   |(go_at_call 137;(with_reducible refine(E0 W _ q 1 1048576).mono ?_);rintro _ _ ⟨rfl,y1,rfl⟩;rw[HB.out])
   |(go_at_call 137;(with_reducible refine(E0 W _ k 1 10).mono ?_);rintro _ _ ⟨rfl,y1,rfl⟩;rw[HC.out])
   |(go_at_call 137;(with_reducible refine(E0 W _ b 0 (f.bk-1)).mono ?_);rintro _ _ ⟨rfl,y1,rfl⟩;rw[HD.out])
   |(go_at_call 181;(with_reducible refine(PL _).mono ?_);rintro _ _ ⟨rfl,y1,rfl⟩;rw[HG.out])
   |(go_at_call 182;(with_reducible refine(NM _).mono ?_);rintro _ _ ⟨rfl,y1,rfl⟩;rw[HN.out]))
  go_ret
  exact⟨D1 HR.out.symm,Hup.out _⟩
 |true=>
 have HA:=A2 hA;have HB:=A2 hB;clear hA hB;rcases(by omega:a<0∨(0≤a∧t<a)∨(0≤a∧a≤t∧4294943999<t)∨(0≤a∧a≤t∧t≤4294943999))with h1|⟨h1,h2⟩|⟨h1,h2,h3⟩|⟨h1,h2,h3⟩
 ·have hc1:bM f ⟨d,q,a,t,k,b,p,r,i⟩=false:=by unfold bM;dsimp only;rw[decide_eq_false (show¬0≤a by omega)];simp
  have HR:=A2 (HE.out.trans (if_pos (by rw[hc1];rfl)));clear HE;go_wp2_with(first
   |(go_at_call 95;(with_reducible refine(FL _).mono ?_);rintro _ _ ⟨rfl,y1,rfl⟩;rw[H0.out])
   |(go_at_call 137;(with_reducible refine(E0 W _ d 0 (f.dv-1)).mono ?_);rintro _ _ ⟨rfl,y1,rfl⟩;rw[HA.out])
   |(go_at_call 137;(with_reducible refine(E0 W _ q 1 1048576).mono ?_);rintro _ _ ⟨rfl,y1,rfl⟩;rw[HB.out])
   |(go_at_call 137;(with_reducible refine(E0 W _ k 1 10).mono ?_);rintro _ _ ⟨rfl,y1,rfl⟩;rw[HC.out])
   |(go_at_call 137;(with_reducible refine(E0 W _ b 0 (f.bk-1)).mono ?_);rintro _ _ ⟨rfl,y1,rfl⟩;rw[HD.out])
   |(go_at_call 181;(with_reducible refine(PL _).mono ?_);rintro _ _ ⟨rfl,y1,rfl⟩;rw[HG.out])
   |(go_at_call 182;(with_reducible refine(NM _).mono ?_);rintro _ _ ⟨rfl,y1,rfl⟩;rw[HN.out]))
  go_ret;exact⟨D1 HR.out.symm,Hup.out _⟩
 ·have hc1:bM f ⟨d,q,a,t,k,b,p,r,i⟩=false:=by unfold bM;dsimp only;rw[decide_eq_false (show¬a≤t by omega)];simp
  have HR:=A2 (HE.out.trans (if_pos (by rw[hc1];rfl)));clear HE;go_wp2_with(first
   |(go_at_call 95;(with_reducible refine(FL _).mono ?_);rintro _ _ ⟨rfl,y1,rfl⟩;rw[H0.out])
   |(go_at_call 137;(with_reducible refine(E0 W _ d 0 (f.dv-1)).mono ?_);rintro _ _ ⟨rfl,y1,rfl⟩;rw[HA.out])
   |(go_at_call 137;(with_reducible refine(E0 W _ q 1 1048576).mono ?_);rintro _ _ ⟨rfl,y1,rfl⟩;rw[HB.out])
   |(go_at_call 137;(with_reducible refine(E0 W _ k 1 10).mono ?_);rintro _ _ ⟨rfl,y1,rfl⟩;rw[HC.out])
   |(go_at_call 137;(with_reducible refine(E0 W _ b 0 (f.bk-1)).mono ?_);rintro _ _ ⟨rfl,y1,rfl⟩;rw[HD.out])
   |(go_at_call 181;(with_reducible refine(PL _).mono ?_);rintro _ _ ⟨rfl,y1,rfl⟩;rw[HG.out])
   |(go_at_call 182;(with_reducible refine(NM _).mono ?_);rintro _ _ ⟨rfl,y1,rfl⟩;rw[HN.out]))
  go_ret;exact⟨D1 HR.out.symm,Hup.out _⟩
 ·have hc1:bM f ⟨d,q,a,t,k,b,p,r,i⟩=false:=by unfold bM;dsimp only;rw[decide_eq_false (show¬t≤4294943999 by omega)];simp
  have HR:=A2 (HE.out.trans (if_pos (by rw[hc1];rfl)));clear HE;go_wp2_with(first
   |(go_at_call 95;(with_reducible refine(FL _).mono ?_);rintro _ _ ⟨rfl,y1,rfl⟩;rw[H0.out])
   |(go_at_call 137;(with_reducible refine(E0 W _ d 0 (f.dv-1)).mono ?_);rintro _ _ ⟨rfl,y1,rfl⟩;rw[HA.out])
   |(go_at_call 137;(with_reducible refine(E0 W _ q 1 1048576).mono ?_);rintro _ _ ⟨rfl,y1,rfl⟩;rw[HB.out])
   |(go_at_call 137;(with_reducible refine(E0 W _ k 1 10).mono ?_);rintro _ _ ⟨rfl,y1,rfl⟩;rw[HC.out])
   |(go_at_call 137;(with_reducible refine(E0 W _ b 0 (f.bk-1)).mono ?_);rintro _ _ ⟨rfl,y1,rfl⟩;rw[HD.out])
   |(go_at_call 181;(with_reducible refine(PL _).mono ?_);rintro _ _ ⟨rfl,y1,rfl⟩;rw[HG.out])
   |(go_at_call 182;(with_reducible refine(NM _).mono ?_);rintro _ _ ⟨rfl,y1,rfl⟩;rw[HN.out]))
  go_ret;exact⟨D1 HR.out.symm,Hup.out _⟩
 have hc1:bM f ⟨d,q,a,t,k,b,p,r,i⟩=true:=by unfold bM;dsimp only;rw[HA.out,HB.out,decide_eq_true h1,decide_eq_true h2,decide_eq_true h3];rfl
 have HE2:=A2 (HE.out.trans (if_neg (by rw[hc1];decide)));clear HE hc1;replace HE:=HE2;clear HE2
 cases hC:C4 k 1 10 with
 |false=>
  have HC:=A2 hC;clear hC
  have HR:=A2 (HE.out.trans (if_pos (by dsimp only;rw[HC.out];rfl)))
  clear HE
  go_wp2_with(first
   |(go_at_call 95;(with_reducible refine(FL _).mono ?_);rintro _ _ ⟨rfl,y1,rfl⟩;rw[H0.out])
   |(go_at_call 137;(with_reducible refine(E0 W _ d 0 (f.dv-1)).mono ?_);rintro _ _ ⟨rfl,y1,rfl⟩;rw[HA.out])
   |(go_at_call 137;(with_reducible refine(E0 W _ q 1 1048576).mono ?_);rintro _ _ ⟨rfl,y1,rfl⟩;rw[HB.out])
   |(go_at_call 137;(with_reducible refine(E0 W _ k 1 10).mono ?_);rintro _ _ ⟨rfl,y1,rfl⟩;rw[HC.out])
   |(go_at_call 137;(with_reducible refine(E0 W _ b 0 (f.bk-1)).mono ?_);rintro _ _ ⟨rfl,y1,rfl⟩;rw[HD.out])
   |(go_at_call 181;(with_reducible refine(PL _).mono ?_);rintro _ _ ⟨rfl,y1,rfl⟩;rw[HG.out])
   |(go_at_call 182;(with_reducible refine(NM _).mono ?_);rintro _ _ ⟨rfl,y1,rfl⟩;rw[HN.out]))
  go_ret
  exact⟨D1 HR.out.symm,Hup.out _⟩
 |true=>
 have HE2:=A2 (HE.out.trans (if_neg (by dsimp only;rw[hC];decide)));clear HE;replace HE:=HE2;clear HE2;have HC:=A2 hC;clear hC
 cases hD:C4 b 0 (f.bk-1)with
 |false=>
  have HD:=A2 hD;clear hD
  have HR:=A2 (HE.out.trans (if_pos (by dsimp only;rw[HD.out];rfl)))
  clear HE
  go_wp2_with(first
   |(go_at_call 95;(with_reducible refine(FL _).mono ?_);rintro _ _ ⟨rfl,y1,rfl⟩;rw[H0.out])
   |(go_at_call 137;(with_reducible refine(E0 W _ d 0 (f.dv-1)).mono ?_);rintro _ _ ⟨rfl,y1,rfl⟩;rw[HA.out])
   |(go_at_call 137;(with_reducible refine(E0 W _ q 1 1048576).mono ?_);rintro _ _ ⟨rfl,y1,rfl⟩;rw[HB.out])
   |(go_at_call 137;(with_reducible refine(E0 W _ k 1 10).mono ?_);rintro _ _ ⟨rfl,y1,rfl⟩;rw[HC.out])
   |(go_at_call 137;(with_reducible refine(E0 W _ b 0 (f.bk-1)).mono ?_);rintro _ _ ⟨rfl,y1,rfl⟩;rw[HD.out])
   |(go_at_call 181;(with_reducible refine(PL _).mono ?_);rintro _ _ ⟨rfl,y1,rfl⟩;rw[HG.out])
   |(go_at_call 182;(with_reducible refine(NM _).mono ?_);rintro _ _ ⟨rfl,y1,rfl⟩;rw[HN.out]))
  go_ret
  exact⟨D1 HR.out.symm,Hup.out _⟩
 |true=>
 have HD:=A2 hD;clear hD;rcases(by omega:(k=10∧b≠0)∨(k=10∧b=0)∨k≠10)with⟨h4,h5⟩|⟨h4,h5⟩|h4
 ·have hk:(k == 10)=true:=by simpa using h4
  have hb:(b != 0)=true:=by simpa using h5
  have H4:=A2 h4;have H5:=A2 h5;clear h4 h5;have HR:=A2 (HE.out.trans (if_pos (by dsimp only;rw[decide_eq_true H4.out,decide_eq_true H5.out];simp)));clear HE;go_wp2_with(first
   |(go_at_call 95;(with_reducible refine(FL _).mono ?_);rintro _ _ ⟨rfl,y1,rfl⟩;rw[H0.out])
   |(go_at_call 137;(with_reducible refine(E0 W _ d 0 (f.dv-1)).mono ?_);rintro _ _ ⟨rfl,y1,rfl⟩;rw[HA.out])
   |(go_at_call 137;(with_reducible refine(E0 W _ q 1 1048576).mono ?_);rintro _ _ ⟨rfl,y1,rfl⟩;rw[HB.out])
   |(go_at_call 137;(with_reducible refine(E0 W _ k 1 10).mono ?_);rintro _ _ ⟨rfl,y1,rfl⟩;rw[HC.out])
   |(go_at_call 137;(with_reducible refine(E0 W _ b 0 (f.bk-1)).mono ?_);rintro _ _ ⟨rfl,y1,rfl⟩;rw[HD.out])
   |(go_at_call 181;(with_reducible refine(PL _).mono ?_);rintro _ _ ⟨rfl,y1,rfl⟩;rw[HG.out])
   |(go_at_call 182;(with_reducible refine(NM _).mono ?_);rintro _ _ ⟨rfl,y1,rfl⟩;rw[HN.out]))
  go_ret;exact⟨D1 HR.out.symm,Hup.out _⟩
 ·have hk:(k == 10)=true:=by simpa using h4
  have hb:(b != 0)=false:=by simpa using h5
  have HE2:=A2 (HE.out.trans (if_neg (by dsimp only;rw[HD.out,decide_eq_false (show¬b≠0 by omega)];simp)));clear HE h4 h5;replace HE:=HE2;clear HE2
  cases hG:bK f ⟨d,q,a,t,k,b,p,r,i⟩with
  |false=>
   have HG:=A2 hG;clear hG
   have HR:=A2 (HE.out.trans (if_pos (by rw[HG.out];rfl)))
   clear HE
   go_wp2_with(first
    |(go_at_call 95;(with_reducible refine(FL _).mono ?_);rintro _ _ ⟨rfl,y1,rfl⟩;rw[H0.out])
    |(go_at_call 137;(with_reducible refine(E0 W _ d 0 (f.dv-1)).mono ?_);rintro _ _ ⟨rfl,y1,rfl⟩;rw[HA.out])
    |(go_at_call 137;(with_reducible refine(E0 W _ q 1 1048576).mono ?_);rintro _ _ ⟨rfl,y1,rfl⟩;rw[HB.out])
    |(go_at_call 137;(with_reducible refine(E0 W _ k 1 10).mono ?_);rintro _ _ ⟨rfl,y1,rfl⟩;rw[HC.out])
    |(go_at_call 137;(with_reducible refine(E0 W _ b 0 (f.bk-1)).mono ?_);rintro _ _ ⟨rfl,y1,rfl⟩;rw[HD.out])
    |(go_at_call 181;(with_reducible refine(PL _).mono ?_);rintro _ _ ⟨rfl,y1,rfl⟩;rw[HG.out])
    |(go_at_call 182;(with_reducible refine(NM _).mono ?_);rintro _ _ ⟨rfl,y1,rfl⟩;rw[HN.out]))
   go_ret
   exact⟨D1 HR.out.symm,Hup.out _⟩
  |true=>
  have HE2:=A2 (HE.out.trans (if_neg (by rw[hG];decide)));clear HE;replace HE:=HE2;clear HE2;have HG:=A2 hG;clear hG
  cases hN:Y3 f ⟨d,q,a,t,k,b,p,r,i⟩with
  |false=>
   have HN:=A2 hN;clear hN
   have HR:=A2 (HE.out.trans (if_pos (by rw[HN.out];rfl)))
   clear HE
   go_wp2_with(first
    |(go_at_call 95;(with_reducible refine(FL _).mono ?_);rintro _ _ ⟨rfl,y1,rfl⟩;rw[H0.out])
    |(go_at_call 137;(with_reducible refine(E0 W _ d 0 (f.dv-1)).mono ?_);rintro _ _ ⟨rfl,y1,rfl⟩;rw[HA.out])
    |(go_at_call 137;(with_reducible refine(E0 W _ q 1 1048576).mono ?_);rintro _ _ ⟨rfl,y1,rfl⟩;rw[HB.out])
    |(go_at_call 137;(with_reducible refine(E0 W _ k 1 10).mono ?_);rintro _ _ ⟨rfl,y1,rfl⟩;rw[HC.out])
    |(go_at_call 137;(with_reducible refine(E0 W _ b 0 (f.bk-1)).mono ?_);rintro _ _ ⟨rfl,y1,rfl⟩;rw[HD.out])
    |(go_at_call 181;(with_reducible refine(PL _).mono ?_);rintro _ _ ⟨rfl,y1,rfl⟩;rw[HG.out])
    |(go_at_call 182;(with_reducible refine(NM _).mono ?_);rintro _ _ ⟨rfl,y1,rfl⟩;rw[HN.out]))
   go_ret
   exact⟨D1 HR.out.symm,Hup.out _⟩
  |true=>
   have HN:=A2 hN;clear hN
   have HR:=A2 (HE.out.trans (if_neg (by rw[HN.out];decide)))
   clear HE
   go_wp2_with(first
    |(go_at_call 95;(with_reducible refine(FL _).mono ?_);rintro _ _ ⟨rfl,y1,rfl⟩;rw[H0.out])
    |(go_at_call 137;(with_reducible refine(E0 W _ d 0 (f.dv-1)).mono ?_);rintro _ _ ⟨rfl,y1,rfl⟩;rw[HA.out])
    |(go_at_call 137;(with_reducible refine(E0 W _ q 1 1048576).mono ?_);rintro _ _ ⟨rfl,y1,rfl⟩;rw[HB.out])
    |(go_at_call 137;(with_reducible refine(E0 W _ k 1 10).mono ?_);rintro _ _ ⟨rfl,y1,rfl⟩;rw[HC.out])
    |(go_at_call 137;(with_reducible refine(E0 W _ b 0 (f.bk-1)).mono ?_);rintro _ _ ⟨rfl,y1,rfl⟩;rw[HD.out])
    |(go_at_call 181;(with_reducible refine(PL _).mono ?_);rintro _ _ ⟨rfl,y1,rfl⟩;rw[HG.out])
    |(go_at_call 182;(with_reducible refine(NM _).mono ?_);rintro _ _ ⟨rfl,y1,rfl⟩;rw[HN.out]))
   go_ret
   exact⟨D1 HR.out.symm,Hup.out _⟩
 ·have hk:(k == 10)=false:=by simpa using h4
  have HE2:=A2 (HE.out.trans (if_neg (by dsimp only;rw[HD.out,decide_eq_false h4];simp)));clear HE;replace HE:=HE2;clear HE2
  cases hG:bK f ⟨d,q,a,t,k,b,p,r,i⟩with
  |false=>
   have HG:=A2 hG;clear hG
   have HR:=A2 (HE.out.trans (if_pos (by rw[HG.out];rfl)))
   clear HE
   go_wp2_with(first
    |(go_at_call 95;(with_reducible refine(FL _).mono ?_);rintro _ _ ⟨rfl,y1,rfl⟩;rw[H0.out])
    |(go_at_call 137;(with_reducible refine(E0 W _ d 0 (f.dv-1)).mono ?_);rintro _ _ ⟨rfl,y1,rfl⟩;rw[HA.out])
    |(go_at_call 137;(with_reducible refine(E0 W _ q 1 1048576).mono ?_);rintro _ _ ⟨rfl,y1,rfl⟩;rw[HB.out])
    |(go_at_call 137;(with_reducible refine(E0 W _ k 1 10).mono ?_);rintro _ _ ⟨rfl,y1,rfl⟩;rw[HC.out])
    |(go_at_call 137;(with_reducible refine(E0 W _ b 0 (f.bk-1)).mono ?_);rintro _ _ ⟨rfl,y1,rfl⟩;rw[HD.out])
    |(go_at_call 181;(with_reducible refine(PL _).mono ?_);rintro _ _ ⟨rfl,y1,rfl⟩;rw[HG.out])
    |(go_at_call 182;(with_reducible refine(NM _).mono ?_);rintro _ _ ⟨rfl,y1,rfl⟩;rw[HN.out]))
   go_ret
   exact⟨D1 HR.out.symm,Hup.out _⟩
  |true=>
  have HE2:=A2 (HE.out.trans (if_neg (by rw[hG];decide)));clear HE;replace HE:=HE2;clear HE2;have HG:=A2 hG;clear hG
  cases hN:Y3 f ⟨d,q,a,t,k,b,p,r,i⟩with
  |false=>
   have HN:=A2 hN;clear hN
   have HR:=A2 (HE.out.trans (if_pos (by rw[HN.out];rfl)))
   clear HE
   go_wp2_with(first
    |(go_at_call 95;(with_reducible refine(FL _).mono ?_);rintro _ _ ⟨rfl,y1,rfl⟩;rw[H0.out])
    |(go_at_call 137;(with_reducible refine(E0 W _ d 0 (f.dv-1)).mono ?_);rintro _ _ ⟨rfl,y1,rfl⟩;rw[HA.out])
    |(go_at_call 137;(with_reducible refine(E0 W _ q 1 1048576).mono ?_);rintro _ _ ⟨rfl,y1,rfl⟩;rw[HB.out])
    |(go_at_call 137;(with_reducible refine(E0 W _ k 1 10).mono ?_);rintro _ _ ⟨rfl,y1,rfl⟩;rw[HC.out])
    |(go_at_call 137;(with_reducible refine(E0 W _ b 0 (f.bk-1)).mono ?_);rintro _ _ ⟨rfl,y1,rfl⟩;rw[HD.out])
    |(go_at_call 181;(with_reducible refine(PL _).mono ?_);rintro _ _ ⟨rfl,y1,rfl⟩;rw[HG.out])
    |(go_at_call 182;(with_reducible refine(NM _).mono ?_);rintro _ _ ⟨rfl,y1,rfl⟩;rw[HN.out]))
   go_ret
   exact⟨D1 HR.out.symm,Hup.out _⟩
  |true=>
   have HN:=A2 hN;clear hN
   have HR:=A2 (HE.out.trans (if_neg (by rw[HN.out];decide)))
   clear HE
   go_wp2_with(first
    |(go_at_call 95;(with_reducible refine(FL _).mono ?_);rintro _ _ ⟨rfl,y1,rfl⟩;rw[H0.out])
    |(go_at_call 137;(with_reducible refine(E0 W _ d 0 (f.dv-1)).mono ?_);rintro _ _ ⟨rfl,y1,rfl⟩;rw[HA.out])
    |(go_at_call 137;(with_reducible refine(E0 W _ q 1 1048576).mono ?_);rintro _ _ ⟨rfl,y1,rfl⟩;rw[HB.out])
    |(go_at_call 137;(with_reducible refine(E0 W _ k 1 10).mono ?_);rintro _ _ ⟨rfl,y1,rfl⟩;rw[HC.out])
    |(go_at_call 137;(with_reducible refine(E0 W _ b 0 (f.bk-1)).mono ?_);rintro _ _ ⟨rfl,y1,rfl⟩;rw[HD.out])
    |(go_at_call 181;(with_reducible refine(PL _).mono ?_);rintro _ _ ⟨rfl,y1,rfl⟩;rw[HG.out])
    |(go_at_call 182;(with_reducible refine(NM _).mono ?_);rintro _ _ ⟨rfl,y1,rfl⟩;rw[HN.out]))
   go_ret
   exact⟨D1 HR.out.symm,Hup.out _⟩
end
end Go.Proofs.YtmmlmhnjjfnpnaaGreat
