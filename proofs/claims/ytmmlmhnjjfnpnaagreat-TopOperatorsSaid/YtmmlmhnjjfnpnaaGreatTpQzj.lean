/- Texts that belong together. -/
import Derived.Test.YtmmlmhnjjfnpnaaGreatTpQc
import Derived.Test.YtmmlmhnjjfnpnaaGreatTpQzi
import Derived.Test.YtmmlmhnjjfnpnaaGreatProg
import Derived.IntWalk
import Derived.BigQuiet
set_option linter.all false
namespace Go.Proofs.YtmmlmhnjjfnpnaaGreat
set_option maxRecDepth 200000
set_option maxHeartbeats 64000000
section
open Go.RowKit
theorem V4 (w:World) (x:A7 w) (n lo hi:Int):
 Calls Tryz.prog 200 #[.int .i64 n,.int .i64 lo,.int .i64 hi] x.w fun o w'=>o= .returned (.bool (C6 n lo hi))∧∃y:A7 w,w'=y.w:=by
 rcases(by omega:n<lo∨(lo≤n∧hi<n)∨(lo≤n∧n≤hi))with h1|⟨h1,h2⟩|⟨h1,h2⟩
 ·have Hv:=A3 (show C6 n lo hi=false by unfold C6;rw[decide_eq_false (show¬lo≤n by omega)];rfl)
  go_enter Tryz.func200,Tryz.ntmps200;go_wp2_with fail;go_ret;exact⟨I1 Hv.out.symm,x,rfl⟩
 ·have Hv:=A3 (show C6 n lo hi=false by unfold C6;rw[decide_eq_false (show¬n≤hi by omega),Bool.and_false])
  go_enter Tryz.func200,Tryz.ntmps200;go_wp2_with fail;go_ret;exact⟨I1 (by first|exact Hv.out.symm|(rw[Hv.out];exact decide_eq_false (by omega))),x,rfl⟩
 ·have Hv:=A3 (show C6 n lo hi=true by unfold C6;rw[decide_eq_true h1,decide_eq_true h2];rfl)
  go_enter Tryz.func200,Tryz.ntmps200;go_wp2_with fail;go_ret;exact⟨I1 (by first|exact Hv.out.symm|(rw[Hv.out];exact decide_eq_true (by omega))),x,rfl⟩
theorem nE (w:World) (x:A7 w) (t:K2):
 Calls Tryz.prog 139 #[.agg #[.int .i64 t.fr,.int .i64 t.un,.int .i64 t.st,.int .i64 t.fe,.int .i64 t.pr,.int .i64 t.pa]] x.w fun o w'=>o= .returned (.bool (O1 t))∧∃y:A7 w,w'=y.w:=by
 have HE:=A3 (show O1 t=(C6 t.fr 0 4294943999 && C6 t.un 0 1000000 && C6 t.pr 0 1000000 && C6 t.pa 0 1000000 && C6 t.st 1 86400 && C6 t.fe 0 86400)from rfl);obtain⟨fr,un,st,fe,pr,pa⟩:=t;dsimp only at HE⊢;go_enter Tryz.func139,Tryz.ntmps139;go_upto_region 1 with fail;obtain⟨W,bx,y0,hW,hbx,-,B8,Hup,Hbx,HB0⟩:=K7 x [.int .i64 fr,.int .i64 un,.int .i64 st,.int .i64 fe,.int .i64 pr,.int .i64 pa] 117;rw[hW,hbx];clear hW hbx;obtain⟨D9,E7,F9,G0,G8,K4,hf0⟩:=Z8 HB0;clear HB0;clear B8
 cases hfr:C6 fr 0 4294943999 with
 |false=>
  have HR:=A3 (show O1 _ =false from by rw[HE.out,hfr];simp)
  have Hfr:=A3 hfr;clear hfr HE
  go_wp2_with(first|(go_at_call 200;(with_reducible refine(V4 W _ fr 0 4294943999).mono ?_);rintro _ _ ⟨rfl,y1,rfl⟩;rw[Hfr.out]))
  go_ret
  exact⟨I1 HR.out.symm,Hup.out _⟩
 |true=>
 have Hfr:=A3 hfr;clear hfr
 cases hun:C6 un 0 1000000 with
 |false=>
  have HR:=A3 (show O1 _ =false from by rw[HE.out,hun];simp)
  have Hun:=A3 hun;clear hun HE
  go_wp2_with(first|(go_at_call 200;(with_reducible refine(V4 W _ fr 0 4294943999).mono ?_);rintro _ _ ⟨rfl,y1,rfl⟩;rw[Hfr.out])|(go_at_call 200;(with_reducible refine(V4 W _ un 0 1000000).mono ?_);rintro _ _ ⟨rfl,y1,rfl⟩;rw[Hun.out]))
  go_ret
  exact⟨I1 HR.out.symm,Hup.out _⟩
 |true=>
 have Hun:=A3 hun;clear hun
 cases hpr:C6 pr 0 1000000 with
 |false=>
  have HR:=A3 (show O1 _ =false from by rw[HE.out,hpr];simp)
  have Hpr:=A3 hpr;clear hpr HE
  go_wp2_with(first|(go_at_call 200;(with_reducible refine(V4 W _ fr 0 4294943999).mono ?_);rintro _ _ ⟨rfl,y1,rfl⟩;rw[Hfr.out])|(go_at_call 200;(with_reducible refine(V4 W _ un 0 1000000).mono ?_);rintro _ _ ⟨rfl,y1,rfl⟩;rw[Hun.out])|(go_at_call 200;(with_reducible refine(V4 W _ pr 0 1000000).mono ?_);rintro _ _ ⟨rfl,y1,rfl⟩;rw[Hpr.out]))
  go_ret
  exact⟨I1 HR.out.symm,Hup.out _⟩
 |true=>
 have Hpr:=A3 hpr;clear hpr
 cases hpa:C6 pa 0 1000000 with
 |false=>
  have HR:=A3 (show O1 _ =false from by rw[HE.out,hpa];simp)
  have Hpa:=A3 hpa;clear hpa HE
  go_wp2_with(first|(go_at_call 200;(with_reducible refine(V4 W _ fr 0 4294943999).mono ?_);rintro _ _ ⟨rfl,y1,rfl⟩;rw[Hfr.out])|(go_at_call 200;(with_reducible refine(V4 W _ un 0 1000000).mono ?_);rintro _ _ ⟨rfl,y1,rfl⟩;rw[Hun.out])|(go_at_call 200;(with_reducible refine(V4 W _ pr 0 1000000).mono ?_);rintro _ _ ⟨rfl,y1,rfl⟩;rw[Hpr.out])|(go_at_call 200;(with_reducible refine(V4 W _ pa 0 1000000).mono ?_);rintro _ _ ⟨rfl,y1,rfl⟩;rw[Hpa.out]))
  go_ret
  exact⟨I1 HR.out.symm,Hup.out _⟩
 |true=>
 have Hpa:=A3 hpa;clear hpa
 cases hst:C6 st 1 86400 with
 |false=>
  have HR:=A3 (show O1 _ =false from by rw[HE.out,hst];simp)
  have Hst:=A3 hst;clear hst HE
  go_wp2_with(first|(go_at_call 200;(with_reducible refine(V4 W _ fr 0 4294943999).mono ?_);rintro _ _ ⟨rfl,y1,rfl⟩;rw[Hfr.out])|(go_at_call 200;(with_reducible refine(V4 W _ un 0 1000000).mono ?_);rintro _ _ ⟨rfl,y1,rfl⟩;rw[Hun.out])|(go_at_call 200;(with_reducible refine(V4 W _ pr 0 1000000).mono ?_);rintro _ _ ⟨rfl,y1,rfl⟩;rw[Hpr.out])|(go_at_call 200;(with_reducible refine(V4 W _ pa 0 1000000).mono ?_);rintro _ _ ⟨rfl,y1,rfl⟩;rw[Hpa.out])|(go_at_call 200;(with_reducible refine(V4 W _ st 1 86400).mono ?_);rintro _ _ ⟨rfl,y1,rfl⟩;rw[Hst.out]))
  go_ret
  exact⟨I1 HR.out.symm,Hup.out _⟩
 |true=>
 have Hst:=A3 hst;clear hst
 cases hfe:C6 fe 0 86400 with
 |false=>
  have HR:=A3 (show O1 _ =false from by rw[HE.out,hfe];simp)
  have Hfe:=A3 hfe;clear hfe HE
  go_wp2_with(first|(go_at_call 200;(with_reducible refine(V4 W _ fr 0 4294943999).mono ?_);rintro _ _ ⟨rfl,y1,rfl⟩;rw[Hfr.out])|(go_at_call 200;(with_reducible refine(V4 W _ un 0 1000000).mono ?_);rintro _ _ ⟨rfl,y1,rfl⟩;rw[Hun.out])|(go_at_call 200;(with_reducible refine(V4 W _ pr 0 1000000).mono ?_);rintro _ _ ⟨rfl,y1,rfl⟩;rw[Hpr.out])|(go_at_call 200;(with_reducible refine(V4 W _ pa 0 1000000).mono ?_);rintro _ _ ⟨rfl,y1,rfl⟩;rw[Hpa.out])|(go_at_call 200;(with_reducible refine(V4 W _ st 1 86400).mono ?_);rintro _ _ ⟨rfl,y1,rfl⟩;rw[Hst.out])|(go_at_call 200;(with_reducible refine(V4 W _ fe 0 86400).mono ?_);rintro _ _ ⟨rfl,y1,rfl⟩;rw[Hfe.out]))
  go_ret
  exact⟨I1 HR.out.symm,Hup.out _⟩
 |true=>
 have Hfe:=A3 hfe;clear hfe;have HR:=A3 (show O1 _ =true from by rw[HE.out,Hfr.out,Hun.out,Hpr.out,Hpa.out,Hst.out,Hfe.out];rfl);clear HE;go_wp2_with(first|(go_at_call 200;(with_reducible refine(V4 W _ fr 0 4294943999).mono ?_);rintro _ _ ⟨rfl,y1,rfl⟩;rw[Hfr.out])|(go_at_call 200;(with_reducible refine(V4 W _ un 0 1000000).mono ?_);rintro _ _ ⟨rfl,y1,rfl⟩;rw[Hun.out])|(go_at_call 200;(with_reducible refine(V4 W _ pr 0 1000000).mono ?_);rintro _ _ ⟨rfl,y1,rfl⟩;rw[Hpr.out])|(go_at_call 200;(with_reducible refine(V4 W _ pa 0 1000000).mono ?_);rintro _ _ ⟨rfl,y1,rfl⟩;rw[Hpa.out])|(go_at_call 200;(with_reducible refine(V4 W _ st 1 86400).mono ?_);rintro _ _ ⟨rfl,y1,rfl⟩;rw[Hst.out])|(go_at_call 200;(with_reducible refine(V4 W _ fe 0 86400).mono ?_);rintro _ _ ⟨rfl,y1,rfl⟩;rw[Hfe.out]));go_ret;exact⟨I1 HR.out.symm,Hup.out _⟩
end
section
open Go.RowKit
def dP (l:List K2):Nat→Int
 |0=>-1
 |k+1=>(l.getD k default).fr
theorem Bf6 {l:List K2} {k:Nat} {t:K2} (h:l[k]? =some t):fA (dP l k) (l.drop k)=if O1 t=false then 1 else if(dP l k<0∧t.fr≠0)∨(0≤dP l k∧t.fr≤dP l k)then 9 else fA (dP l (k+1)) (l.drop (k+1)):=by
 have hk:k<l.length:=(A5 h).1;have ht:l[k]=t:=(A5 h).2;rw[List.drop_eq_getElem_cons hk,ht];have:dP l (k+1)=t.fr:=by
  show(l.getD k default).fr= _;rw[A6,h];rfl
 rw[this];rfl
theorem Bf7 {t:K2} (h:O1 t=true):0≤t.fr:=by
 simp[O1,C6]at h;omega
theorem wI (w:World) (x:A7 w) (l:List K2) (a:Option Addr) (c:Nat) (h:D0 K2.cs 6 w a l) (hl:l.length≤9223372036854775807):
 Calls Tryz.prog 96 #[.slice a l.length c] x.w fun o w'=>o= .returned (.int .i64 (S3 l))∧∃y:A7 w,w'=y.w:=by
 rcases(by omega:l.length=0∨8<l.length∨(0<l.length∧l.length≤8))with h0|h0|⟨h0,h8⟩
 ·have HR:=A3 (show S3 l=10 from by unfold S3;rw[if_pos h0])
  have h1:((l.length:Int) == 0)=true:=by simp[h0]
  have h2:(l.length:Int)=0:=by omega
  clear h0;go_enter Tryz.func96,Tryz.ntmps96;go_wp2_with fail;go_ret;exact⟨D5 HR.out.symm,x,rfl⟩
 ·have HR:=A3 (show S3 l=8 from by unfold S3;rw[if_neg (by omega),if_pos h0])
  have h1:((l.length:Int) == 0)=false:=beq_eq_false_iff_ne.2 (by omega);have h2:(8:Int)<(l.length:Int):=by omega
  clear h0;go_enter Tryz.func96,Tryz.ntmps96;go_wp2_with fail;go_ret;exact⟨D5 HR.out.symm,x,rfl⟩
 ·have HE:=A3 (show S3 l=fA (dP l 0) (l.drop 0)from by unfold S3;rw[if_neg (by omega),if_neg (by omega)];rfl)
  have h1:((l.length:Int) == 0)=false:=beq_eq_false_iff_ne.2 (by omega);have h2:(l.length:Int)≤8:=by omega
  have H:=A3 h;clear h0 h;go_enter Tryz.func96,Tryz.ntmps96;go_wp2_with fail;go_loopw [15] (fun i wr=>∃(k:Nat) (y:A7 w),k≤l.length∧i= .int .i64 k∧wr=y.w∧S3 l=fA (dP l k) (l.drop k)∧(0<k→0≤dP l k)) (fun i _ =>l.length-(intOf i).toNat)
  case atStart=>exact⟨0,x,by omega,rfl,rfl,HE.out,fun h=>by omega⟩
  case round=>
   obtain⟨k,y,hk,rfl,rfl,he,hp⟩:=hrel;have Hee:=A3 he;have Hpp:=A3 hp;clear he hp;by_cases hlt:k<l.length
   ·obtain⟨t,ht⟩:∃t,l[k]? =some t:=⟨_,A4 hlt⟩
    have Hst:=A3 (Hee.out.trans (Bf6 ht));obtain⟨b1,off1,rfl,hb1,hc⟩:=H.out k t ht;have ka0:∀y:A7 w,y.w.cell? ⟨b1,off1+k*6,none⟩=some (.int .i64 t.fr):=fun y=>A7.cell (hc 0 _ rfl) hb1 y;have ka1:∀y:A7 w,y.w.cell? ⟨b1,off1+k*6+1,none⟩=some (.int .i64 t.un):=fun y=>A7.cell (hc 1 _ rfl) hb1 y;have ka2:∀y:A7 w,y.w.cell? ⟨b1,off1+k*6+2,none⟩=some (.int .i64 t.st):=fun y=>A7.cell (hc 2 _ rfl) hb1 y;have ka3:∀y:A7 w,y.w.cell? ⟨b1,off1+k*6+3,none⟩=some (.int .i64 t.fe):=fun y=>A7.cell (hc 3 _ rfl) hb1 y;have ka4:∀y:A7 w,y.w.cell? ⟨b1,off1+k*6+4,none⟩=some (.int .i64 t.pr):=fun y=>A7.cell (hc 4 _ rfl) hb1 y;have ka5:∀y:A7 w,y.w.cell? ⟨b1,off1+k*6+5,none⟩=some (.int .i64 t.pa):=fun y=>A7.cell (hc 5 _ rfl) hb1 y;have hk0:(0:Int)≤(k:Int):=by omega
    have hkl:(k:Int)<(l.length:Int):=by omega
    clear hc hb1;go_upto_region 8 with fail;obtain⟨y2,e2,C9,hsz0,hlt0,HX0⟩:=L8 y [.int .i64 t.fr,.int .i64 t.un,.int .i64 t.st,.int .i64 t.fe,.int .i64 t.pr,.int .i64 t.pa] 27;rw[e2];obtain⟨hx0,hx1,hx2,hx3,hx4,hx5,hxf⟩:=kC HX0;skip;clear e2 C9;generalize y.w.heap.size=g at *;obtain⟨E6,G9,K1,J5,O8,U5,I3⟩:=Z8 HX0;have I9:=A3 (And.intro hsz0 hlt0);clear hlt0 hsz0 HX0;obtain⟨q0,hq0⟩:=A7.refl y2.w;rw[hq0];clear hq0
    cases hv:O1 t with
    |false=>
     have HR:=A3 (Hst.out.trans (if_pos hv))
     have Hv:=A3 hv;clear hv
     go_wp2_with(go_at_call 139;refine(nE y2.w _ t).mono ?_;rintro _ _ ⟨rfl,z1,rfl⟩;rw[Hv.out])
     go_ret
     exact⟨D5 HR.out.symm,y2.trans z1⟩
    |true=>
     have iO:=A3 (Hst.out.trans (if_neg (by rw[hv];decide)))
     have Hfr:=A3 (Bf7 hv)
     have HL:=A3 (show dP l (k+1)=t.fr from by
      show(l.getD k default).fr= _;rw[A6,ht];rfl)
     have Hv:=A3 hv;clear hv Hst
     cases k with
     |zero=>
      by_cases hf:t.fr=0
      ·have HR:=A3 (iO.out.trans (if_neg (fun hh=>by
        rcases hh with⟨_,h⟩|⟨h,_⟩
        ·exact h hf
        ·have:dP l 0= -1:=rfl
         omega)))
       have hb:(t.fr != 0)=false:=by simpa using hf
       clear hf iO;go_upto_region 10 with(go_at_call 139;refine(nE y2.w _ t).mono ?_;rintro _ _ ⟨rfl,z1,rfl⟩;rw[Hv.out])
       refine L5 (by kernel_rfl) (by kernel_rfl) ?_;repeat(go_big_quiet_step(fail))
       refine wpQuiet_nil ?_;rintro _ ⟨z2,rfl⟩;go_wp2_with fail;go_roundw
       case rel=>obtain⟨y3,e3⟩:=y2.trans z2;exact⟨1,y3,by omega,by go_num,e3,HR.out,fun _ =>by rw[HL.out];exact Hfr.out⟩
       case measure=>simp[intOf];omega
      ·have HR:=A3 (iO.out.trans (if_pos (Or.inl ⟨(by show(-1:Int)<0;decide),hf⟩)))
       have hb:(t.fr != 0)=true:=by simpa using hf
       clear hf iO;go_upto_region 10 with(go_at_call 139;refine(nE y2.w _ t).mono ?_;rintro _ _ ⟨rfl,z1,rfl⟩;rw[Hv.out])
       refine L5 (by kernel_rfl) (by kernel_rfl) ?_;repeat(go_big_quiet_step(fail))
       refine wpQuiet_nil ?_;rintro _ ⟨z2,rfl⟩;go_wp2_with fail;go_ret;exact⟨D5 HR.out.symm,y2.trans z2⟩
     |succ m=>
      obtain⟨u,hu⟩:∃u,l[m]? =some u:=⟨_,A4 (by omega)⟩
      obtain⟨b2,off2,hbo,hb2,hc2⟩:=H.out m u hu
      obtain⟨rfl,rfl⟩:b1=b2∧off1=off2:=by simpa using hbo
      have hLm:dP l (m+1)=u.fr:=by
       show(l.getD m default).fr= _;rw[A6,hu];rfl
      have hu0:0≤u.fr:=by rw[←hLm];exact Hpp.out (by omega)
      have kc0:∀y:A7 w,y.w.cell? ⟨b1,off1+m*6,none⟩=some (.int .i64 u.fr):=fun y=>A7.cell (hc2 0 _ rfl) hb2 y
      have kc:∀z:A7 y2.w,z.w.cell? ⟨b1,off1+m*6,none⟩=some (.int .i64 u.fr):=fun z=>by obtain⟨y3,e3⟩:=y2.trans z;rw[e3];exact kc0 y3
      have w1:wrap64 (((m+1:Nat):Int)-1)=(m:Int):=by rw[show((m+1:Nat):Int)-1=(m:Int) by omega];exact IntWalk.wrap64_in _ ⟨by omega,by omega⟩
      have e0:(((m+1:Nat):Int) == 0)=false:=beq_eq_false_iff_ne.2 (by omega)
      have e1:(0:Int)<((m+1:Nat):Int):=by omega
      have e0':((m:Int)+1 == 0)=false:=beq_eq_false_iff_ne.2 (by omega)
      have e1':(0:Int)<(m:Int)+1:=by omega
      have w2:wrap64 ((m:Int)+1-1)=(m:Int):=by rw[show(m:Int)+1-1=(m:Int) by omega];exact IntWalk.wrap64_in _ ⟨by omega,by omega⟩
      have w3:wrap64 (m:Int)=(m:Int):=IntWalk.wrap64_in _ ⟨by omega,by omega⟩
      have hm0:(0:Int)≤(m:Int):=by omega
      have hml:(m:Int)<(l.length:Int):=by omega
      clear hbo hb2 hc2 kc0 hu
      by_cases hf:t.fr≤u.fr
      ·have HR:=A3 (iO.out.trans (if_pos (Or.inr ⟨by rw[hLm];exact hu0,by rw[hLm];exact hf⟩)))
       clear iO hLm;go_upto_region 10 with(go_at_call 139;refine(nE y2.w _ t).mono ?_;rintro _ _ ⟨rfl,z1,rfl⟩;rw[Hv.out])
       refine L5 (by kernel_rfl) (by kernel_rfl) ?_;repeat(go_big_quiet_step(fail))
       refine wpQuiet_nil ?_;rintro _ ⟨z2,rfl⟩;go_wp2_with fail;go_ret;exact⟨D5 HR.out.symm,y2.trans z2⟩
      ·have HR:=A3 (iO.out.trans (if_neg (by rw[hLm];omega)))
       have hf2:u.fr<t.fr:=by omega
       clear iO hLm hf;go_upto_region 10 with(go_at_call 139;refine(nE y2.w _ t).mono ?_;rintro _ _ ⟨rfl,z1,rfl⟩;rw[Hv.out])
       refine L5 (by kernel_rfl) (by kernel_rfl) ?_;repeat(go_big_quiet_step(fail))
       refine wpQuiet_nil ?_;rintro _ ⟨z2,rfl⟩;go_wp2_with fail;go_roundw
       case rel=>obtain⟨y3,e3⟩:=y2.trans z2;exact⟨m+1+1,y3,by omega,by go_num,e3,HR.out,fun _ =>by rw[HL.out];exact Hfr.out⟩
       case measure=>simp[intOf];omega
   ·obtain rfl:k=l.length:=by omega
    have HR:=A3 (show S3 l=0 from by rw[Hee.out,List.drop_length];rfl);go_wp2_with fail;go_ret;exact⟨D5 HR.out.symm,y,rfl⟩
end
section
open Go.RowKit
theorem Ao4 (w:World) (x:A7 w) (t:K2) (s:Int) (hs:-9000000000≤s∧s≤9000000000) (ht:1≤t.st∧t.st≤86400):
 Calls Tryz.prog 90 #[.agg #[.int .i64 t.fr,.int .i64 t.un,.int .i64 t.st,.int .i64 t.fe,.int .i64 t.pr,.int .i64 t.pa],.int .i64 s] x.w fun o w'=>o= .returned (.int .i64 (t7 t s))∧∃y:A7 w,w'=y.w:=by
 have HE:=A3 (show t7 t s=(max s 0+t.st-1)/t.st from rfl);obtain⟨fr,un,st,fe,pr,pa⟩:=t;dsimp only at HE ht⊢;have h0:¬st=0:=by omega
 obtain⟨S,rfl⟩:∃S:Nat,st=(S:Int):=⟨st.toNat,by omega⟩
 rcases(by omega:s<0∨0≤s)with h|h
 ·have HE2:=HE.out
  rw[Int.max_eq_right (show s≤0 by omega),Int.zero_add]at HE2;replace HE:=A3 HE2;clear HE2;have w2:wrap64 ((S:Int)-1)=(S:Int)-1:=IntWalk.wrap64_in _ ⟨by omega,by omega⟩;go_enter Tryz.func90,Tryz.ntmps90;go_wp2_with fail;go_ret;exact⟨D5 HE.out.symm,x.alloc _⟩
 ·have HE2:=HE.out
  rw[Int.max_eq_left h]at HE2;replace HE:=A3 HE2;clear HE2;obtain⟨N,rfl⟩:∃N:Nat,s=(N:Int):=⟨s.toNat,by omega⟩
  have w1:wrap64 ((N:Int)+(S:Int))=(N:Int)+(S:Int):=IntWalk.wrap64_in _ ⟨by omega,by omega⟩;have w2:wrap64 ((N:Int)+(S:Int)-1)=(N:Int)+(S:Int)-1:=IntWalk.wrap64_in _ ⟨by omega,by omega⟩;go_enter Tryz.func90,Tryz.ntmps90;go_wp2_with fail;all_goals
   go_ret;exact⟨D5 HE.out.symm,x.alloc _⟩
end
section
open Go.RowKit
theorem Bf8 (w:World) (x:A7 w) (t:K2) (s:Int) (hs:0≤s∧s≤4294944000) (ht:O1 t=true):
 Calls Tryz.prog 42 #[.agg #[.int .i64 t.fr,.int .i64 t.un,.int .i64 t.st,.int .i64 t.fe,.int .i64 t.pr,.int .i64 t.pa],.int .i64 s] x.w fun o w'=>o= .returned (.int .i64 (M0 t s))∧∃y:A7 w,w'=y.w:=by
 have hF:=iA ht;clear ht;have hB:=qA (t:=t) hF.2.2.2.2.2.2.1 (s:=s-t.fe);have HV:=A3 (show M0 t s=t.pr*t7 t (s-t.fe)from rfl);have hst:∀(W:World) (x:A7 W),Calls Tryz.prog 90 #[.agg #[.int .i64 t.fr,.int .i64 t.un,.int .i64 t.st,.int .i64 t.fe,.int .i64 t.pr,.int .i64 t.pa],.int .i64 (s-t.fe)] x.w fun o w'=>o= .returned (.int .i64 (t7 t (s-t.fe)))∧∃y:A7 W,w'=y.w:=fun W x=>Ao4 W x t (s-t.fe) ⟨by omega,by omega⟩ ⟨hF.2.2.2.2.2.2.1,hF.2.2.2.2.2.2.2.1⟩;have hN:t7 t (s-t.fe)≤4294944000:=by have:=hB.2;omega
 have hN0:=hB.1;obtain⟨fr,un,st,fe,pr,pa⟩:=t;dsimp only at hF hB HV hst hN hN0⊢;generalize t7 ⟨fr,un,st,fe,pr,pa⟩ (s-fe)=N at *;have hm:0≤pr*N∧pr*N≤1000000*4294944000:=⟨Int.mul_nonneg (by omega) hN0,Int.mul_le_mul (by omega) hN hN0 (by omega)⟩
 have w1:wrap64 (pr*N)=pr*N:=IntWalk.wrap64_in _ ⟨by omega,by omega⟩;have w2:wrap64 (s-fe)=s-fe:=IntWalk.wrap64_in _ ⟨by omega,by omega⟩;have Hst:=A3 hst;clear hst hB hm hN hN0;go_enter Tryz.func42,Tryz.ntmps42;go_upto_region 1 with fail;obtain⟨W,bx,y0,hW,hbx,-,B8,Hup,Hbx,HB0⟩:=K7 x [.int .i64 fr,.int .i64 un,.int .i64 st,.int .i64 fe,.int .i64 pr,.int .i64 pa] 117;rw[hW,hbx];clear hW hbx;obtain⟨D9,E7,F9,G0,G8,K4,hf0⟩:=Z8 HB0;clear HB0;clear B8;have HS:=Hst.out W;refine L5 (by kernel_rfl) (by kernel_rfl) ?_;repeat(go_big_quiet_step((go_at_call 90;exact HS _)))
 refine wpQuiet_nil ?_;rintro _ ⟨z,rfl⟩;go_wp2_with fail;go_ret;exact⟨D5 (by first|exact HV.out.symm|exact w1.trans HV.out.symm),Hup.out _⟩
theorem Bf9 (w:World) (x:A7 w) (t:K2) (s:Int) (hs:0≤s∧s≤4294944000) (ht:O1 t=true):
 Calls Tryz.prog 157 #[.agg #[.int .i64 t.fr,.int .i64 t.un,.int .i64 t.st,.int .i64 t.fe,.int .i64 t.pr,.int .i64 t.pa],.int .i64 s] x.w fun o w'=>o= .returned (.int .i64 (O6 t s))∧∃y:A7 w,w'=y.w:=by
 have hF:=iA ht;clear ht;have hB:=qA (t:=t) hF.2.2.2.2.2.2.1 (s:=s);have HV:=A3 (show O6 t s=t.pa*t7 t (s)from rfl);have hst:∀(W:World) (x:A7 W),Calls Tryz.prog 90 #[.agg #[.int .i64 t.fr,.int .i64 t.un,.int .i64 t.st,.int .i64 t.fe,.int .i64 t.pr,.int .i64 t.pa],.int .i64 (s)] x.w fun o w'=>o= .returned (.int .i64 (t7 t (s)))∧∃y:A7 W,w'=y.w:=fun W x=>Ao4 W x t (s) ⟨by omega,by omega⟩ ⟨hF.2.2.2.2.2.2.1,hF.2.2.2.2.2.2.2.1⟩;have hN:t7 t (s)≤4294944000:=by have:=hB.2;omega
 have hN0:=hB.1;obtain⟨fr,un,st,fe,pr,pa⟩:=t;dsimp only at hF hB HV hst hN hN0⊢;generalize t7 ⟨fr,un,st,fe,pr,pa⟩ (s)=N at *;have hm:0≤pa*N∧pa*N≤1000000*4294944000:=⟨Int.mul_nonneg (by omega) hN0,Int.mul_le_mul (by omega) hN hN0 (by omega)⟩
 have w1:wrap64 (pa*N)=pa*N:=IntWalk.wrap64_in _ ⟨by omega,by omega⟩;have Hst:=A3 hst;clear hst hB hm hN hN0;go_enter Tryz.func157,Tryz.ntmps157;go_upto_region 1 with fail;obtain⟨W,bx,y0,hW,hbx,-,B8,Hup,Hbx,HB0⟩:=K7 x [.int .i64 fr,.int .i64 un,.int .i64 st,.int .i64 fe,.int .i64 pr,.int .i64 pa] 117;rw[hW,hbx];clear hW hbx;obtain⟨D9,E7,F9,G0,G8,K4,hf0⟩:=Z8 HB0;clear HB0;clear B8;have HS:=Hst.out W;refine L5 (by kernel_rfl) (by kernel_rfl) ?_;repeat(go_big_quiet_step((go_at_call 90;exact HS _)))
 refine wpQuiet_nil ?_;rintro _ ⟨z,rfl⟩;go_wp2_with fail;go_ret;exact⟨D5 (by first|exact HV.out.symm|exact w1.trans HV.out.symm),Hup.out _⟩
end
section
open Go.RowKit
theorem Ao5 (w:World) (x:A7 w) (t:K2):
 Calls Tryz.prog 89 #[.agg #[.int .i64 t.fr,.int .i64 t.un,.int .i64 t.st,.int .i64 t.fe,.int .i64 t.pr,.int .i64 t.pa]] x.w fun o w'=>o= .returned (.tuple #[.agg #[.int .i64 0,.int .i64 t.un,.int .i64 t.st,.int .i64 t.fe,.int .i64 t.pr,.int .i64 t.pa],.int .i64 (S3 [t.z])])∧∃y:A7 w,w'=y.w:=by
 obtain⟨fr,un,st,fe,pr,pa⟩:=t;obtain⟨u,hu⟩:∃u:K2,u=⟨0,un,st,fe,pr,pa⟩:=⟨_,rfl⟩
 rw[show(K2.z ⟨fr,un,st,fe,pr,pa⟩)=u from hu.symm];dsimp only;have HU:=A3 hu;obtain⟨PO,hPO⟩:∃PO:Ending→World→Prop,PO=fun o w'=>o= .returned (.tuple #[.agg #[.int .i64 0,.int .i64 un,.int .i64 st,.int .i64 fe,.int .i64 pr,.int .i64 pa],.int .i64 (S3 [u])])∧∃y:A7 w,w'=y.w:=⟨_,rfl⟩
 rw[←hPO];have HPO:=A3 (fun(w':World) (h:A8 w w')=>show PO (.returned (.tuple #[.agg #[.int .i64 0,.int .i64 un,.int .i64 st,.int .i64 fe,.int .i64 pr,.int .i64 pa],.int .i64 (S3 [u])])) w' from by rw[hPO];exact⟨rfl,h⟩);clear hPO hu;go_enter Tryz.func89,Tryz.ntmps89;go_upto_region 1 with fail;obtain⟨W,bx,y0,hW,hbx,-,B8,Hup,Hbx,HB0,HB1⟩:=Z7 x ([Value.int .i64 fr,.int .i64 un,.int .i64 st,.int .i64 fe,.int .i64 pr,.int .i64 pa]) 27 ([Value.int .i64 0,.int .i64 0,.int .i64 0,.int .i64 0,.int .i64 0,.int .i64 0]) 117;rw[hW,hbx];clear hW hbx;have hB0:=fun y:A7 W=>HB0.since y;have hB1:=fun y:A7 W=>HB1.since y;clear HB0 HB1;have HB:=A3 (hB0 y0);have HB':=A3 (hB1 y0);have k0:y0.w.cell? ⟨bx,0,none⟩=some (.int .i64 fr):=HB.out.c 0 _ rfl;have f0:=HB.out.f 0;clear hB0 hB1 B8;go_upto_region 2 with fail;have HW:=A3 (show A8 w (y0.w.setCell ⟨bx,0,none⟩ (.int .i64 0))from A8.set (Hup.out y0) _ (by have:=Hbx.out;show _≤bx;omega) _);replace HB':=A3 (HB'.out.far ⟨bx,0,none⟩ (.int .i64 0) (by simp));replace HB:=A3 (HB.out.setj (j:=0) (by simp) (.int .i64 0));simp only[List.set_cons_zero]at HB;clear k0 f0;generalize y0.w.setCell ⟨bx,0,none⟩ (.int .i64 0)=w1 at *;have HEl:=sL K2.len w1 [u] 27;rw[HU.out]at HEl;have HC:=A3 (show Calls Tryz.prog 96 #[.slice (some ⟨w1.heap.size,0,none⟩) 1 1] (w1.alloc (.cells #[.int .i64 0,.int .i64 un,.int .i64 st,.int .i64 fe,.int .i64 pr,.int .i64 pa] 27)).drew (fun o w'=>o= .returned (.int .i64 (S3 [u]))∧∃y:A7 (w1.alloc (.cells #[.int .i64 0,.int .i64 un,.int .i64 st,.int .i64 fe,.int .i64 pr,.int .i64 pa] 27)).drew,w'=y.w)from by
  rw[HU.out];exact wI _ (A7.self _) [⟨0,un,st,fe,pr,pa⟩] (some ⟨w1.heap.size,0,none⟩) 1 (HEl.to (A8.drew' (A8.self _))) (by simp))
 clear HEl;have HSf:=A3 (fun(w':World) (h:C4 w' bx [.int .i64 0,.int .i64 un,.int .i64 st,.int .i64 fe,.int .i64 pr,.int .i64 pa])=>show w'.cell? ⟨bx,0,none⟩=some (.int .i64 0)∧w'.cell? ⟨bx,1,none⟩=some (.int .i64 un)∧w'.cell? ⟨bx,2,none⟩=some (.int .i64 st)∧w'.cell? ⟨bx,3,none⟩=some (.int .i64 fe)∧w'.cell? ⟨bx,4,none⟩=some (.int .i64 pr)∧w'.cell? ⟨bx,5,none⟩=some (.int .i64 pa)from⟨h.c 0 _ rfl,h.c 1 _ rfl,h.c 2 _ rfl,h.c 3 _ rfl,h.c 4 _ rfl,h.c 5 _ rfl⟩);refine R7 (fun w'=>w'.cell? ⟨bx,0,none⟩=some (.int .i64 0)∧w'.cell? ⟨bx,1,none⟩=some (.int .i64 un)∧w'.cell? ⟨bx,2,none⟩=some (.int .i64 st)∧w'.cell? ⟨bx,3,none⟩=some (.int .i64 fe)∧w'.cell? ⟨bx,4,none⟩=some (.int .i64 pr)∧w'.cell? ⟨bx,5,none⟩=some (.int .i64 pa)) 5 (by kernel_rfl) (HSf.out _ HB.out.drew) (fun hS=>?_);iterate 2
  refine J4 0 ?_ rfl rfl (by kernel_rfl) hS (fun _ _ _ h=>h) ?_ ?_
  rotate_left
  ·(intro w h;(try dsimp only at h);go_split_ands;go_simp;try with_reducible rfl)
  (try simp only[Act.put,B9])
 refine I0 2 (by kernel_rfl) rfl fun K hK=>?_;go_simp;refine E5 hK (HSf.out _ (HB.out.up _).drew) ?_;clear hK K hS;intro hS;(try simp only[Act.put,B9])
 have HBb:=A3 ((HB'.out.up (.cells #[.int .i64 0,.int .i64 un,.int .i64 st,.int .i64 fe,.int .i64 pr,.int .i64 pa] 27)).drew);have HBa:=A3 ((HB.out.up (.cells #[.int .i64 0,.int .i64 un,.int .i64 st,.int .i64 fe,.int .i64 pr,.int .i64 pa] 27)).drew);have HW2:=A3 (A8.drew' (A8.alloc HW.out (.cells #[.int .i64 0,.int .i64 un,.int .i64 st,.int .i64 fe,.int .i64 pr,.int .i64 pa] 27)));refine I0 3 (by kernel_rfl) rfl fun K hK=>?_;(go_simp;(with_reducible refine(HC.out).mono ?_);rintro _ _ ⟨rfl,y5,rfl⟩)
 refine E5 hK (HSf.out _ (HBa.out.since y5)) ?_;clear hK K hS;intro hS;(try simp only[Act.put,B9])
 have HW3:=A3 (A8.trans HW2.out ⟨y5,rfl⟩);have HBc:=A3 (HBb.out.since y5);have r0:y5.w.cell? ⟨bx+1,0,none⟩=some (.int .i64 0):=HBc.out.c 0 _ rfl;have r1:y5.w.cell? ⟨bx+1,1,none⟩=some (.int .i64 0):=HBc.out.c 1 _ rfl;have r2:y5.w.cell? ⟨bx+1,2,none⟩=some (.int .i64 0):=HBc.out.c 2 _ rfl;have r3:y5.w.cell? ⟨bx+1,3,none⟩=some (.int .i64 0):=HBc.out.c 3 _ rfl;have r4:y5.w.cell? ⟨bx+1,4,none⟩=some (.int .i64 0):=HBc.out.c 4 _ rfl;have r5:y5.w.cell? ⟨bx+1,5,none⟩=some (.int .i64 0):=HBc.out.c 5 _ rfl;have rf:=HBc.out.f;have HW4:=A3 (show A8 w (y5.w.setCells (bx+1) 0 [.int .i64 0,.int .i64 un,.int .i64 st,.int .i64 fe,.int .i64 pr,.int .i64 pa])from by
  obtain⟨q,e⟩:=HW3.out;rw[e];exact q.sets (bx+1) (by have:=Hbx.out;omega) _ 0)
 have HBd:=A3 (HBc.out.sets (us:=[.int .i64 0,.int .i64 un,.int .i64 st,.int .i64 fe,.int .i64 pr,.int .i64 pa]) rfl);have HBe:=A3 (((HBa.out.since y5).keepS (S:=fun g=>g=bx+1) (B7.sets (S:=fun g=>g=bx+1) (bx+1) rfl [.int .i64 0,.int .i64 un,.int .i64 st,.int .i64 fe,.int .i64 pr,.int .i64 pa] 0 _) (by omega)));refine I0 4 (by kernel_rfl) rfl fun K hK=>?_;go_simp;refine E5 hK (HSf.out _ HBe.out) ?_;clear hK K hS;intro hS;(try simp only[Act.put,B9])
 refine I0 5 (by kernel_rfl) rfl fun K hK=>?_;go_simp;refine M9 hK (by kernel_rfl) ?_;clear hK K;(try clear hS)
 (try simp only[Act.put,B9])
 have c0:=HBd.out.c 0 _ rfl;have c1:=HBd.out.c 1 _ rfl;have c2:=HBd.out.c 2 _ rfl;have c3:=HBd.out.c 3 _ rfl;have c4:=HBd.out.c 4 _ rfl;have c5:=HBd.out.c 5 _ rfl;refine Eq.mp (congrArg (fun W=>Exit.then _ _ _ _ W) (show y5.w.setCells (bx+1) 0 [.int .i64 0,.int .i64 un,.int .i64 st,.int .i64 fe,.int .i64 pr,.int .i64 pa]= _ from rfl)) ?_;clear r0 r1 r2 r3 r4 r5 rf;generalize y5.w.setCells (bx+1) 0 [.int .i64 0,.int .i64 un,.int .i64 st,.int .i64 fe,.int .i64 pr,.int .i64 pa]=w5 at *;go_wp2_with fail;refine M7 (v:=.tuple #[.agg #[.int .i64 0,.int .i64 un,.int .i64 st,.int .i64 fe,.int .i64 pr,.int .i64 pa],.int .i64 (S3 [u])]) (by simp[results,Tryz.results89,go_sem,c0,c1,c2,c3,c4,c5]) rfl ?_;exact HPO.out _ HW4.out
section
theorem Bg0 (w:World) (x:A7 w) (t:K2) (s:Int) (hs:U0 s):
 Calls Tryz.prog 41 #[.func (.func 42) #[] #[],.agg #[.int .i64 t.fr,.int .i64 t.un,.int .i64 t.st,.int .i64 t.fe,.int .i64 t.pr,.int .i64 t.pa],.int .i64 s] x.w fun o w'=>o= .returned (.tuple #[.int .i64 (if S7 t s (M0 t s)=0 then M0 t s else 0),.int .i64 (S7 t s (M0 t s))])∧∃y:A7 w,w'=y.w:=by
 have HA:=A3 (fun(y:A7 w)=>Ao5 w y t);have HV:=A3 (show∀(y:A7 w),O1 t.z=true→0≤s∧s≤4294944000→Calls Tryz.prog 42 #[.agg #[.int .i64 0,.int .i64 t.un,.int .i64 t.st,.int .i64 t.fe,.int .i64 t.pr,.int .i64 t.pa],.int .i64 s] y.w (fun o w'=>o= .returned (.int .i64 (M0 t s))∧∃y:A7 w,w'=y.w)from fun y h1 h2=>Bf8 w y t.z s h2 h1);have hE:(O1 t.z=false∧S3 [t.z]=1∧S7 t s (M0 t s)=1)∨(O1 t.z=true∧S3 [t.z]=0∧((s<0∧S7 t s (M0 t s)=1)∨(0≤s∧4294944000<s∧S7 t s (M0 t s)=1)∨((0≤s∧s≤4294944000)∧((1000000000000<M0 t s∧S7 t s (M0 t s)=2)∨(M0 t s≤1000000000000∧S7 t s (M0 t s)=0))))):=by
  rw[Aj4];unfold S7
  cases hv:O1 t.z with
  |false=>exact .inl ⟨rfl,rfl,rfl⟩
  |true=>
   refine .inr ⟨rfl,rfl,?_⟩
   rw[if_neg (by decide)]
   by_cases h1:s<0
   ·exact .inl ⟨h1,if_pos (.inl h1)⟩
   ·by_cases h2:4294944000<s
    ·exact .inr (.inl ⟨by omega,h2,if_pos (.inr h2)⟩)
    ·rw[if_neg (by omega)]
     refine .inr (.inr ⟨⟨by omega,by omega⟩,?_⟩);by_cases h3:1000000000000<M0 t s
     ·exact .inl ⟨h3,if_pos h3⟩
     ·exact .inr ⟨by omega,if_neg h3⟩
 generalize S7 t s (M0 t s)=pe at *;generalize S3 [t.z]=te at *;generalize M0 t s=v at *;generalize O1 t.z=tv at *;obtain⟨fr,un,st,fe,pr,pa⟩:=t;dsimp only at HA HV⊢;rcases hE with⟨rfl,rfl,rfl⟩|⟨rfl,rfl,⟨h1,rfl⟩|⟨h1,h2,rfl⟩|⟨h1,⟨h2,rfl⟩|⟨h2,rfl⟩⟩⟩
 ·go_enter Tryz.func41,Tryz.ntmps41
  go_upto_region 1 with fail;obtain⟨W,bx,y0,hW,hbx,-,B8,Hup,Hbx,HB0⟩:=K7 x [.int .i64 fr,.int .i64 un,.int .i64 st,.int .i64 fe,.int .i64 pr,.int .i64 pa] 27;rw[hW,hbx];clear hW hbx;obtain⟨D9,E7,F9,G0,G8,K4,hf0⟩:=Z8 HB0;clear HB0;obtain⟨z0,hz0⟩:=Hup.out y0;have HA1:=A3 (HA.out z0);rw[←hz0]at HA1;clear hz0 B8;go_wp2_with(go_at_call 89;(with_reducible refine(HA1.out).mono ?_);rintro _ _ ⟨rfl,y1,rfl⟩);go_ret2
  exact⟨rfl,y1.alloc _⟩
 ·go_enter Tryz.func41,Tryz.ntmps41
  go_upto_region 1 with fail;obtain⟨W,bx,y0,hW,hbx,-,B8,Hup,Hbx,HB0⟩:=K7 x [.int .i64 fr,.int .i64 un,.int .i64 st,.int .i64 fe,.int .i64 pr,.int .i64 pa] 27;rw[hW,hbx];clear hW hbx;obtain⟨D9,E7,F9,G0,G8,K4,hf0⟩:=Z8 HB0;clear HB0;obtain⟨z0,hz0⟩:=Hup.out y0;have HA1:=A3 (HA.out z0);rw[←hz0]at HA1;clear hz0 B8;go_wp2_with(go_at_call 89;(with_reducible refine(HA1.out).mono ?_);rintro _ _ ⟨rfl,y1,rfl⟩);go_ret2
  exact⟨rfl,y1.alloc _⟩
 ·have h3:¬s<0:=by omega
  go_enter Tryz.func41,Tryz.ntmps41;go_upto_region 1 with fail;obtain⟨W,bx,y0,hW,hbx,-,B8,Hup,Hbx,HB0⟩:=K7 x [.int .i64 fr,.int .i64 un,.int .i64 st,.int .i64 fe,.int .i64 pr,.int .i64 pa] 27;rw[hW,hbx];clear hW hbx;obtain⟨D9,E7,F9,G0,G8,K4,hf0⟩:=Z8 HB0;clear HB0;obtain⟨z0,hz0⟩:=Hup.out y0;have HA1:=A3 (HA.out z0);rw[←hz0]at HA1;clear hz0 B8;go_wp2_with(go_at_call 89;(with_reducible refine(HA1.out).mono ?_);rintro _ _ ⟨rfl,y1,rfl⟩);go_ret2
  exact⟨rfl,y1.alloc _⟩
 all_goals
  obtain⟨h1a,h1b⟩:=h1;have h3:¬s<0:=by omega
  go_enter Tryz.func41,Tryz.ntmps41;go_upto_region 1 with fail;obtain⟨W,bx,y0,hW,hbx,-,B8,Hup,Hbx,HB0⟩:=K7 x [.int .i64 fr,.int .i64 un,.int .i64 st,.int .i64 fe,.int .i64 pr,.int .i64 pa] 27;rw[hW,hbx];clear hW hbx;obtain⟨D9,E7,F9,G0,G8,K4,hf0⟩:=Z8 HB0;clear HB0;obtain⟨z0,hz0⟩:=Hup.out y0;have HA1:=A3 (HA.out z0);rw[←hz0]at HA1;clear hz0 B8;go_upto_region 2 with(go_at_call 89;(with_reducible refine(HA1.out).mono ?_);rintro _ _ ⟨rfl,y1,rfl⟩)
  obtain⟨y2,e2,C9,hsz0,hlt0,HX0⟩:=L8 y1 [.int .i64 0,.int .i64 un,.int .i64 st,.int .i64 fe,.int .i64 pr,.int .i64 pa] 117;rw[e2];obtain⟨hx0,hx1,hx2,hx3,hx4,hx5,hxf⟩:=kC HX0;skip;clear e2 C9;generalize y1.w.heap.size=g at *;obtain⟨E6,G9,K1,J5,O8,U5,I3⟩:=Z8 HX0;have I9:=A3 (And.intro hsz0 hlt0);clear hlt0 hsz0 HX0;have HV1:=A3 (HV.out y2 (by first|rfl|trivial) ⟨h1a,h1b⟩);go_wp2_with(go_at_call 42;(with_reducible refine(HV1.out).mono ?_);rintro _ _ ⟨rfl,y3,rfl⟩);go_ret2
  exact⟨rfl,y3,rfl⟩
theorem Bg1 (w:World) (x:A7 w) (t:K2) (s:Int) (hs:U0 s):
 Calls Tryz.prog 41 #[.func (.func 157) #[] #[],.agg #[.int .i64 t.fr,.int .i64 t.un,.int .i64 t.st,.int .i64 t.fe,.int .i64 t.pr,.int .i64 t.pa],.int .i64 s] x.w fun o w'=>o= .returned (.tuple #[.int .i64 (if S7 t s (O6 t s)=0 then O6 t s else 0),.int .i64 (S7 t s (O6 t s))])∧∃y:A7 w,w'=y.w:=by
 have HA:=A3 (fun(y:A7 w)=>Ao5 w y t);have HV:=A3 (show∀(y:A7 w),O1 t.z=true→0≤s∧s≤4294944000→Calls Tryz.prog 157 #[.agg #[.int .i64 0,.int .i64 t.un,.int .i64 t.st,.int .i64 t.fe,.int .i64 t.pr,.int .i64 t.pa],.int .i64 s] y.w (fun o w'=>o= .returned (.int .i64 (O6 t s))∧∃y:A7 w,w'=y.w)from fun y h1 h2=>Bf9 w y t.z s h2 h1);have hE:(O1 t.z=false∧S3 [t.z]=1∧S7 t s (O6 t s)=1)∨(O1 t.z=true∧S3 [t.z]=0∧((s<0∧S7 t s (O6 t s)=1)∨(0≤s∧4294944000<s∧S7 t s (O6 t s)=1)∨((0≤s∧s≤4294944000)∧((1000000000000<O6 t s∧S7 t s (O6 t s)=2)∨(O6 t s≤1000000000000∧S7 t s (O6 t s)=0))))):=by
  rw[Aj4];unfold S7
  cases hv:O1 t.z with
  |false=>exact .inl ⟨rfl,rfl,rfl⟩
  |true=>
   refine .inr ⟨rfl,rfl,?_⟩
   rw[if_neg (by decide)]
   by_cases h1:s<0
   ·exact .inl ⟨h1,if_pos (.inl h1)⟩
   ·by_cases h2:4294944000<s
    ·exact .inr (.inl ⟨by omega,h2,if_pos (.inr h2)⟩)
    ·rw[if_neg (by omega)]
     refine .inr (.inr ⟨⟨by omega,by omega⟩,?_⟩);by_cases h3:1000000000000<O6 t s
     ·exact .inl ⟨h3,if_pos h3⟩
     ·exact .inr ⟨by omega,if_neg h3⟩
 generalize S7 t s (O6 t s)=pe at *;generalize S3 [t.z]=te at *;generalize O6 t s=v at *;generalize O1 t.z=tv at *;obtain⟨fr,un,st,fe,pr,pa⟩:=t;dsimp only at HA HV⊢;rcases hE with⟨rfl,rfl,rfl⟩|⟨rfl,rfl,⟨h1,rfl⟩|⟨h1,h2,rfl⟩|⟨h1,⟨h2,rfl⟩|⟨h2,rfl⟩⟩⟩
 ·go_enter Tryz.func41,Tryz.ntmps41
  go_upto_region 1 with fail;obtain⟨W,bx,y0,hW,hbx,-,B8,Hup,Hbx,HB0⟩:=K7 x [.int .i64 fr,.int .i64 un,.int .i64 st,.int .i64 fe,.int .i64 pr,.int .i64 pa] 27;rw[hW,hbx];clear hW hbx;obtain⟨D9,E7,F9,G0,G8,K4,hf0⟩:=Z8 HB0;clear HB0;obtain⟨z0,hz0⟩:=Hup.out y0;have HA1:=A3 (HA.out z0);rw[←hz0]at HA1;clear hz0 B8;go_wp2_with(go_at_call 89;(with_reducible refine(HA1.out).mono ?_);rintro _ _ ⟨rfl,y1,rfl⟩);go_ret2
  exact⟨rfl,y1.alloc _⟩
 ·go_enter Tryz.func41,Tryz.ntmps41
  go_upto_region 1 with fail;obtain⟨W,bx,y0,hW,hbx,-,B8,Hup,Hbx,HB0⟩:=K7 x [.int .i64 fr,.int .i64 un,.int .i64 st,.int .i64 fe,.int .i64 pr,.int .i64 pa] 27;rw[hW,hbx];clear hW hbx;obtain⟨D9,E7,F9,G0,G8,K4,hf0⟩:=Z8 HB0;clear HB0;obtain⟨z0,hz0⟩:=Hup.out y0;have HA1:=A3 (HA.out z0);rw[←hz0]at HA1;clear hz0 B8;go_wp2_with(go_at_call 89;(with_reducible refine(HA1.out).mono ?_);rintro _ _ ⟨rfl,y1,rfl⟩);go_ret2
  exact⟨rfl,y1.alloc _⟩
 ·have h3:¬s<0:=by omega
  go_enter Tryz.func41,Tryz.ntmps41;go_upto_region 1 with fail;obtain⟨W,bx,y0,hW,hbx,-,B8,Hup,Hbx,HB0⟩:=K7 x [.int .i64 fr,.int .i64 un,.int .i64 st,.int .i64 fe,.int .i64 pr,.int .i64 pa] 27;rw[hW,hbx];clear hW hbx;obtain⟨D9,E7,F9,G0,G8,K4,hf0⟩:=Z8 HB0;clear HB0;obtain⟨z0,hz0⟩:=Hup.out y0;have HA1:=A3 (HA.out z0);rw[←hz0]at HA1;clear hz0 B8;go_wp2_with(go_at_call 89;(with_reducible refine(HA1.out).mono ?_);rintro _ _ ⟨rfl,y1,rfl⟩);go_ret2
  exact⟨rfl,y1.alloc _⟩
 all_goals
  obtain⟨h1a,h1b⟩:=h1;have h3:¬s<0:=by omega
  go_enter Tryz.func41,Tryz.ntmps41;go_upto_region 1 with fail;obtain⟨W,bx,y0,hW,hbx,-,B8,Hup,Hbx,HB0⟩:=K7 x [.int .i64 fr,.int .i64 un,.int .i64 st,.int .i64 fe,.int .i64 pr,.int .i64 pa] 27;rw[hW,hbx];clear hW hbx;obtain⟨D9,E7,F9,G0,G8,K4,hf0⟩:=Z8 HB0;clear HB0;obtain⟨z0,hz0⟩:=Hup.out y0;have HA1:=A3 (HA.out z0);rw[←hz0]at HA1;clear hz0 B8;go_upto_region 2 with(go_at_call 89;(with_reducible refine(HA1.out).mono ?_);rintro _ _ ⟨rfl,y1,rfl⟩)
  obtain⟨y2,e2,C9,hsz0,hlt0,HX0⟩:=L8 y1 [.int .i64 0,.int .i64 un,.int .i64 st,.int .i64 fe,.int .i64 pr,.int .i64 pa] 117;rw[e2];obtain⟨hx0,hx1,hx2,hx3,hx4,hx5,hxf⟩:=kC HX0;skip;clear e2 C9;generalize y1.w.heap.size=g at *;obtain⟨E6,G9,K1,J5,O8,U5,I3⟩:=Z8 HX0;have I9:=A3 (And.intro hsz0 hlt0);clear hlt0 hsz0 HX0;have HV1:=A3 (HV.out y2 (by first|rfl|trivial) ⟨h1a,h1b⟩);go_wp2_with(go_at_call 157;(with_reducible refine(HV1.out).mono ?_);rintro _ _ ⟨rfl,y3,rfl⟩);go_ret2
  exact⟨rfl,y3,rfl⟩
end
end
section
open Go.RowKit
def iG (w:World) (t:K2) (s n:Int) (o:Ending) (w':World):Prop:=
 o= .returned (.tuple #[.int .i64 (if S7 t s n=0 then n else 0),.int .i64 (S7 t s n)])∧∃y:A7 w,w'=y.w
theorem Bg2 (w:World) (x:A7 w) (t:K2) (s:Int) (hs:U0 s):
 Calls Tryz.prog 12 #[.agg #[.int .i64 t.fr,.int .i64 t.un,.int .i64 t.st,.int .i64 t.fe,.int .i64 t.pr,.int .i64 t.pa],.int .i64 s] x.w (iG w t s (M0 t s)):=by
 have HA:=A3 (fun(y:A7 w)=>Bg0 w y t s hs);have HP:=A3 (fun(y:A7 w)=>show iG w t s (M0 t s) (.returned (.tuple #[.int .i64 (if S7 t s (M0 t s)=0 then M0 t s else 0),.int .i64 (S7 t s (M0 t s))])) y.w from⟨rfl,y,rfl⟩);generalize iG w t s (M0 t s)=PO at *;generalize(if S7 t s (M0 t s)=0 then M0 t s else 0)=v at *;generalize S7 t s (M0 t s)=pe at *;go_enter Tryz.func12,Tryz.ntmps12;go_upto_region 1 with fail;obtain⟨W,bx,y0,hW,hbx,-,B8,Hup,Hbx,HB0⟩:=K7 x [.int .i64 t.fr,.int .i64 t.un,.int .i64 t.st,.int .i64 t.fe,.int .i64 t.pr,.int .i64 t.pa] 27;rw[hW,hbx];clear hW hbx;obtain⟨D9,E7,F9,G0,G8,K4,hf0⟩:=Z8 HB0;clear HB0;obtain⟨z0,hz0⟩:=Hup.out y0;have HA1:=A3 (HA.out z0);rw[←hz0]at HA1;clear hz0 B8;go_wp2_with(go_at_call 41;(with_reducible refine(HA1.out).mono ?_);rintro _ _ ⟨rfl,y1,rfl⟩);exact HP.out y1
theorem Bg3 (w:World) (x:A7 w) (t:K2) (s:Int) (hs:U0 s):
 Calls Tryz.prog 105 #[.agg #[.int .i64 t.fr,.int .i64 t.un,.int .i64 t.st,.int .i64 t.fe,.int .i64 t.pr,.int .i64 t.pa],.int .i64 s] x.w (iG w t s (O6 t s)):=by
 have HA:=A3 (fun(y:A7 w)=>Bg1 w y t s hs);have HP:=A3 (fun(y:A7 w)=>show iG w t s (O6 t s) (.returned (.tuple #[.int .i64 (if S7 t s (O6 t s)=0 then O6 t s else 0),.int .i64 (S7 t s (O6 t s))])) y.w from⟨rfl,y,rfl⟩);generalize iG w t s (O6 t s)=PO at *;generalize(if S7 t s (O6 t s)=0 then O6 t s else 0)=v at *;generalize S7 t s (O6 t s)=pe at *;go_enter Tryz.func105,Tryz.ntmps105;go_upto_region 1 with fail;obtain⟨W,bx,y0,hW,hbx,-,B8,Hup,Hbx,HB0⟩:=K7 x [.int .i64 t.fr,.int .i64 t.un,.int .i64 t.st,.int .i64 t.fe,.int .i64 t.pr,.int .i64 t.pa] 27;rw[hW,hbx];clear hW hbx;obtain⟨D9,E7,F9,G0,G8,K4,hf0⟩:=Z8 HB0;clear HB0;obtain⟨z0,hz0⟩:=Hup.out y0;have HA1:=A3 (HA.out z0);rw[←hz0]at HA1;clear hz0 B8;go_wp2_with(go_at_call 41;(with_reducible refine(HA1.out).mono ?_);rintro _ _ ⟨rfl,y1,rfl⟩);exact HP.out y1
theorem Bg4 {l:List K2} {k:Nat} {x:K2} (h:l[k]? =some x) (t:Int):fB l t (k+1)=if x.fr≤t then k else fB l t k:=by
 show(if(l.getD k default).fr≤t then k else fB l t k)= _;rw[A6,h];rfl
theorem Bg5 (w:World) (x:A7 w) (l:List K2) (a:Option Addr) (c:Nat) (h:D0 K2.cs 6 w a l) (hl:l.length≤9223372036854775807) (h0:S3 l=0) (t:Int) (ht:0≤t∧t≤4294943999):
 Calls Tryz.prog 104 #[.slice a l.length c,.int .i64 t] x.w fun o w'=>o= .returned (.tuple #[.int .i64 (fB l t l.length:Int),.int .i64 0])∧∃y:A7 w,w'=y.w:=by
 have HC:=A3 (wI w x l a c h hl);rw[h0]at HC;have H:=A3 h;obtain⟨ht0,ht1⟩:=ht;have ht2:¬t<0:=by omega
 clear h h0;go_enter Tryz.func104,Tryz.ntmps104;go_wp2_with(go_at_call 96;(with_reducible refine HC.out.mono ?_);rintro _ _ ⟨rfl,y1,rfl⟩);clear HC;go_loopw [7,23] (fun v i wr=>∃(k:Nat) (y:A7 w),k≤l.length∧i= .int .i64 k∧wr=y.w∧v= .int .i64 (fB l t k:Int)) (fun _ i _ =>l.length-(intOf i).toNat)
 case atStart=>exact⟨0,y1,by omega,rfl,rfl,rfl⟩
 case round=>
  obtain⟨k,y,hk,rfl,rfl,rfl⟩:=hrel;by_cases hlt:k<l.length
  ·obtain⟨u,hu⟩:∃u,l[k]? =some u:=⟨_,A4 hlt⟩
   have HS:=A3 (Bg4 hu t);obtain⟨b1,off1,rfl,hb1,hc⟩:=H.out k u hu;have ka0:∀y:A7 w,y.w.cell? ⟨b1,off1+k*6,none⟩=some (.int .i64 u.fr):=fun y=>A7.cell (hc 0 _ rfl) hb1 y;have ka1:∀y:A7 w,y.w.cell? ⟨b1,off1+k*6+1,none⟩=some (.int .i64 u.un):=fun y=>A7.cell (hc 1 _ rfl) hb1 y;have ka2:∀y:A7 w,y.w.cell? ⟨b1,off1+k*6+2,none⟩=some (.int .i64 u.st):=fun y=>A7.cell (hc 2 _ rfl) hb1 y;have ka3:∀y:A7 w,y.w.cell? ⟨b1,off1+k*6+3,none⟩=some (.int .i64 u.fe):=fun y=>A7.cell (hc 3 _ rfl) hb1 y;have ka4:∀y:A7 w,y.w.cell? ⟨b1,off1+k*6+4,none⟩=some (.int .i64 u.pr):=fun y=>A7.cell (hc 4 _ rfl) hb1 y;have ka5:∀y:A7 w,y.w.cell? ⟨b1,off1+k*6+5,none⟩=some (.int .i64 u.pa):=fun y=>A7.cell (hc 5 _ rfl) hb1 y;have hk0:(0:Int)≤(k:Int):=by omega
   have hkl:(k:Int)<(l.length:Int):=by omega
   clear hc hb1 hu;go_upto_region 10 with fail;obtain⟨y2,e2,C9,hsz0,hlt0,HX0⟩:=L8 y [.int .i64 u.fr,.int .i64 u.un,.int .i64 u.st,.int .i64 u.fe,.int .i64 u.pr,.int .i64 u.pa] 27;rw[e2];obtain⟨hx0,hx1,hx2,hx3,hx4,hx5,hxf⟩:=kC HX0;skip;clear e2 C9;generalize y.w.heap.size=g at *;obtain⟨E6,G9,K1,J5,O8,U5,I3⟩:=Z8 HX0;have I9:=A3 (And.intro hsz0 hlt0);clear hlt0 hsz0 HX0;by_cases hf:u.fr≤t
   ·have HR:=A3 (HS.out.trans (if_pos hf))
    clear HS;go_wp2_with fail;go_roundw
    case rel=>exact⟨k+1,y2,by omega,by go_num,rfl,by rw[HR.out]⟩
    case measure=>simp[intOf];omega
   ·have HR:=A3 (HS.out.trans (if_neg hf))
    clear HS;go_wp2_with fail;go_roundw
    case rel=>exact⟨k+1,y2,by omega,by go_num,rfl,by rw[HR.out]⟩
    case measure=>simp[intOf];omega
  ·obtain rfl:k=l.length:=by omega
   go_wp2_with fail;go_ret2
   exact⟨rfl,y,rfl⟩
end
end Go.Proofs.YtmmlmhnjjfnpnaaGreat
