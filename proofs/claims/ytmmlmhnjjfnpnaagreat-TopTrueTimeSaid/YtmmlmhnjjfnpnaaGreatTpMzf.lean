/- Texts that belong together. -/
import Derived.Test.YtmmlmhnjjfnpnaaGreatTpMc
import Derived.Test.YtmmlmhnjjfnpnaaGreatTpMze
import Derived.Test.YtmmlmhnjjfnpnaaGreatProg
import Derived.IntWalk
import Derived.BigQuiet
set_option linter.all false
namespace Go.Proofs.YtmmlmhnjjfnpnaaGreat
open Go.RowKit
set_option maxHeartbeats 1000000 in
theorem inT_calls (w:World) (x:Since w) (n lo hi:Int):
 Calls Tryz.prog 200 #[.int .i64 n,.int .i64 lo,.int .i64 hi] x.w fun o w'=>o= .returned (.bool (wthB n lo hi))∧∃y:Since w,w'=y.w:=by
 rcases(by omega:n<lo∨(lo≤n∧hi<n)∨(lo≤n∧n≤hi))with h1|⟨h1,h2⟩|⟨h1,h2⟩
 ·have Hv:=Lib.hid (show wthB n lo hi=false by unfold wthB;rw[decide_eq_false (show¬lo≤n by omega)];rfl)
  go_enter Tryz.func200,Tryz.ntmps200;go_wp2_with fail;go_ret;exact⟨ret_bool Hv.out.symm,x,rfl⟩
 ·have Hv:=Lib.hid (show wthB n lo hi=false by unfold wthB;rw[decide_eq_false (show¬n≤hi by omega),Bool.and_false])
  go_enter Tryz.func200,Tryz.ntmps200;go_wp2_with fail;go_ret;exact⟨ret_bool (by first|exact Hv.out.symm|(rw[Hv.out];exact decide_eq_false (by omega))),x,rfl⟩
 ·have Hv:=Lib.hid (show wthB n lo hi=true by unfold wthB;rw[decide_eq_true h1,decide_eq_true h2];rfl)
  go_enter Tryz.func200,Tryz.ntmps200;go_wp2_with fail;go_ret;exact⟨ret_bool (by first|exact Hv.out.symm|(rw[Hv.out];exact decide_eq_true (by omega))),x,rfl⟩
set_option maxRecDepth 100000 in
set_option maxHeartbeats 4000000 in
theorem rangedT_calls (w:World) (x:Since w) (t:Tar):
 Calls Tryz.prog 139 #[.agg #[.int .i64 t.fr,.int .i64 t.un,.int .i64 t.st,.int .i64 t.fe,.int .i64 t.pr,.int .i64 t.pa]] x.w fun o w'=>o= .returned (.bool (tarV t))∧∃y:Since w,w'=y.w:=by
 have HE:=Lib.hid (show tarV t=(wthB t.fr 0 4294943999 && wthB t.un 0 1000000 && wthB t.pr 0 1000000 && wthB t.pa 0 1000000 && wthB t.st 1 86400 && wthB t.fe 0 86400)from rfl);obtain⟨fr,un,st,fe,pr,pa⟩:=t;dsimp only at HE⊢;go_enter Tryz.func139,Tryz.ntmps139;go_upto_region 1 with fail;obtain⟨W,bx,y0,hW,hbx,-,hWup,Hup,Hbx,HB0⟩:=heads1 x [.int .i64 fr,.int .i64 un,.int .i64 st,.int .i64 fe,.int .i64 pr,.int .i64 pa] 117;rw[hW,hbx];clear hW hbx;obtain⟨hb0_0,hb0_1,hb0_2,hb0_3,hb0_4,hb0_5,hf0⟩:=bx6 HB0;clear HB0;clear hWup
 cases hfr:wthB fr 0 4294943999 with
 |false=>
  have HR:=Lib.hid (show tarV _ =false from by rw[HE.out,hfr];simp)
  have Hfr:=Lib.hid hfr;clear hfr HE
  go_wp2_with(first|(go_at_call 200;(with_reducible refine(inT_calls W _ fr 0 4294943999).mono ?_);rintro _ _ ⟨rfl,y1,rfl⟩;rw[Hfr.out]))
  go_ret
  exact⟨ret_bool HR.out.symm,Hup.out _⟩
 |true=>
 have Hfr:=Lib.hid hfr;clear hfr
 cases hun:wthB un 0 1000000 with
 |false=>
  have HR:=Lib.hid (show tarV _ =false from by rw[HE.out,hun];simp)
  have Hun:=Lib.hid hun;clear hun HE
  go_wp2_with(first|(go_at_call 200;(with_reducible refine(inT_calls W _ fr 0 4294943999).mono ?_);rintro _ _ ⟨rfl,y1,rfl⟩;rw[Hfr.out])|(go_at_call 200;(with_reducible refine(inT_calls W _ un 0 1000000).mono ?_);rintro _ _ ⟨rfl,y1,rfl⟩;rw[Hun.out]))
  go_ret
  exact⟨ret_bool HR.out.symm,Hup.out _⟩
 |true=>
 have Hun:=Lib.hid hun;clear hun
 cases hpr:wthB pr 0 1000000 with
 |false=>
  have HR:=Lib.hid (show tarV _ =false from by rw[HE.out,hpr];simp)
  have Hpr:=Lib.hid hpr;clear hpr HE
  go_wp2_with(first|(go_at_call 200;(with_reducible refine(inT_calls W _ fr 0 4294943999).mono ?_);rintro _ _ ⟨rfl,y1,rfl⟩;rw[Hfr.out])|(go_at_call 200;(with_reducible refine(inT_calls W _ un 0 1000000).mono ?_);rintro _ _ ⟨rfl,y1,rfl⟩;rw[Hun.out])|(go_at_call 200;(with_reducible refine(inT_calls W _ pr 0 1000000).mono ?_);rintro _ _ ⟨rfl,y1,rfl⟩;rw[Hpr.out]))
  go_ret
  exact⟨ret_bool HR.out.symm,Hup.out _⟩
 |true=>
 have Hpr:=Lib.hid hpr;clear hpr
 cases hpa:wthB pa 0 1000000 with
 |false=>
  have HR:=Lib.hid (show tarV _ =false from by rw[HE.out,hpa];simp)
  have Hpa:=Lib.hid hpa;clear hpa HE
  go_wp2_with(first|(go_at_call 200;(with_reducible refine(inT_calls W _ fr 0 4294943999).mono ?_);rintro _ _ ⟨rfl,y1,rfl⟩;rw[Hfr.out])|(go_at_call 200;(with_reducible refine(inT_calls W _ un 0 1000000).mono ?_);rintro _ _ ⟨rfl,y1,rfl⟩;rw[Hun.out])|(go_at_call 200;(with_reducible refine(inT_calls W _ pr 0 1000000).mono ?_);rintro _ _ ⟨rfl,y1,rfl⟩;rw[Hpr.out])|(go_at_call 200;(with_reducible refine(inT_calls W _ pa 0 1000000).mono ?_);rintro _ _ ⟨rfl,y1,rfl⟩;rw[Hpa.out]))
  go_ret
  exact⟨ret_bool HR.out.symm,Hup.out _⟩
 |true=>
 have Hpa:=Lib.hid hpa;clear hpa
 cases hst:wthB st 1 86400 with
 |false=>
  have HR:=Lib.hid (show tarV _ =false from by rw[HE.out,hst];simp)
  have Hst:=Lib.hid hst;clear hst HE
  go_wp2_with(first|(go_at_call 200;(with_reducible refine(inT_calls W _ fr 0 4294943999).mono ?_);rintro _ _ ⟨rfl,y1,rfl⟩;rw[Hfr.out])|(go_at_call 200;(with_reducible refine(inT_calls W _ un 0 1000000).mono ?_);rintro _ _ ⟨rfl,y1,rfl⟩;rw[Hun.out])|(go_at_call 200;(with_reducible refine(inT_calls W _ pr 0 1000000).mono ?_);rintro _ _ ⟨rfl,y1,rfl⟩;rw[Hpr.out])|(go_at_call 200;(with_reducible refine(inT_calls W _ pa 0 1000000).mono ?_);rintro _ _ ⟨rfl,y1,rfl⟩;rw[Hpa.out])|(go_at_call 200;(with_reducible refine(inT_calls W _ st 1 86400).mono ?_);rintro _ _ ⟨rfl,y1,rfl⟩;rw[Hst.out]))
  go_ret
  exact⟨ret_bool HR.out.symm,Hup.out _⟩
 |true=>
 have Hst:=Lib.hid hst;clear hst
 cases hfe:wthB fe 0 86400 with
 |false=>
  have HR:=Lib.hid (show tarV _ =false from by rw[HE.out,hfe];simp)
  have Hfe:=Lib.hid hfe;clear hfe HE
  go_wp2_with(first|(go_at_call 200;(with_reducible refine(inT_calls W _ fr 0 4294943999).mono ?_);rintro _ _ ⟨rfl,y1,rfl⟩;rw[Hfr.out])|(go_at_call 200;(with_reducible refine(inT_calls W _ un 0 1000000).mono ?_);rintro _ _ ⟨rfl,y1,rfl⟩;rw[Hun.out])|(go_at_call 200;(with_reducible refine(inT_calls W _ pr 0 1000000).mono ?_);rintro _ _ ⟨rfl,y1,rfl⟩;rw[Hpr.out])|(go_at_call 200;(with_reducible refine(inT_calls W _ pa 0 1000000).mono ?_);rintro _ _ ⟨rfl,y1,rfl⟩;rw[Hpa.out])|(go_at_call 200;(with_reducible refine(inT_calls W _ st 1 86400).mono ?_);rintro _ _ ⟨rfl,y1,rfl⟩;rw[Hst.out])|(go_at_call 200;(with_reducible refine(inT_calls W _ fe 0 86400).mono ?_);rintro _ _ ⟨rfl,y1,rfl⟩;rw[Hfe.out]))
  go_ret
  exact⟨ret_bool HR.out.symm,Hup.out _⟩
 |true=>
 have Hfe:=Lib.hid hfe;clear hfe;have HR:=Lib.hid (show tarV _ =true from by rw[HE.out,Hfr.out,Hun.out,Hpr.out,Hpa.out,Hst.out,Hfe.out];rfl);clear HE;go_wp2_with(first|(go_at_call 200;(with_reducible refine(inT_calls W _ fr 0 4294943999).mono ?_);rintro _ _ ⟨rfl,y1,rfl⟩;rw[Hfr.out])|(go_at_call 200;(with_reducible refine(inT_calls W _ un 0 1000000).mono ?_);rintro _ _ ⟨rfl,y1,rfl⟩;rw[Hun.out])|(go_at_call 200;(with_reducible refine(inT_calls W _ pr 0 1000000).mono ?_);rintro _ _ ⟨rfl,y1,rfl⟩;rw[Hpr.out])|(go_at_call 200;(with_reducible refine(inT_calls W _ pa 0 1000000).mono ?_);rintro _ _ ⟨rfl,y1,rfl⟩;rw[Hpa.out])|(go_at_call 200;(with_reducible refine(inT_calls W _ st 1 86400).mono ?_);rintro _ _ ⟨rfl,y1,rfl⟩;rw[Hst.out])|(go_at_call 200;(with_reducible refine(inT_calls W _ fe 0 86400).mono ?_);rintro _ _ ⟨rfl,y1,rfl⟩;rw[Hfe.out]));go_ret;exact⟨ret_bool HR.out.symm,Hup.out _⟩
end Go.Proofs.YtmmlmhnjjfnpnaaGreat
namespace Go.Proofs.YtmmlmhnjjfnpnaaGreat
open Go.RowKit
def lastT (l:List Tar):Nat→Int
 |0=>-1
 |k+1=>(l.getD k default).fr
theorem tarL_step {l:List Tar} {k:Nat} {t:Tar} (h:l[k]? =some t):tarL (lastT l k) (l.drop k)=if tarV t=false then 1 else if(lastT l k<0∧t.fr≠0)∨(0≤lastT l k∧t.fr≤lastT l k)then 9 else tarL (lastT l (k+1)) (l.drop (k+1)):=by
 have hk:k<l.length:=(List.getElem?_eq_some_iff.1 h).1;have ht:l[k]=t:=(List.getElem?_eq_some_iff.1 h).2;rw[List.drop_eq_getElem_cons hk,ht];have:lastT l (k+1)=t.fr:=by
  show(l.getD k default).fr= _;rw[List.getD_eq_getElem?_getD,h];rfl
 rw[this];rfl
theorem tarV_fr {t:Tar} (h:tarV t=true):0≤t.fr:=by
 simp[tarV,wthB]at h;omega
set_option maxRecDepth 100000 in
set_option maxHeartbeats 4000000 in
theorem tarCheck_calls (w:World) (x:Since w) (l:List Tar) (a:Option Addr) (c:Nat) (h:Els Tar.cs 6 w a l) (hl:l.length≤9223372036854775807):
 Calls Tryz.prog 96 #[.slice a l.length c] x.w fun o w'=>o= .returned (.int .i64 (tarE l))∧∃y:Since w,w'=y.w:=by
 rcases(by omega:l.length=0∨8<l.length∨(0<l.length∧l.length≤8))with h0|h0|⟨h0,h8⟩
 ·have HR:=Lib.hid (show tarE l=10 from by unfold tarE;rw[if_pos h0])
  have h1:((l.length:Int) == 0)=true:=by simp[h0]
  have h2:(l.length:Int)=0:=by omega
  clear h0;go_enter Tryz.func96,Tryz.ntmps96;go_wp2_with fail;go_ret;exact⟨ret_int HR.out.symm,x,rfl⟩
 ·have HR:=Lib.hid (show tarE l=8 from by unfold tarE;rw[if_neg (by omega),if_pos h0])
  have h1:((l.length:Int) == 0)=false:=beq_eq_false_iff_ne.2 (by omega);have h2:(8:Int)<(l.length:Int):=by omega
  clear h0;go_enter Tryz.func96,Tryz.ntmps96;go_wp2_with fail;go_ret;exact⟨ret_int HR.out.symm,x,rfl⟩
 ·have HE:=Lib.hid (show tarE l=tarL (lastT l 0) (l.drop 0)from by unfold tarE;rw[if_neg (by omega),if_neg (by omega)];rfl)
  have h1:((l.length:Int) == 0)=false:=beq_eq_false_iff_ne.2 (by omega);have h2:(l.length:Int)≤8:=by omega
  have H:=Lib.hid h;clear h0 h;go_enter Tryz.func96,Tryz.ntmps96;go_wp2_with fail;go_loopw [15] (fun i wr=>∃(k:Nat) (y:Since w),k≤l.length∧i= .int .i64 k∧wr=y.w∧tarE l=tarL (lastT l k) (l.drop k)∧(0<k→0≤lastT l k)) (fun i _ =>l.length-(intOf i).toNat)
  case atStart=>exact⟨0,x,by omega,rfl,rfl,HE.out,fun h=>by omega⟩
  case round=>
   obtain⟨k,y,hk,rfl,rfl,he,hp⟩:=hrel;have Hee:=Lib.hid he;have Hpp:=Lib.hid hp;clear he hp;by_cases hlt:k<l.length
   ·obtain⟨t,ht⟩:∃t,l[k]? =some t:=⟨_,List.getElem?_eq_getElem hlt⟩
    have Hst:=Lib.hid (Hee.out.trans (tarL_step ht));obtain⟨b1,off1,rfl,hb1,hc⟩:=H.out k t ht;have ka0:∀y:Since w,y.w.cell? ⟨b1,off1+k*6,none⟩=some (.int .i64 t.fr):=fun y=>Since.cell (hc 0 _ rfl) hb1 y;have ka1:∀y:Since w,y.w.cell? ⟨b1,off1+k*6+1,none⟩=some (.int .i64 t.un):=fun y=>Since.cell (hc 1 _ rfl) hb1 y;have ka2:∀y:Since w,y.w.cell? ⟨b1,off1+k*6+2,none⟩=some (.int .i64 t.st):=fun y=>Since.cell (hc 2 _ rfl) hb1 y;have ka3:∀y:Since w,y.w.cell? ⟨b1,off1+k*6+3,none⟩=some (.int .i64 t.fe):=fun y=>Since.cell (hc 3 _ rfl) hb1 y;have ka4:∀y:Since w,y.w.cell? ⟨b1,off1+k*6+4,none⟩=some (.int .i64 t.pr):=fun y=>Since.cell (hc 4 _ rfl) hb1 y;have ka5:∀y:Since w,y.w.cell? ⟨b1,off1+k*6+5,none⟩=some (.int .i64 t.pa):=fun y=>Since.cell (hc 5 _ rfl) hb1 y;have hk0:(0:Int)≤(k:Int):=by omega
    have hkl:(k:Int)<(l.length:Int):=by omega
    clear hc hb1;go_upto_region 8 with fail;obtain⟨y2,e2,hst0,hsz0,hlt0,HX0⟩:=grow1 y [.int .i64 t.fr,.int .i64 t.un,.int .i64 t.st,.int .i64 t.fe,.int .i64 t.pr,.int .i64 t.pa] 27;rw[e2];obtain⟨hx0,hx1,hx2,hx3,hx4,hx5,hxf⟩:=cx6 HX0;skip;clear e2 hst0;generalize y.w.heap.size=g at *;obtain⟨Hhx0,Hhx1,Hhx2,Hhx3,Hhx4,Hhx5,Hhxf⟩:=bx6 HX0;have Hhxg:=Lib.hid (And.intro hsz0 hlt0);clear hlt0 hsz0 HX0;obtain⟨q0,hq0⟩:=Since.refl y2.w;rw[hq0];clear hq0
    cases hv:tarV t with
    |false=>
     have HR:=Lib.hid (Hst.out.trans (if_pos hv))
     have Hv:=Lib.hid hv;clear hv
     go_wp2_with(go_at_call 139;refine(rangedT_calls y2.w _ t).mono ?_;rintro _ _ ⟨rfl,z1,rfl⟩;rw[Hv.out])
     go_ret
     exact⟨ret_int HR.out.symm,y2.trans z1⟩
    |true=>
     have Hst2:=Lib.hid (Hst.out.trans (if_neg (by rw[hv];decide)))
     have Hfr:=Lib.hid (tarV_fr hv)
     have HL:=Lib.hid (show lastT l (k+1)=t.fr from by
      show(l.getD k default).fr= _;rw[List.getD_eq_getElem?_getD,ht];rfl)
     have Hv:=Lib.hid hv;clear hv Hst
     cases k with
     |zero=>
      by_cases hf:t.fr=0
      ·have HR:=Lib.hid (Hst2.out.trans (if_neg (fun hh=>by
        rcases hh with⟨_,h⟩|⟨h,_⟩
        ·exact h hf
        ·have:lastT l 0= -1:=rfl
         omega)))
       have hb:(t.fr != 0)=false:=by simpa using hf
       clear hf Hst2;go_upto_region 10 with(go_at_call 139;refine(rangedT_calls y2.w _ t).mono ?_;rintro _ _ ⟨rfl,z1,rfl⟩;rw[Hv.out])
       refine wp_region_since (by kernel_rfl) (by kernel_rfl) ?_;repeat(go_big_quiet_step(fail))
       refine wpQuiet_nil ?_;rintro _ ⟨z2,rfl⟩;go_wp2_with fail;go_roundw
       case rel=>obtain⟨y3,e3⟩:=y2.trans z2;exact⟨1,y3,by omega,by go_num,e3,HR.out,fun _ =>by rw[HL.out];exact Hfr.out⟩
       case measure=>simp[intOf];omega
      ·have HR:=Lib.hid (Hst2.out.trans (if_pos (Or.inl ⟨(by show(-1:Int)<0;decide),hf⟩)))
       have hb:(t.fr != 0)=true:=by simpa using hf
       clear hf Hst2;go_upto_region 10 with(go_at_call 139;refine(rangedT_calls y2.w _ t).mono ?_;rintro _ _ ⟨rfl,z1,rfl⟩;rw[Hv.out])
       refine wp_region_since (by kernel_rfl) (by kernel_rfl) ?_;repeat(go_big_quiet_step(fail))
       refine wpQuiet_nil ?_;rintro _ ⟨z2,rfl⟩;go_wp2_with fail;go_ret;exact⟨ret_int HR.out.symm,y2.trans z2⟩
     |succ m=>
      obtain⟨u,hu⟩:∃u,l[m]? =some u:=⟨_,List.getElem?_eq_getElem (by omega)⟩
      obtain⟨b2,off2,hbo,hb2,hc2⟩:=H.out m u hu
      obtain⟨rfl,rfl⟩:b1=b2∧off1=off2:=by simpa using hbo
      have hLm:lastT l (m+1)=u.fr:=by
       show(l.getD m default).fr= _;rw[List.getD_eq_getElem?_getD,hu];rfl
      have hu0:0≤u.fr:=by rw[←hLm];exact Hpp.out (by omega)
      have kc0:∀y:Since w,y.w.cell? ⟨b1,off1+m*6,none⟩=some (.int .i64 u.fr):=fun y=>Since.cell (hc2 0 _ rfl) hb2 y
      have kc:∀z:Since y2.w,z.w.cell? ⟨b1,off1+m*6,none⟩=some (.int .i64 u.fr):=fun z=>by obtain⟨y3,e3⟩:=y2.trans z;rw[e3];exact kc0 y3
      have w1:wrap64 (((m+1:Nat):Int)-1)=(m:Int):=by rw[show((m+1:Nat):Int)-1=(m:Int) by omega];exact IntWalk.wrap64_in _ ⟨by omega,by omega⟩
      have e0:(((m+1:Nat):Int) == 0)=false:=beq_eq_false_iff_ne.2 (by omega)
      have e1:(0:Int)<((m+1:Nat):Int):=by omega
      have e0':((m:Int)+1 == 0)=false:=beq_eq_false_iff_ne.2 (by omega)
      have e1':(0:Int)<(m:Int)+1:=by omega
      have w2:wrap64 ((m:Int)+1-1)=(m:Int):=by rw[show(m:Int)+1-1=(m:Int) by omega];exact IntWalk.wrap64_in _ ⟨by omega,by omega⟩
      have w3:wrap64 (m:Int)=(m:Int):=IntWalk.wrap64_in _ ⟨by omega,by omega⟩
      have hm0:(0:Int)≤(m:Int):=by omega
      have hml:(m:Int)<(l.length:Int):=by omega
      clear hbo hb2 hc2 kc0 hu
      by_cases hf:t.fr≤u.fr
      ·have HR:=Lib.hid (Hst2.out.trans (if_pos (Or.inr ⟨by rw[hLm];exact hu0,by rw[hLm];exact hf⟩)))
       clear Hst2 hLm;go_upto_region 10 with(go_at_call 139;refine(rangedT_calls y2.w _ t).mono ?_;rintro _ _ ⟨rfl,z1,rfl⟩;rw[Hv.out])
       refine wp_region_since (by kernel_rfl) (by kernel_rfl) ?_;repeat(go_big_quiet_step(fail))
       refine wpQuiet_nil ?_;rintro _ ⟨z2,rfl⟩;go_wp2_with fail;go_ret;exact⟨ret_int HR.out.symm,y2.trans z2⟩
      ·have HR:=Lib.hid (Hst2.out.trans (if_neg (by rw[hLm];omega)))
       have hf2:u.fr<t.fr:=by omega
       clear Hst2 hLm hf;go_upto_region 10 with(go_at_call 139;refine(rangedT_calls y2.w _ t).mono ?_;rintro _ _ ⟨rfl,z1,rfl⟩;rw[Hv.out])
       refine wp_region_since (by kernel_rfl) (by kernel_rfl) ?_;repeat(go_big_quiet_step(fail))
       refine wpQuiet_nil ?_;rintro _ ⟨z2,rfl⟩;go_wp2_with fail;go_roundw
       case rel=>obtain⟨y3,e3⟩:=y2.trans z2;exact⟨m+1+1,y3,by omega,by go_num,e3,HR.out,fun _ =>by rw[HL.out];exact Hfr.out⟩
       case measure=>simp[intOf];omega
   ·obtain rfl:k=l.length:=by omega
    have HR:=Lib.hid (show tarE l=0 from by rw[Hee.out,List.drop_length];rfl);go_wp2_with fail;go_ret;exact⟨ret_int HR.out.symm,y,rfl⟩
end Go.Proofs.YtmmlmhnjjfnpnaaGreat
namespace Go.Proofs.YtmmlmhnjjfnpnaaGreat
open Go.RowKit
set_option maxHeartbeats 1000000 in
theorem steps_calls (w:World) (x:Since w) (t:Tar) (s:Int) (hs:-9000000000≤s∧s≤9000000000) (ht:1≤t.st∧t.st≤86400):
 Calls Tryz.prog 90 #[.agg #[.int .i64 t.fr,.int .i64 t.un,.int .i64 t.st,.int .i64 t.fe,.int .i64 t.pr,.int .i64 t.pa],.int .i64 s] x.w fun o w'=>o= .returned (.int .i64 (stpN t s))∧∃y:Since w,w'=y.w:=by
 have HE:=Lib.hid (show stpN t s=(max s 0+t.st-1)/t.st from rfl);obtain⟨fr,un,st,fe,pr,pa⟩:=t;dsimp only at HE ht⊢;have h0:¬st=0:=by omega
 obtain⟨S,rfl⟩:∃S:Nat,st=(S:Int):=⟨st.toNat,by omega⟩
 rcases(by omega:s<0∨0≤s)with h|h
 ·have HE2:=HE.out
  rw[Int.max_eq_right (show s≤0 by omega),Int.zero_add]at HE2;replace HE:=Lib.hid HE2;clear HE2;have w2:wrap64 ((S:Int)-1)=(S:Int)-1:=IntWalk.wrap64_in _ ⟨by omega,by omega⟩;go_enter Tryz.func90,Tryz.ntmps90;go_wp2_with fail;go_ret;exact⟨ret_int HE.out.symm,x.alloc _⟩
 ·have HE2:=HE.out
  rw[Int.max_eq_left h]at HE2;replace HE:=Lib.hid HE2;clear HE2;obtain⟨N,rfl⟩:∃N:Nat,s=(N:Int):=⟨s.toNat,by omega⟩
  have w1:wrap64 ((N:Int)+(S:Int))=(N:Int)+(S:Int):=IntWalk.wrap64_in _ ⟨by omega,by omega⟩;have w2:wrap64 ((N:Int)+(S:Int)-1)=(N:Int)+(S:Int)-1:=IntWalk.wrap64_in _ ⟨by omega,by omega⟩;go_enter Tryz.func90,Tryz.ntmps90;go_wp2_with fail;all_goals
   go_ret;exact⟨ret_int HE.out.symm,x.alloc _⟩
end Go.Proofs.YtmmlmhnjjfnpnaaGreat
namespace Go.Proofs.YtmmlmhnjjfnpnaaGreat
open Go.RowKit
set_option maxHeartbeats 2000000 in
theorem ridingT_calls (w:World) (x:Since w) (t:Tar) (s:Int) (hs:0≤s∧s≤4294944000) (ht:tarV t=true):
 Calls Tryz.prog 42 #[.agg #[.int .i64 t.fr,.int .i64 t.un,.int .i64 t.st,.int .i64 t.fe,.int .i64 t.pr,.int .i64 t.pa],.int .i64 s] x.w fun o w'=>o= .returned (.int .i64 (rdP t s))∧∃y:Since w,w'=y.w:=by
 have hF:=tarV_facts ht;clear ht;have hB:=stpN_bd (t:=t) hF.2.2.2.2.2.2.1 (s:=s-t.fe);have HV:=Lib.hid (show rdP t s=t.pr*stpN t (s-t.fe)from rfl);have hst:∀(W:World) (x:Since W),Calls Tryz.prog 90 #[.agg #[.int .i64 t.fr,.int .i64 t.un,.int .i64 t.st,.int .i64 t.fe,.int .i64 t.pr,.int .i64 t.pa],.int .i64 (s-t.fe)] x.w fun o w'=>o= .returned (.int .i64 (stpN t (s-t.fe)))∧∃y:Since W,w'=y.w:=fun W x=>steps_calls W x t (s-t.fe) ⟨by omega,by omega⟩ ⟨hF.2.2.2.2.2.2.1,hF.2.2.2.2.2.2.2.1⟩;have hN:stpN t (s-t.fe)≤4294944000:=by have:=hB.2;omega
 have hN0:=hB.1;obtain⟨fr,un,st,fe,pr,pa⟩:=t;dsimp only at hF hB HV hst hN hN0⊢;generalize stpN ⟨fr,un,st,fe,pr,pa⟩ (s-fe)=N at *;have hm:0≤pr*N∧pr*N≤1000000*4294944000:=⟨Int.mul_nonneg (by omega) hN0,Int.mul_le_mul (by omega) hN hN0 (by omega)⟩
 have w1:wrap64 (pr*N)=pr*N:=IntWalk.wrap64_in _ ⟨by omega,by omega⟩;have w2:wrap64 (s-fe)=s-fe:=IntWalk.wrap64_in _ ⟨by omega,by omega⟩;have Hst:=Lib.hid hst;clear hst hB hm hN hN0;go_enter Tryz.func42,Tryz.ntmps42;go_upto_region 1 with fail;obtain⟨W,bx,y0,hW,hbx,-,hWup,Hup,Hbx,HB0⟩:=heads1 x [.int .i64 fr,.int .i64 un,.int .i64 st,.int .i64 fe,.int .i64 pr,.int .i64 pa] 117;rw[hW,hbx];clear hW hbx;obtain⟨hb0_0,hb0_1,hb0_2,hb0_3,hb0_4,hb0_5,hf0⟩:=bx6 HB0;clear HB0;clear hWup;have HS:=Hst.out W;refine wp_region_since (by kernel_rfl) (by kernel_rfl) ?_;repeat(go_big_quiet_step((go_at_call 90;exact HS _)))
 refine wpQuiet_nil ?_;rintro _ ⟨z,rfl⟩;go_wp2_with fail;go_ret;exact⟨ret_int (by first|exact HV.out.symm|exact w1.trans HV.out.symm),Hup.out _⟩
set_option maxHeartbeats 2000000 in
theorem pausingT_calls (w:World) (x:Since w) (t:Tar) (s:Int) (hs:0≤s∧s≤4294944000) (ht:tarV t=true):
 Calls Tryz.prog 157 #[.agg #[.int .i64 t.fr,.int .i64 t.un,.int .i64 t.st,.int .i64 t.fe,.int .i64 t.pr,.int .i64 t.pa],.int .i64 s] x.w fun o w'=>o= .returned (.int .i64 (paP t s))∧∃y:Since w,w'=y.w:=by
 have hF:=tarV_facts ht;clear ht;have hB:=stpN_bd (t:=t) hF.2.2.2.2.2.2.1 (s:=s);have HV:=Lib.hid (show paP t s=t.pa*stpN t (s)from rfl);have hst:∀(W:World) (x:Since W),Calls Tryz.prog 90 #[.agg #[.int .i64 t.fr,.int .i64 t.un,.int .i64 t.st,.int .i64 t.fe,.int .i64 t.pr,.int .i64 t.pa],.int .i64 (s)] x.w fun o w'=>o= .returned (.int .i64 (stpN t (s)))∧∃y:Since W,w'=y.w:=fun W x=>steps_calls W x t (s) ⟨by omega,by omega⟩ ⟨hF.2.2.2.2.2.2.1,hF.2.2.2.2.2.2.2.1⟩;have hN:stpN t (s)≤4294944000:=by have:=hB.2;omega
 have hN0:=hB.1;obtain⟨fr,un,st,fe,pr,pa⟩:=t;dsimp only at hF hB HV hst hN hN0⊢;generalize stpN ⟨fr,un,st,fe,pr,pa⟩ (s)=N at *;have hm:0≤pa*N∧pa*N≤1000000*4294944000:=⟨Int.mul_nonneg (by omega) hN0,Int.mul_le_mul (by omega) hN hN0 (by omega)⟩
 have w1:wrap64 (pa*N)=pa*N:=IntWalk.wrap64_in _ ⟨by omega,by omega⟩;have Hst:=Lib.hid hst;clear hst hB hm hN hN0;go_enter Tryz.func157,Tryz.ntmps157;go_upto_region 1 with fail;obtain⟨W,bx,y0,hW,hbx,-,hWup,Hup,Hbx,HB0⟩:=heads1 x [.int .i64 fr,.int .i64 un,.int .i64 st,.int .i64 fe,.int .i64 pr,.int .i64 pa] 117;rw[hW,hbx];clear hW hbx;obtain⟨hb0_0,hb0_1,hb0_2,hb0_3,hb0_4,hb0_5,hf0⟩:=bx6 HB0;clear HB0;clear hWup;have HS:=Hst.out W;refine wp_region_since (by kernel_rfl) (by kernel_rfl) ?_;repeat(go_big_quiet_step((go_at_call 90;exact HS _)))
 refine wpQuiet_nil ?_;rintro _ ⟨z,rfl⟩;go_wp2_with fail;go_ret;exact⟨ret_int (by first|exact HV.out.symm|exact w1.trans HV.out.symm),Hup.out _⟩
end Go.Proofs.YtmmlmhnjjfnpnaaGreat
namespace Go.Proofs.YtmmlmhnjjfnpnaaGreat
open Go.RowKit
set_option maxRecDepth 100000 in
set_option maxHeartbeats 8000000 in
theorem alone_calls (w:World) (x:Since w) (t:Tar):
 Calls Tryz.prog 89 #[.agg #[.int .i64 t.fr,.int .i64 t.un,.int .i64 t.st,.int .i64 t.fe,.int .i64 t.pr,.int .i64 t.pa]] x.w fun o w'=>o= .returned (.tuple #[.agg #[.int .i64 0,.int .i64 t.un,.int .i64 t.st,.int .i64 t.fe,.int .i64 t.pr,.int .i64 t.pa],.int .i64 (tarE [t.z])])∧∃y:Since w,w'=y.w:=by
 obtain⟨fr,un,st,fe,pr,pa⟩:=t;obtain⟨u,hu⟩:∃u:Tar,u=⟨0,un,st,fe,pr,pa⟩:=⟨_,rfl⟩
 rw[show(Tar.z ⟨fr,un,st,fe,pr,pa⟩)=u from hu.symm];dsimp only;have HU:=Lib.hid hu;obtain⟨PO,hPO⟩:∃PO:Ending→World→Prop,PO=fun o w'=>o= .returned (.tuple #[.agg #[.int .i64 0,.int .i64 un,.int .i64 st,.int .i64 fe,.int .i64 pr,.int .i64 pa],.int .i64 (tarE [u])])∧∃y:Since w,w'=y.w:=⟨_,rfl⟩
 rw[←hPO];have HPO:=Lib.hid (fun(w':World) (h:IsSince w w')=>show PO (.returned (.tuple #[.agg #[.int .i64 0,.int .i64 un,.int .i64 st,.int .i64 fe,.int .i64 pr,.int .i64 pa],.int .i64 (tarE [u])])) w' from by rw[hPO];exact⟨rfl,h⟩);clear hPO hu;go_enter Tryz.func89,Tryz.ntmps89;go_upto_region 1 with fail;obtain⟨W,bx,y0,hW,hbx,-,hWup,Hup,Hbx,HB0,HB1⟩:=heads2 x ([Value.int .i64 fr,.int .i64 un,.int .i64 st,.int .i64 fe,.int .i64 pr,.int .i64 pa]) 27 ([Value.int .i64 0,.int .i64 0,.int .i64 0,.int .i64 0,.int .i64 0,.int .i64 0]) 117;rw[hW,hbx];clear hW hbx;have hB0:=fun y:Since W=>HB0.since y;have hB1:=fun y:Since W=>HB1.since y;clear HB0 HB1;have HB:=Lib.hid (hB0 y0);have HB':=Lib.hid (hB1 y0);have k0:y0.w.cell? ⟨bx,0,none⟩=some (.int .i64 fr):=HB.out.c 0 _ rfl;have f0:=HB.out.f 0;clear hB0 hB1 hWup;go_upto_region 2 with fail;have HW:=Lib.hid (show IsSince w (y0.w.setCell ⟨bx,0,none⟩ (.int .i64 0))from IsSince.set (Hup.out y0) _ (by have:=Hbx.out;show _≤bx;omega) _);replace HB':=Lib.hid (HB'.out.far ⟨bx,0,none⟩ (.int .i64 0) (by simp));replace HB:=Lib.hid (HB.out.setj (j:=0) (by simp) (.int .i64 0));simp only[List.set_cons_zero]at HB;clear k0 f0;generalize y0.w.setCell ⟨bx,0,none⟩ (.int .i64 0)=w1 at *;have HEl:=els_mk Tar.len w1 [u] 27;rw[HU.out]at HEl;have HC:=Lib.hid (show Calls Tryz.prog 96 #[.slice (some ⟨w1.heap.size,0,none⟩) 1 1] (w1.alloc (.cells #[.int .i64 0,.int .i64 un,.int .i64 st,.int .i64 fe,.int .i64 pr,.int .i64 pa] 27)).drew (fun o w'=>o= .returned (.int .i64 (tarE [u]))∧∃y:Since (w1.alloc (.cells #[.int .i64 0,.int .i64 un,.int .i64 st,.int .i64 fe,.int .i64 pr,.int .i64 pa] 27)).drew,w'=y.w)from by
  rw[HU.out];exact tarCheck_calls _ (Since.self _) [⟨0,un,st,fe,pr,pa⟩] (some ⟨w1.heap.size,0,none⟩) 1 (HEl.to (IsSince.drew' (IsSince.self _))) (by simp))
 clear HEl;have HSf:=Lib.hid (fun(w':World) (h:BoxIs w' bx [.int .i64 0,.int .i64 un,.int .i64 st,.int .i64 fe,.int .i64 pr,.int .i64 pa])=>show w'.cell? ⟨bx,0,none⟩=some (.int .i64 0)∧w'.cell? ⟨bx,1,none⟩=some (.int .i64 un)∧w'.cell? ⟨bx,2,none⟩=some (.int .i64 st)∧w'.cell? ⟨bx,3,none⟩=some (.int .i64 fe)∧w'.cell? ⟨bx,4,none⟩=some (.int .i64 pr)∧w'.cell? ⟨bx,5,none⟩=some (.int .i64 pa)from⟨h.c 0 _ rfl,h.c 1 _ rfl,h.c 2 _ rfl,h.c 3 _ rfl,h.c 4 _ rfl,h.c 5 _ rfl⟩);refine wp_region_M (fun w'=>w'.cell? ⟨bx,0,none⟩=some (.int .i64 0)∧w'.cell? ⟨bx,1,none⟩=some (.int .i64 un)∧w'.cell? ⟨bx,2,none⟩=some (.int .i64 st)∧w'.cell? ⟨bx,3,none⟩=some (.int .i64 fe)∧w'.cell? ⟨bx,4,none⟩=some (.int .i64 pr)∧w'.cell? ⟨bx,5,none⟩=some (.int .i64 pa)) 5 (by kernel_rfl) (HSf.out _ HB.out.drew) (fun hS=>?_);refine tk 0 ?_ rfl (by kernel_rfl) hS (fun _ _ _ h=>h) ?_ ?_;rotate_left
 ·(intro w h;(try dsimp only at h);go_split_ands;go_simp;try with_reducible rfl)
 (try simp only[Act.put,actS])
 refine tk 1 ?_ rfl (by kernel_rfl) hS (fun _ _ _ h=>h) ?_ ?_;rotate_left
 ·(intro w h;(try dsimp only at h);go_split_ands;go_simp;try with_reducible rfl)
 (try simp only[Act.put,actS])
 refine tk1 2 (by kernel_rfl) rfl fun K hK=>?_;go_simp;refine tkK hK (HSf.out _ (HB.out.up _).drew) ?_;clear hK K hS;intro hS;(try simp only[Act.put,actS])
 have HBb:=Lib.hid ((HB'.out.up (.cells #[.int .i64 0,.int .i64 un,.int .i64 st,.int .i64 fe,.int .i64 pr,.int .i64 pa] 27)).drew);have HBa:=Lib.hid ((HB.out.up (.cells #[.int .i64 0,.int .i64 un,.int .i64 st,.int .i64 fe,.int .i64 pr,.int .i64 pa] 27)).drew);have HW2:=Lib.hid (IsSince.drew' (IsSince.alloc HW.out (.cells #[.int .i64 0,.int .i64 un,.int .i64 st,.int .i64 fe,.int .i64 pr,.int .i64 pa] 27)));refine tk1 3 (by kernel_rfl) rfl fun K hK=>?_;(go_simp;(with_reducible refine(HC.out).mono ?_);rintro _ _ ⟨rfl,y5,rfl⟩)
 refine tkK hK (HSf.out _ (HBa.out.since y5)) ?_;clear hK K hS;intro hS;(try simp only[Act.put,actS])
 have HW3:=Lib.hid (IsSince.trans HW2.out ⟨y5,rfl⟩);have HBc:=Lib.hid (HBb.out.since y5);have r0:y5.w.cell? ⟨bx+1,0,none⟩=some (.int .i64 0):=HBc.out.c 0 _ rfl;have r1:y5.w.cell? ⟨bx+1,1,none⟩=some (.int .i64 0):=HBc.out.c 1 _ rfl;have r2:y5.w.cell? ⟨bx+1,2,none⟩=some (.int .i64 0):=HBc.out.c 2 _ rfl;have r3:y5.w.cell? ⟨bx+1,3,none⟩=some (.int .i64 0):=HBc.out.c 3 _ rfl;have r4:y5.w.cell? ⟨bx+1,4,none⟩=some (.int .i64 0):=HBc.out.c 4 _ rfl;have r5:y5.w.cell? ⟨bx+1,5,none⟩=some (.int .i64 0):=HBc.out.c 5 _ rfl;have rf:=HBc.out.f;have HW4:=Lib.hid (show IsSince w (y5.w.setCells (bx+1) 0 [.int .i64 0,.int .i64 un,.int .i64 st,.int .i64 fe,.int .i64 pr,.int .i64 pa])from by
  obtain⟨q,e⟩:=HW3.out;rw[e];exact q.sets (bx+1) (by have:=Hbx.out;omega) _ 0)
 have HBd:=Lib.hid (HBc.out.sets (us:=[.int .i64 0,.int .i64 un,.int .i64 st,.int .i64 fe,.int .i64 pr,.int .i64 pa]) rfl);have HBe:=Lib.hid (((HBa.out.since y5).keepS (S:=fun g=>g=bx+1) (KpS.sets (S:=fun g=>g=bx+1) (bx+1) rfl [.int .i64 0,.int .i64 un,.int .i64 st,.int .i64 fe,.int .i64 pr,.int .i64 pa] 0 _) (by omega)));refine tk1 4 (by kernel_rfl) rfl fun K hK=>?_;go_simp;refine tkK hK (HSf.out _ HBe.out) ?_;clear hK K hS;intro hS;(try simp only[Act.put,actS])
 refine tk1 5 (by kernel_rfl) rfl fun K hK=>?_;go_simp;refine tkL hK (by kernel_rfl) ?_;clear hK K hS;(try simp only[Act.put,actS])
 have c0:=HBd.out.c 0 _ rfl;have c1:=HBd.out.c 1 _ rfl;have c2:=HBd.out.c 2 _ rfl;have c3:=HBd.out.c 3 _ rfl;have c4:=HBd.out.c 4 _ rfl;have c5:=HBd.out.c 5 _ rfl;refine Eq.mp (congrArg (fun W=>Exit.then _ _ _ _ W) (show y5.w.setCells (bx+1) 0 [.int .i64 0,.int .i64 un,.int .i64 st,.int .i64 fe,.int .i64 pr,.int .i64 pa]= _ from rfl)) ?_;clear r0 r1 r2 r3 r4 r5 rf;generalize y5.w.setCells (bx+1) 0 [.int .i64 0,.int .i64 un,.int .i64 st,.int .i64 fe,.int .i64 pr,.int .i64 pa]=w5 at *;go_wp2_with fail;refine body_end (v:=.tuple #[.agg #[.int .i64 0,.int .i64 un,.int .i64 st,.int .i64 fe,.int .i64 pr,.int .i64 pa],.int .i64 (tarE [u])]) (by simp[results,Tryz.results89,go_sem,c0,c1,c2,c3,c4,c5]) rfl ?_;exact HPO.out _ HW4.out
section
set_option maxRecDepth 100000 in
set_option maxHeartbeats 8000000 in
theorem price_rd (w:World) (x:Since w) (t:Tar) (s:Int) (hs:I64 s):
 Calls Tryz.prog 41 #[.func (.func 42) #[] #[],.agg #[.int .i64 t.fr,.int .i64 t.un,.int .i64 t.st,.int .i64 t.fe,.int .i64 t.pr,.int .i64 t.pa],.int .i64 s] x.w fun o w'=>o= .returned (.tuple #[.int .i64 (if prcE t s (rdP t s)=0 then rdP t s else 0),.int .i64 (prcE t s (rdP t s))])∧∃y:Since w,w'=y.w:=by
 have HA:=Lib.hid (fun(y:Since w)=>alone_calls w y t);have HV:=Lib.hid (show∀(y:Since w),tarV t.z=true→0≤s∧s≤4294944000→Calls Tryz.prog 42 #[.agg #[.int .i64 0,.int .i64 t.un,.int .i64 t.st,.int .i64 t.fe,.int .i64 t.pr,.int .i64 t.pa],.int .i64 s] y.w (fun o w'=>o= .returned (.int .i64 (rdP t s))∧∃y:Since w,w'=y.w)from fun y h1 h2=>ridingT_calls w y t.z s h2 h1);have hE:(tarV t.z=false∧tarE [t.z]=1∧prcE t s (rdP t s)=1)∨(tarV t.z=true∧tarE [t.z]=0∧((s<0∧prcE t s (rdP t s)=1)∨(0≤s∧4294944000<s∧prcE t s (rdP t s)=1)∨((0≤s∧s≤4294944000)∧((1000000000000<rdP t s∧prcE t s (rdP t s)=2)∨(rdP t s≤1000000000000∧prcE t s (rdP t s)=0))))):=by
  rw[tarE_one];unfold prcE
  cases hv:tarV t.z with
  |false=>exact .inl ⟨rfl,rfl,rfl⟩
  |true=>
   refine .inr ⟨rfl,rfl,?_⟩
   rw[if_neg (by decide)]
   by_cases h1:s<0
   ·exact .inl ⟨h1,if_pos (.inl h1)⟩
   ·by_cases h2:4294944000<s
    ·exact .inr (.inl ⟨by omega,h2,if_pos (.inr h2)⟩)
    ·rw[if_neg (by omega)]
     refine .inr (.inr ⟨⟨by omega,by omega⟩,?_⟩);by_cases h3:1000000000000<rdP t s
     ·exact .inl ⟨h3,if_pos h3⟩
     ·exact .inr ⟨by omega,if_neg h3⟩
 generalize prcE t s (rdP t s)=pe at *;generalize tarE [t.z]=te at *;generalize rdP t s=v at *;generalize tarV t.z=tv at *;obtain⟨fr,un,st,fe,pr,pa⟩:=t;dsimp only at HA HV⊢;rcases hE with⟨rfl,rfl,rfl⟩|⟨rfl,rfl,⟨h1,rfl⟩|⟨h1,h2,rfl⟩|⟨h1,⟨h2,rfl⟩|⟨h2,rfl⟩⟩⟩
 ·go_enter Tryz.func41,Tryz.ntmps41
  go_upto_region 1 with fail;obtain⟨W,bx,y0,hW,hbx,-,hWup,Hup,Hbx,HB0⟩:=heads1 x [.int .i64 fr,.int .i64 un,.int .i64 st,.int .i64 fe,.int .i64 pr,.int .i64 pa] 27;rw[hW,hbx];clear hW hbx;obtain⟨hb0_0,hb0_1,hb0_2,hb0_3,hb0_4,hb0_5,hf0⟩:=bx6 HB0;clear HB0;obtain⟨z0,hz0⟩:=Hup.out y0;have HA1:=Lib.hid (HA.out z0);rw[←hz0]at HA1;clear hz0 hWup;go_wp2_with(go_at_call 89;(with_reducible refine(HA1.out).mono ?_);rintro _ _ ⟨rfl,y1,rfl⟩);go_ret2
  exact⟨rfl,y1.alloc _⟩
 ·go_enter Tryz.func41,Tryz.ntmps41
  go_upto_region 1 with fail;obtain⟨W,bx,y0,hW,hbx,-,hWup,Hup,Hbx,HB0⟩:=heads1 x [.int .i64 fr,.int .i64 un,.int .i64 st,.int .i64 fe,.int .i64 pr,.int .i64 pa] 27;rw[hW,hbx];clear hW hbx;obtain⟨hb0_0,hb0_1,hb0_2,hb0_3,hb0_4,hb0_5,hf0⟩:=bx6 HB0;clear HB0;obtain⟨z0,hz0⟩:=Hup.out y0;have HA1:=Lib.hid (HA.out z0);rw[←hz0]at HA1;clear hz0 hWup;go_wp2_with(go_at_call 89;(with_reducible refine(HA1.out).mono ?_);rintro _ _ ⟨rfl,y1,rfl⟩);go_ret2
  exact⟨rfl,y1.alloc _⟩
 ·have h3:¬s<0:=by omega
  go_enter Tryz.func41,Tryz.ntmps41;go_upto_region 1 with fail;obtain⟨W,bx,y0,hW,hbx,-,hWup,Hup,Hbx,HB0⟩:=heads1 x [.int .i64 fr,.int .i64 un,.int .i64 st,.int .i64 fe,.int .i64 pr,.int .i64 pa] 27;rw[hW,hbx];clear hW hbx;obtain⟨hb0_0,hb0_1,hb0_2,hb0_3,hb0_4,hb0_5,hf0⟩:=bx6 HB0;clear HB0;obtain⟨z0,hz0⟩:=Hup.out y0;have HA1:=Lib.hid (HA.out z0);rw[←hz0]at HA1;clear hz0 hWup;go_wp2_with(go_at_call 89;(with_reducible refine(HA1.out).mono ?_);rintro _ _ ⟨rfl,y1,rfl⟩);go_ret2
  exact⟨rfl,y1.alloc _⟩
 all_goals
  obtain⟨h1a,h1b⟩:=h1;have h3:¬s<0:=by omega
  go_enter Tryz.func41,Tryz.ntmps41;go_upto_region 1 with fail;obtain⟨W,bx,y0,hW,hbx,-,hWup,Hup,Hbx,HB0⟩:=heads1 x [.int .i64 fr,.int .i64 un,.int .i64 st,.int .i64 fe,.int .i64 pr,.int .i64 pa] 27;rw[hW,hbx];clear hW hbx;obtain⟨hb0_0,hb0_1,hb0_2,hb0_3,hb0_4,hb0_5,hf0⟩:=bx6 HB0;clear HB0;obtain⟨z0,hz0⟩:=Hup.out y0;have HA1:=Lib.hid (HA.out z0);rw[←hz0]at HA1;clear hz0 hWup;go_upto_region 2 with(go_at_call 89;(with_reducible refine(HA1.out).mono ?_);rintro _ _ ⟨rfl,y1,rfl⟩)
  obtain⟨y2,e2,hst0,hsz0,hlt0,HX0⟩:=grow1 y1 [.int .i64 0,.int .i64 un,.int .i64 st,.int .i64 fe,.int .i64 pr,.int .i64 pa] 117;rw[e2];obtain⟨hx0,hx1,hx2,hx3,hx4,hx5,hxf⟩:=cx6 HX0;skip;clear e2 hst0;generalize y1.w.heap.size=g at *;obtain⟨Hhx0,Hhx1,Hhx2,Hhx3,Hhx4,Hhx5,Hhxf⟩:=bx6 HX0;have Hhxg:=Lib.hid (And.intro hsz0 hlt0);clear hlt0 hsz0 HX0;have HV1:=Lib.hid (HV.out y2 (by first|rfl|trivial) ⟨h1a,h1b⟩);go_wp2_with(go_at_call 42;(with_reducible refine(HV1.out).mono ?_);rintro _ _ ⟨rfl,y3,rfl⟩);go_ret2
  exact⟨rfl,y3,rfl⟩
set_option maxRecDepth 100000 in
set_option maxHeartbeats 8000000 in
theorem price_pa (w:World) (x:Since w) (t:Tar) (s:Int) (hs:I64 s):
 Calls Tryz.prog 41 #[.func (.func 157) #[] #[],.agg #[.int .i64 t.fr,.int .i64 t.un,.int .i64 t.st,.int .i64 t.fe,.int .i64 t.pr,.int .i64 t.pa],.int .i64 s] x.w fun o w'=>o= .returned (.tuple #[.int .i64 (if prcE t s (paP t s)=0 then paP t s else 0),.int .i64 (prcE t s (paP t s))])∧∃y:Since w,w'=y.w:=by
 have HA:=Lib.hid (fun(y:Since w)=>alone_calls w y t);have HV:=Lib.hid (show∀(y:Since w),tarV t.z=true→0≤s∧s≤4294944000→Calls Tryz.prog 157 #[.agg #[.int .i64 0,.int .i64 t.un,.int .i64 t.st,.int .i64 t.fe,.int .i64 t.pr,.int .i64 t.pa],.int .i64 s] y.w (fun o w'=>o= .returned (.int .i64 (paP t s))∧∃y:Since w,w'=y.w)from fun y h1 h2=>pausingT_calls w y t.z s h2 h1);have hE:(tarV t.z=false∧tarE [t.z]=1∧prcE t s (paP t s)=1)∨(tarV t.z=true∧tarE [t.z]=0∧((s<0∧prcE t s (paP t s)=1)∨(0≤s∧4294944000<s∧prcE t s (paP t s)=1)∨((0≤s∧s≤4294944000)∧((1000000000000<paP t s∧prcE t s (paP t s)=2)∨(paP t s≤1000000000000∧prcE t s (paP t s)=0))))):=by
  rw[tarE_one];unfold prcE
  cases hv:tarV t.z with
  |false=>exact .inl ⟨rfl,rfl,rfl⟩
  |true=>
   refine .inr ⟨rfl,rfl,?_⟩
   rw[if_neg (by decide)]
   by_cases h1:s<0
   ·exact .inl ⟨h1,if_pos (.inl h1)⟩
   ·by_cases h2:4294944000<s
    ·exact .inr (.inl ⟨by omega,h2,if_pos (.inr h2)⟩)
    ·rw[if_neg (by omega)]
     refine .inr (.inr ⟨⟨by omega,by omega⟩,?_⟩);by_cases h3:1000000000000<paP t s
     ·exact .inl ⟨h3,if_pos h3⟩
     ·exact .inr ⟨by omega,if_neg h3⟩
 generalize prcE t s (paP t s)=pe at *;generalize tarE [t.z]=te at *;generalize paP t s=v at *;generalize tarV t.z=tv at *;obtain⟨fr,un,st,fe,pr,pa⟩:=t;dsimp only at HA HV⊢;rcases hE with⟨rfl,rfl,rfl⟩|⟨rfl,rfl,⟨h1,rfl⟩|⟨h1,h2,rfl⟩|⟨h1,⟨h2,rfl⟩|⟨h2,rfl⟩⟩⟩
 ·go_enter Tryz.func41,Tryz.ntmps41
  go_upto_region 1 with fail;obtain⟨W,bx,y0,hW,hbx,-,hWup,Hup,Hbx,HB0⟩:=heads1 x [.int .i64 fr,.int .i64 un,.int .i64 st,.int .i64 fe,.int .i64 pr,.int .i64 pa] 27;rw[hW,hbx];clear hW hbx;obtain⟨hb0_0,hb0_1,hb0_2,hb0_3,hb0_4,hb0_5,hf0⟩:=bx6 HB0;clear HB0;obtain⟨z0,hz0⟩:=Hup.out y0;have HA1:=Lib.hid (HA.out z0);rw[←hz0]at HA1;clear hz0 hWup;go_wp2_with(go_at_call 89;(with_reducible refine(HA1.out).mono ?_);rintro _ _ ⟨rfl,y1,rfl⟩);go_ret2
  exact⟨rfl,y1.alloc _⟩
 ·go_enter Tryz.func41,Tryz.ntmps41
  go_upto_region 1 with fail;obtain⟨W,bx,y0,hW,hbx,-,hWup,Hup,Hbx,HB0⟩:=heads1 x [.int .i64 fr,.int .i64 un,.int .i64 st,.int .i64 fe,.int .i64 pr,.int .i64 pa] 27;rw[hW,hbx];clear hW hbx;obtain⟨hb0_0,hb0_1,hb0_2,hb0_3,hb0_4,hb0_5,hf0⟩:=bx6 HB0;clear HB0;obtain⟨z0,hz0⟩:=Hup.out y0;have HA1:=Lib.hid (HA.out z0);rw[←hz0]at HA1;clear hz0 hWup;go_wp2_with(go_at_call 89;(with_reducible refine(HA1.out).mono ?_);rintro _ _ ⟨rfl,y1,rfl⟩);go_ret2
  exact⟨rfl,y1.alloc _⟩
 ·have h3:¬s<0:=by omega
  go_enter Tryz.func41,Tryz.ntmps41;go_upto_region 1 with fail;obtain⟨W,bx,y0,hW,hbx,-,hWup,Hup,Hbx,HB0⟩:=heads1 x [.int .i64 fr,.int .i64 un,.int .i64 st,.int .i64 fe,.int .i64 pr,.int .i64 pa] 27;rw[hW,hbx];clear hW hbx;obtain⟨hb0_0,hb0_1,hb0_2,hb0_3,hb0_4,hb0_5,hf0⟩:=bx6 HB0;clear HB0;obtain⟨z0,hz0⟩:=Hup.out y0;have HA1:=Lib.hid (HA.out z0);rw[←hz0]at HA1;clear hz0 hWup;go_wp2_with(go_at_call 89;(with_reducible refine(HA1.out).mono ?_);rintro _ _ ⟨rfl,y1,rfl⟩);go_ret2
  exact⟨rfl,y1.alloc _⟩
 all_goals
  obtain⟨h1a,h1b⟩:=h1;have h3:¬s<0:=by omega
  go_enter Tryz.func41,Tryz.ntmps41;go_upto_region 1 with fail;obtain⟨W,bx,y0,hW,hbx,-,hWup,Hup,Hbx,HB0⟩:=heads1 x [.int .i64 fr,.int .i64 un,.int .i64 st,.int .i64 fe,.int .i64 pr,.int .i64 pa] 27;rw[hW,hbx];clear hW hbx;obtain⟨hb0_0,hb0_1,hb0_2,hb0_3,hb0_4,hb0_5,hf0⟩:=bx6 HB0;clear HB0;obtain⟨z0,hz0⟩:=Hup.out y0;have HA1:=Lib.hid (HA.out z0);rw[←hz0]at HA1;clear hz0 hWup;go_upto_region 2 with(go_at_call 89;(with_reducible refine(HA1.out).mono ?_);rintro _ _ ⟨rfl,y1,rfl⟩)
  obtain⟨y2,e2,hst0,hsz0,hlt0,HX0⟩:=grow1 y1 [.int .i64 0,.int .i64 un,.int .i64 st,.int .i64 fe,.int .i64 pr,.int .i64 pa] 117;rw[e2];obtain⟨hx0,hx1,hx2,hx3,hx4,hx5,hxf⟩:=cx6 HX0;skip;clear e2 hst0;generalize y1.w.heap.size=g at *;obtain⟨Hhx0,Hhx1,Hhx2,Hhx3,Hhx4,Hhx5,Hhxf⟩:=bx6 HX0;have Hhxg:=Lib.hid (And.intro hsz0 hlt0);clear hlt0 hsz0 HX0;have HV1:=Lib.hid (HV.out y2 (by first|rfl|trivial) ⟨h1a,h1b⟩);go_wp2_with(go_at_call 157;(with_reducible refine(HV1.out).mono ?_);rintro _ _ ⟨rfl,y3,rfl⟩);go_ret2
  exact⟨rfl,y3,rfl⟩
end
end Go.Proofs.YtmmlmhnjjfnpnaaGreat
namespace Go.Proofs.YtmmlmhnjjfnpnaaGreat
open Go.RowKit
def PrcRes (w:World) (t:Tar) (s n:Int) (o:Ending) (w':World):Prop:=
 o= .returned (.tuple #[.int .i64 (if prcE t s n=0 then n else 0),.int .i64 (prcE t s n)])∧∃y:Since w,w'=y.w
theorem timeT_calls (w:World) (x:Since w) (t:Tar) (s:Int) (hs:I64 s):
 Calls Tryz.prog 12 #[.agg #[.int .i64 t.fr,.int .i64 t.un,.int .i64 t.st,.int .i64 t.fe,.int .i64 t.pr,.int .i64 t.pa],.int .i64 s] x.w (PrcRes w t s (rdP t s)):=by
 have HA:=Lib.hid (fun(y:Since w)=>price_rd w y t s hs);have HP:=Lib.hid (fun(y:Since w)=>show PrcRes w t s (rdP t s) (.returned (.tuple #[.int .i64 (if prcE t s (rdP t s)=0 then rdP t s else 0),.int .i64 (prcE t s (rdP t s))])) y.w from⟨rfl,y,rfl⟩);generalize PrcRes w t s (rdP t s)=PO at *;generalize(if prcE t s (rdP t s)=0 then rdP t s else 0)=v at *;generalize prcE t s (rdP t s)=pe at *;go_enter Tryz.func12,Tryz.ntmps12;go_upto_region 1 with fail;obtain⟨W,bx,y0,hW,hbx,-,hWup,Hup,Hbx,HB0⟩:=heads1 x [.int .i64 t.fr,.int .i64 t.un,.int .i64 t.st,.int .i64 t.fe,.int .i64 t.pr,.int .i64 t.pa] 27;rw[hW,hbx];clear hW hbx;obtain⟨hb0_0,hb0_1,hb0_2,hb0_3,hb0_4,hb0_5,hf0⟩:=bx6 HB0;clear HB0;obtain⟨z0,hz0⟩:=Hup.out y0;have HA1:=Lib.hid (HA.out z0);rw[←hz0]at HA1;clear hz0 hWup;go_wp2_with(go_at_call 41;(with_reducible refine(HA1.out).mono ?_);rintro _ _ ⟨rfl,y1,rfl⟩);exact HP.out y1
theorem pausesT_calls (w:World) (x:Since w) (t:Tar) (s:Int) (hs:I64 s):
 Calls Tryz.prog 105 #[.agg #[.int .i64 t.fr,.int .i64 t.un,.int .i64 t.st,.int .i64 t.fe,.int .i64 t.pr,.int .i64 t.pa],.int .i64 s] x.w (PrcRes w t s (paP t s)):=by
 have HA:=Lib.hid (fun(y:Since w)=>price_pa w y t s hs);have HP:=Lib.hid (fun(y:Since w)=>show PrcRes w t s (paP t s) (.returned (.tuple #[.int .i64 (if prcE t s (paP t s)=0 then paP t s else 0),.int .i64 (prcE t s (paP t s))])) y.w from⟨rfl,y,rfl⟩);generalize PrcRes w t s (paP t s)=PO at *;generalize(if prcE t s (paP t s)=0 then paP t s else 0)=v at *;generalize prcE t s (paP t s)=pe at *;go_enter Tryz.func105,Tryz.ntmps105;go_upto_region 1 with fail;obtain⟨W,bx,y0,hW,hbx,-,hWup,Hup,Hbx,HB0⟩:=heads1 x [.int .i64 t.fr,.int .i64 t.un,.int .i64 t.st,.int .i64 t.fe,.int .i64 t.pr,.int .i64 t.pa] 27;rw[hW,hbx];clear hW hbx;obtain⟨hb0_0,hb0_1,hb0_2,hb0_3,hb0_4,hb0_5,hf0⟩:=bx6 HB0;clear HB0;obtain⟨z0,hz0⟩:=Hup.out y0;have HA1:=Lib.hid (HA.out z0);rw[←hz0]at HA1;clear hz0 hWup;go_wp2_with(go_at_call 41;(with_reducible refine(HA1.out).mono ?_);rintro _ _ ⟨rfl,y1,rfl⟩);exact HP.out y1
theorem verN_step {l:List Tar} {k:Nat} {x:Tar} (h:l[k]? =some x) (t:Int):verN l t (k+1)=if x.fr≤t then k else verN l t k:=by
 show(if(l.getD k default).fr≤t then k else verN l t k)= _;rw[List.getD_eq_getElem?_getD,h];rfl
set_option maxRecDepth 100000 in
set_option maxHeartbeats 4000000 in
theorem atT_calls (w:World) (x:Since w) (l:List Tar) (a:Option Addr) (c:Nat) (h:Els Tar.cs 6 w a l) (hl:l.length≤9223372036854775807) (h0:tarE l=0) (t:Int) (ht:0≤t∧t≤4294943999):
 Calls Tryz.prog 104 #[.slice a l.length c,.int .i64 t] x.w fun o w'=>o= .returned (.tuple #[.int .i64 (verN l t l.length:Int),.int .i64 0])∧∃y:Since w,w'=y.w:=by
 have HC:=Lib.hid (tarCheck_calls w x l a c h hl);rw[h0]at HC;have H:=Lib.hid h;obtain⟨ht0,ht1⟩:=ht;have ht2:¬t<0:=by omega
 clear h h0;go_enter Tryz.func104,Tryz.ntmps104;go_wp2_with(go_at_call 96;(with_reducible refine HC.out.mono ?_);rintro _ _ ⟨rfl,y1,rfl⟩);clear HC;go_loopw [7,23] (fun v i wr=>∃(k:Nat) (y:Since w),k≤l.length∧i= .int .i64 k∧wr=y.w∧v= .int .i64 (verN l t k:Int)) (fun _ i _ =>l.length-(intOf i).toNat)
 case atStart=>exact⟨0,y1,by omega,rfl,rfl,rfl⟩
 case round=>
  obtain⟨k,y,hk,rfl,rfl,rfl⟩:=hrel;by_cases hlt:k<l.length
  ·obtain⟨u,hu⟩:∃u,l[k]? =some u:=⟨_,List.getElem?_eq_getElem hlt⟩
   have HS:=Lib.hid (verN_step hu t);obtain⟨b1,off1,rfl,hb1,hc⟩:=H.out k u hu;have ka0:∀y:Since w,y.w.cell? ⟨b1,off1+k*6,none⟩=some (.int .i64 u.fr):=fun y=>Since.cell (hc 0 _ rfl) hb1 y;have ka1:∀y:Since w,y.w.cell? ⟨b1,off1+k*6+1,none⟩=some (.int .i64 u.un):=fun y=>Since.cell (hc 1 _ rfl) hb1 y;have ka2:∀y:Since w,y.w.cell? ⟨b1,off1+k*6+2,none⟩=some (.int .i64 u.st):=fun y=>Since.cell (hc 2 _ rfl) hb1 y;have ka3:∀y:Since w,y.w.cell? ⟨b1,off1+k*6+3,none⟩=some (.int .i64 u.fe):=fun y=>Since.cell (hc 3 _ rfl) hb1 y;have ka4:∀y:Since w,y.w.cell? ⟨b1,off1+k*6+4,none⟩=some (.int .i64 u.pr):=fun y=>Since.cell (hc 4 _ rfl) hb1 y;have ka5:∀y:Since w,y.w.cell? ⟨b1,off1+k*6+5,none⟩=some (.int .i64 u.pa):=fun y=>Since.cell (hc 5 _ rfl) hb1 y;have hk0:(0:Int)≤(k:Int):=by omega
   have hkl:(k:Int)<(l.length:Int):=by omega
   clear hc hb1 hu;go_upto_region 10 with fail;obtain⟨y2,e2,hst0,hsz0,hlt0,HX0⟩:=grow1 y [.int .i64 u.fr,.int .i64 u.un,.int .i64 u.st,.int .i64 u.fe,.int .i64 u.pr,.int .i64 u.pa] 27;rw[e2];obtain⟨hx0,hx1,hx2,hx3,hx4,hx5,hxf⟩:=cx6 HX0;skip;clear e2 hst0;generalize y.w.heap.size=g at *;obtain⟨Hhx0,Hhx1,Hhx2,Hhx3,Hhx4,Hhx5,Hhxf⟩:=bx6 HX0;have Hhxg:=Lib.hid (And.intro hsz0 hlt0);clear hlt0 hsz0 HX0;by_cases hf:u.fr≤t
   ·have HR:=Lib.hid (HS.out.trans (if_pos hf))
    clear HS;go_wp2_with fail;go_roundw
    case rel=>exact⟨k+1,y2,by omega,by go_num,rfl,by rw[HR.out]⟩
    case measure=>simp[intOf];omega
   ·have HR:=Lib.hid (HS.out.trans (if_neg hf))
    clear HS;go_wp2_with fail;go_roundw
    case rel=>exact⟨k+1,y2,by omega,by go_num,rfl,by rw[HR.out]⟩
    case measure=>simp[intOf];omega
  ·obtain rfl:k=l.length:=by omega
   go_wp2_with fail;go_ret2
   exact⟨rfl,y,rfl⟩
end Go.Proofs.YtmmlmhnjjfnpnaaGreat
namespace Go.Proofs.YtmmlmhnjjfnpnaaGreat
structure TruS (f:Int) (ps:List Pse) (T:List Win) (last paused:Int):Prop where
 t:Tru f ps T last
 n:0≤f
 m:last≤4294944000
 c:cnt (hasW T) 4294944000=paused
 p:0≤paused∧paused≤last-f
theorem truS_start {f:Int} (h0:0≤f) (h1:f≤4294944000):TruS f [] [] f 0:=⟨tru_start f,h0,h1,cnt_none _ fun _ _ _ =>rfl,by omega⟩
theorem TruS.step {f:Int} {ps:List Pse} {T:List Win} {last paused:Int} (h:TruS f ps T last paused) {p:Pse} {x:Win} (h0:p.f0≤x.f∧x.f≤p.f1∧p.t0≤x.t∧x.t≤p.t1) (h1:last≤x.f) (h2:x.f≤x.t) (h3:x.t≤4294944000):TruS f (ps ++ [p]) (T ++ [x]) x.t (paused+x.t-x.f):=by
 have hl:=h.t.lo;have hn:=h.n;have hp:=h.p;refine⟨h.t.step h0 h1 h2,h.n,h3,?_,by omega⟩;have e:cnt (hasW (T ++ [x])) 4294944000=cnt (hasW T) 4294944000+cnt (fun t=>inW t x) 4294944000:=by
  refine cnt_add _ fun t h0 h1'=>⟨by simp[hasW],?_⟩
  cases ha:hasW T t
  ·rfl
  ·cases hb:inW t x
   ·rfl
   ·exfalso
    unfold hasW at ha;rw[List.any_eq_true]at ha;obtain⟨y,hy,hy2⟩:=ha;have:=h.t.lx y hy;unfold inW at hb hy2;simp only[Bool.and_eq_true,decide_eq_true_eq]at hb hy2;omega
 have e2:=cnt_win x (by omega) h2 4294944000;rw[e,h.c,e2];omega
theorem tru_secs {r:Ride} {V:Win} {T:List Win} {last paused:Int} (he:ivE r=0) (ha:r.s0≤V.f∧V.f≤r.s1) (hb:r.e0≤V.t∧V.t≤r.e1) (h:TruS V.f r.pauses T last paused) (hl:last≤V.t):cnt (ridS r) 4294944000≤V.t-V.f-paused∧cnt (pauS r) 4294944000≤paused:=by
 have:=TruOk.secs ⟨ha,hb,last,h.t,hl⟩ he;rw[h.c]at this;exact this
end Go.Proofs.YtmmlmhnjjfnpnaaGreat
