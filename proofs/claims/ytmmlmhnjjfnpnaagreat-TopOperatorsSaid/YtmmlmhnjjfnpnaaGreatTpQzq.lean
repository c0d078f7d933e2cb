/- Texts that belong together. -/
import Derived.Test.YtmmlmhnjjfnpnaaGreatTpQzp
set_option linter.all false
namespace Go.Proofs.YtmmlmhnjjfnpnaaGreat
set_option maxRecDepth 200000
set_option maxHeartbeats 64000000
section
open Go.RowKit
def lD (f:G4) (p:G5):Bool:=decide (f.dk.length≤40∧f.tk.length≤20) && decide (p.ps.length≤20) && decide (p.tr.length≤20) && decide (p.pl.length≤80) && decide (p.dk.length≤40) && decide (p.fn.length≤600)
theorem Bn8 (w:World) (x:A7 w) (f:G4) (da ta:Option Addr) (dc tc:Nat) (hf:i5 w f da ta) (p:G5) (ga pa la ka fa:Option Addr) (gc pc lc kc fc:Nat) (h1:p.tr.length≤9223372036854775807) (h2:p.ps.length≤9223372036854775807) (h3:p.pl.length≤9223372036854775807) (h4:p.dk.length≤9223372036854775807) (h5:p.fn.length≤9223372036854775807):
 Calls Tryz.prog 13 #[.agg #[.int .i64 f.bk,.int .i64 f.rd,.int .i64 f.dv,.slice da f.dk.length dc,.slice ta f.tk.length tc,.slice ga p.tr.length gc,.slice pa p.ps.length pc,.slice la p.pl.length lc,.slice ka p.dk.length kc,.int .i64 p.cap,.slice fa p.fn.length fc,.int .i64 p.fd]] x.w fun o w'=>o= .returned (.bool (lD f p))∧∃y:A7 w,w'=y.w:=by
 obtain⟨v,hv⟩:∃v,lD f p=v:=⟨_,rfl⟩
 rw[hv];have Hf:=A3 hf;clear hf;go_enter Tryz.func13,Tryz.ntmps13;go_upto_region 1 with fail;obtain⟨W,bx,y0,hW,hbx,-,B8,Hup,Hbx,HB0⟩:=K7 x [.int .i64 f.bk,.int .i64 f.rd,.int .i64 f.dv,.slice da f.dk.length dc,.slice ta f.tk.length tc,.slice ga p.tr.length gc,.slice pa p.ps.length pc,.slice la p.pl.length lc,.slice ka p.dk.length kc,.int .i64 p.cap,.slice fa p.fn.length fc,.int .i64 p.fd] 55;rw[hW,hbx];clear hW hbx;obtain⟨D9,E7,F9,G0,G8,K4,O0,Q6,R0,X7,X5,X6,hf0⟩:=AD8 HB0;clear HB0;replace Hf:=A3 (Hf.out.to B8);clear B8;go_upto_region 2 with fail;obtain⟨y1,e2,C9,hsz0,hlt0,HX0⟩:=L8 y0 [.slice ga p.tr.length gc,.slice pa p.ps.length pc,.slice la p.pl.length lc,.slice ka p.dk.length kc,.int .i64 p.cap,.slice fa p.fn.length fc,.int .i64 p.fd] 53;rw[e2];obtain⟨hx0,hx1,hx2,hx3,hx4,hx5,hx6,hxf⟩:=cx7 HX0;skip;clear e2 C9;generalize y0.w.heap.size=g at *;obtain⟨E6,G9,K1,J5,O8,U5,X9,I3⟩:=dV HX0;have I9:=A3 (And.intro hsz0 hlt0);clear hlt0 hsz0 HX0;clear hx0 hx1 hx2 hx3 hx4 hx5 hx6 hxf I3 I9;replace D9:∀(y:A7 y1.w),y.w.cell? ⟨bx,0,none⟩=some (.int .i64 f.bk):=fun y=>by obtain⟨z,e⟩:=y1.trans y;rw[e];exact D9 z
 replace E7:∀(y:A7 y1.w),y.w.cell? ⟨bx,1,none⟩=some (.int .i64 f.rd):=fun y=>by obtain⟨z,e⟩:=y1.trans y;rw[e];exact E7 z
 replace F9:∀(y:A7 y1.w),y.w.cell? ⟨bx,2,none⟩=some (.int .i64 f.dv):=fun y=>by obtain⟨z,e⟩:=y1.trans y;rw[e];exact F9 z
 replace G0:∀(y:A7 y1.w),y.w.cell? ⟨bx,3,none⟩=some (.slice da f.dk.length dc):=fun y=>by obtain⟨z,e⟩:=y1.trans y;rw[e];exact G0 z
 replace G8:∀(y:A7 y1.w),y.w.cell? ⟨bx,4,none⟩=some (.slice ta f.tk.length tc):=fun y=>by obtain⟨z,e⟩:=y1.trans y;rw[e];exact G8 z
 replace K4:∀(y:A7 y1.w),y.w.cell? ⟨bx,5,none⟩=some (.slice ga p.tr.length gc):=fun y=>by obtain⟨z,e⟩:=y1.trans y;rw[e];exact K4 z
 replace O0:∀(y:A7 y1.w),y.w.cell? ⟨bx,6,none⟩=some (.slice pa p.ps.length pc):=fun y=>by obtain⟨z,e⟩:=y1.trans y;rw[e];exact O0 z
 replace Q6:∀(y:A7 y1.w),y.w.cell? ⟨bx,7,none⟩=some (.slice la p.pl.length lc):=fun y=>by obtain⟨z,e⟩:=y1.trans y;rw[e];exact Q6 z
 replace R0:∀(y:A7 y1.w),y.w.cell? ⟨bx,8,none⟩=some (.slice ka p.dk.length kc):=fun y=>by obtain⟨z,e⟩:=y1.trans y;rw[e];exact R0 z
 replace X7:∀(y:A7 y1.w),y.w.cell? ⟨bx,9,none⟩=some (.int .i64 p.cap):=fun y=>by obtain⟨z,e⟩:=y1.trans y;rw[e];exact X7 z
 replace X5:∀(y:A7 y1.w),y.w.cell? ⟨bx,10,none⟩=some (.slice fa p.fn.length fc):=fun y=>by obtain⟨z,e⟩:=y1.trans y;rw[e];exact X5 z
 replace X6:∀(y:A7 y1.w),y.w.cell? ⟨bx,11,none⟩=some (.int .i64 p.fd):=fun y=>by obtain⟨z,e⟩:=y1.trans y;rw[e];exact X6 z
 replace hf0:∀(y:A7 y1.w) (o:Nat),y.w.frozen? ⟨bx,o,none⟩=false:=fun y o=>by obtain⟨z,e⟩:=y1.trans y;rw[e];exact hf0 z o
 have HW:=A3 (show∀z:A7 y1.w,∃y:A7 w,z.w=y.w from fun z=>by obtain⟨y2,e⟩:=y1.trans z;rw[e];exact Hup.out y2);have FW:∀v:Bool,decide (0≤40∧f.dk.length≤40∧f.tk.length≤20)=v→Calls Tryz.prog 6 #[.agg #[.int .i64 f.bk,.int .i64 f.rd,.int .i64 f.dv,.slice da f.dk.length dc,.slice ta f.tk.length tc],.slice none 0 0] y1.w fun o w'=>o= .returned (.bool v)∧∃y:A7 y1.w,w'=y.w:=fun v hv=>Bn7 y1.w (A7.self _) f da ta dc tc (Hf.out.to ⟨y1,rfl⟩) none 0 0 (by decide) v hv;unfold lD at hv;clear Hup hf0 Hf;have d0:y1.w.cell? ⟨bx,0,none⟩=some (.int .i64 f.bk):=D9 (A7.self y1.w);have d1:y1.w.cell? ⟨bx,1,none⟩=some (.int .i64 f.rd):=E7 (A7.self y1.w);have d2:y1.w.cell? ⟨bx,2,none⟩=some (.int .i64 f.dv):=F9 (A7.self y1.w);have d3:y1.w.cell? ⟨bx,3,none⟩=some (.slice da f.dk.length dc):=G0 (A7.self y1.w);have d4:y1.w.cell? ⟨bx,4,none⟩=some (.slice ta f.tk.length tc):=G8 (A7.self y1.w);clear D9 E7 F9 G0 G8;rcases(by omega:¬(f.dk.length≤40∧f.tk.length≤20)∨((f.dk.length≤40∧f.tk.length≤20)∧20<p.ps.length)∨((f.dk.length≤40∧f.tk.length≤20)∧p.ps.length≤20∧20<p.tr.length)∨((f.dk.length≤40∧f.tk.length≤20)∧p.ps.length≤20∧p.tr.length≤20∧80<p.pl.length)∨((f.dk.length≤40∧f.tk.length≤20)∧p.ps.length≤20∧p.tr.length≤20∧p.pl.length≤80∧40<p.dk.length)∨((f.dk.length≤40∧f.tk.length≤20)∧p.ps.length≤20∧p.tr.length≤20∧p.pl.length≤80∧p.dk.length≤40∧600<p.fn.length)∨((f.dk.length≤40∧f.tk.length≤20)∧p.ps.length≤20∧p.tr.length≤20∧p.pl.length≤80∧p.dk.length≤40∧p.fn.length≤600))with a1|⟨a1,a2⟩|⟨a1,a2,a3⟩|⟨a1,a2,a3,a4⟩|⟨a1,a2,a3,a4,a5⟩|⟨a1,a2,a3,a4,a5,a6⟩|⟨a1,a2,a3,a4,a5,a6⟩
 ·have FW1:=FW false (decide_eq_false (by omega))
  obtain rfl:v=false:=by rw[←hv,decide_eq_false a1];rfl
  clear hv FW a1;go_wp2_with(go_at_call 6;(with_reducible refine FW1.mono ?_);rintro _ _ ⟨rfl,z,rfl⟩);have HWz:=A3 (HW.out z);go_wp2_with fail;go_ret;exact⟨rfl,HWz.out⟩
 all_goals
  have FW1:=FW true (decide_eq_true (by omega));have hvb:v=(decide (p.ps.length≤20) && decide (p.tr.length≤20) && decide (p.pl.length≤80) && decide (p.dk.length≤40) && decide (p.fn.length≤600)):=by rw[←hv,decide_eq_true a1];rfl
  have Hvb:=A3 hvb;clear hv hvb FW a1;go_wp2_with(go_at_call 6;(with_reducible refine FW1.mono ?_);rintro _ _ ⟨rfl,z,rfl⟩);have HWz:=A3 (HW.out z);go_wp2_with fail;go_ret;refine⟨I1 ?_,HWz.out⟩;rw[Hvb.out];first|rfl|(simp;omega)|(simp[a2,a3,a4,a5,a6];done)|(simp[a2,a3,a4,a5,a6];omega)
end
section
open Go.RowKit
theorem Bn9 (w:World) (x:A7 w) (a:Option Addr) (l:List E0) (c:Nat) (h:D0 E0.cs 5 w a l) (hl:l.length≤100000):
 Calls Tryz.prog 93 #[.slice a l.length c] x.w (eF w 152 5 l.length (B4 E0.cs l)):=by
 have H:=A3 h;have Hp:=A3 (fun(a':Option Addr) (c':Nat) (y:A7 w) (h:y.w.ownsRow w.heap.size 152 5 (.slice a' l.length c') l.length (B4 E0.cs l))=>show eF w 152 5 l.length (B4 E0.cs l) (.returned (.slice a' l.length c')) y.w from⟨a',c',y,rfl,rfl,h⟩);generalize eF w 152 5 l.length (B4 E0.cs l)=PO at *;clear h;have qn:=fun(w:World) (a:Option Addr) (n c n' c':Nat)=>Lib.run_eql_slice_nil (P:=Tryz.prog) w _ _ a n c n' c' Tryz.underlying37
 cases a with
 |none=>
  have hn:l=[]:=by
   cases l with
   |nil=>rfl
   |cons e l=>obtain⟨b,off,hb,_⟩:=H.out 0 e rfl;cases hb
  subst hn
  have HB:=A3 (Hp.out none 0 x ⟨rfl,.inl ⟨rfl,rfl⟩⟩)
  go_enter Tryz.func93,Tryz.ntmps93
  go_wp2_with fail
  exact HB.out
 |some ad=>
  go_enter Tryz.func93,Tryz.ntmps93
  go_wp2_with(at_builtin;(refine cY (w0:=w) (enc:=E0.cs) (k:=5) E0.len (by decide) Al8 ?hw rfl _ _ 37 rfl w.heap.size (Nat.le_refl _) ?hb 152 (.agg #[.int .i64 0,.int .i64 0,.int .i64 0,.int .i64 0,.int .i64 0]) 40 Am1 (.slice (some ⟨x.w.heap.size,0,none⟩) 0 0) 0 [] rfl ?hown (some ad) l c rfl ?hels (fun h=>by cases h) ?h63 ?hbytes ?_;rotate_right 1;intro v2 q2 hown2 _ hg2;refine Hid.out ?_))
  case hw=>exact A8.alloc (A8.of x) _
  case hb=>have:=x.b.size;simp;omega
  case hown=>exact jW (k:=5) (cZ.new x.w _) x.b.size
  case hels=>exact(A7.els H.out x).to (A8.alloc (A8.self _) _)
  case h63=>unfold maxLen;omega
  case hbytes=>omega
  rw[List.nil_append,Nat.zero_add]at hown2
  obtain⟨_,a5,c5,rfl,_⟩:=O9 E0.len (by decide) hown2
  have HB:=A3 (Hp.out a5 c5 q2 hown2)
  clear hown2 hg2
  refine A3 ?_
  go_wp2_with fail
  exact HB.out
theorem Bo0 (w:World) (x:A7 w) (a:Option Addr) (l:List I2) (c:Nat) (h:D0 I2.cs 4 w a l) (hl:l.length≤100000):
 Calls Tryz.prog 94 #[.slice a l.length c] x.w (eF w 44 4 l.length (B4 I2.cs l)):=by
 have H:=A3 h;have Hp:=A3 (fun(a':Option Addr) (c':Nat) (y:A7 w) (h:y.w.ownsRow w.heap.size 44 4 (.slice a' l.length c') l.length (B4 I2.cs l))=>show eF w 44 4 l.length (B4 I2.cs l) (.returned (.slice a' l.length c')) y.w from⟨a',c',y,rfl,rfl,h⟩);generalize eF w 44 4 l.length (B4 I2.cs l)=PO at *;clear h;have qn:=fun(w:World) (a:Option Addr) (n c n' c':Nat)=>Lib.run_eql_slice_nil (P:=Tryz.prog) w _ _ a n c n' c' Tryz.underlying38
 cases a with
 |none=>
  have hn:l=[]:=by
   cases l with
   |nil=>rfl
   |cons e l=>obtain⟨b,off,hb,_⟩:=H.out 0 e rfl;cases hb
  subst hn
  have HB:=A3 (Hp.out none 0 x ⟨rfl,.inl ⟨rfl,rfl⟩⟩)
  go_enter Tryz.func94,Tryz.ntmps94
  go_wp2_with fail
  exact HB.out
 |some ad=>
  go_enter Tryz.func94,Tryz.ntmps94
  go_wp2_with(at_builtin;(refine cY (w0:=w) (enc:=I2.cs) (k:=4) I2.len (by decide) Al9 ?hw rfl _ _ 38 rfl w.heap.size (Nat.le_refl _) ?hb 44 (.agg #[.int .i64 0,.int .i64 0,.int .i64 0,.int .i64 0]) 32 Am2 (.slice (some ⟨x.w.heap.size,0,none⟩) 0 0) 0 [] rfl ?hown (some ad) l c rfl ?hels (fun h=>by cases h) ?h63 ?hbytes ?_;rotate_right 1;intro v2 q2 hown2 _ hg2;refine Hid.out ?_))
  case hw=>exact A8.alloc (A8.of x) _
  case hb=>have:=x.b.size;simp;omega
  case hown=>exact jW (k:=4) (cZ.new x.w _) x.b.size
  case hels=>exact(A7.els H.out x).to (A8.alloc (A8.self _) _)
  case h63=>unfold maxLen;omega
  case hbytes=>omega
  rw[List.nil_append,Nat.zero_add]at hown2
  obtain⟨_,a5,c5,rfl,_⟩:=O9 I2.len (by decide) hown2
  have HB:=A3 (Hp.out a5 c5 q2 hown2)
  clear hown2 hg2
  refine A3 ?_
  go_wp2_with fail
  exact HB.out
end
section
open Go.RowKit
def rL (w:World) (r:A9) (o:Ending) (w':World):Prop:=
 ∃(q:A9) (y:A7 w),o= .returned (.agg #[.int .i64 q.id,.int .i64 q.rd,.int .i64 q.s0,.int .i64 q.s1,.int .i64 q.e0,.int .i64 q.e1,.bool q.op,.slice q.la q.legs.length q.lc,.slice q.pa q.pauses.length q.pc,.int .i64 q.fw,.int .i64 q.fp,.int .i64 q.wh,.int .i64 q.pl])∧w'=y.w∧q.br=r.br∧P5 y.w w.heap.size q
theorem rM {w:World} {B B':Nat} {e:TypeId} {k:Nat} {v:Value} {n:Nat} {xs:List Value} (h:w.ownsRow B e k v n xs) (hb:B'≤B):w.ownsRow B' e k v n xs:=by
 obtain⟨hl,h|⟨g,cap,cur,rfl,hg,r⟩⟩:=h
 ·exact⟨hl,.inl h⟩
 ·exact⟨hl,.inr ⟨g,cap,cur,rfl,Nat.le_trans hb hg,r⟩⟩
theorem Bo1 (w:World) (x:A7 w) (r:A9) (hr:r.At w) (hl:r.legs.length≤100000) (hp:r.pauses.length≤100000):
 Calls Tryz.prog 45 #[.agg #[.int .i64 r.id,.int .i64 r.rd,.int .i64 r.s0,.int .i64 r.s1,.int .i64 r.e0,.int .i64 r.e1,.bool r.op,.slice r.la r.legs.length r.lc,.slice r.pa r.pauses.length r.pc,.int .i64 r.fw,.int .i64 r.fp,.int .i64 r.wh,.int .i64 r.pl]] x.w (rL w r):=by
 have HP:=A3 (fun(la:Option Addr) (lc:Nat) (pa:Option Addr) (pc:Nat) (y:A7 w) (h1:y.w.ownsRow w.heap.size 152 5 (.slice la r.legs.length lc) r.legs.length (B4 E0.cs r.legs)) (h2:y.w.ownsRow w.heap.size 44 4 (.slice pa r.pauses.length pc) r.pauses.length (B4 I2.cs r.pauses))=>show rL w r (.returned (.agg #[.int .i64 r.id,.int .i64 r.rd,.int .i64 r.s0,.int .i64 r.s1,.int .i64 r.e0,.int .i64 r.e1,.bool r.op,.slice la r.legs.length lc,.slice pa r.pauses.length pc,.int .i64 r.fw,.int .i64 r.fp,.int .i64 r.wh,.int .i64 r.pl])) y.w from⟨{r with la:=la,lc:=lc,pa:=pa,pc:=pc},y,rfl,rfl,rfl,⟨h1,h2⟩⟩);generalize rL w r=PO at *;have HR:=A3 hr;clear hr;go_enter Tryz.func45,Tryz.ntmps45;go_upto_region 1 with fail;obtain⟨W,bx,y0,hW,hbx,-,B8,Hup,Hbx,HB0,HB1⟩:=Z7 x (([.int .i64 r.id,.int .i64 r.rd,.int .i64 r.s0,.int .i64 r.s1,.int .i64 r.e0,.int .i64 r.e1,.bool r.op,.slice r.la r.legs.length r.lc,.slice r.pa r.pauses.length r.pc,.int .i64 r.fw,.int .i64 r.fp,.int .i64 r.wh,.int .i64 r.pl]:List Value)) 40 (([.int .i64 0,.int .i64 0,.int .i64 0,.int .i64 0,.int .i64 0,.int .i64 0,.bool false,.slice none 0 0,.slice none 0 0,.int .i64 0,.int .i64 0,.int .i64 0,.int .i64 0]:List Value)) 40;rw[hW,hbx];clear hW hbx;have hB0:=fun y:A7 W=>HB0.since y;have hB1:=fun y:A7 W=>HB1.since y;clear HB0 HB1;replace HR:=A3 (HR.out.to B8);have CL:=A3 (fun(u:World) (hu:A8 W u)=>show Calls Tryz.prog 93 #[.slice r.la r.legs.length r.lc] u (eF u 152 5 r.legs.length (B4 E0.cs r.legs))from Bn9 u (A7.self u) r.la r.legs r.lc (HR.out.to hu).l hl);have CP:=A3 (fun(u:World) (hu:A8 W u)=>show Calls Tryz.prog 94 #[.slice r.pa r.pauses.length r.pc] u (eF u 44 4 r.pauses.length (B4 I2.cs r.pauses))from Bo0 u (A7.self u) r.pa r.pauses r.pc (HR.out.to hu).p hp);have HA:=A3 (fun(u:World) (hu:A8 W u)=>show C4 u bx [.int .i64 r.id,.int .i64 r.rd,.int .i64 r.s0,.int .i64 r.s1,.int .i64 r.e0,.int .i64 r.e1,.bool r.op,.slice r.la r.legs.length r.lc,.slice r.pa r.pauses.length r.pc,.int .i64 r.fw,.int .i64 r.fp,.int .i64 r.wh,.int .i64 r.pl]from by obtain⟨y,rfl⟩:=hu;exact hB0 y);have HZ:=A3 (fun(u:World) (hu:A8 W u)=>show C4 u (bx+1) [.int .i64 0,.int .i64 0,.int .i64 0,.int .i64 0,.int .i64 0,.int .i64 0,.bool false,.slice none 0 0,.slice none 0 0,.int .i64 0,.int .i64 0,.int .i64 0,.int .i64 0]from by obtain⟨y,rfl⟩:=hu;exact hB1 y);have HWw:=A3 (fun(u:World) (hu:A8 W u)=>show A8 w u from A8.trans B8 hu);have e5:=fun(u:World) (hu:A8 W u)=>(HA.out u hu).c 7 _ rfl;have e6:=fun(u:World) (hu:A8 W u)=>(HA.out u hu).c 8 _ rfl;clear hB0 hB1 B8 Hup HR;refine R7 (fun w'=>A8 W w') 7 (by kernel_rfl) (A8.drew' (A8.of y0)) (fun hS=>?_);iterate 2
  refine J4 0 ?_ rfl rfl (by kernel_rfl) hS (fun _ _ _ h=>h) ?_ ?_
  rotate_left
  ·(intro w h;(try dsimp only at h);go_split_ands;go_simp;try with_reducible rfl)
  (try simp only[Act.put,B9])
 iterate 2
  refine J4 3 ?_ rfl rfl (by kernel_rfl) hS (fun _ _ _ h=>h) ?_ ?_
  rotate_left
  ·(intro w h;(try dsimp only at h);go_split_ands;go_simp;try with_reducible rfl)
  (try simp only[Act.put,B9])
 refine I0 2 (by kernel_rfl) rfl fun K hK=>?_;(go_simp;(with_reducible refine(CL.out _ hS).mono ?_);rintro _ _ ⟨a1,c1,y1,rfl,rfl,ho1⟩)
 refine E5 hK (A8.trans hS ⟨y1,rfl⟩) ?_;clear hK K hS;intro hS;(try simp only[Act.put,B9])
 refine tk 6 ?_ rfl (by kernel_rfl) hS (fun _ _ _ h=>h) ?_ ?_;rotate_left
 ·(intro w h;(try dsimp only at h);go_split_ands;go_simp;try with_reducible rfl)
 (try simp only[Act.put,B9])
 refine I0 5 (by kernel_rfl) rfl fun K hK=>?_;(go_simp;(with_reducible refine(CP.out _ hS).mono ?_);rintro _ _ ⟨a2,c2,y2,rfl,rfl,ho2⟩)
 refine E5 hK (A8.trans hS ⟨y2,rfl⟩) ?_;clear hK K hS;intro hS;(try simp only[Act.put,B9])
 have hb:=HA.out _ hS;have hz:=HZ.out _ hS;have hw:=HWw.out _ hS;have hy1:=(HWw.out _ (A8.trans (A8.drew' (A8.of y0)) ⟨y1,rfl⟩))
 have ho1':=J8 (rM ho1 (show w.heap.size≤y0.w.drew.heap.size from A8.size (HWw.out _ (A8.drew' (A8.of y0))))) ⟨y2,rfl⟩;have ho2':=rM ho2 (show w.heap.size≤y1.w.heap.size from A8.size hy1);have hs1:bx<y0.w.drew.heap.size:=by have h1:=Hbx.out;have h2:=y0.b.size;show bx<y0.w.heap.size;omega
 have n1:∀b,(Value.slice a1 r.legs.length c1).ownBlock=some b→b≠bx∧b≠bx+1:=fun b hb=>by
  have h1:=aZ ho1 b hb;have h2:=Hbx.out;have h3:=y0.b.size;have h4:y0.w.drew.heap.size=y0.w.heap.size:=rfl;omega
 have n2:∀b,(Value.slice a2 r.pauses.length c2).ownBlock=some b→b≠bx∧b≠bx+1:=fun b hb=>by
  have h1:=aZ ho2 b hb;have h2:=Hbx.out;have h3:=y0.b.size;have h5:=y1.b.size;have h4:y0.w.drew.heap.size=y0.w.heap.size:=rfl;omega
 have Hb:=A3 hb;have Hz:=A3 hz;have Ho1:=A3 ho1';have Ho2:=A3 ho2';have Hw:=A3 hw;have N1:=A3 n1;have N2:=A3 n2;clear hb hz hw hy1 ho1' ho2' ho1 ho2 hs1 n1 n2 CL CP HA HZ HWw e5 e6;have k5:=Hb.out.c 7 _ rfl;have k6:=(Hb.out.setj (j:=7) (by simp) (.slice a1 r.legs.length c1)).c 8 _ rfl;have kf:=Hb.out.f;have kf2:=(Hb.out.setj (j:=7) (by simp) (.slice a1 r.legs.length c1)).f;generalize y2.w=w2 at *;refine I0 7 (by kernel_rfl) rfl fun K hK=>?_;go_simp;refine zY hK rfl ?_;clear hK K;(try clear hS)
 (try simp only[Act.put,B9])
 refine I0 8 (by kernel_rfl) rfl fun K hK=>?_;go_simp;refine zY hK rfl ?_;clear hK K;(try clear hS)
 (try simp only[Act.put,B9])
 refine I0 9 (by kernel_rfl) rfl fun K hK=>?_;go_simp;refine M9 hK (by kernel_rfl) ?_;clear hK K;(try clear hS)
 (try simp only[Act.put,B9])
 clear k5 k6 kf kf2;have hB3:C4 ((w2.setCell ⟨bx,7,none⟩ (.slice a1 r.legs.length c1)).setCell ⟨bx,8,none⟩ (.slice a2 r.pauses.length c2)) bx [.int .i64 r.id,.int .i64 r.rd,.int .i64 r.s0,.int .i64 r.s1,.int .i64 r.e0,.int .i64 r.e1,.bool r.op,.slice a1 r.legs.length c1,.slice a2 r.pauses.length c2,.int .i64 r.fw,.int .i64 r.fp,.int .i64 r.wh,.int .i64 r.pl]:=(Hb.out.setj (j:=7) (by simp) (.slice a1 r.legs.length c1)).setj (j:=8) (by simp) (.slice a2 r.pauses.length c2);have hZ3:=(Hz.out.far ⟨bx,7,none⟩ (.slice a1 r.legs.length c1) (by show bx+1≠bx;omega)).far ⟨bx,8,none⟩ (.slice a2 r.pauses.length c2) (by show bx+1≠bx;omega);have hO1:=cO (cO Ho1.out ⟨bx,7,none⟩ (.slice a1 r.legs.length c1) (fun b hb=>(N1.out b hb).1)) ⟨bx,8,none⟩ (.slice a2 r.pauses.length c2) (fun b hb=>(N1.out b hb).1);have hO2:=cO (cO Ho2.out ⟨bx,7,none⟩ (.slice a1 r.legs.length c1) (fun b hb=>(N2.out b hb).1)) ⟨bx,8,none⟩ (.slice a2 r.pauses.length c2) (fun b hb=>(N2.out b hb).1);have hW3:=(Hw.out.set ⟨bx,7,none⟩ Hbx.out.1 (.slice a1 r.legs.length c1)).set ⟨bx,8,none⟩ Hbx.out.1 (.slice a2 r.pauses.length c2);have HO1:=A3 hO1;have HO2:=A3 hO2;clear hO1 hO2 Hb Hz Ho1 Ho2 Hw;go_upto_region 2 with fail;generalize(w2.setCell ⟨bx,7,none⟩ (.slice a1 r.legs.length c1)).setCell ⟨bx,8,none⟩ (.slice a2 r.pauses.length c2)=w3 at *;obtain⟨y3,rfl⟩:=hW3;have HZ3:=A3 hZ3;have HS:=A3 (fun j (hj:j<13)=>show(y3.w.cell? ⟨bx+1,j,none⟩).isSome=true from by rw[HZ3.out.c j _ (A4 hj)];rfl);obtain⟨m0,m1,m2,m3,m4,m5,m6,m7,m8,m9,m10,m11,m12,mf⟩:=bP hB3;obtain⟨z0,z1,z2,z3,z4,z5,z6,z7,z8,z9,z10,z11,z12,zf⟩:=bP hZ3;clear hB3 hZ3;go_wp2_with fail;obtain⟨Z,hz,hc⟩:=tA y3 (g:=bx+1) [.int .i64 r.id,.int .i64 r.rd,.int .i64 r.s0,.int .i64 r.s1,.int .i64 r.e0,.int .i64 r.e1,.bool r.op,.slice a1 r.legs.length c1,.slice a2 r.pauses.length c2,.int .i64 r.fw,.int .i64 r.fp,.int .i64 r.wh,.int .i64 r.pl] HS.out ⟨y3,rfl⟩ (by have:=Hbx.out;omega);have h1:=kB (bx+1) [.int .i64 r.id,.int .i64 r.rd,.int .i64 r.s0,.int .i64 r.s1,.int .i64 r.e0,.int .i64 r.e1,.bool r.op,.slice a1 r.legs.length c1,.slice a2 r.pauses.length c2,.int .i64 r.fw,.int .i64 r.fp,.int .i64 r.wh,.int .i64 r.pl] 0 _ HO1.out (fun b hb=>(N1.out b hb).2);have h2:=kB (bx+1) [.int .i64 r.id,.int .i64 r.rd,.int .i64 r.s0,.int .i64 r.s1,.int .i64 r.e0,.int .i64 r.e1,.bool r.op,.slice a1 r.legs.length c1,.slice a2 r.pauses.length c2,.int .i64 r.fw,.int .i64 r.fp,.int .i64 r.wh,.int .i64 r.pl] 0 _ HO2.out (fun b hb=>(N2.out b hb).2);rw[hz]at h1 h2;simp only[World.setCells,Nat.reduceAdd]at hz;rw[hz];have hc0:=hc 0 _ rfl;have hc1:=hc 1 _ rfl;have hc2:=hc 2 _ rfl;have hc3:=hc 3 _ rfl;have hc4:=hc 4 _ rfl;have hc5:=hc 5 _ rfl;have hc6:=hc 6 _ rfl;have hc7:=hc 7 _ rfl;have hc8:=hc 8 _ rfl;have hc9:=hc 9 _ rfl;have yC:=hc 10 _ rfl;have yD:=hc 11 _ rfl;have hc12:=hc 12 _ rfl;exact bodyPost_ret (v:=.agg #[.int .i64 r.id,.int .i64 r.rd,.int .i64 r.s0,.int .i64 r.s1,.int .i64 r.e0,.int .i64 r.e1,.bool r.op,.slice a1 r.legs.length c1,.slice a2 r.pauses.length c2,.int .i64 r.fw,.int .i64 r.fp,.int .i64 r.wh,.int .i64 r.pl]) (by simp[results,Tryz.results45,go_sem,hc0,hc1,hc2,hc3,hc4,hc5,hc6,hc7,hc8,hc9,yC,yD,hc12]) rfl (HP.out a1 c1 a2 c2 Z h1 h2)
end
section
open Go.RowKit
def wQ:List Value:=[.int .i64 0,.int .i64 0,.int .i64 0,.int .i64 0,.int .i64 0,.int .i64 0,.bool false,.slice none 0 0,.slice none 0 0,.int .i64 0,.int .i64 0,.int .i64 0,.int .i64 0]
def nK (w:World) (r:A9) (o:Ending) (w':World):Prop:=
 ∃(q:A9) (y:A7 w),o= .returned (.tuple #[.agg #[.int .i64 q.id,.int .i64 q.rd,.int .i64 q.s0,.int .i64 q.s1,.int .i64 q.e0,.int .i64 q.e1,.bool q.op,.slice q.la q.legs.length q.lc,.slice q.pa q.pauses.length q.pc,.int .i64 q.fw,.int .i64 q.fp,.int .i64 q.wh,.int .i64 q.pl],.bool true])∧w'=y.w∧q.br=r.br∧P5 y.w w.heap.size q
theorem Bo2 (w:World) (x:A7 w) (a:Option Addr) (l:List A9) (c:Nat) (h:bQ w a l) (hl:l.length≤100000) (i:Nat) (r:A9) (id:Int) (hb:r.legs.length≤100000∧r.pauses.length≤100000) (hi:l[i]? =some r) (hid:r.id=id) (hn:∀j e,j<i→l[j]? =some e→e.id≠id):
 Calls Tryz.prog 20 #[.slice a l.length c,.int .i64 id] x.w (nK w r):=by
 have HP:=A3 (fun(q:A9) (y:A7 w) (h1:q.br=r.br) (h2:P5 y.w w.heap.size q)=>show nK w r (.returned (.tuple #[.agg #[.int .i64 q.id,.int .i64 q.rd,.int .i64 q.s0,.int .i64 q.s1,.int .i64 q.e0,.int .i64 q.e1,.bool q.op,.slice q.la q.legs.length q.lc,.slice q.pa q.pauses.length q.pc,.int .i64 q.fw,.int .i64 q.fp,.int .i64 q.wh,.int .i64 q.pl],.bool true])) y.w from⟨q,y,rfl,rfl,h1,h2⟩);generalize nK w r=PO at *;have HL:=A3 h;have Hb:=A3 hb;have Hi:=A3 hi;have Hn:=A3 hn;have Hid:=A3 hid;have Hil:=A3 (A5 hi).1;clear h hb hi hn hid;go_enter Tryz.func20,Tryz.ntmps20;go_upto_region 1 with fail;obtain⟨y0,e2,C9,hsz0,hlt0,HX0⟩:=L8 x [.int .i64 0,.int .i64 0,.int .i64 0,.int .i64 0,.int .i64 0,.int .i64 0,.bool false,.slice none 0 0,.slice none 0 0,.int .i64 0,.int .i64 0,.int .i64 0,.int .i64 0] 40;rw[e2];obtain⟨hz0,hz1,hz2,hz3,hz4,hz5,hz6,hz7,hz8,hz9,fK,BA6,BA7,hzf⟩:=bP HX0;(have HZ:=A3 (show C4 y0.w x.w.heap.size wQ from HX0))
 clear e2 C9;generalize x.w.heap.size=g0 at *;obtain⟨nW,nX,xN,xO,xP,Bv0,Bv1,Bv2,Bv3,Bv4,Bu7,Bu8,Bu9,nY⟩:=R5 HX0;have rX:=A3 (And.intro hsz0 hlt0);clear hlt0 hsz0 HX0;clear hz0 hz1 hz2 hz3 hz4 hz5 hz6 hz7 hz8 hz9 fK BA6 BA7 hzf nW nX xN xO xP Bv0 Bv1 Bv2 Bv3 Bv4 Bu7 Bu8 Bu9 nY;go_wp2_with fail;go_loopw [10] (fun t wr=>∃(k:Nat) (y:A7 w),k≤i∧t= .int .i64 k∧wr=y.w∧C4 y.w g0 wQ) (fun t _ =>l.length-(intOf t).toNat)
 case atStart=>exact⟨0,y0,by omega,rfl,rfl,HZ.out⟩
 case round=>
  clear HZ;obtain⟨k,y,hk,rfl,rfl,hz⟩:=hrel;have HZ:=A3 hz;have hlt:k<l.length:=by have:=Hil.out;omega
  obtain⟨e,he⟩:∃e,l[k]? =some e:=⟨_,A4 hlt⟩
  obtain⟨b1,off1,rfl,h1'⟩:=D0.ride HL.out.c he;have ra0:=h1'.c0;have ra1:=h1'.c1;have ra2:=h1'.c2;have ra3:=h1'.c3;have ra4:=h1'.c4;have ra5:=h1'.c5;have ra6:=h1'.c6;have ra7:=h1'.c7;have ra8:=h1'.c8;have ra9:=h1'.c9;have ra10:=h1'.c10;have ra11:=h1'.c11;have ra12:=h1'.c12;have hk0:(0:Int)≤(k:Int):=by omega
  have hkl:(k:Int)<(l.length:Int):=by omega
  have He:=A3 he;have Hat:=A3 (HL.out.r e (A0 he));clear h1' he hz;go_upto_region 4 with fail;obtain⟨y2,e2,C9,hsz0,hlt0,HX0⟩:=L8 y [.int .i64 e.id,.int .i64 e.rd,.int .i64 e.s0,.int .i64 e.s1,.int .i64 e.e0,.int .i64 e.e1,.bool e.op,.slice e.la e.legs.length e.lc,.slice e.pa e.pauses.length e.pc,.int .i64 e.fw,.int .i64 e.fp,.int .i64 e.wh,.int .i64 e.pl] 40;rw[e2];obtain⟨hx0,hx1,hx2,hx3,hx4,hx5,hx6,hx7,hx8,hx9,eN,eO,eP,hxf⟩:=bP HX0;(replace Hat:=A3 ((Hat.out.since y).to C9);replace HZ:=A3 (HZ.out.to C9))
  clear e2 C9;generalize y.w.heap.size=g at *;obtain⟨E6,G9,K1,J5,O8,U5,X9,Z4,Z5,cL,cI,cJ,cK,I3⟩:=R5 HX0;have I9:=A3 (And.intro hsz0 hlt0);clear hlt0 hsz0 HX0;clear E6 G9 K1 J5 O8 U5 X9 Z4 Z5 cL cI cJ cK I3;by_cases hki:k=i
  ·subst hki
   obtain rfl:e=r:=Option.some.inj (He.out.symm.trans Hi.out);have hid:=Hid.out;subst hid;have HC:=A3 (show Calls Tryz.prog 45 #[.agg #[.int .i64 e.id,.int .i64 e.rd,.int .i64 e.s0,.int .i64 e.s1,.int .i64 e.e0,.int .i64 e.e1,.bool e.op,.slice e.la e.legs.length e.lc,.slice e.pa e.pauses.length e.pc,.int .i64 e.fw,.int .i64 e.fp,.int .i64 e.wh,.int .i64 e.pl]] y2.w (rL y2.w e)from Bo1 y2.w (A7.self _) e Hat.out Hb.out.1 Hb.out.2);have Hg0:=A3 (show w.heap.size≤g0 from rX.out.1);have Hyb:=A3 y2.b.size;have Hy0:=A3 (show g0<y2.w.heap.size from HZ.out.lt);clear ra0 ra1 ra2 ra3 ra4 ra5 ra6 ra7 ra8 ra9 ra10 ra11 ra12;have zc:=HZ.out;unfold wQ at zc;obtain⟨z0,z1,z2,z3,z4,z5,z6,z7,z8,z9,z10,z11,z12,zf⟩:=R5 zc;clear zc;go_wp2_with(go_at_call 45;(with_reducible refine HC.out.mono ?_);rintro _ _ ⟨q,z,rfl,rfl,hq1,hq2⟩);replace HZ:=A3 (HZ.out.to ⟨z,rfl⟩);obtain⟨y3,e3⟩:=y2.trans z;rw[e3]at HZ hq2⊢;have hm:=hq2;have HM:P5 y3.w w.heap.size q:=⟨rM hm.l Hyb.out,rM hm.p Hyb.out⟩
   have HN:∀b∈K3 q,b≠g0:=fun b hb=>by have h1:=(hm.lt b hb).1;have h2:=rX.out;have h3:=Hy0.out;omega
   obtain⟨Z,hz,hc⟩:=tA y3 (g:=g0) [.int .i64 q.id,.int .i64 q.rd,.int .i64 q.s0,.int .i64 q.s1,.int .i64 q.e0,.int .i64 q.e1,.bool q.op,.slice q.la q.legs.length q.lc,.slice q.pa q.pauses.length q.pc,.int .i64 q.fw,.int .i64 q.fp,.int .i64 q.wh,.int .i64 q.pl] (fun j (hj:j<13)=>by rw[HZ.out.c j _ (A4 hj)];rfl) ⟨y3,rfl⟩ Hg0.out;have h1:=kB g0 [.int .i64 q.id,.int .i64 q.rd,.int .i64 q.s0,.int .i64 q.s1,.int .i64 q.e0,.int .i64 q.e1,.bool q.op,.slice q.la q.legs.length q.lc,.slice q.pa q.pauses.length q.pc,.int .i64 q.fw,.int .i64 q.fp,.int .i64 q.wh,.int .i64 q.pl] 0 _ HM.l (fun b hb=>HN b (List.mem_append_left _ (O2.2 hb)));have h2:=kB g0 [.int .i64 q.id,.int .i64 q.rd,.int .i64 q.s0,.int .i64 q.s1,.int .i64 q.e0,.int .i64 q.e1,.bool q.op,.slice q.la q.legs.length q.lc,.slice q.pa q.pauses.length q.pc,.int .i64 q.fw,.int .i64 q.fp,.int .i64 q.wh,.int .i64 q.pl] 0 _ HM.p (fun b hb=>HN b (List.mem_append_right _ (O2.2 hb)));rw[hz]at h1 h2;simp only[World.setCells,Nat.reduceAdd]at hz;rw[hz];have hc0:=hc 0 _ rfl;have hc1:=hc 1 _ rfl;have hc2:=hc 2 _ rfl;have hc3:=hc 3 _ rfl;have hc4:=hc 4 _ rfl;have hc5:=hc 5 _ rfl;have hc6:=hc 6 _ rfl;have hc7:=hc 7 _ rfl;have hc8:=hc 8 _ rfl;have hc9:=hc 9 _ rfl;have yC:=hc 10 _ rfl;have yD:=hc 11 _ rfl;have hc12:=hc 12 _ rfl;exact bodyPost_ret (v:=.tuple #[.agg #[.int .i64 q.id,.int .i64 q.rd,.int .i64 q.s0,.int .i64 q.s1,.int .i64 q.e0,.int .i64 q.e1,.bool q.op,.slice q.la q.legs.length q.lc,.slice q.pa q.pauses.length q.pc,.int .i64 q.fw,.int .i64 q.fp,.int .i64 q.wh,.int .i64 q.pl],.bool true]) (by simp[results,Tryz.results20,go_sem,hc0,hc1,hc2,hc3,hc4,hc5,hc6,hc7,hc8,hc9,yC,yD,hc12]) rfl (HP.out q Z hq1 ⟨h1,h2⟩)
  ·have hne:¬e.id=id:=Hn.out k e (by omega) He.out
   go_wp2_with fail;go_roundw
   case rel=>exact⟨k+1,y2,by omega,by go_num,rfl,HZ.out⟩
   case measure=>simp[intOf];omega
end
end Go.Proofs.YtmmlmhnjjfnpnaaGreat
