/- Texts that belong together. -/
import Derived.Test.YtmmlmhnjjfnpnaaGreatTpNzn
import Derived.Test.YtmmlmhnjjfnpnaaGreatTpNzp
import Derived.BigQuiet
set_option linter.all false
namespace Go.Proofs.YtmmlmhnjjfnpnaaGreat
set_option maxRecDepth 200000
set_option maxHeartbeats 64000000
section
open Go.RowKit
def lJ (f:D5) (p:E4):Bool:=decide (f.dk.length≤40∧f.tk.length≤20) && decide (p.ps.length≤20) && decide (p.tr.length≤20) && decide (p.pl.length≤80) && decide (p.dk.length≤40) && decide (p.fn.length≤600)
theorem Bu5 (w:World) (x:A6 w) (f:D5) (da ta:Option Addr) (dc tc:Nat) (hf:Y6 w f da ta) (p:E4) (ga pa la ka fa:Option Addr) (gc pc lc kc fc:Nat) (h1:p.tr.length≤9223372036854775807) (h2:p.ps.length≤9223372036854775807) (h3:p.pl.length≤9223372036854775807) (h4:p.dk.length≤9223372036854775807) (h5:p.fn.length≤9223372036854775807):
 Calls Tryz.prog 13 #[.agg #[.int .i64 f.bk,.int .i64 f.rd,.int .i64 f.dv,.slice da f.dk.length dc,.slice ta f.tk.length tc,.slice ga p.tr.length gc,.slice pa p.ps.length pc,.slice la p.pl.length lc,.slice ka p.dk.length kc,.int .i64 p.cap,.slice fa p.fn.length fc,.int .i64 p.fd]] x.w fun o w'=>o= .returned (.bool (lJ f p))∧∃y:A6 w,w'=y.w:=by
 obtain⟨v,hv⟩:∃v,lJ f p=v:=⟨_,rfl⟩
 rw[hv];have Hf:=A2 hf;clear hf;go_enter Tryz.func13,Tryz.ntmps13;go_upto_region 1 with fail;obtain⟨W,bx,y0,hW,hbx,-,B8,Hup,Hbx,HB0⟩:=J8 x [.int .i64 f.bk,.int .i64 f.rd,.int .i64 f.dv,.slice da f.dk.length dc,.slice ta f.tk.length tc,.slice ga p.tr.length gc,.slice pa p.ps.length pc,.slice la p.pl.length lc,.slice ka p.dk.length kc,.int .i64 p.cap,.slice fa p.fn.length fc,.int .i64 p.fd] 55;rw[hW,hbx];clear hW hbx;obtain⟨D7,D9,E3,E5,F3,I0,K9,O5,O6,X5,X3,X4,hf0⟩:=Ac6 HB0;clear HB0;replace Hf:=A2 (Hf.out.to B8);clear B8;go_upto_region 2 with fail;obtain⟨y1,e2,C5,hsz0,hlt0,HX0⟩:=L9 y0 [.slice ga p.tr.length gc,.slice pa p.ps.length pc,.slice la p.pl.length lc,.slice ka p.dk.length kc,.int .i64 p.cap,.slice fa p.fn.length fc,.int .i64 p.fd] 53;rw[e2];obtain⟨hx0,hx1,hx2,hx3,hx4,hx5,hx6,hxf⟩:=cx7 HX0;skip;clear e2 C5;generalize y0.w.heap.size=g at *;obtain⟨E9,G1,J4,I9,M8,O9,S2,G8⟩:=cR HX0;have I5:=A2 (And.intro hsz0 hlt0);clear hlt0 hsz0 HX0;clear hx0 hx1 hx2 hx3 hx4 hx5 hx6 hxf G8 I5;replace D7:∀(y:A6 y1.w),y.w.cell? ⟨bx,0,none⟩=some (.int .i64 f.bk):=fun y=>by obtain⟨z,e⟩:=y1.trans y;rw[e];exact D7 z
 replace D9:∀(y:A6 y1.w),y.w.cell? ⟨bx,1,none⟩=some (.int .i64 f.rd):=fun y=>by obtain⟨z,e⟩:=y1.trans y;rw[e];exact D9 z
 replace E3:∀(y:A6 y1.w),y.w.cell? ⟨bx,2,none⟩=some (.int .i64 f.dv):=fun y=>by obtain⟨z,e⟩:=y1.trans y;rw[e];exact E3 z
 replace E5:∀(y:A6 y1.w),y.w.cell? ⟨bx,3,none⟩=some (.slice da f.dk.length dc):=fun y=>by obtain⟨z,e⟩:=y1.trans y;rw[e];exact E5 z
 replace F3:∀(y:A6 y1.w),y.w.cell? ⟨bx,4,none⟩=some (.slice ta f.tk.length tc):=fun y=>by obtain⟨z,e⟩:=y1.trans y;rw[e];exact F3 z
 replace I0:∀(y:A6 y1.w),y.w.cell? ⟨bx,5,none⟩=some (.slice ga p.tr.length gc):=fun y=>by obtain⟨z,e⟩:=y1.trans y;rw[e];exact I0 z
 replace K9:∀(y:A6 y1.w),y.w.cell? ⟨bx,6,none⟩=some (.slice pa p.ps.length pc):=fun y=>by obtain⟨z,e⟩:=y1.trans y;rw[e];exact K9 z
 replace O5:∀(y:A6 y1.w),y.w.cell? ⟨bx,7,none⟩=some (.slice la p.pl.length lc):=fun y=>by obtain⟨z,e⟩:=y1.trans y;rw[e];exact O5 z
 replace O6:∀(y:A6 y1.w),y.w.cell? ⟨bx,8,none⟩=some (.slice ka p.dk.length kc):=fun y=>by obtain⟨z,e⟩:=y1.trans y;rw[e];exact O6 z
 replace X5:∀(y:A6 y1.w),y.w.cell? ⟨bx,9,none⟩=some (.int .i64 p.cap):=fun y=>by obtain⟨z,e⟩:=y1.trans y;rw[e];exact X5 z
 replace X3:∀(y:A6 y1.w),y.w.cell? ⟨bx,10,none⟩=some (.slice fa p.fn.length fc):=fun y=>by obtain⟨z,e⟩:=y1.trans y;rw[e];exact X3 z
 replace X4:∀(y:A6 y1.w),y.w.cell? ⟨bx,11,none⟩=some (.int .i64 p.fd):=fun y=>by obtain⟨z,e⟩:=y1.trans y;rw[e];exact X4 z
 replace hf0:∀(y:A6 y1.w) (o:Nat),y.w.frozen? ⟨bx,o,none⟩=false:=fun y o=>by obtain⟨z,e⟩:=y1.trans y;rw[e];exact hf0 z o
 have HW:=A2 (show∀z:A6 y1.w,∃y:A6 w,z.w=y.w from fun z=>by obtain⟨y2,e⟩:=y1.trans z;rw[e];exact Hup.out y2);have FW:∀v:Bool,decide (0≤40∧f.dk.length≤40∧f.tk.length≤20)=v→Calls Tryz.prog 6 #[.agg #[.int .i64 f.bk,.int .i64 f.rd,.int .i64 f.dv,.slice da f.dk.length dc,.slice ta f.tk.length tc],.slice none 0 0] y1.w fun o w'=>o= .returned (.bool v)∧∃y:A6 y1.w,w'=y.w:=fun v hv=>Br8 y1.w (A6.self _) f da ta dc tc (Hf.out.to ⟨y1,rfl⟩) none 0 0 (by decide) v hv;unfold lJ at hv;clear Hup hf0 Hf;have d0:y1.w.cell? ⟨bx,0,none⟩=some (.int .i64 f.bk):=D7 (A6.self y1.w);have d1:y1.w.cell? ⟨bx,1,none⟩=some (.int .i64 f.rd):=D9 (A6.self y1.w);have d2:y1.w.cell? ⟨bx,2,none⟩=some (.int .i64 f.dv):=E3 (A6.self y1.w);have d3:y1.w.cell? ⟨bx,3,none⟩=some (.slice da f.dk.length dc):=E5 (A6.self y1.w);have d4:y1.w.cell? ⟨bx,4,none⟩=some (.slice ta f.tk.length tc):=F3 (A6.self y1.w);clear D7 D9 E3 E5 F3;rcases(by omega:¬(f.dk.length≤40∧f.tk.length≤20)∨((f.dk.length≤40∧f.tk.length≤20)∧20<p.ps.length)∨((f.dk.length≤40∧f.tk.length≤20)∧p.ps.length≤20∧20<p.tr.length)∨((f.dk.length≤40∧f.tk.length≤20)∧p.ps.length≤20∧p.tr.length≤20∧80<p.pl.length)∨((f.dk.length≤40∧f.tk.length≤20)∧p.ps.length≤20∧p.tr.length≤20∧p.pl.length≤80∧40<p.dk.length)∨((f.dk.length≤40∧f.tk.length≤20)∧p.ps.length≤20∧p.tr.length≤20∧p.pl.length≤80∧p.dk.length≤40∧600<p.fn.length)∨((f.dk.length≤40∧f.tk.length≤20)∧p.ps.length≤20∧p.tr.length≤20∧p.pl.length≤80∧p.dk.length≤40∧p.fn.length≤600))with a1|⟨a1,a2⟩|⟨a1,a2,a3⟩|⟨a1,a2,a3,a4⟩|⟨a1,a2,a3,a4,a5⟩|⟨a1,a2,a3,a4,a5,a6⟩|⟨a1,a2,a3,a4,a5,a6⟩
 ·have FW1:=FW false (decide_eq_false (by omega))
  obtain rfl:v=false:=by rw[←hv,decide_eq_false a1];rfl
  clear hv FW a1;go_wp2_with(go_at_call 6;(with_reducible refine FW1.mono ?_);rintro _ _ ⟨rfl,z,rfl⟩);have HWz:=A2 (HW.out z);go_wp2_with fail;go_ret;exact⟨rfl,HWz.out⟩
 all_goals
  have FW1:=FW true (decide_eq_true (by omega));have hvb:v=(decide (p.ps.length≤20) && decide (p.tr.length≤20) && decide (p.pl.length≤80) && decide (p.dk.length≤40) && decide (p.fn.length≤600)):=by rw[←hv,decide_eq_true a1];rfl
  have Hvb:=A2 hvb;clear hv hvb FW a1;go_wp2_with(go_at_call 6;(with_reducible refine FW1.mono ?_);rintro _ _ ⟨rfl,z,rfl⟩);have HWz:=A2 (HW.out z);go_wp2_with fail;go_ret;refine⟨F9 ?_,HWz.out⟩;rw[Hvb.out];first|rfl|(simp;omega)|(simp[a2,a3,a4,a5,a6];done)|(simp[a2,a3,a4,a5,a6];omega)
end
section
open Go.RowKit
theorem Bu6 (w:World) (x:A6 w) (a:Option Addr) (l:List F0) (c:Nat) (h:D0 F0.cs 5 w a l) (hl:l.length≤100000):
 Calls Tryz.prog 93 #[.slice a l.length c] x.w (dV w 152 5 l.length (B6 F0.cs l)):=by
 have H:=A2 h;have Hp:=A2 (fun(a':Option Addr) (c':Nat) (y:A6 w) (h:y.w.ownsRow w.heap.size 152 5 (.slice a' l.length c') l.length (B6 F0.cs l))=>show dV w 152 5 l.length (B6 F0.cs l) (.returned (.slice a' l.length c')) y.w from⟨a',c',y,rfl,rfl,h⟩);generalize dV w 152 5 l.length (B6 F0.cs l)=PO at *;clear h;have qn:=fun(w:World) (a:Option Addr) (n c n' c':Nat)=>Lib.run_eql_slice_nil (P:=Tryz.prog) w _ _ a n c n' c' Tryz.underlying37
 cases a with
 |none=>
  have hn:l=[]:=by
   cases l with
   |nil=>rfl
   |cons e l=>obtain⟨b,off,hb,_⟩:=H.out 0 e rfl;cases hb
  subst hn
  have HB:=A2 (Hp.out none 0 x ⟨rfl,.inl ⟨rfl,rfl⟩⟩)
  go_enter Tryz.func93,Tryz.ntmps93
  go_wp2_with fail
  exact HB.out
 |some ad=>
  go_enter Tryz.func93,Tryz.ntmps93
  go_wp2_with(at_builtin;(refine lW (w0:=w) (enc:=F0.cs) (k:=5) F0.len (by decide) An9 ?hw rfl _ _ 37 rfl w.heap.size (Nat.le_refl _) ?hb 152 (.agg #[.int .i64 0,.int .i64 0,.int .i64 0,.int .i64 0,.int .i64 0]) 40 Ao1 (.slice (some ⟨x.w.heap.size,0,none⟩) 0 0) 0 [] rfl ?hown (some ad) l c rfl ?hels (fun h=>by cases h) ?h63 ?hbytes ?_;rotate_right 1;intro v2 q2 hown2 _ hg2;refine Hid.out ?_))
  case hw=>exact A7.alloc (A7.of x) _
  case hb=>have:=x.b.size;simp;omega
  case hown=>exact tN (k:=5) (aJ.new x.w _) x.b.size
  case hels=>exact(A6.els H.out x).to (A7.alloc (A7.self _) _)
  case h63=>unfold maxLen;omega
  case hbytes=>omega
  rw[List.nil_append,Nat.zero_add]at hown2
  obtain⟨_,a5,c5,rfl,_⟩:=P2 F0.len (by decide) hown2
  have HB:=A2 (Hp.out a5 c5 q2 hown2)
  clear hown2 hg2
  refine A2 ?_
  go_wp2_with fail
  exact HB.out
theorem Bu7 (w:World) (x:A6 w) (a:Option Addr) (l:List F4) (c:Nat) (h:D0 F4.cs 4 w a l) (hl:l.length≤100000):
 Calls Tryz.prog 94 #[.slice a l.length c] x.w (dV w 44 4 l.length (B6 F4.cs l)):=by
 have H:=A2 h;have Hp:=A2 (fun(a':Option Addr) (c':Nat) (y:A6 w) (h:y.w.ownsRow w.heap.size 44 4 (.slice a' l.length c') l.length (B6 F4.cs l))=>show dV w 44 4 l.length (B6 F4.cs l) (.returned (.slice a' l.length c')) y.w from⟨a',c',y,rfl,rfl,h⟩);generalize dV w 44 4 l.length (B6 F4.cs l)=PO at *;clear h;have qn:=fun(w:World) (a:Option Addr) (n c n' c':Nat)=>Lib.run_eql_slice_nil (P:=Tryz.prog) w _ _ a n c n' c' Tryz.underlying38
 cases a with
 |none=>
  have hn:l=[]:=by
   cases l with
   |nil=>rfl
   |cons e l=>obtain⟨b,off,hb,_⟩:=H.out 0 e rfl;cases hb
  subst hn
  have HB:=A2 (Hp.out none 0 x ⟨rfl,.inl ⟨rfl,rfl⟩⟩)
  go_enter Tryz.func94,Tryz.ntmps94
  go_wp2_with fail
  exact HB.out
 |some ad=>
  go_enter Tryz.func94,Tryz.ntmps94
  go_wp2_with(at_builtin;(refine lW (w0:=w) (enc:=F4.cs) (k:=4) F4.len (by decide) Ao0 ?hw rfl _ _ 38 rfl w.heap.size (Nat.le_refl _) ?hb 44 (.agg #[.int .i64 0,.int .i64 0,.int .i64 0,.int .i64 0]) 32 Ao2 (.slice (some ⟨x.w.heap.size,0,none⟩) 0 0) 0 [] rfl ?hown (some ad) l c rfl ?hels (fun h=>by cases h) ?h63 ?hbytes ?_;rotate_right 1;intro v2 q2 hown2 _ hg2;refine Hid.out ?_))
  case hw=>exact A7.alloc (A7.of x) _
  case hb=>have:=x.b.size;simp;omega
  case hown=>exact tN (k:=4) (aJ.new x.w _) x.b.size
  case hels=>exact(A6.els H.out x).to (A7.alloc (A7.self _) _)
  case h63=>unfold maxLen;omega
  case hbytes=>omega
  rw[List.nil_append,Nat.zero_add]at hown2
  obtain⟨_,a5,c5,rfl,_⟩:=P2 F4.len (by decide) hown2
  have HB:=A2 (Hp.out a5 c5 q2 hown2)
  clear hown2 hg2
  refine A2 ?_
  go_wp2_with fail
  exact HB.out
end
section
open Go.RowKit
def oB (w:World) (r:A8) (o:Ending) (w':World):Prop:=
 ∃(q:A8) (y:A6 w),o= .returned (.agg #[.int .i64 q.id,.int .i64 q.rd,.int .i64 q.s0,.int .i64 q.s1,.int .i64 q.e0,.int .i64 q.e1,.bool q.op,.slice q.la q.legs.length q.lc,.slice q.pa q.pauses.length q.pc,.int .i64 q.fw,.int .i64 q.fp,.int .i64 q.wh,.int .i64 q.pl])∧w'=y.w∧q.br=r.br∧L4 y.w w.heap.size q
theorem lK {w:World} {B B':Nat} {e:TypeId} {k:Nat} {v:Value} {n:Nat} {xs:List Value} (h:w.ownsRow B e k v n xs) (hb:B'≤B):w.ownsRow B' e k v n xs:=by
 obtain⟨hl,h|⟨g,cap,cur,rfl,hg,r⟩⟩:=h
 ·exact⟨hl,.inl h⟩
 ·exact⟨hl,.inr ⟨g,cap,cur,rfl,Nat.le_trans hb hg,r⟩⟩
theorem Aw3 (w:World) (x:A6 w) (r:A8) (hr:r.At w) (hl:r.legs.length≤100000) (hp:r.pauses.length≤100000):
 Calls Tryz.prog 45 #[.agg #[.int .i64 r.id,.int .i64 r.rd,.int .i64 r.s0,.int .i64 r.s1,.int .i64 r.e0,.int .i64 r.e1,.bool r.op,.slice r.la r.legs.length r.lc,.slice r.pa r.pauses.length r.pc,.int .i64 r.fw,.int .i64 r.fp,.int .i64 r.wh,.int .i64 r.pl]] x.w (oB w r):=by
 have HP:=A2 (fun(la:Option Addr) (lc:Nat) (pa:Option Addr) (pc:Nat) (y:A6 w) (h1:y.w.ownsRow w.heap.size 152 5 (.slice la r.legs.length lc) r.legs.length (B6 F0.cs r.legs)) (h2:y.w.ownsRow w.heap.size 44 4 (.slice pa r.pauses.length pc) r.pauses.length (B6 F4.cs r.pauses))=>show oB w r (.returned (.agg #[.int .i64 r.id,.int .i64 r.rd,.int .i64 r.s0,.int .i64 r.s1,.int .i64 r.e0,.int .i64 r.e1,.bool r.op,.slice la r.legs.length lc,.slice pa r.pauses.length pc,.int .i64 r.fw,.int .i64 r.fp,.int .i64 r.wh,.int .i64 r.pl])) y.w from⟨{r with la:=la,lc:=lc,pa:=pa,pc:=pc},y,rfl,rfl,rfl,⟨h1,h2⟩⟩);generalize oB w r=PO at *;have HR:=A2 hr;clear hr;go_enter Tryz.func45,Tryz.ntmps45;go_upto_region 1 with fail;obtain⟨W,bx,y0,hW,hbx,-,B8,Hup,Hbx,HB0,HB1⟩:=W5 x (([.int .i64 r.id,.int .i64 r.rd,.int .i64 r.s0,.int .i64 r.s1,.int .i64 r.e0,.int .i64 r.e1,.bool r.op,.slice r.la r.legs.length r.lc,.slice r.pa r.pauses.length r.pc,.int .i64 r.fw,.int .i64 r.fp,.int .i64 r.wh,.int .i64 r.pl]:List Value)) 40 (([.int .i64 0,.int .i64 0,.int .i64 0,.int .i64 0,.int .i64 0,.int .i64 0,.bool false,.slice none 0 0,.slice none 0 0,.int .i64 0,.int .i64 0,.int .i64 0,.int .i64 0]:List Value)) 40;rw[hW,hbx];clear hW hbx;have hB0:=fun y:A6 W=>HB0.since y;have hB1:=fun y:A6 W=>HB1.since y;clear HB0 HB1;replace HR:=A2 (HR.out.to B8);have CL:=A2 (fun(u:World) (hu:A7 W u)=>show Calls Tryz.prog 93 #[.slice r.la r.legs.length r.lc] u (dV u 152 5 r.legs.length (B6 F0.cs r.legs))from Bu6 u (A6.self u) r.la r.legs r.lc (HR.out.to hu).l hl);have CP:=A2 (fun(u:World) (hu:A7 W u)=>show Calls Tryz.prog 94 #[.slice r.pa r.pauses.length r.pc] u (dV u 44 4 r.pauses.length (B6 F4.cs r.pauses))from Bu7 u (A6.self u) r.pa r.pauses r.pc (HR.out.to hu).p hp);have HA:=A2 (fun(u:World) (hu:A7 W u)=>show C3 u bx [.int .i64 r.id,.int .i64 r.rd,.int .i64 r.s0,.int .i64 r.s1,.int .i64 r.e0,.int .i64 r.e1,.bool r.op,.slice r.la r.legs.length r.lc,.slice r.pa r.pauses.length r.pc,.int .i64 r.fw,.int .i64 r.fp,.int .i64 r.wh,.int .i64 r.pl]from by obtain⟨y,rfl⟩:=hu;exact hB0 y);have HZ:=A2 (fun(u:World) (hu:A7 W u)=>show C3 u (bx+1) [.int .i64 0,.int .i64 0,.int .i64 0,.int .i64 0,.int .i64 0,.int .i64 0,.bool false,.slice none 0 0,.slice none 0 0,.int .i64 0,.int .i64 0,.int .i64 0,.int .i64 0]from by obtain⟨y,rfl⟩:=hu;exact hB1 y);have HWw:=A2 (fun(u:World) (hu:A7 W u)=>show A7 w u from A7.trans B8 hu);have e5:=fun(u:World) (hu:A7 W u)=>(HA.out u hu).c 7 _ rfl;have e6:=fun(u:World) (hu:A7 W u)=>(HA.out u hu).c 8 _ rfl;clear hB0 hB1 B8 Hup HR;refine R0 (fun w'=>A7 W w') 7 (by kernel_rfl) (A7.drew' (A7.of y0)) (fun hS=>?_);refine tk 0 ?_ rfl (by kernel_rfl) hS (fun _ _ _ h=>h) ?_ ?_;rotate_left
 ·(intro w h;(try dsimp only at h);go_split_ands;go_simp;try with_reducible rfl)
 (try simp only[Act.put,B0])
 refine tk 1 ?_ rfl (by kernel_rfl) hS (fun _ _ _ h=>h) ?_ ?_;rotate_left
 ·(intro w h;(try dsimp only at h);go_split_ands;go_simp;try with_reducible rfl)
 (try simp only[Act.put,B0])
 refine tk 3 ?_ rfl (by kernel_rfl) hS (fun _ _ _ h=>h) ?_ ?_;rotate_left
 ·(intro w h;(try dsimp only at h);go_split_ands;go_simp;try with_reducible rfl)
 (try simp only[Act.put,B0])
 refine tk 4 ?_ rfl (by kernel_rfl) hS (fun _ _ _ h=>h) ?_ ?_;rotate_left
 ·(intro w h;(try dsimp only at h);go_split_ands;go_simp;try with_reducible rfl)
 (try simp only[Act.put,B0])
 refine G6 2 (by kernel_rfl) rfl fun K hK=>?_;(go_simp;(with_reducible refine(CL.out _ hS).mono ?_);rintro _ _ ⟨a1,c1,y1,rfl,rfl,ho1⟩)
 refine E6 hK (A7.trans hS ⟨y1,rfl⟩) ?_;clear hK K hS;intro hS;(try simp only[Act.put,B0])
 refine tk 6 ?_ rfl (by kernel_rfl) hS (fun _ _ _ h=>h) ?_ ?_;rotate_left
 ·(intro w h;(try dsimp only at h);go_split_ands;go_simp;try with_reducible rfl)
 (try simp only[Act.put,B0])
 refine G6 5 (by kernel_rfl) rfl fun K hK=>?_;(go_simp;(with_reducible refine(CP.out _ hS).mono ?_);rintro _ _ ⟨a2,c2,y2,rfl,rfl,ho2⟩)
 refine E6 hK (A7.trans hS ⟨y2,rfl⟩) ?_;clear hK K hS;intro hS;(try simp only[Act.put,B0])
 have hb:=HA.out _ hS;have hz:=HZ.out _ hS;have hw:=HWw.out _ hS;have hy1:=(HWw.out _ (A7.trans (A7.drew' (A7.of y0)) ⟨y1,rfl⟩))
 have ho1':=I6 (lK ho1 (show w.heap.size≤y0.w.drew.heap.size from A7.size (HWw.out _ (A7.drew' (A7.of y0))))) ⟨y2,rfl⟩;have ho2':=lK ho2 (show w.heap.size≤y1.w.heap.size from A7.size hy1);have hs1:bx<y0.w.drew.heap.size:=by have h1:=Hbx.out;have h2:=y0.b.size;show bx<y0.w.heap.size;omega
 have n1:∀b,(Value.slice a1 r.legs.length c1).ownBlock=some b→b≠bx∧b≠bx+1:=fun b hb=>by
  have h1:=dI ho1 b hb;have h2:=Hbx.out;have h3:=y0.b.size;have h4:y0.w.drew.heap.size=y0.w.heap.size:=rfl;omega
 have n2:∀b,(Value.slice a2 r.pauses.length c2).ownBlock=some b→b≠bx∧b≠bx+1:=fun b hb=>by
  have h1:=dI ho2 b hb;have h2:=Hbx.out;have h3:=y0.b.size;have h5:=y1.b.size;have h4:y0.w.drew.heap.size=y0.w.heap.size:=rfl;omega
 have Hb:=A2 hb;have Hz:=A2 hz;have Ho1:=A2 ho1';have Ho2:=A2 ho2';have Hw:=A2 hw;have N1:=A2 n1;have N2:=A2 n2;clear hb hz hw hy1 ho1' ho2' ho1 ho2 hs1 n1 n2 CL CP HA HZ HWw e5 e6;have k5:=Hb.out.c 7 _ rfl;have k6:=(Hb.out.setj (j:=7) (by simp) (.slice a1 r.legs.length c1)).c 8 _ rfl;have kf:=Hb.out.f;have kf2:=(Hb.out.setj (j:=7) (by simp) (.slice a1 r.legs.length c1)).f;generalize y2.w=w2 at *;refine G6 7 (by kernel_rfl) rfl fun K hK=>?_;go_simp;refine tkB hK rfl ?_;clear hK K;(try clear hS)
 (try simp only[Act.put,B0])
 refine G6 8 (by kernel_rfl) rfl fun K hK=>?_;go_simp;refine tkB hK rfl ?_;clear hK K;(try clear hS)
 (try simp only[Act.put,B0])
 refine G6 9 (by kernel_rfl) rfl fun K hK=>?_;go_simp;refine M0 hK (by kernel_rfl) ?_;clear hK K;(try clear hS)
 (try simp only[Act.put,B0])
 clear k5 k6 kf kf2;have hB3:C3 ((w2.setCell ⟨bx,7,none⟩ (.slice a1 r.legs.length c1)).setCell ⟨bx,8,none⟩ (.slice a2 r.pauses.length c2)) bx [.int .i64 r.id,.int .i64 r.rd,.int .i64 r.s0,.int .i64 r.s1,.int .i64 r.e0,.int .i64 r.e1,.bool r.op,.slice a1 r.legs.length c1,.slice a2 r.pauses.length c2,.int .i64 r.fw,.int .i64 r.fp,.int .i64 r.wh,.int .i64 r.pl]:=(Hb.out.setj (j:=7) (by simp) (.slice a1 r.legs.length c1)).setj (j:=8) (by simp) (.slice a2 r.pauses.length c2);have hZ3:=(Hz.out.far ⟨bx,7,none⟩ (.slice a1 r.legs.length c1) (by show bx+1≠bx;omega)).far ⟨bx,8,none⟩ (.slice a2 r.pauses.length c2) (by show bx+1≠bx;omega);have hO1:=dL (dL Ho1.out ⟨bx,7,none⟩ (.slice a1 r.legs.length c1) (fun b hb=>(N1.out b hb).1)) ⟨bx,8,none⟩ (.slice a2 r.pauses.length c2) (fun b hb=>(N1.out b hb).1);have hO2:=dL (dL Ho2.out ⟨bx,7,none⟩ (.slice a1 r.legs.length c1) (fun b hb=>(N2.out b hb).1)) ⟨bx,8,none⟩ (.slice a2 r.pauses.length c2) (fun b hb=>(N2.out b hb).1);have hW3:=(Hw.out.set ⟨bx,7,none⟩ Hbx.out.1 (.slice a1 r.legs.length c1)).set ⟨bx,8,none⟩ Hbx.out.1 (.slice a2 r.pauses.length c2);have HO1:=A2 hO1;have HO2:=A2 hO2;clear hO1 hO2 Hb Hz Ho1 Ho2 Hw;go_upto_region 2 with fail;generalize(w2.setCell ⟨bx,7,none⟩ (.slice a1 r.legs.length c1)).setCell ⟨bx,8,none⟩ (.slice a2 r.pauses.length c2)=w3 at *;obtain⟨y3,rfl⟩:=hW3;have HZ3:=A2 hZ3;have HS:=A2 (fun j (hj:j<13)=>show(y3.w.cell? ⟨bx+1,j,none⟩).isSome=true from by rw[HZ3.out.c j _ (A3 hj)];rfl);obtain⟨m0,m1,m2,m3,m4,m5,m6,m7,m8,m9,m10,m11,m12,mf⟩:=bU hB3;obtain⟨z0,z1,z2,z3,z4,z5,z6,z7,z8,z9,z10,z11,z12,zf⟩:=bU hZ3;clear hB3 hZ3;go_wp2_with fail;obtain⟨Z,hz,hc⟩:=Ad3 y3 (g:=bx+1) [.int .i64 r.id,.int .i64 r.rd,.int .i64 r.s0,.int .i64 r.s1,.int .i64 r.e0,.int .i64 r.e1,.bool r.op,.slice a1 r.legs.length c1,.slice a2 r.pauses.length c2,.int .i64 r.fw,.int .i64 r.fp,.int .i64 r.wh,.int .i64 r.pl] HS.out ⟨y3,rfl⟩ (by have:=Hbx.out;omega);have h1:=mF (bx+1) [.int .i64 r.id,.int .i64 r.rd,.int .i64 r.s0,.int .i64 r.s1,.int .i64 r.e0,.int .i64 r.e1,.bool r.op,.slice a1 r.legs.length c1,.slice a2 r.pauses.length c2,.int .i64 r.fw,.int .i64 r.fp,.int .i64 r.wh,.int .i64 r.pl] 0 _ HO1.out (fun b hb=>(N1.out b hb).2);have h2:=mF (bx+1) [.int .i64 r.id,.int .i64 r.rd,.int .i64 r.s0,.int .i64 r.s1,.int .i64 r.e0,.int .i64 r.e1,.bool r.op,.slice a1 r.legs.length c1,.slice a2 r.pauses.length c2,.int .i64 r.fw,.int .i64 r.fp,.int .i64 r.wh,.int .i64 r.pl] 0 _ HO2.out (fun b hb=>(N2.out b hb).2);rw[hz]at h1 h2;simp only[World.setCells,Nat.reduceAdd]at hz;rw[hz];have hc0:=hc 0 _ rfl;have hc1:=hc 1 _ rfl;have hc2:=hc 2 _ rfl;have hc3:=hc 3 _ rfl;have hc4:=hc 4 _ rfl;have hc5:=hc 5 _ rfl;have hc6:=hc 6 _ rfl;have hc7:=hc 7 _ rfl;have hc8:=hc 8 _ rfl;have hc9:=hc 9 _ rfl;have zC:=hc 10 _ rfl;have zD:=hc 11 _ rfl;have hc12:=hc 12 _ rfl;exact bodyPost_ret (v:=.agg #[.int .i64 r.id,.int .i64 r.rd,.int .i64 r.s0,.int .i64 r.s1,.int .i64 r.e0,.int .i64 r.e1,.bool r.op,.slice a1 r.legs.length c1,.slice a2 r.pauses.length c2,.int .i64 r.fw,.int .i64 r.fp,.int .i64 r.wh,.int .i64 r.pl]) (by simp[results,Tryz.results45,go_sem,hc0,hc1,hc2,hc3,hc4,hc5,hc6,hc7,hc8,hc9,zC,zD,hc12]) rfl (HP.out a1 c1 a2 c2 Z h1 h2)
end
section
open Go.RowKit
def yC:List Value:=[.int .i64 0,.int .i64 0,.int .i64 0,.int .i64 0,.int .i64 0,.int .i64 0,.bool false,.slice none 0 0,.slice none 0 0,.int .i64 0,.int .i64 0,.int .i64 0,.int .i64 0]
def sJ (w:World) (r:A8) (o:Ending) (w':World):Prop:=
 ∃(q:A8) (y:A6 w),o= .returned (.tuple #[.agg #[.int .i64 q.id,.int .i64 q.rd,.int .i64 q.s0,.int .i64 q.s1,.int .i64 q.e0,.int .i64 q.e1,.bool q.op,.slice q.la q.legs.length q.lc,.slice q.pa q.pauses.length q.pc,.int .i64 q.fw,.int .i64 q.fp,.int .i64 q.wh,.int .i64 q.pl],.bool true])∧w'=y.w∧q.br=r.br∧L4 y.w w.heap.size q
theorem Bu8 (w:World) (x:A6 w) (a:Option Addr) (l:List A8) (c:Nat) (h:j3 w a l) (hl:l.length≤100000) (i:Nat) (r:A8) (id:Int) (hb:r.legs.length≤100000∧r.pauses.length≤100000) (hi:l[i]? =some r) (hid:r.id=id) (hn:∀j e,j<i→l[j]? =some e→e.id≠id):
 Calls Tryz.prog 20 #[.slice a l.length c,.int .i64 id] x.w (sJ w r):=by
 have HP:=A2 (fun(q:A8) (y:A6 w) (h1:q.br=r.br) (h2:L4 y.w w.heap.size q)=>show sJ w r (.returned (.tuple #[.agg #[.int .i64 q.id,.int .i64 q.rd,.int .i64 q.s0,.int .i64 q.s1,.int .i64 q.e0,.int .i64 q.e1,.bool q.op,.slice q.la q.legs.length q.lc,.slice q.pa q.pauses.length q.pc,.int .i64 q.fw,.int .i64 q.fp,.int .i64 q.wh,.int .i64 q.pl],.bool true])) y.w from⟨q,y,rfl,rfl,h1,h2⟩);generalize sJ w r=PO at *;have HL:=A2 h;have Hb:=A2 hb;have Hi:=A2 hi;have Hn:=A2 hn;have Hid:=A2 hid;have Hil:=A2 (A4 hi).1;clear h hb hi hn hid;go_enter Tryz.func20,Tryz.ntmps20;go_upto_region 1 with fail;obtain⟨y0,e2,C5,hsz0,hlt0,HX0⟩:=L9 x [.int .i64 0,.int .i64 0,.int .i64 0,.int .i64 0,.int .i64 0,.int .i64 0,.bool false,.slice none 0 0,.slice none 0 0,.int .i64 0,.int .i64 0,.int .i64 0,.int .i64 0] 40;rw[e2];obtain⟨hz0,hz1,hz2,hz3,hz4,hz5,hz6,hz7,hz8,hz9,eZ,BE6,BE7,hzf⟩:=bU HX0;(have HZ:=A2 (show C3 y0.w x.w.heap.size yC from HX0))
 clear e2 C5;generalize x.w.heap.size=g0 at *;obtain⟨Bz5,Bz6,BA0,BA1,BA2,BA3,BA4,BA5,BA6,BA7,Bz7,Bz8,Bz9,BA8⟩:=P8 HX0;have AA0:=A2 (And.intro hsz0 hlt0);clear hlt0 hsz0 HX0;clear hz0 hz1 hz2 hz3 hz4 hz5 hz6 hz7 hz8 hz9 eZ BE6 BE7 hzf Bz5 Bz6 BA0 BA1 BA2 BA3 BA4 BA5 BA6 BA7 Bz7 Bz8 Bz9 BA8;go_wp2_with fail;go_loopw [10] (fun t wr=>∃(k:Nat) (y:A6 w),k≤i∧t= .int .i64 k∧wr=y.w∧C3 y.w g0 yC) (fun t _ =>l.length-(intOf t).toNat)
 case atStart=>exact⟨0,y0,by omega,rfl,rfl,HZ.out⟩
 case round=>
  clear HZ;obtain⟨k,y,hk,rfl,rfl,hz⟩:=hrel;have HZ:=A2 hz;have hlt:k<l.length:=by have:=Hil.out;omega
  obtain⟨e,he⟩:∃e,l[k]? =some e:=⟨_,A3 hlt⟩
  obtain⟨b1,off1,rfl,h1'⟩:=D0.ride HL.out.c he;have ra0:=h1'.c0;have ra1:=h1'.c1;have ra2:=h1'.c2;have ra3:=h1'.c3;have ra4:=h1'.c4;have ra5:=h1'.c5;have ra6:=h1'.c6;have ra7:=h1'.c7;have ra8:=h1'.c8;have ra9:=h1'.c9;have ra10:=h1'.c10;have ra11:=h1'.c11;have ra12:=h1'.c12;have hk0:(0:Int)≤(k:Int):=by omega
  have hkl:(k:Int)<(l.length:Int):=by omega
  have He:=A2 he;have Hat:=A2 (HL.out.r e (A0 he));clear h1' he hz;go_upto_region 4 with fail;obtain⟨y2,e2,C5,hsz0,hlt0,HX0⟩:=L9 y [.int .i64 e.id,.int .i64 e.rd,.int .i64 e.s0,.int .i64 e.s1,.int .i64 e.e0,.int .i64 e.e1,.bool e.op,.slice e.la e.legs.length e.lc,.slice e.pa e.pauses.length e.pc,.int .i64 e.fw,.int .i64 e.fp,.int .i64 e.wh,.int .i64 e.pl] 40;rw[e2];obtain⟨hx0,hx1,hx2,hx3,hx4,hx5,hx6,hx7,hx8,hx9,dF,dG,dH,hxf⟩:=bU HX0;(replace Hat:=A2 ((Hat.out.since y).to C5);replace HZ:=A2 (HZ.out.to C5))
  clear e2 C5;generalize y.w.heap.size=g at *;obtain⟨E9,G1,J4,I9,M8,O9,S2,S9,T0,aH,aB,aC,aD,G8⟩:=P8 HX0;have I5:=A2 (And.intro hsz0 hlt0);clear hlt0 hsz0 HX0;clear E9 G1 J4 I9 M8 O9 S2 S9 T0 aH aB aC aD G8;by_cases hki:k=i
  ·subst hki
   obtain rfl:e=r:=Option.some.inj (He.out.symm.trans Hi.out);have hid:=Hid.out;subst hid;have HC:=A2 (show Calls Tryz.prog 45 #[.agg #[.int .i64 e.id,.int .i64 e.rd,.int .i64 e.s0,.int .i64 e.s1,.int .i64 e.e0,.int .i64 e.e1,.bool e.op,.slice e.la e.legs.length e.lc,.slice e.pa e.pauses.length e.pc,.int .i64 e.fw,.int .i64 e.fp,.int .i64 e.wh,.int .i64 e.pl]] y2.w (oB y2.w e)from Aw3 y2.w (A6.self _) e Hat.out Hb.out.1 Hb.out.2);have Hg0:=A2 (show w.heap.size≤g0 from AA0.out.1);have Hyb:=A2 y2.b.size;have Hy0:=A2 (show g0<y2.w.heap.size from HZ.out.lt);clear ra0 ra1 ra2 ra3 ra4 ra5 ra6 ra7 ra8 ra9 ra10 ra11 ra12;have zc:=HZ.out;unfold yC at zc;obtain⟨z0,z1,z2,z3,z4,z5,z6,z7,z8,z9,z10,z11,z12,zf⟩:=P8 zc;clear zc;go_wp2_with(go_at_call 45;(with_reducible refine HC.out.mono ?_);rintro _ _ ⟨q,z,rfl,rfl,hq1,hq2⟩);replace HZ:=A2 (HZ.out.to ⟨z,rfl⟩);obtain⟨y3,e3⟩:=y2.trans z;rw[e3]at HZ hq2⊢;have hm:=hq2;have HM:L4 y3.w w.heap.size q:=⟨lK hm.l Hyb.out,lK hm.p Hyb.out⟩
   have HN:∀b∈J2 q,b≠g0:=fun b hb=>by have h1:=(hm.lt b hb).1;have h2:=AA0.out;have h3:=Hy0.out;omega
   obtain⟨Z,hz,hc⟩:=Ad3 y3 (g:=g0) [.int .i64 q.id,.int .i64 q.rd,.int .i64 q.s0,.int .i64 q.s1,.int .i64 q.e0,.int .i64 q.e1,.bool q.op,.slice q.la q.legs.length q.lc,.slice q.pa q.pauses.length q.pc,.int .i64 q.fw,.int .i64 q.fp,.int .i64 q.wh,.int .i64 q.pl] (fun j (hj:j<13)=>by rw[HZ.out.c j _ (A3 hj)];rfl) ⟨y3,rfl⟩ Hg0.out;have h1:=mF g0 [.int .i64 q.id,.int .i64 q.rd,.int .i64 q.s0,.int .i64 q.s1,.int .i64 q.e0,.int .i64 q.e1,.bool q.op,.slice q.la q.legs.length q.lc,.slice q.pa q.pauses.length q.pc,.int .i64 q.fw,.int .i64 q.fp,.int .i64 q.wh,.int .i64 q.pl] 0 _ HM.l (fun b hb=>HN b (List.mem_append_left _ (N3.2 hb)));have h2:=mF g0 [.int .i64 q.id,.int .i64 q.rd,.int .i64 q.s0,.int .i64 q.s1,.int .i64 q.e0,.int .i64 q.e1,.bool q.op,.slice q.la q.legs.length q.lc,.slice q.pa q.pauses.length q.pc,.int .i64 q.fw,.int .i64 q.fp,.int .i64 q.wh,.int .i64 q.pl] 0 _ HM.p (fun b hb=>HN b (List.mem_append_right _ (N3.2 hb)));rw[hz]at h1 h2;simp only[World.setCells,Nat.reduceAdd]at hz;rw[hz];have hc0:=hc 0 _ rfl;have hc1:=hc 1 _ rfl;have hc2:=hc 2 _ rfl;have hc3:=hc 3 _ rfl;have hc4:=hc 4 _ rfl;have hc5:=hc 5 _ rfl;have hc6:=hc 6 _ rfl;have hc7:=hc 7 _ rfl;have hc8:=hc 8 _ rfl;have hc9:=hc 9 _ rfl;have zC:=hc 10 _ rfl;have zD:=hc 11 _ rfl;have hc12:=hc 12 _ rfl;exact bodyPost_ret (v:=.tuple #[.agg #[.int .i64 q.id,.int .i64 q.rd,.int .i64 q.s0,.int .i64 q.s1,.int .i64 q.e0,.int .i64 q.e1,.bool q.op,.slice q.la q.legs.length q.lc,.slice q.pa q.pauses.length q.pc,.int .i64 q.fw,.int .i64 q.fp,.int .i64 q.wh,.int .i64 q.pl],.bool true]) (by simp[results,Tryz.results20,go_sem,hc0,hc1,hc2,hc3,hc4,hc5,hc6,hc7,hc8,hc9,zC,zD,hc12]) rfl (HP.out q Z hq1 ⟨h1,h2⟩)
  ·have hne:¬e.id=id:=Hn.out k e (by omega) He.out
   go_wp2_with fail;go_roundw
   case rel=>exact⟨k+1,y2,by omega,by go_num,rfl,HZ.out⟩
   case measure=>simp[intOf];omega
end
section
open Go.RowKit
def sK (w:World) (l:List A8) (hor:Int) (o:Ending) (w':World):Prop:=
 ∃(v:Value) (R:List A8) (y:A6 w),o= .returned v∧w'=y.w∧y.w.ownsRow w.heap.size 40 13 v R.length (B6 A8.cs R)∧(∀r∈R,L4 y.w w.heap.size r)∧R.map A8.br=(l.filter (i7 hor)).map A8.br
theorem L4.to {w W:World} {B:Nat} {r:A8} (h:L4 w B r) (hW:∃z:A6 w,W=z.w):L4 W B r:=⟨I6 h.l hW,I6 h.p hW⟩
theorem Bu9 {w w':World} {B b:Nat} {v:Value} {n:Nat} {xs:List Value} {r:A8} (h:L4 w B r) (hg:w.grownBy w' v.ownBlock) (hown:w.ownsRow b 40 13 v n xs):L4 w' B r:=
 ⟨Ac2 h.l hg hown (by decide),Ac2 h.p hg hown (by decide)⟩
theorem Bv0 {l:List A8} {hor:Int} {k:Nat} {e:A8} (he:l[k]? =some e):(l.take (k+1)).filter (i7 hor)=(l.take k).filter (i7 hor) ++ (if i7 hor e then[e]else[]):=by
 obtain⟨hk,rfl⟩:=A4 he;rw[List.take_succ_eq_append_getElem hk,List.filter_append,List.filter_cons];split<;>rfl
theorem Aw4 (w:World) (x:A6 w) (a:Option Addr) (l:List A8) (c:Nat) (h:j3 w a l) (hl:l.length≤100000) (hb:∀r∈l,r.op=false→r.legs.length≤100000∧r.pauses.length≤100000) (hor:Int):
 Calls Tryz.prog 17 #[.slice a l.length c,.int .i64 hor] x.w (sK w l hor):=by
 have HP:=A2 (fun(v:Value) (R:List A8) (y:A6 w) (h1:y.w.ownsRow w.heap.size 40 13 v R.length (B6 A8.cs R)) (h2:∀r∈R,L4 y.w w.heap.size r) (h3:R.map A8.br=(l.filter (i7 hor)).map A8.br)=>show sK w l hor (.returned v) y.w from⟨v,R,y,rfl,rfl,h1,h2,h3⟩);generalize sK w l hor=PO at *;have HL:=A2 h;have Hb:=A2 hb;clear h hb;go_enter Tryz.func17,Tryz.ntmps17;go_wp2_with fail;go_loopw [5,10] (fun v t wr=>∃(k:Nat) (y:A6 w) (R:List A8),k≤l.length∧t= .int .i64 k∧wr=y.w∧R.length≤k∧y.w.ownsRow w.heap.size 40 13 v R.length (B6 A8.cs R)∧(∀r∈R,L4 y.w w.heap.size r)∧R.map A8.br=((l.take k).filter (i7 hor)).map A8.br) (fun _ t _ =>l.length-(intOf t).toNat)
 case atStart=>exact⟨0,x,[],by omega,rfl,rfl,Nat.le_refl _,⟨rfl,.inl ⟨rfl,rfl⟩⟩,fun r hr=>by simp at hr,by simp⟩
 case round=>
  obtain⟨k,y,R,hk,rfl,rfl,hRk,hown,hm,hbr⟩:=hrel;have F5:=A2 hown;have HM:=A2 hm;have HBr:=A2 hbr;clear hown hm hbr;by_cases hlt:k<l.length
  ·obtain⟨e,he⟩:∃e,l[k]? =some e:=⟨_,A3 hlt⟩
   obtain⟨b1,off1,rfl,h1'⟩:=D0.ride HL.out.c he;have ra0:=h1'.c0;have ra1:=h1'.c1;have ra2:=h1'.c2;have ra3:=h1'.c3;have ra4:=h1'.c4;have ra5:=h1'.c5;have ra6:=h1'.c6;have ra7:=h1'.c7;have ra8:=h1'.c8;have ra9:=h1'.c9;have ra10:=h1'.c10;have ra11:=h1'.c11;have ra12:=h1'.c12;have hk0:(0:Int)≤(k:Int):=by omega
   have hkl:(k:Int)<(l.length:Int):=by omega
   have HN:=A2 (Bv0 (hor:=hor) he);have Hat:=A2 (HL.out.r e (A0 he));have Bx5:=A2 (Hb.out e (A0 he));clear h1' he;go_upto_region 5 with fail;obtain⟨y2,e2,C5,hsz0,hlt0,HX0⟩:=L9 y [.int .i64 e.id,.int .i64 e.rd,.int .i64 e.s0,.int .i64 e.s1,.int .i64 e.e0,.int .i64 e.e1,.bool e.op,.slice e.la e.legs.length e.lc,.slice e.pa e.pauses.length e.pc,.int .i64 e.fw,.int .i64 e.fp,.int .i64 e.wh,.int .i64 e.pl] 40;rw[e2];obtain⟨hx0,hx1,hx2,hx3,hx4,hx5,hx6,hx7,hx8,hx9,dF,dG,dH,hxf⟩:=bU HX0;(replace Hat:=A2 ((Hat.out.since y).to C5);replace F5:=A2 (I6 F5.out C5);(have Hst:=A2 C5))
   clear e2 C5;generalize y.w.heap.size=g at *;obtain⟨E9,G1,J4,I9,M8,O9,S2,S9,T0,aH,aB,aC,aD,G8⟩:=P8 HX0;have I5:=A2 (And.intro hsz0 hlt0);clear hlt0 hsz0 HX0;have HM2:=A2 (show∀r∈R,L4 y2.w w.heap.size r from fun r hr=>(HM.out r hr).to Hst.out);clear E9 G1 J4 I9 M8 O9 S2 S9 T0 aH aB aC aD G8 ra0 ra1 ra2 ra3 ra4 ra5 ra6 ra7 ra8 ra9 ra10 ra11 ra12 HM Hst;by_cases hsel:e.op=false∧e.e0<hor
   ·have tG:=hsel.1
    have hlt2:=hsel.2;have Hbe:=A2 (Bx5.out tG);have HN2:=A2 (show(l.take (k+1)).filter (i7 hor)=(l.take k).filter (i7 hor) ++ [e]from by rw[HN.out,if_pos (by simp[i7,hsel])]);have HC:=A2 (show Calls Tryz.prog 45 #[.agg #[.int .i64 e.id,.int .i64 e.rd,.int .i64 e.s0,.int .i64 e.s1,.int .i64 e.e0,.int .i64 e.e1,.bool false,.slice e.la e.legs.length e.lc,.slice e.pa e.pauses.length e.pc,.int .i64 e.fw,.int .i64 e.fp,.int .i64 e.wh,.int .i64 e.pl]] y2.w (oB y2.w e)from by have h:=Aw3 y2.w (A6.self _) e Hat.out Hbe.out.1 Hbe.out.2;rw[tG]at h;exact h);have Hyb:=A2 y2.b.size;rw[tG]at hx6;clear hsel tG;go_wp2_with(first
     |(go_at_call 45;(with_reducible refine HC.out.mono ?_);rintro _ _ ⟨q,z,rfl,rfl,hq1,hq2⟩;(have HO3:=A2 (I6 F5.out ⟨z,rfl⟩));(have HM3:=A2 (fun r hr=>(HM2.out r hr).to ⟨z,rfl⟩));obtain⟨y3,e3⟩:=y2.trans z;rw[e3]at hq2 HO3 HM3⊢;(have HQ:=A2 hq1);(have HQ2:=A2 hq2);clear hq1 hq2 e3)
     |(at_builtin;(refine cP (w0:=w) (k:=13) ?hw rfl _ _ 31 rfl w.heap.size (Nat.le_refl _) ?hb 40 rI 136 wZ u5 R.length (B6 A8.cs R) rfl ?hown ⟨y3.w.heap.size,0,none⟩ 1 1 [.int .i64 q.id,.int .i64 q.rd,.int .i64 q.s0,.int .i64 q.s1,.int .i64 q.e0,.int .i64 q.e1,.bool q.op,.slice q.la q.legs.length q.lc,.slice q.pa q.pauses.length q.pc,.int .i64 q.fw,.int .i64 q.fp,.int .i64 q.wh,.int .i64 q.pl] rfl rfl ?hc (nN q) ?h63 ?hbytes ?_;rotate_right 1;intro v2 q2 hown4 _ hg4)))
    case hw=>exact y3.alloc _
    case hb=>have:=y3.b.size;simp;omega
    case hown=>exact I6 HO3.out (A7.alloc (A7.self _) _)
    case hc=>exact tZ q.cs _ rfl
    case h63=>unfold maxLen;omega
    case hbytes=>omega
    have HR:=A2 (show q2.w.ownsRow w.heap.size 40 13 v2 (R ++ [q]).length (B6 A8.cs (R ++ [q]))from by rw[List.length_append,X7,X8];exact hown4);have hO:=I6 HO3.out (A7.alloc (A7.self y3.w) (.cells #[.int .i64 q.id,.int .i64 q.rd,.int .i64 q.s0,.int .i64 q.s1,.int .i64 q.e0,.int .i64 q.e1,.bool q.op,.slice q.la q.legs.length q.lc,.slice q.pa q.pauses.length q.pc,.int .i64 q.fw,.int .i64 q.fp,.int .i64 q.wh,.int .i64 q.pl] 40));have HMq:=A2 (show∀r∈R ++ [q],L4 q2.w w.heap.size r from fun r hr=>by
     refine Bu9 (L4.to ?_ (A7.alloc (A7.self y3.w) (.cells #[.int .i64 q.id,.int .i64 q.rd,.int .i64 q.s0,.int .i64 q.s1,.int .i64 q.e0,.int .i64 q.e1,.bool q.op,.slice q.la q.legs.length q.lc,.slice q.pa q.pauses.length q.pc,.int .i64 q.fw,.int .i64 q.fp,.int .i64 q.wh,.int .i64 q.pl] 40))) hg4 hO;rcases List.mem_append.1 hr with hr|hr
     ·exact HM3.out r hr
     ·rw[List.mem_singleton]at hr;subst hr
      exact⟨lK HQ2.out.l Hyb.out,lK HQ2.out.p Hyb.out⟩)
    have HB2:=A2 (show(R ++ [q]).map A8.br=((l.take (k+1)).filter (i7 hor)).map A8.br from by rw[HN2.out,List.map_append,List.map_append,HBr.out,List.map_singleton,List.map_singleton,HQ.out]);clear hown4 hg4 hO;go_wp2_with fail;go_roundw
    case rel=>exact⟨k+1,q2,R ++ [q],by omega,by go_num,rfl,by simp;omega,HR.out,HMq.out,HB2.out⟩
    case measure=>simp[intOf];omega
   ·have HB2:=A2 (show R.map A8.br=((l.take (k+1)).filter (i7 hor)).map A8.br from by rw[HN.out,if_neg (by simp[i7];intro h;simp[h]at hsel;omega),List.append_nil,HBr.out])
    cases hop:e.op with
    |true=>
     rw[hop]at hx6
     clear hsel hop
     go_wp2_with fail
     go_roundw
     case rel=>exact⟨k+1,y2,R,by omega,by go_num,rfl,by omega,F5.out,HM2.out,HB2.out⟩
     case measure=>simp[intOf];omega
    |false=>
     have hge:¬e.e0<hor:=fun h=>hsel ⟨hop,h⟩
     rw[hop]at hx6
     clear hsel hop
     go_wp2_with fail
     go_roundw
     case rel=>exact⟨k+1,y2,R,by omega,by go_num,rfl,by omega,F5.out,HM2.out,HB2.out⟩
     case measure=>simp[intOf];omega
  ·obtain rfl:k=l.length:=by omega
   have HF:=A2 (HP.out _ R y F5.out HM.out (by rw[HBr.out,List.take_length]));go_wp2_with fail;exact HF.out
end
section
open Go.RowKit
theorem sL (n:Nat) (a b:Int) (w:World):(Op.equalIn (n+2) 36 (.agg #[.int .i64 a,.int .i64 b]) (.agg #[.int .i64 a,.int .i64 b])).run Tryz.prog w= .ok true w:=by
 have hS:Tryz.prog.underlying 36=some (.struct (Tryz.prog.fieldsOf 36)):=by kernel_rfl
 have hp:Tryz.prog.stoodInHeld 36=false:=by kernel_rfl
 have u3:=Tryz.underlying3;have a3:=Tryz.isAgg3;have z3:=Tryz.sizeOf3;rw[run_equalIn_struct w (n+1) 36 _ _ hS hp];simp only[Program.fieldsOf,Tryz.underlying36];go_simp
theorem Bv1 (x:F0) (w:World):(Op.equalIn 10000 152 (.agg #[.int .i64 x.b,.int .i64 x.f0,.int .i64 x.f1,.int .i64 x.t0,.int .i64 x.t1]) (.agg #[.int .i64 x.b,.int .i64 x.f0,.int .i64 x.f1,.int .i64 x.t0,.int .i64 x.t1])).run Tryz.prog w= .ok true w:=by
 have hS:Tryz.prog.underlying 152=some (.struct (Tryz.prog.fieldsOf 152)):=by kernel_rfl
 have hp:Tryz.prog.stoodInHeld 152=false:=by kernel_rfl
 have u3:=Tryz.underlying3;have a3:=Tryz.isAgg3;have z3:=Tryz.sizeOf3;have u4:=Tryz.underlying36;have a4:=Tryz.isAgg36;have z4:=Tryz.sizeOf36;have e1:=sL 9997 x.f0 x.f1;have e2:=sL 9997 x.t0 x.t1;rw[show(10000:Nat)=9999+1 from rfl,run_equalIn_struct w 9999 152 _ _ hS hp];simp only[Program.fieldsOf,Tryz.underlying152];go_simp
theorem Bv2 (x:F4) (w:World):(Op.equalIn 10000 44 (.agg #[.int .i64 x.f0,.int .i64 x.f1,.int .i64 x.t0,.int .i64 x.t1]) (.agg #[.int .i64 x.f0,.int .i64 x.f1,.int .i64 x.t0,.int .i64 x.t1])).run Tryz.prog w= .ok true w:=by
 have hS:Tryz.prog.underlying 44=some (.struct (Tryz.prog.fieldsOf 44)):=by kernel_rfl
 have hp:Tryz.prog.stoodInHeld 44=false:=by kernel_rfl
 have u4:=Tryz.underlying36;have a4:=Tryz.isAgg36;have z4:=Tryz.sizeOf36;have e1:=sL 9997 x.f0 x.f1;have e2:=sL 9997 x.t0 x.t1;rw[show(10000:Nat)=9999+1 from rfl,run_equalIn_struct w 9999 44 _ _ hS hp];simp only[Program.fieldsOf,Tryz.underlying44];go_simp
theorem Bv3 (op:BinOp) (a b:Operand) (xs ys:Array Value) (w:World):(eqGuard op 152 a b (.agg xs) (.agg ys)).run Tryz.prog w= .ok () w:=run_eqGuard_agg w op 152 a b xs ys (by kernel_rfl)
theorem Bv4 (op:BinOp) (a b:Operand) (xs ys:Array Value) (w:World):(eqGuard op 44 a b (.agg xs) (.agg ys)).run Tryz.prog w= .ok () w:=run_eqGuard_agg w op 44 a b xs ys (by kernel_rfl)
theorem Bv5 (w:World) (x:A6 w) (r:A8) (la:Option Addr) (lc:Nat) (pa:Option Addr) (pc:Nat) (h:r.At w) (hl:D0 F0.cs 5 w la r.legs) (hp:D0 F4.cs 4 w pa r.pauses):
 Calls Tryz.prog 21 #[.agg #[.int .i64 r.id,.int .i64 r.rd,.int .i64 r.s0,.int .i64 r.s1,.int .i64 r.e0,.int .i64 r.e1,.bool r.op,.slice r.la r.legs.length r.lc,.slice r.pa r.pauses.length r.pc,.int .i64 r.fw,.int .i64 r.fp,.int .i64 r.wh,.int .i64 r.pl],.agg #[.int .i64 r.id,.int .i64 r.rd,.int .i64 r.s0,.int .i64 r.s1,.int .i64 r.e0,.int .i64 r.e1,.bool r.op,.slice la r.legs.length lc,.slice pa r.pauses.length pc,.int .i64 r.fw,.int .i64 r.fp,.int .i64 r.wh,.int .i64 r.pl]] x.w fun o w'=>o= .returned (.bool true)∧∃y:A6 w,w'=y.w:=by
 have HL:=A2 h.l;have HP:=A2 h.p;have HL2:=A2 hl;have HP2:=A2 hp;have hlm:=h.lm;have hpm:=h.pm;clear h hl hp;generalize r.la=la1 at *;generalize r.pa=pa1 at *;go_enter Tryz.func21,Tryz.ntmps21;go_upto_region 1 with fail;obtain⟨W,bx,y0,hW,hbx,-,B8,Hup,Hbx,HB0,HB1⟩:=W5 x [.int .i64 r.id,.int .i64 r.rd,.int .i64 r.s0,.int .i64 r.s1,.int .i64 r.e0,.int .i64 r.e1,.bool r.op,.slice la1 r.legs.length r.lc,.slice pa1 r.pauses.length r.pc,.int .i64 r.fw,.int .i64 r.fp,.int .i64 r.wh,.int .i64 r.pl] 40 [.int .i64 r.id,.int .i64 r.rd,.int .i64 r.s0,.int .i64 r.s1,.int .i64 r.e0,.int .i64 r.e1,.bool r.op,.slice la r.legs.length lc,.slice pa r.pauses.length pc,.int .i64 r.fw,.int .i64 r.fp,.int .i64 r.wh,.int .i64 r.pl] 40;rw[hW,hbx];clear hW hbx;obtain⟨D7,D9,E3,E5,F3,I0,K9,O5,O6,X5,X3,X4,i9,hf0⟩:=P8 HB0;obtain⟨P3,Q8,V5,W0,X6,Z0,W2,Z7,Z8,eY,eV,eW,eX,hf1⟩:=P8 HB1;clear HB0 HB1;replace HL:=A2 (HL.out.to B8);replace HP:=A2 (HP.out.to B8);replace HL2:=A2 (HL2.out.to B8);replace HP2:=A2 (HP2.out.to B8);clear B8 hf0 hf1 Hbx;have q1:=pJ r.s0 r.s1 r.s0 r.s1;have q2:=pJ r.e0 r.e1 r.e0 r.e1;have hgd:=uD;have hgl:=Bv3;have hgp:=Bv4;simp only[decide_true,Bool.and_self]at q1 q2;go_wp2_with fail;go_loopw [5] (fun i wr=>∃(k:Nat) (y:A6 W),k≤r.legs.length∧i= .int .i64 (k:Int)∧wr=y.w) (fun i _ =>r.legs.length-(intOf i).toNat)
 case atStart=>exact⟨0,y0,by omega,rfl,rfl⟩
 case round=>
  obtain⟨k,y,hk,rfl,rfl⟩:=hrel;by_cases hlt:k<r.legs.length
  ·have hk0:(0:Int)≤(k:Int):=by omega
   have hkl:(k:Int)<(r.legs.length:Int):=by omega
   obtain⟨e,he⟩:∃e,r.legs[k]? =some e:=⟨_,A3 hlt⟩
   obtain⟨b1,off1,hx1,h1'⟩:=D0.leg HL.out he;obtain⟨b2,off2,hx2,h2'⟩:=D0.leg HL2.out he;have ra0:=h1'.c0;have ra1:=h1'.c1;have ra2:=h1'.c2;have ra3:=h1'.c3;have ra4:=h1'.c4;have rb0:=h2'.c0;have rb1:=h2'.c1;have rb2:=h2'.c2;have rb3:=h2'.c3;have rb4:=h2'.c4;have hq:=Bv1 e;subst hx1 hx2;clear h1' h2' he;go_wp2_with fail;refine K6 (by kernel_rfl) (by kernel_rfl) ?_;repeat(go_big_quiet_step(fail))
   refine wpQuiet_nil ?_;rintro _ ⟨z,rfl⟩;go_wp2_with fail;go_roundw
   case rel=>exact⟨k+1,z,by omega,by go_num,rfl⟩
   case measure=>simp[intOf]<;>omega
  ·obtain rfl:k=r.legs.length:=by omega
   go_wp2_with fail;go_loopw [6] (fun i wr=>∃(k:Nat) (y:A6 W),k≤r.pauses.length∧i= .int .i64 (k:Int)∧wr=y.w) (fun i _ =>r.pauses.length-(intOf i).toNat)
   case atStart=>exact⟨0,y,by omega,rfl,rfl⟩
   case round=>
    obtain⟨k,y,hk,rfl,rfl⟩:=hrel;by_cases hlt:k<r.pauses.length
    ·have hk0:(0:Int)≤(k:Int):=by omega
     have hkl:(k:Int)<(r.pauses.length:Int):=by omega
     obtain⟨e,he⟩:∃e,r.pauses[k]? =some e:=⟨_,A3 hlt⟩
     obtain⟨b1,off1,hx1,h1'⟩:=D0.pse HP.out he;obtain⟨b2,off2,hx2,h2'⟩:=D0.pse HP2.out he;have ra0:=h1'.c0;have ra1:=h1'.c1;have ra2:=h1'.c2;have ra3:=h1'.c3;have rb0:=h2'.c0;have rb1:=h2'.c1;have rb2:=h2'.c2;have rb3:=h2'.c3;have hq:=Bv2 e;subst hx1 hx2;clear h1' h2' he;go_wp2_with fail;refine K6 (by kernel_rfl) (by kernel_rfl) ?_;repeat(go_big_quiet_step(fail))
     refine wpQuiet_nil ?_;rintro _ ⟨z,rfl⟩;go_wp2_with fail;go_roundw
     case rel=>exact⟨k+1,z,by omega,by go_num,rfl⟩
     case measure=>simp[intOf]<;>omega
    ·obtain rfl:k=r.pauses.length:=by omega
     go_wp2_with fail;go_ret;exact⟨rfl,Hup.out _⟩
theorem Bv6 (a b c d e f:Int) (w:World):(Op.equalIn 10000 217 (.agg #[.int .i64 a,.int .i64 b,.int .i64 c]) (.agg #[.int .i64 d,.int .i64 e,.int .i64 f])).run Tryz.prog w= .ok (decide (a=d∧b=e∧c=f)) w:=by
 have hS:Tryz.prog.underlying 217=some (.struct (Tryz.prog.fieldsOf 217)):=by kernel_rfl
 have hp:Tryz.prog.stoodInHeld 217=false:=by kernel_rfl
 have u3:=Tryz.underlying3;have a3:=Tryz.isAgg3;have z3:=Tryz.sizeOf3;rw[show(10000:Nat)=9999+1 from rfl,run_equalIn_struct w 9999 217 _ _ hS hp];simp only[Program.fieldsOf,Tryz.underlying217];go_simp;by_cases h1:a=d
 ·by_cases h2:b=e
  ·by_cases h3:c=f<;>simp[h1,h2,h3]
  ·simp[h1,h2]
 ·simp[h1]
theorem Bv7 (op:BinOp) (a b:Operand) (xs ys:Array Value) (w:World):(eqGuard op 217 a b (.agg xs) (.agg ys)).run Tryz.prog w= .ok () w:=run_eqGuard_agg w op 217 a b xs ys (by kernel_rfl)
noncomputable def oC (P:Prop):Bool:=@decide P (Classical.propDecidable P)
theorem Aw5 {P:Prop} {v:Bool} (h:v=true↔P):oC P=v:=by
 unfold oC
 cases v
 ·exact @decide_eq_false P (Classical.propDecidable P) fun hp=>by have:=h.2 hp;cases this
 ·exact @decide_eq_true P (Classical.propDecidable P) (h.1 rfl)
def sM (w:World) (P:Prop) (o:Ending) (w':World):Prop:=o= .returned (.bool (oC P))∧∃y:A6 w,w'=y.w
theorem Aw6 {w:World} {a:Option Addr} {L:List P7} (h:D0 P7.cs 3 w a L) {k:Nat} {e:P7} (he:L[k]? =some e):∃b off,a=some ⟨b,off,none⟩∧(∀y:A6 w,y.w.cell? ⟨b,off+k*3,none⟩=some (.int .i64 e.k))∧(∀y:A6 w,y.w.cell? ⟨b,off+k*3+1,none⟩=some (.int .i64 e.r))∧(∀y:A6 w,y.w.cell? ⟨b,off+k*3+2,none⟩=some (.int .i64 e.a)):=by
 obtain⟨b,off,ha,hb,hc⟩:=h k e he;exact⟨b,off,ha,A6.cell (hc 0 _ rfl) hb,A6.cell (hc 1 _ rfl) hb,A6.cell (hc 2 _ rfl) hb⟩
theorem Bv8 {x y:P7} (h:x.k=y.k∧x.r=y.r∧x.a=y.a):x=y:=by
 cases x;cases y;simp at h;simp[h]
theorem Bv9 {L M:List P7} (hn:L.length=M.length) (h:∀(j:Nat) (e f:P7),L[j]? =some e→M[j]? =some f→e=f):L=M:=by
 refine List.ext_getElem hn fun j h1 h2=>h j _ _ (A3 h1) (A3 h2)
theorem Bw0 (w:World) (x:A6 w) (id rd tt id' rd' tt':Int) (ia ia':Option Addr) (ic ic':Nat) (L M:List P7) (hL:D0 P7.cs 3 w ia L) (hM:D0 P7.cs 3 w ia' M) (hl:L.length≤9223372036854775807) (hm:M.length≤9223372036854775807):
 Calls Tryz.prog 64 #[.agg #[.int .i64 id,.int .i64 rd,.slice ia L.length ic,.int .i64 tt],.agg #[.int .i64 id',.int .i64 rd',.slice ia' M.length ic',.int .i64 tt']] x.w (sM w (id=id'∧rd=rd'∧tt=tt'∧L=M)):=by
 have HP:=A2 (fun(v:Bool) (u:World) (hy:∃y:A6 w,u=y.w) (h:v=true↔(id=id'∧rd=rd'∧tt=tt'∧L=M))=>show sM w (id=id'∧rd=rd'∧tt=tt'∧L=M) (.returned (.bool v)) u from⟨by rw[Aw5 h],hy⟩);generalize sM w (id=id'∧rd=rd'∧tt=tt'∧L=M)=PO at *;have HL:=A2 hL;have HM:=A2 hM;clear hL hM;go_enter Tryz.func64,Tryz.ntmps64;go_upto_region 1 with fail;obtain⟨W,bx,y0,hW,hbx,-,B8,Hup,Hbx,HB0,HB1⟩:=W5 x [.int .i64 id,.int .i64 rd,.slice ia L.length ic,.int .i64 tt] 76 [.int .i64 id',.int .i64 rd',.slice ia' M.length ic',.int .i64 tt'] 76;rw[hW,hbx];clear hW hbx;obtain⟨D7,D9,E3,E5,hf0⟩:=bF HB0;obtain⟨P3,Q8,V5,W0,hf1⟩:=bF HB1;clear HB0 HB1;replace HL:=A2 (HL.out.to B8);replace HM:=A2 (HM.out.to B8);clear B8 hf0 hf1 Hbx;have hno:=A2 (fun(h:¬(id=id'∧rd=rd'∧tt=tt'∧L=M)) (y:A6 W)=>HP.out false y.w (Hup.out y) (by simp[h]));by_cases h1:id=id'
 ·subst h1
  by_cases h2:rd=rd'
  ·subst h2
   by_cases h3:tt=tt'
   ·subst h3
    by_cases h4:L.length=M.length
    ·have h5:(L.length:Int)=(M.length:Int):=by omega
     have H4:=A2 h4;rw[h4]at E3;have hgd:=Bv7;clear h4 h5 hl;go_wp2_with fail;go_loopw [5] (fun i wr=>∃(k:Nat) (y:A6 W),k≤M.length∧i= .int .i64 (k:Int)∧wr=y.w∧∀j e f,j<k→L[j]? =some e→M[j]? =some f→e=f) (fun i _ =>M.length-(intOf i).toNat)
     case atStart=>exact⟨0,y0,by omega,rfl,rfl,fun j e f hj=>by omega⟩
     case round=>
      obtain⟨k,y,hk,rfl,rfl,hall⟩:=hrel;have iG:=A2 hall;clear hall;by_cases hlt:k<M.length
      ·have hk0:(0:Int)≤(k:Int):=by omega
       have hkl:(k:Int)<(M.length:Int):=by omega
       obtain⟨e,he⟩:∃e,L[k]? =some e:=⟨_,A3 (by rw[H4.out];exact hlt)⟩
       obtain⟨f,hf⟩:∃f,M[k]? =some f:=⟨_,A3 hlt⟩
       obtain⟨b1,off1,hx1,ra0,ra1,ra2⟩:=Aw6 HL.out he;obtain⟨b2,off2,hx2,rb0,rb1,rb2⟩:=Aw6 HM.out hf;have hq:=Bv6 e.k e.r e.a f.k f.r f.a;have He:=A2 he;have Hf:=A2 hf;subst hx1 hx2;clear he hf;by_cases hef:e.k=f.k∧e.r=f.r∧e.a=f.a
       ·have Hef:=A2 hef
        rw[decide_eq_true hef]at hq;clear hef;go_wp2_with fail;refine K6 (by kernel_rfl) (by kernel_rfl) ?_;repeat(go_big_quiet_step(fail))
        refine wpQuiet_nil ?_;rintro _ ⟨z,rfl⟩;go_wp2_with fail;go_roundw
        case rel=>
         refine⟨k+1,z,by omega,by go_num,rfl,fun j e' f' hj he' hf'=>?_⟩;by_cases hjk:j=k
         ·subst hjk
          rw[He.out]at he';rw[Hf.out]at hf';rw[←Option.some.inj he',←Option.some.inj hf'];exact Bv8 Hef.out
         ·exact iG.out j e' f' (by omega) he' hf'
        case measure=>simp[intOf]<;>omega
       ·have Hno:=A2 (hno.out (fun h=>by
         have h2:=h.2.2.2;rw[h2,Hf.out]at He;have:=Option.some.inj He.out;subst this;exact hef ⟨rfl,rfl,rfl⟩))
        rw[decide_eq_false hef]at hq;clear hef;go_wp2_with fail;refine K6 (by kernel_rfl) (by kernel_rfl) ?_;repeat(go_big_quiet_step(fail))
        refine wpQuiet_nil ?_;rintro _ ⟨z,rfl⟩;go_wp2_with fail;exact Hno.out z
      ·obtain rfl:k=M.length:=by omega
       have HY:=A2 (HP.out true y.w (Hup.out y) (by have hq:=Bv9 H4.out (fun j e f he hf=>iG.out j e f (A4 hf).1 he hf);simp[hq]));go_wp2_with fail;exact HY.out
    ·have h5:¬(L.length:Int)=(M.length:Int):=by omega
     have Hno:=A2 (hno.out (fun h=>h4 (by rw[h.2.2.2])));go_wp2_with fail;exact Hno.out y0
   ·have Hno:=A2 (hno.out (fun h=>h3 h.2.2.1))
    go_wp2_with fail;exact Hno.out y0
  ·have Hno:=A2 (hno.out (fun h=>h2 h.2.1))
   go_wp2_with fail;exact Hno.out y0
 ·have Hno:=A2 (hno.out (fun h=>h1 h.1))
  go_wp2_with fail;exact Hno.out y0
theorem Bw1 (w:World) (x:A6 w) (a:Option Addr) (c:Nat) (F:List I1) (hF:D0 I1.cs 4 w a F) (hl:F.length≤9223372036854775807) (hI:∀f∈F,D0 P7.cs 3 w f.ia f.it∧f.it.length≤9223372036854775807) (id rd tt:Int) (ga:Option Addr) (gc:Nat) (L:List P7) (hg:D0 P7.cs 3 w ga L) (hgl:L.length≤9223372036854775807) (i:Nat) (f:I1) (hi:F[i]? =some f) (hfg:f.id=id∧f.rd=rd∧f.tt=tt∧f.it=L):
 Calls Tryz.prog 22 #[.slice a F.length c,.agg #[.int .i64 id,.int .i64 rd,.slice ga L.length gc,.int .i64 tt]] x.w fun o w'=>o= .returned (.bool true)∧∃y:A6 w,w'=y.w:=by
 have HF:=A2 hF;have HI:=A2 hI;have HG:=A2 hg;have Hi:=A2 hi;have Hfg:=A2 hfg;have Hil:=A2 (A4 hi).1;clear hF hI hg hi hfg;go_enter Tryz.func22,Tryz.ntmps22;go_upto_region 1 with fail;obtain⟨W,bx,y0,hW,hbx,-,B8,Hup,Hbx,HB0⟩:=J8 x [.int .i64 id,.int .i64 rd,.slice ga L.length gc,.int .i64 tt] 76;rw[hW,hbx];clear hW hbx;obtain⟨D7,D9,E3,E5,hf0⟩:=bF HB0;clear HB0;replace HF:=A2 (HF.out.to B8);replace HI:=A2 (fun f hf=>And.intro ((HI.out f hf).1.to B8) (HI.out f hf).2);replace HG:=A2 (HG.out.to B8);clear B8 hf0 Hbx;go_wp2_with fail;go_loopw [5] (fun t wr=>∃(k:Nat) (y:A6 W),k≤i∧t= .int .i64 (k:Int)∧wr=y.w) (fun t _ =>F.length-(intOf t).toNat)
 case atStart=>exact⟨0,y0,by omega,rfl,rfl⟩
 case round=>
  obtain⟨k,y,hk,rfl,rfl⟩:=hrel;have hlt:k<F.length:=by have:=Hil.out;omega
  have hk0:(0:Int)≤(k:Int):=by omega
  have hkl:(k:Int)<(F.length:Int):=by omega
  obtain⟨e,he⟩:∃e,F[k]? =some e:=⟨_,A3 hlt⟩
  obtain⟨b1,off1,hx1,hb1,hc1⟩:=HF.out k e he;have ra0:∀y:A6 W,y.w.cell? ⟨b1,off1+k*4,none⟩=some (.int .i64 e.id):=A6.cell (hc1 0 _ rfl) hb1;have ra1:∀y:A6 W,y.w.cell? ⟨b1,off1+k*4+1,none⟩=some (.int .i64 e.rd):=A6.cell (hc1 1 _ rfl) hb1;have ra2:∀y:A6 W,y.w.cell? ⟨b1,off1+k*4+2,none⟩=some (.slice e.ia e.it.length e.ic):=A6.cell (hc1 2 _ rfl) hb1;have ra3:∀y:A6 W,y.w.cell? ⟨b1,off1+k*4+3,none⟩=some (.int .i64 e.tt):=A6.cell (hc1 3 _ rfl) hb1;have hie:=HI.out e (A0 he);have Az3:=A2 (fun y:A6 W=>Bw0 W y e.id e.rd e.tt id rd tt e.ia ga e.ic gc e.it L hie.1 HG.out hie.2 hgl);have He:=A2 he;have Hki:=A2 (fun(h:oC (e.id=id∧e.rd=rd∧e.tt=tt∧e.it=L)=false)=>show k+1≤i from by
   by_cases hki:k=i
   ·subst hki
    have:f=e:=Option.some.inj (Hi.out.symm.trans he);subst this;rw[Aw5 (v:=true) ⟨fun _ =>Hfg.out,fun _ =>rfl⟩]at h
    cases h
   ·omega)
  unfold sM at Az3;generalize oC (e.id=id∧e.rd=rd∧e.tt=tt∧e.it=L)=v at *;subst hx1;clear hc1 he hie;go_wp2_with fail;refine K6 (by kernel_rfl) (by kernel_rfl) ?_;repeat(go_big_quiet_step((go_at_call 64;exact Az3.out _)))
  refine wpQuiet_nil ?_;rintro _ ⟨z,rfl⟩
  cases v with
  |true=>
   go_wp2_with fail
   go_ret
   exact⟨rfl,Hup.out _⟩
  |false=>
   have hk2:=Hki.out rfl
   go_wp2_with fail
   go_roundw
   case rel=>exact⟨k+1,z,hk2,by go_num,rfl⟩
   case measure=>simp[intOf];omega
end
section
open Go.RowKit
theorem Bw2 {w:World} {a:Option Addr} {l:List Ev} (h:D0 Ev.cs 9 w a l) {k:Nat} {x:Ev} (hk:l[k]? =some x):∃b off,a=some ⟨b,off,none⟩∧(∀y:A6 w,y.w.cell? ⟨b,off+k*9,none⟩=some (.int .i64 x.d))∧(∀y:A6 w,y.w.cell? ⟨b,off+k*9+1,none⟩=some (.int .i64 x.q))∧(∀y:A6 w,y.w.cell? ⟨b,off+k*9+2,none⟩=some (.int .i64 x.a))∧(∀y:A6 w,y.w.cell? ⟨b,off+k*9+3,none⟩=some (.int .i64 x.t))∧(∀y:A6 w,y.w.cell? ⟨b,off+k*9+4,none⟩=some (.int .i64 x.k))∧(∀y:A6 w,y.w.cell? ⟨b,off+k*9+5,none⟩=some (.int .i64 x.b))∧(∀y:A6 w,y.w.cell? ⟨b,off+k*9+6,none⟩=some (.int .i64 x.p))∧(∀y:A6 w,y.w.cell? ⟨b,off+k*9+7,none⟩=some (.int .i64 x.r))∧(∀y:A6 w,y.w.cell? ⟨b,off+k*9+8,none⟩=some (.int .i64 x.i)):=by
 obtain⟨b,off,ha,hb,hc⟩:=h k x hk;exact⟨b,off,ha,A6.cell (hc 0 _ rfl) hb,A6.cell (hc 1 _ rfl) hb,A6.cell (hc 2 _ rfl) hb,A6.cell (hc 3 _ rfl) hb,A6.cell (hc 4 _ rfl) hb,A6.cell (hc 5 _ rfl) hb,A6.cell (hc 6 _ rfl) hb,A6.cell (hc 7 _ rfl) hb,A6.cell (hc 8 _ rfl) hb⟩
structure sN (w:World) (a:Option Addr) (F:List I1):Prop where
 c:D0 I1.cs 4 w a F
 i:∀f∈F,D0 P7.cs 3 w f.ia f.it∧f.it.length≤9223372036854775807
 n:F.length≤9223372036854775807
theorem sN.to {w W:World} {a:Option Addr} {F:List I1} (h:sN w a F) (hW:∃z:A6 w,W=z.w):sN W a F:=⟨h.c.to hW,fun f hf=>⟨(h.i f hf).1.to hW,(h.i f hf).2⟩,h.n⟩
def yD (w:World) (f:D5) (p:E4) (M:List A8) (o:Ending) (w':World):Prop:=
 ∃(a:Option Addr) (c:Nat) (F:List I1) (e:Int) (u:Nat→Int) (y:A6 w),o= .returned (.tuple #[.slice a F.length c,.int .i64 e])∧w'=y.w∧sN y.w a F∧(e=0→S5 p.ps (M5 M) u∧(F.map I1.far).Perm (cI p (M5 M) u))
theorem Aw7 {w:World} {f:D5} {p:E4} {M:List A8} {o:Ending} {w':World} (h:jM w f p M o w'):yD w f p M o w':=by
 obtain⟨v,e,y,u,rfl,rfl,he,hu,⟨h1,rfl⟩|⟨h1,F,hF⟩⟩:=h
 ·exact⟨none,0,[],e,u,y,rfl,rfl,⟨xU,fun f hf=>by simp at hf,by simp⟩,fun h=>absurd h h1⟩
 ·obtain⟨_,a,c,rfl,_,h5,_,_⟩:=P2 I1.len (by decide) hF.r
  refine⟨a,c,F,e,u,y,rfl,rfl,⟨h5,fun x hx=>?_,fR hF.r⟩,fun h=>?_⟩
  ·obtain⟨_,a',c',e',_,h6,_,_⟩:=P2 P7.len (by decide) (hF.i x hx)
   unfold I1.iv at e';simp only[Value.slice.injEq]at e';exact⟨by rw[e'.1];exact h6,fR (hF.i x hx)⟩
  ·rw[h1]at he
   unfold jI at he;split at he
   ·omega
   ·rename_i h2
    split at he
    ·omega
    ·rename_i h3
     exact⟨hu (by omega) (by omega),hF.f⟩
def yE (w:World) (R:List A8) (h:Int) (o:Ending) (w':World):Prop:=
 ∃(a:Option Addr) (c:Nat) (M:List A8) (y:A6 w),o= .returned (.slice a M.length c)∧w'=y.w∧j3 y.w a M∧M.length≤R.length∧M.map A8.br=(R.filter (i7 h)).map A8.br
theorem Aw8 {w:World} {R:List A8} {h:Int} {o:Ending} {w':World} (H:sK w R h o w'):yE w R h o w':=by
 obtain⟨v,M,y,rfl,rfl,h1,h2,h3⟩:=H;obtain⟨_,a,c,rfl,_,h5,_,_⟩:=P2 A8.len (by decide) h1;refine⟨a,c,M,y,rfl,rfl,⟨h5,fun r hr=>(h2 r hr).at (fR (h2 r hr).l) (fR (h2 r hr).p)⟩,?_,h3⟩;have:=congrArg List.length h3;rw[List.length_map,List.length_map]at this;rw[this];exact List.length_filter_le _ _
theorem Aw9 {f:D5} {l:List Ev} {R:List A8} (h:R.map A8.br=V3 (P1 f (G9 l))) (hl:l.length≤40):∀r∈R,r.op=false→r.legs.length≤100000∧r.pauses.length≤100000:=fun r hr ho=>Av8 (Bs1 h hl hr ho)
theorem sO {f:D5} {l:List Ev} {R:List A8} (h:R.map A8.br=V3 (P1 f (G9 l))) (hl:l.length≤40):R.length≤40:=by
 have h1:=congrArg List.length h;rw[List.length_map,(eI _).length_eq]at h1;have h2:=Ak6 f (G9 l);have h3:=gV l;omega
theorem Ax0 {f:D5} {L:List Ev} {h:Int} {M:List A8} (H:dC f L h M):∀r∈M,T4 r.pl:=fun r hr=>by
 have:=Bu4 r.br ((H.mem r.br).1 (List.mem_map_of_mem hr)).1;have h2:r.br.pl=r.pl:=rfl;rw[h2]at this;exact⟨by omega,by omega⟩
theorem Ax1 {r s:A8} (h:s.br=r.br):s.id=r.id∧s.rd=r.rd∧s.s0=r.s0∧s.s1=r.s1∧s.e0=r.e0∧s.e1=r.e1∧s.op=r.op∧s.legs=r.legs∧s.pauses=r.pauses∧s.fw=r.fw∧s.fp=r.fp∧s.wh=r.wh∧s.pl=r.pl:=by
 have f:∀{α:Type} (g:A8→α),g s.br=g r.br:=fun g=>congrArg g h;exact⟨f (·.id),f (·.rd),f (·.s0),f (·.s1),f (·.e0),f (·.e1),f (·.op),f (·.legs),f (·.pauses),f (·.fw),f (·.fp),f (·.wh),f (·.pl)⟩
theorem Bw3 (w:World) (x:A6 w) (r q:A8) (hr:r.At w) (hq:q.At w) (h:q.br=r.br):Calls Tryz.prog 21 #[.agg #[.int .i64 r.id,.int .i64 r.rd,.int .i64 r.s0,.int .i64 r.s1,.int .i64 r.e0,.int .i64 r.e1,.bool r.op,.slice r.la r.legs.length r.lc,.slice r.pa r.pauses.length r.pc,.int .i64 r.fw,.int .i64 r.fp,.int .i64 r.wh,.int .i64 r.pl],.agg #[.int .i64 q.id,.int .i64 q.rd,.int .i64 q.s0,.int .i64 q.s1,.int .i64 q.e0,.int .i64 q.e1,.bool q.op,.slice q.la q.legs.length q.lc,.slice q.pa q.pauses.length q.pc,.int .i64 q.fw,.int .i64 q.fp,.int .i64 q.wh,.int .i64 q.pl]] x.w fun o w'=>o= .returned (.bool true)∧∃y:A6 w,w'=y.w:=by
 obtain⟨h0,h1,h2,h3,h4,h5,h6,h7,h8,h9,h10,h11,h12⟩:=Ax1 h;rw[h0,h1,h2,h3,h4,h5,h6,h7,h8,h9,h10,h11,h12];exact Bv5 w x r q.la q.lc q.pa q.pc hr (h7 ▸ hq.l) (h8 ▸ hq.p)
structure i8 (N:Int) (l:List Ev) (k j:Nat) (La Lb:List Ev):Prop where
 i:W9 N Lb
 n:Lb.length≤j
 s:∃nw,Lb=La ++ nw
 e:j≤k→La=Lb
 m:∀e∈Lb,e∈l
theorem Bw4 (N:Int) (l:List Ev) (k:Nat):i8 N l k 0 [] []:=⟨AP6 N,Nat.le_refl _,⟨[],rfl⟩,fun _ =>rfl,fun e h=>by simp at h⟩
theorem Ax2 (N:Int) (l:List Ev) (e:Ev):(aS N l e).length≤l.length+1:=by
 unfold aS;split
 ·simp
 ·omega
theorem Ax3 {N:Int} {l:List Ev} {e x:Ev} (h:x∈aS N l e):x∈l∨x=e:=by
 unfold aS at h;split at h
 ·simpa using h
 ·exact .inl h
section
variable {N:Int} {l:List Ev} {k j:Nat} {La Lb:List Ev} {e:Ev} (H:i8 N l k j La Lb) (he:e∈l)
include H he
omit he in
theorem i8.none (h:i4 N Lb e≠0):i8 N l k (j+1) La (aS N Lb e):=by
 rw[vH (kO h)];exact⟨H.i,by have:=H.n;omega,H.s,fun hj=>H.e (by omega),H.m⟩
theorem i8.late (h:¬j<k):i8 N l k (j+1) La (aS N Lb e):=by
 refine⟨Ah1 H.i e,by have:=H.n;have:=Ax2 N Lb e;omega,?_,fun hj=>by omega,fun x hx=>?_⟩
 ·obtain⟨nw,hn⟩:=H.s
  unfold aS;split
  ·exact⟨nw ++ [e],by rw[hn,List.append_assoc]⟩
  ·exact⟨nw,hn⟩
 ·rcases Ax3 hx with hx|rfl
  ·exact H.m x hx
  ·exact he
theorem i8.both (h:j<k):i8 N l k (j+1) (aS N La e) (aS N Lb e):=by
 rw[H.e (by omega)];refine⟨Ah1 H.i e,by have:=H.n;have:=Ax2 N Lb e;omega,⟨[],by simp⟩,fun _ =>rfl,fun x hx=>?_⟩;rcases Ax3 hx with hx|rfl
 ·exact H.m x hx
 ·exact he
end
theorem i8.sub {N:Int} {l:List Ev} {k j:Nat} {La Lb:List Ev} (H:i8 N l k j La Lb):qF Lb La:=by
 obtain⟨nw,h⟩:=H.s;have hn:=H.i.nodup;rw[h]at hn;exact⟨fun x hx=>by rw[h];exact List.mem_append_left _ hx,(List.nodup_append.1 hn).1⟩
theorem i8.ia {N:Int} {l:List Ev} {k j:Nat} {La Lb:List Ev} (H:i8 N l k j La Lb):W9 N La:=vK H.i H.sub
theorem i8.fin {f:D5} {N:Nat} {l:List Ev} {k j:Nat} {La Lb:List Ev} (H:i8 N l k j La Lb):nY (P1 f (G9 (J3 La))) (P1 f (G9 (J3 Lb))) (hor N La)∧hor N La≤hor N Lb:=by
 obtain⟨nw,h⟩:=H.s;have hi:=H.i;rw[h]at hi⊢;exact Bs7 rfl hi
theorem i8.lens {N:Int} {l:List Ev} {k j:Nat} {La Lb:List Ev} (H:i8 N l k j La Lb) (hj:j≤40):(J3 La).length≤40∧(J3 Lb).length≤40:=by
 obtain⟨nw,h⟩:=H.s;have h1:=H.n;have h2:=congrArg List.length h;rw[List.length_append]at h2;rw[fI,fI];omega
theorem i8.pls {N:Int} {l:List Ev} {k j:Nat} {La Lb:List Ev} (H:i8 N l k j La Lb) (hI:∀e∈l,T4 e.p):(∀e∈J3 La,T4 e.p)∧(∀e∈J3 Lb,T4 e.p):=
 ⟨fun e he=>hI e (H.m e (H.sub.sub e ((mU _ e).1 he))),fun e he=>hI e (H.m e ((mU _ e).1 he))⟩
def yF (w:World) (f:D5) (fe:Int) (L:List Ev) (o:Ending) (w':World):Prop:=
 ∃(a:Option Addr) (c:Nat) (R:List A8) (y:A6 w),o= .returned (.tuple #[.slice a R.length c,.int .i64 fe])∧w'=y.w∧j3 y.w a R∧(fe=0→R.map A8.br=V3 (P1 f L))
theorem Ax4 {w:World} {f:D5} {fe:Int} (hfe:H9 f=fe) {L:List Ev} {o:Ending} {w':World} (h:jF w f L o w'):yF w f fe L o w':=by
 obtain⟨a,c,R,y,h1,h2,_,h4,_,h6⟩:=Bs0 h;rw[hfe]at h1 h6;exact⟨a,c,R,y,h1,h2,h4,h6⟩
end
end Go.Proofs.YtmmlmhnjjfnpnaaGreat
