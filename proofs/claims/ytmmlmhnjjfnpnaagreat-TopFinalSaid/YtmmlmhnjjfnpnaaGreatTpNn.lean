/- Texts that belong together. -/
import Derived.Test.YtmmlmhnjjfnpnaaGreatTpNc
import Derived.Test.YtmmlmhnjjfnpnaaGreatTpNj
import Derived.Test.YtmmlmhnjjfnpnaaGreatTpNm
import Derived.IntWalk
set_option linter.all false
namespace Go.Proofs.YtmmlmhnjjfnpnaaGreat
set_option maxRecDepth 200000
set_option maxHeartbeats 64000000
section
open Go.RowKit
def vU (w:World) (S:B3) (E:Int) (o:Ending) (w':World):Prop:=o= .returned (.tuple #[.agg #[.int .i64 S.f,.int .i64 S.t],.int .i64 E])∧∃y:A6 w,w'=y.w
theorem AS8 {w w':World} {S:B3} {E:Int} {f t e:Int} (y:A6 w) (hS:S=⟨f,t⟩) (hE:E=e) (hw:w'=y.w):vU w S E (.returned (.tuple #[.agg #[.int .i64 f,.int .i64 t],.int .i64 e])) w':=by
 subst hS;subst hE;exact⟨rfl,y,hw⟩
theorem Aj2 (w:World) (x:A6 w) (r:A8) (h:r.At w):
 Calls Tryz.prog 128 #[.agg #[.int .i64 r.id,.int .i64 r.rd,.int .i64 r.s0,.int .i64 r.s1,.int .i64 r.e0,.int .i64 r.e1,.bool r.op,.slice r.la r.legs.length r.lc,.slice r.pa r.pauses.length r.pc,.int .i64 r.fw,.int .i64 r.fp,.int .i64 r.wh,.int .i64 r.pl]] x.w (vU w (X0 r) (G4 r)):=by
 have H:=A2 h;clear h;have hsw:X0 r=if G4 r=0 then⟨r.s1,max r.s1 r.e0⟩else⟨0,0⟩:=rfl;have hiv:G4 r=if I7 r=0 then(if r.op then 26 else 0)else I7 r:=rfl;have Hsw:=A2 hsw;have Hiv:=A2 hiv;clear hsw hiv;generalize X0 r=S at *;generalize G4 r=E at *;have Hc:=A2 (fun(w:World) (x:A6 w) (h:r.At w)=>uE w x r h);generalize hre:I7 r=e at *;clear hre;have aZ:=A2 (fun(w':World) (f t e:Int) (y:A6 w) (hS:S=⟨f,t⟩) (hE:E=e) (hw:w'=y.w)=>AS8 y hS hE hw);generalize vU w S E=PO at *;generalize r.op=op at *;go_enter Tryz.func128,Tryz.ntmps128;go_upto_region 1 with fail;obtain⟨W,bx,y0,hW,hbx,-,B8,Hup,Hbx,HB0,HB1⟩:=W5 x [.int .i64 r.id,.int .i64 r.rd,.int .i64 r.s0,.int .i64 r.s1,.int .i64 r.e0,.int .i64 r.e1,.bool op,.slice r.la r.legs.length r.lc,.slice r.pa r.pauses.length r.pc,.int .i64 r.fw,.int .i64 r.fp,.int .i64 r.wh,.int .i64 r.pl] 40 [.int .i64 0,.int .i64 0] 156;rw[hW,hbx];clear hW hbx;obtain⟨D7,D9,E3,E5,F3,I0,K9,O5,O6,X5,X3,X4,i9,hf0⟩:=P8 HB0;obtain⟨P3,Q8,hf1⟩:=o8 HB1;clear HB0 HB1;replace H:=A2 (H.out.to B8);clear B8;by_cases he:e=0
 ·subst he
  cases op with
  |false=>
   have HE:=A2 (show E=0 from Hiv.out)
   have HS:=A2 (show S=⟨r.s1,max r.s1 r.e0⟩ by rw[Hsw.out,HE.out,if_pos rfl])
   go_wp2_with(go_at_call 9;((with_reducible refine(Hc.out W y0 H.out).mono ?_);rintro _ _ ⟨rfl,y1,rfl⟩))
   obtain⟨z,hz,h0,h1⟩:=uA y1 (P3 y1) (Q8 y1) (Hup.out y1) (by have:=Hbx.out;omega) (.int .i64 r.s1) (.int .i64 (max r.s1 r.e0))
   rw[hz]
   exact bodyPost_ret (v:=.tuple #[.agg #[.int .i64 r.s1,.int .i64 (max r.s1 r.e0)],.int .i64 0]) (by simp[results,Tryz.results128,go_sem,h0,h1]) rfl (aZ.out _ _ _ _ z HS.out HE.out rfl)
  |true=>
   have HE:=A2 (show E=26 from Hiv.out)
   have HS:=A2 (show S=⟨0,0⟩ by rw[Hsw.out,HE.out];rfl)
   go_wp2_with(go_at_call 9;((with_reducible refine(Hc.out W y0 H.out).mono ?_);rintro _ _ ⟨rfl,y1,rfl⟩))
   obtain⟨z,hz,h0,h1⟩:=uA y1 (P3 y1) (Q8 y1) (Hup.out y1) (by have:=Hbx.out;omega) (.int .i64 0) (.int .i64 0)
   rw[hz]
   exact bodyPost_ret (v:=.tuple #[.agg #[.int .i64 0,.int .i64 0],.int .i64 26]) (by simp[results,Tryz.results128,go_sem,h0,h1]) rfl (aZ.out _ _ _ _ z HS.out HE.out rfl)
 ·have hee:(e != 0)=true:=by simpa using he
  have HE:=A2 (show E=e by rw[Hiv.out,if_neg he]);have HS:=A2 (show S=⟨0,0⟩ by rw[Hsw.out,HE.out,if_neg he]);go_wp2_with(go_at_call 9;((with_reducible refine(Hc.out W y0 H.out).mono ?_);rintro _ _ ⟨rfl,y1,rfl⟩));obtain⟨z,hz,h0,h1⟩:=uA y1 (P3 y1) (Q8 y1) (Hup.out y1) (by have:=Hbx.out;omega) (.int .i64 0) (.int .i64 0);rw[hz];exact bodyPost_ret (v:=.tuple #[.agg #[.int .i64 0,.int .i64 0],.int .i64 e]) (by simp[results,Tryz.results128,go_sem,h0,h1]) rfl (aZ.out _ _ _ _ z HS.out HE.out rfl)
end
section
open Go.RowKit
def iZ (w:World) (u:List B3) (o:Ending) (w':World):Prop:=
 ∃(a:Option Addr) (cap:Nat) (y:A6 w),o= .returned (.slice a u.length cap)∧w'=y.w∧P4 y.w a u∧u.length≤cap
theorem AS9 (w:World) (x:A6 w) (a:Option Addr) (l:List F4) (c:Nat) (h:D0 F4.cs 4 w a l) (hl:l.length≤100000):
 Calls Tryz.prog 87 #[.slice a l.length c] x.w (iZ w (l.map Y1)):=by
 have HL:=A2 h;have HP:=A2 (show∀(a:Option Addr) (cap:Nat) (y:A6 w),P4 y.w a (l.map Y1)→l.length≤cap→iZ w (l.map Y1) (.returned (.slice a l.length cap)) y.w from fun a cap y h1 h2=>⟨a,cap,y,by rw[List.length_map],rfl,h1,by rw[List.length_map];exact h2⟩);generalize iZ w (l.map Y1)=PO at *;clear h;obtain⟨n,hn⟩:∃n,n=l.length:=⟨_,rfl⟩
 rw[←hn]at HP⊢;have hn2:n≤100000:=by omega
 have Hn:=A2 hn;clear hn hl;go_enter Tryz.func87,Tryz.ntmps87;go_wp2_with fail;go_loopw [3,8] (fun v i wr=>∃(k:Nat) (y:A6 w),k≤n∧i= .int .i64 k∧wr=y.w∧y.w.ownsRow w.heap.size 156 2 v k (B6 B3.cs ((l.take k).map Y1))) (fun _ i _ =>n-(intOf i).toNat)
 case atStart=>exact⟨0,x,by omega,rfl,rfl,⟨rfl,.inl ⟨rfl,rfl⟩⟩⟩
 case round=>
  obtain⟨k,y,hk,rfl,rfl,hown⟩:=hrel;have F5:=A2 hown;clear hown;by_cases hlt:k<n
  ·obtain⟨e,he⟩:∃e,l[k]? =some e:=⟨_,A3 (by have:=Hn.out;omega)⟩
   have hk0:(0:Int)≤(k:Int):=by omega
   have hkl:(k:Int)<(n:Int):=by omega
   have Htk:=A2 (show(l.take (k+1)).map Y1=(l.take k).map Y1 ++ [Y1 e] by rw[List.take_add_one,he,List.map_append];rfl);obtain⟨b1,off1,rfl,h1'⟩:=D0.pse HL.out he;have ra0:=h1'.c0;have ra1:=h1'.c1;have ra2:=h1'.c2;have ra3:=h1'.c3;clear h1' he;go_upto_region 5 with fail;obtain⟨y2,e2,C5,hsz0,hlt0,HX0⟩:=L9 y [.int .i64 e.f0,.int .i64 e.f1,.int .i64 e.t0,.int .i64 e.t1] 44;rw[e2];obtain⟨hp0,hp1,hp2,hp3,hpf⟩:=fA HX0;(replace F5:=A2 (I6 F5.out C5))
   clear e2 C5;generalize y.w.heap.size=gp at *;obtain⟨By5,By6,By7,By8,By9⟩:=bF HX0;have Bz0:=A2 (And.intro hsz0 hlt0);clear hlt0 hsz0 HX0;go_wp2_with(at_builtin;(refine cP (w0:=w) ?hw rfl _ _ 110 rfl w.heap.size (Nat.le_refl _) ?hb 156 (.agg #[.int .i64 0,.int .i64 0]) 16 eG u3 k (B6 B3.cs ((l.take k).map Y1)) rfl ?hown ⟨y2.w.heap.size,0,none⟩ 1 1 (⟨e.f1,max e.f1 e.t0⟩:B3).cs rfl rfl ?hc (eF _) ?h63 ?hbytes ?_;rotate_right 1;intro v2 q2 hown4 _ hg4))
   case hw=>exact A7.alloc (A7.of y2) _
   case hb=>have:=y2.b.size;simp;omega
   case hown=>exact I6 F5.out (A7.alloc (A7.self _) _)
   case hc=>exact Z1 y2.w (⟨e.f1,max e.f1 e.t0⟩:B3).cs _
   case h63=>unfold maxLen;omega
   case hbytes=>omega
   rw[←X8 B3.cs (⟨e.f1,max e.f1 e.t0⟩:B3),←X7]at hown4;have Q7:=A2 hown4;clear hown4 hg4;go_wp2_with fail;go_roundw
   case rel=>exact⟨k+1,q2,by omega,by go_num,rfl,by rw[Htk.out];exact Q7.out⟩
   case measure=>simp[intOf]<;>omega
  ·obtain rfl:k=n:=by omega
   obtain⟨hlen1,a5,c5,rfl,hc5,he5,_,_⟩:=P2 B3.len (by decide) F5.out;have hlk:((l.take k).map Y1).length=k:=by have:=Hn.out;simp;omega
   have htk:(l.take k).map Y1=l.map Y1:=by rw[List.take_of_length_le (by have:=Hn.out;omega)]
   rw[hlk]at hc5⊢;rw[htk]at he5;have H5:=A2 (HP.out a5 c5 y he5 hc5);clear hlen1 hc5 he5 hlk htk;go_wp2_with fail;exact H5.out
theorem AT0 (w:World) (x:A6 w) (a:Option Addr) (l:List F4) (c:Nat) (h:D0 F4.cs 4 w a l) (hl:l.length≤100000):
 Calls Tryz.prog 85 #[.slice a l.length c] x.w (iZ w (l.map Y2)):=by
 have HL:=A2 h;have HP:=A2 (show∀(a:Option Addr) (cap:Nat) (y:A6 w),P4 y.w a (l.map Y2)→l.length≤cap→iZ w (l.map Y2) (.returned (.slice a l.length cap)) y.w from fun a cap y h1 h2=>⟨a,cap,y,by rw[List.length_map],rfl,h1,by rw[List.length_map];exact h2⟩);generalize iZ w (l.map Y2)=PO at *;clear h;obtain⟨n,hn⟩:∃n,n=l.length:=⟨_,rfl⟩
 rw[←hn]at HP⊢;have hn2:n≤100000:=by omega
 have Hn:=A2 hn;clear hn hl;go_enter Tryz.func85,Tryz.ntmps85;go_wp2_with fail;go_loopw [3,8] (fun v i wr=>∃(k:Nat) (y:A6 w),k≤n∧i= .int .i64 k∧wr=y.w∧y.w.ownsRow w.heap.size 156 2 v k (B6 B3.cs ((l.take k).map Y2))) (fun _ i _ =>n-(intOf i).toNat)
 case atStart=>exact⟨0,x,by omega,rfl,rfl,⟨rfl,.inl ⟨rfl,rfl⟩⟩⟩
 case round=>
  obtain⟨k,y,hk,rfl,rfl,hown⟩:=hrel;have F5:=A2 hown;clear hown;by_cases hlt:k<n
  ·obtain⟨e,he⟩:∃e,l[k]? =some e:=⟨_,A3 (by have:=Hn.out;omega)⟩
   have hk0:(0:Int)≤(k:Int):=by omega
   have hkl:(k:Int)<(n:Int):=by omega
   have Htk:=A2 (show(l.take (k+1)).map Y2=(l.take k).map Y2 ++ [Y2 e] by rw[List.take_add_one,he,List.map_append];rfl);obtain⟨b1,off1,rfl,h1'⟩:=D0.pse HL.out he;have ra0:=h1'.c0;have ra1:=h1'.c1;have ra2:=h1'.c2;have ra3:=h1'.c3;clear h1' he;go_upto_region 5 with fail;obtain⟨y2,e2,C5,hsz0,hlt0,HX0⟩:=L9 y [.int .i64 e.f0,.int .i64 e.f1,.int .i64 e.t0,.int .i64 e.t1] 44;rw[e2];obtain⟨hp0,hp1,hp2,hp3,hpf⟩:=fA HX0;(replace F5:=A2 (I6 F5.out C5))
   clear e2 C5;generalize y.w.heap.size=gp at *;obtain⟨By5,By6,By7,By8,By9⟩:=bF HX0;have Bz0:=A2 (And.intro hsz0 hlt0);clear hlt0 hsz0 HX0;go_wp2_with(at_builtin;(refine cP (w0:=w) ?hw rfl _ _ 110 rfl w.heap.size (Nat.le_refl _) ?hb 156 (.agg #[.int .i64 0,.int .i64 0]) 16 eG u3 k (B6 B3.cs ((l.take k).map Y2)) rfl ?hown ⟨y2.w.heap.size,0,none⟩ 1 1 (⟨e.f0,max e.f0 e.t1⟩:B3).cs rfl rfl ?hc (eF _) ?h63 ?hbytes ?_;rotate_right 1;intro v2 q2 hown4 _ hg4))
   case hw=>exact A7.alloc (A7.of y2) _
   case hb=>have:=y2.b.size;simp;omega
   case hown=>exact I6 F5.out (A7.alloc (A7.self _) _)
   case hc=>exact Z1 y2.w (⟨e.f0,max e.f0 e.t1⟩:B3).cs _
   case h63=>unfold maxLen;omega
   case hbytes=>omega
   rw[←X8 B3.cs (⟨e.f0,max e.f0 e.t1⟩:B3),←X7]at hown4;have Q7:=A2 hown4;clear hown4 hg4;go_wp2_with fail;go_roundw
   case rel=>exact⟨k+1,q2,by omega,by go_num,rfl,by rw[Htk.out];exact Q7.out⟩
   case measure=>simp[intOf]<;>omega
  ·obtain rfl:k=n:=by omega
   obtain⟨hlen1,a5,c5,rfl,hc5,he5,_,_⟩:=P2 B3.len (by decide) F5.out;have hlk:((l.take k).map Y2).length=k:=by have:=Hn.out;simp;omega
   have htk:(l.take k).map Y2=l.map Y2:=by rw[List.take_of_length_le (by have:=Hn.out;omega)]
   rw[hlk]at hc5⊢;rw[htk]at he5;have H5:=A2 (HP.out a5 c5 y he5 hc5);clear hlen1 hc5 he5 hlk htk;go_wp2_with fail;exact H5.out
end
section
open Go.RowKit
theorem kQ (w:World) (S:B3):P4 (w.alloc (.cells #[.int .i64 S.f,.int .i64 S.t] 156)) (some ⟨w.heap.size,0,none⟩) [S]:=by
 intro i x hx
 cases i with
 |zero=>
  simp at hx;subst hx
  refine⟨w.heap.size,0,rfl,by simp,fun j v hv=>?_⟩
  have:=Z1 w S.cs 156 j v hv
  rw[Addr.add_lit]at this
  rw[show 0+0*2+j=0+j by omega]
  exact this
 |succ i=>simp at hx
def vV (W w:World) (n:Nat) (u:List B3) (o:Ending) (w':World):Prop:=
 ∃(a:Option Addr) (cap:Nat) (z:A6 W),o= .returned (.slice a n cap)∧w'=z.w∧(∃v:A6 w,z.w=v.w)∧P4 z.w a u∧n≤cap
theorem Aj3 {W w:World} (h:A7 W w) {n:Nat} {u:List B3} (hn:u.length=n) {o:Ending} {w':World} (k:iZ w u o w'):vV W w n u o w':=by
 obtain⟨a,cap,y,ho,hw,hr,hc⟩:=k;obtain⟨z,hz⟩:=h;subst hz;subst hn;obtain⟨v,hv⟩:=z.trans y;exact⟨a,cap,v,ho,hw.trans hv,⟨y,hv.symm⟩,hv ▸ hr,hc⟩
theorem AT1 {W:World} (w':World) (hw:A7 W w') (a:Option Addr) (l:List F4) (c:Nat) (h:D0 F4.cs 4 W a l) (hl:l.length≤100000):
 Calls Tryz.prog 87 #[.slice a l.length c] w' (vV W w' l.length (l.map Y1)):=by
 have hs:=hw;obtain⟨z,rfl⟩:=hw;exact(AS9 z.w (A6.self z.w) a l c (A6.els h z) hl).mono fun o w'' k=>Aj3 hs (by rw[List.length_map]) k
theorem AT2 {W:World} (w':World) (hw:A7 W w') (a:Option Addr) (l:List F4) (c:Nat) (h:D0 F4.cs 4 W a l) (hl:l.length≤100000):
 Calls Tryz.prog 85 #[.slice a l.length c] w' (vV W w' l.length (l.map Y2)):=by
 have hs:=hw;obtain⟨z,rfl⟩:=hw;exact(AT0 z.w (A6.self z.w) a l c (A6.els h z) hl).mono fun o w'' k=>Aj3 hs (by rw[List.length_map]) k
theorem Aj4 {w:World} {Q R:List B3→Prop} (h:∀c,Q c→R c) {e:Int} {o:Ending} {w':World} (k:N4 w Q e o w'):N4 w R e o w':=by
 obtain⟨a,cap,u,y,h1,h2,h3,h4,h5⟩:=k;exact⟨a,cap,u,y,h1,h2,h3,h4,h _ h5⟩
theorem kR {W w:World} {Q:List B3→Prop} (h:∃z:A6 W,w=z.w) {e:Int} {o:Ending} {w':World} (k:N4 w Q e o w'):N4 W Q e o w':=by
 obtain⟨a,cap,u,y,h1,h2,h3,h4,h5⟩:=k;obtain⟨z,rfl⟩:=h;obtain⟨v,hv⟩:=z.trans y;exact⟨a,cap,u,v,h1,h2.trans hv,hv ▸ h3,h4,h5⟩
theorem AT3 {W:World} (w':World) (hw:A7 W w') (p:Addr) (S:B3) (a1:Option Addr) (l:List B3) (n c1:Nat) (e:Int) (h1:P4 w' (some p) [S]) (h2:P4 w' a1 l) (hn:l.length=n) (hl:n≤100000) (he:setE [S] l=e):
 Calls Tryz.prog 86 #[.slice (some p) 1 1,.slice a1 n c1] w' (N4 W (dR [S] l) e):=by
 subst hn;subst he;exact(AP1 w' (A6.self w') (some p) [S] 1 a1 l c1 h1 h2 (by simp) hl).mono fun o w'' k=>kR hw k
theorem AT4 {W:World} (w':World) (hw:A7 W w') (p:Addr) (S:B3) (a1:Option Addr) (l:List B3) (n c1:Nat) (e:Int) (h1:P4 w' (some p) [S]) (h2:P4 w' a1 l) (hn:l.length=n) (hl:n≤100000) (he:setE [S] l=e):
 Calls Tryz.prog 84 #[.slice (some p) 1 1,.slice a1 n c1] w' (N4 W (dS [S] l) e):=by
 subst hn;subst he;exact(AP2 w' (A6.self w') (some p) [S] 1 a1 l c1 h1 h2 (by simp) hl).mono fun o w'' k=>kR hw k
theorem AT5 {r:A8} (h:G4 r=0) {c:List B3} (k:dR [X0 r] (r.pauses.map Y1) c):V2 (G4 r) (aU r) (1+r.pauses.length) c:=by
 have hr:=fJ h;have hw:X0 r=⟨r.s1,max r.s1 r.e0⟩:=if_pos h;have hb:(J0 [X0 r] || J0 (r.pauses.map Y1))=false:=by
  rw[Ai6 hr,hw,qK (qJ hr)];rfl
 have hs:=k.ok hb;refine⟨fun _ =>⟨hs.n,fun t=>?_⟩,fun h'=>(h' h).elim,by have:=k.n;simpa using this⟩;rw[hs.h];show(C9 [X0 r] t && _)= _;rw[fD];rfl
theorem AT6 {r:A8} (h:G4 r=0) {c:List B3} (k:dS [X0 r] (r.pauses.map Y2) c):V2 (G4 r) (t7 r) (1+r.pauses.length) c:=by
 have hr:=fJ h;have hw:X0 r=⟨r.s1,max r.s1 r.e0⟩:=if_pos h;have hb:(J0 [X0 r] || J0 (r.pauses.map Y2))=false:=by
  rw[Ai7 hr,hw,qK (qJ hr)];rfl
 have hs:=k.ok hb;refine⟨fun _ =>⟨hs.n,fun t=>?_⟩,fun h'=>(h' h).elim,by have:=k.n;simp at this;omega⟩;rw[hs.h];show(C9 [X0 r] t && _)= _;rw[fD];rfl
theorem AT7 (w:World) (x:A6 w) (r:A8) (h:r.At w):
 Calls Tryz.prog 83 #[.agg #[.int .i64 r.id,.int .i64 r.rd,.int .i64 r.s0,.int .i64 r.s1,.int .i64 r.e0,.int .i64 r.e1,.bool r.op,.slice r.la r.legs.length r.lc,.slice r.pa r.pauses.length r.pc,.int .i64 r.fw,.int .i64 r.fp,.int .i64 r.wh,.int .i64 r.pl],.func (.func 86) #[] #[],.func (.func 87) #[.slice r.pa r.pauses.length r.pc] #[]] x.w (N4 w (V2 (G4 r) (aU r) (1+r.pauses.length)) (G4 r)):=by
 have H:=A2 h;clear h;have Hc:=A2 (fun(w:World) (x:A6 w) (h:r.At w)=>Aj2 w x r h);have Hno:=A2 (show∀y:A6 w,G4 r≠0→N4 w (V2 (G4 r) (aU r) (1+r.pauses.length)) (G4 r) (.returned (.tuple #[.slice none 0 0,.int .i64 (G4 r)])) y.w from fun y h=>mT ⟨fun h'=>(h h').elim,fun _ =>rfl,by simp⟩ y);have oQ:=A2 (show G4 r=0→∀o w',N4 w (dR [X0 r] (r.pauses.map Y1)) 0 o w'→N4 w (V2 (G4 r) (aU r) (1+r.pauses.length)) (G4 r) o w' from fun h o w' k=>by
  have k2:=Aj4 (R:=V2 (G4 r) (aU r) (1+r.pauses.length)) (fun c hc=>AT5 h hc) k;rw[h]at k2⊢;exact k2)
 have Hpl:=A2 (fun h:G4 r=0=>(fJ h).pn);have Hse:=A2 (show G4 r=0→setE [X0 r] (r.pauses.map Y1)=0 from fun h=>by
  have hr:=fJ h;unfold setE;rw[Ai6 hr,show X0 r=⟨r.s1,max r.s1 r.e0⟩from if_pos h,qK (qJ hr)];rfl)
 generalize N4 w (V2 (G4 r) (aU r) (1+r.pauses.length)) (G4 r)=PO at *;generalize X0 r=S at *;generalize G4 r=E at *;go_enter Tryz.func83,Tryz.ntmps83;go_upto_region 1 with fail;obtain⟨W,bx,y0,hW,hbx,-,B8,Hup,Hbx,HB0⟩:=J8 x [.int .i64 r.id,.int .i64 r.rd,.int .i64 r.s0,.int .i64 r.s1,.int .i64 r.e0,.int .i64 r.e1,.bool r.op,.slice r.la r.legs.length r.lc,.slice r.pa r.pauses.length r.pc,.int .i64 r.fw,.int .i64 r.fp,.int .i64 r.wh,.int .i64 r.pl] 40;rw[hW,hbx];clear hW hbx;obtain⟨D7,D9,E3,E5,F3,I0,K9,O5,O6,X5,X3,X4,i9,hf0⟩:=P8 HB0;clear HB0;replace H:=A2 (H.out.to B8);clear B8;go_upto_region 2 with(go_at_call 128;((with_reducible refine(Hc.out W y0 H.out).mono ?_);rintro _ _ ⟨rfl,y1,rfl⟩))
 obtain⟨y2,e2,C5,hsz0,hlt0,HX0⟩:=L9 y1 [.int .i64 S.f,.int .i64 S.t] 156;rw[e2];obtain⟨hs0,hs1,hsf⟩:=cQ HX0;skip;clear e2 C5;generalize y1.w.heap.size=gs at *;obtain⟨oM,oN,yP⟩:=o8 HX0;have Bz1:=A2 (And.intro hsz0 hlt0);clear hlt0 hsz0 HX0;by_cases he:E=0
 ·have hpl:=Hpl.out he
  have yV:=A2 (Hse.out he);have yY:=A2 (oQ.out he);subst he;have Hps:=A2 (fun(w':World) (hw:A7 y2.w w')=>AT1 w' hw r.pa r.pauses r.pc (A6.els H.out.p y2) (by omega));have yX:=A2 (show∀w',A7 y2.w w'→A7 w w' from fun w' h=>by obtain⟨z,rfl⟩:=h;obtain⟨u,hu⟩:=y2.trans z;rw[hu];exact Hup.out u);have Hlm:=A2 (show(r.pauses.map Y1).length=r.pauses.length from List.length_map _);have ka0:=fun w' (h:A7 y2.w w')=>A7.cell oM h;have ka1:=fun w' (h:A7 y2.w w')=>A7.cell oN h;clear Hc Hno oQ Hpl Hse hs0 hs1 hsf oM oN yP D7 D9 E3 E5 F3 I0 K9 O5 O6 X5 X3 X4 i9 hf0;go_upto_region 4 with fail;go_region_held3 (fun w'=>A7 y2.w w') (first|assumption|exact A7.drew' (A7.self _)|exact A7.of _|exact A7.alloc (A7.drew' (A7.self _)) _|exact A7.alloc (by assumption) _) (first|(go_at_call 87;((with_reducible refine(Hps.out _ (by assumption)).mono ?_);rintro _ _ ⟨a1,c1,z1,rfl,rfl,hz,hrow,hcap⟩))|(go_at_call 86;((with_reducible refine(AT3 _ (by assumption:A7 y2.w _) _ S a1 (r.pauses.map Y1) _ _ 0 ?ha ?hb Hlm.out (by omega) yV.out).mono ?_);(case ha=>first|exact((kQ _ S).to (A7.drew' (A7.self _))).to hz|exact kQ _ S|exact(kQ _ S).to (A7.drew' (A7.self _)));(case hb=>first|exact hrow|exact hrow.to (A7.alloc (A7.self _) _));rintro _ _ ⟨a5,c5,u5,y5,rfl,rfl,hr5,hc5,hq5⟩)));all_goals
   have H5:=A2 (yY.out _ _ (kR (yX.out _ (A7.self _)) ⟨a5,c5,u5,y5,rfl,rfl,hr5,hc5,hq5⟩));clear hr5 hc5 hq5 hrow hz hcap;go_wp2_with fail;exact H5.out
 ·have hee:(E != 0)=true:=by simpa using he
  have lO:=A2 (fun y:A6 w=>Hno.out y he);clear he;go_wp2_with fail;obtain⟨z,hz⟩:=Hup.out y2;rw[hz];exact lO.out z
theorem AT8 (w:World) (x:A6 w) (r:A8) (h:r.At w):
 Calls Tryz.prog 83 #[.agg #[.int .i64 r.id,.int .i64 r.rd,.int .i64 r.s0,.int .i64 r.s1,.int .i64 r.e0,.int .i64 r.e1,.bool r.op,.slice r.la r.legs.length r.lc,.slice r.pa r.pauses.length r.pc,.int .i64 r.fw,.int .i64 r.fp,.int .i64 r.wh,.int .i64 r.pl],.func (.func 84) #[] #[],.func (.func 85) #[.slice r.pa r.pauses.length r.pc] #[]] x.w (N4 w (V2 (G4 r) (t7 r) (1+r.pauses.length)) (G4 r)):=by
 have H:=A2 h;clear h;have Hc:=A2 (fun(w:World) (x:A6 w) (h:r.At w)=>Aj2 w x r h);have Hno:=A2 (show∀y:A6 w,G4 r≠0→N4 w (V2 (G4 r) (t7 r) (1+r.pauses.length)) (G4 r) (.returned (.tuple #[.slice none 0 0,.int .i64 (G4 r)])) y.w from fun y h=>mT ⟨fun h'=>(h h').elim,fun _ =>rfl,by simp⟩ y);have oQ:=A2 (show G4 r=0→∀o w',N4 w (dS [X0 r] (r.pauses.map Y2)) 0 o w'→N4 w (V2 (G4 r) (t7 r) (1+r.pauses.length)) (G4 r) o w' from fun h o w' k=>by
  have k2:=Aj4 (R:=V2 (G4 r) (t7 r) (1+r.pauses.length)) (fun c hc=>AT6 h hc) k;rw[h]at k2⊢;exact k2)
 have Hpl:=A2 (fun h:G4 r=0=>(fJ h).pn);have Hse:=A2 (show G4 r=0→setE [X0 r] (r.pauses.map Y2)=0 from fun h=>by
  have hr:=fJ h;unfold setE;rw[Ai7 hr,show X0 r=⟨r.s1,max r.s1 r.e0⟩from if_pos h,qK (qJ hr)];rfl)
 generalize N4 w (V2 (G4 r) (t7 r) (1+r.pauses.length)) (G4 r)=PO at *;generalize X0 r=S at *;generalize G4 r=E at *;go_enter Tryz.func83,Tryz.ntmps83;go_upto_region 1 with fail;obtain⟨W,bx,y0,hW,hbx,-,B8,Hup,Hbx,HB0⟩:=J8 x [.int .i64 r.id,.int .i64 r.rd,.int .i64 r.s0,.int .i64 r.s1,.int .i64 r.e0,.int .i64 r.e1,.bool r.op,.slice r.la r.legs.length r.lc,.slice r.pa r.pauses.length r.pc,.int .i64 r.fw,.int .i64 r.fp,.int .i64 r.wh,.int .i64 r.pl] 40;rw[hW,hbx];clear hW hbx;obtain⟨D7,D9,E3,E5,F3,I0,K9,O5,O6,X5,X3,X4,i9,hf0⟩:=P8 HB0;clear HB0;replace H:=A2 (H.out.to B8);clear B8;go_upto_region 2 with(go_at_call 128;((with_reducible refine(Hc.out W y0 H.out).mono ?_);rintro _ _ ⟨rfl,y1,rfl⟩))
 obtain⟨y2,e2,C5,hsz0,hlt0,HX0⟩:=L9 y1 [.int .i64 S.f,.int .i64 S.t] 156;rw[e2];obtain⟨hs0,hs1,hsf⟩:=cQ HX0;skip;clear e2 C5;generalize y1.w.heap.size=gs at *;obtain⟨oM,oN,yP⟩:=o8 HX0;have Bz1:=A2 (And.intro hsz0 hlt0);clear hlt0 hsz0 HX0;by_cases he:E=0
 ·have hpl:=Hpl.out he
  have yV:=A2 (Hse.out he);have yY:=A2 (oQ.out he);subst he;have Hps:=A2 (fun(w':World) (hw:A7 y2.w w')=>AT2 w' hw r.pa r.pauses r.pc (A6.els H.out.p y2) (by omega));have yX:=A2 (show∀w',A7 y2.w w'→A7 w w' from fun w' h=>by obtain⟨z,rfl⟩:=h;obtain⟨u,hu⟩:=y2.trans z;rw[hu];exact Hup.out u);have Hlm:=A2 (show(r.pauses.map Y2).length=r.pauses.length from List.length_map _);have ka0:=fun w' (h:A7 y2.w w')=>A7.cell oM h;have ka1:=fun w' (h:A7 y2.w w')=>A7.cell oN h;clear Hc Hno oQ Hpl Hse hs0 hs1 hsf oM oN yP D7 D9 E3 E5 F3 I0 K9 O5 O6 X5 X3 X4 i9 hf0;go_upto_region 4 with fail;go_region_held3 (fun w'=>A7 y2.w w') (first|assumption|exact A7.drew' (A7.self _)|exact A7.of _|exact A7.alloc (A7.drew' (A7.self _)) _|exact A7.alloc (by assumption) _) (first|(go_at_call 85;((with_reducible refine(Hps.out _ (by assumption)).mono ?_);rintro _ _ ⟨a1,c1,z1,rfl,rfl,hz,hrow,hcap⟩))|(go_at_call 84;((with_reducible refine(AT4 _ (by assumption:A7 y2.w _) _ S a1 (r.pauses.map Y2) _ _ 0 ?ha ?hb Hlm.out (by omega) yV.out).mono ?_);(case ha=>first|exact((kQ _ S).to (A7.drew' (A7.self _))).to hz|exact kQ _ S|exact(kQ _ S).to (A7.drew' (A7.self _)));(case hb=>first|exact hrow|exact hrow.to (A7.alloc (A7.self _) _));rintro _ _ ⟨a5,c5,u5,y5,rfl,rfl,hr5,hc5,hq5⟩)));all_goals
   have H5:=A2 (yY.out _ _ (kR (yX.out _ (A7.self _)) ⟨a5,c5,u5,y5,rfl,rfl,hr5,hc5,hq5⟩));clear hr5 hc5 hq5 hrow hz hcap;go_wp2_with fail;exact H5.out
 ·have hee:(E != 0)=true:=by simpa using he
  have lO:=A2 (fun y:A6 w=>Hno.out y he);clear he;go_wp2_with fail;obtain⟨z,hz⟩:=Hup.out y2;rw[hz];exact lO.out z
theorem AT9 (w:World) (x:A6 w) (r:A8) (h:r.At w):
 Calls Tryz.prog 39 #[.agg #[.int .i64 r.id,.int .i64 r.rd,.int .i64 r.s0,.int .i64 r.s1,.int .i64 r.e0,.int .i64 r.e1,.bool r.op,.slice r.la r.legs.length r.lc,.slice r.pa r.pauses.length r.pc,.int .i64 r.fw,.int .i64 r.fp,.int .i64 r.wh,.int .i64 r.pl]] x.w (N4 w (V2 (G4 r) (aU r) (1+r.pauses.length)) (G4 r)):=by
 have H:=A2 h;clear h;have Hc:=A2 (fun(w:World) (x:A6 w) (h:r.At w)=>AT7 w x r h);have aZ:=A2 (fun(W:World) (hW:∃z:A6 w,W=z.w) o w' (k:N4 W (V2 (G4 r) (aU r) (1+r.pauses.length)) (G4 r) o w')=>kR hW k);generalize N4 w (V2 (G4 r) (aU r) (1+r.pauses.length)) (G4 r)=PO at *;go_enter Tryz.func39,Tryz.ntmps39;go_upto_region 1 with fail;obtain⟨W,bx,y0,hW,hbx,-,B8,Hup,Hbx,HB0⟩:=J8 x [.int .i64 r.id,.int .i64 r.rd,.int .i64 r.s0,.int .i64 r.s1,.int .i64 r.e0,.int .i64 r.e1,.bool r.op,.slice r.la r.legs.length r.lc,.slice r.pa r.pauses.length r.pc,.int .i64 r.fw,.int .i64 r.fp,.int .i64 r.wh,.int .i64 r.pl] 40;rw[hW,hbx];clear hW hbx;obtain⟨D7,D9,E3,E5,F3,I0,K9,O5,O6,X5,X3,X4,i9,hf0⟩:=P8 HB0;clear HB0;replace H:=A2 (H.out.to B8);have HW:=A2 B8;clear B8;go_wp2_with(go_at_call 83;((with_reducible refine(Hc.out W y0 H.out).mono ?_);rintro _ _ ⟨ax,cx,u,y1,rfl,rfl,h1,h2,h3⟩;have H5:=A2 (aZ.out W HW.out _ _ ⟨ax,cx,u,y1,rfl,rfl,h1,h2,h3⟩);clear h1 h2 h3));exact H5.out
theorem AU0 (w:World) (x:A6 w) (r:A8) (h:r.At w):
 Calls Tryz.prog 38 #[.agg #[.int .i64 r.id,.int .i64 r.rd,.int .i64 r.s0,.int .i64 r.s1,.int .i64 r.e0,.int .i64 r.e1,.bool r.op,.slice r.la r.legs.length r.lc,.slice r.pa r.pauses.length r.pc,.int .i64 r.fw,.int .i64 r.fp,.int .i64 r.wh,.int .i64 r.pl]] x.w (N4 w (V2 (G4 r) (t7 r) (1+r.pauses.length)) (G4 r)):=by
 have H:=A2 h;clear h;have Hc:=A2 (fun(w:World) (x:A6 w) (h:r.At w)=>AT8 w x r h);have aZ:=A2 (fun(W:World) (hW:∃z:A6 w,W=z.w) o w' (k:N4 W (V2 (G4 r) (t7 r) (1+r.pauses.length)) (G4 r) o w')=>kR hW k);generalize N4 w (V2 (G4 r) (t7 r) (1+r.pauses.length)) (G4 r)=PO at *;go_enter Tryz.func38,Tryz.ntmps38;go_upto_region 1 with fail;obtain⟨W,bx,y0,hW,hbx,-,B8,Hup,Hbx,HB0⟩:=J8 x [.int .i64 r.id,.int .i64 r.rd,.int .i64 r.s0,.int .i64 r.s1,.int .i64 r.e0,.int .i64 r.e1,.bool r.op,.slice r.la r.legs.length r.lc,.slice r.pa r.pauses.length r.pc,.int .i64 r.fw,.int .i64 r.fp,.int .i64 r.wh,.int .i64 r.pl] 40;rw[hW,hbx];clear hW hbx;obtain⟨D7,D9,E3,E5,F3,I0,K9,O5,O6,X5,X3,X4,i9,hf0⟩:=P8 HB0;clear HB0;replace H:=A2 (H.out.to B8);have HW:=A2 B8;clear B8;go_wp2_with(go_at_call 83;((with_reducible refine(Hc.out W y0 H.out).mono ?_);rintro _ _ ⟨ax,cx,u,y1,rfl,rfl,h1,h2,h3⟩;have H5:=A2 (aZ.out W HW.out _ _ ⟨ax,cx,u,y1,rfl,rfl,h1,h2,h3⟩);clear h1 h2 h3));exact H5.out
end
section
open Go.RowKit
theorem U3.lenS {u:List B3} {S:Int→Bool} (h:U3 u S):T9 u=lenS S:=by rw[h.len,qM]
theorem AU1 {l:List B3} (h:K7 l):J0 l=false:=iQ.2 fun x hx=>(gE x).2 (by have:=h.v x hx;omega)
theorem AU2 {l u:List B3} {S:Int→Bool} (hl:U3 l S) (h:bX l u):g9 l=0∧T9 u=lenS S:=by
 have hb:=AU1 hl.n;refine⟨by unfold g9;rw[hb];rfl,?_⟩;have h2:=h.ok hb;have:u=l:=h2.unique ⟨hl.n,fun t=>rfl⟩;rw[this,hl.lenS]
def vW (w:World) (m n E:Int) (o:Ending) (w':World):Prop:=o= .returned (.tuple #[.int .i64 m,.int .i64 n,.int .i64 E])∧∃y:A6 w,w'=y.w
theorem AU3 {w w':World} {m n E a b e:Int} (y:A6 w) (hm:m=a) (hn:n=b) (hE:E=e) (hw:w'=y.w):vW w m n E (.returned (.tuple #[.int .i64 a,.int .i64 b,.int .i64 e])) w':=by
 subst hm;subst hn;subst hE;exact⟨rfl,y,hw⟩
def vX (W w:World) (Q:List B3→Prop) (e:Int) (o:Ending) (w':World):Prop:=
 ∃(a:Option Addr) (cap:Nat) (u:List B3) (z:A6 W),o= .returned (.tuple #[.slice a u.length cap,.int .i64 e])∧w'=z.w∧(∃v:A6 w,z.w=v.w)∧P4 z.w a u∧u.length≤cap∧Q u
theorem Aj5 {W w:World} (h:A7 W w) {Q:List B3→Prop} {e:Int} {o:Ending} {w':World} (k:N4 w Q e o w'):vX W w Q e o w':=by
 obtain⟨a,cap,u,y,ho,hw,hr,hc,hq⟩:=k;obtain⟨z,hz⟩:=h;subst hz;obtain⟨v,hv⟩:=z.trans y;exact⟨a,cap,u,v,ho,hw.trans hv,⟨y,hv.symm⟩,hv ▸ hr,hc,hq⟩
def AU4 (W w:World) (n e:Int) (o:Ending) (w':World):Prop:=o= .returned (.tuple #[.int .i64 n,.int .i64 e])∧∃z:A6 W,w'=z.w∧∃v:A6 w,z.w=v.w
theorem AU5 {W:World} (w':World) (hw:A7 W w') (r:A8) (h:r.At W):Calls Tryz.prog 38 #[.agg #[.int .i64 r.id,.int .i64 r.rd,.int .i64 r.s0,.int .i64 r.s1,.int .i64 r.e0,.int .i64 r.e1,.bool r.op,.slice r.la r.legs.length r.lc,.slice r.pa r.pauses.length r.pc,.int .i64 r.fw,.int .i64 r.fp,.int .i64 r.wh,.int .i64 r.pl]] w' (vX W w' (V2 (G4 r) (t7 r) (1+r.pauses.length)) (G4 r)):=
 (AU0 w' (A6.self w') r (h.to hw)).mono fun _ _ k=>Aj5 hw k
theorem AU6 {W:World} (w':World) (hw:A7 W w') (r:A8) (h:r.At W):Calls Tryz.prog 39 #[.agg #[.int .i64 r.id,.int .i64 r.rd,.int .i64 r.s0,.int .i64 r.s1,.int .i64 r.e0,.int .i64 r.e1,.bool r.op,.slice r.la r.legs.length r.lc,.slice r.pa r.pauses.length r.pc,.int .i64 r.fw,.int .i64 r.fp,.int .i64 r.wh,.int .i64 r.pl]] w' (vX W w' (V2 (G4 r) (aU r) (1+r.pauses.length)) (G4 r)):=
 (AT9 w' (A6.self w') r (h.to hw)).mono fun _ _ k=>Aj5 hw k
theorem Aj6 {W:World} (w':World) (hw:A7 W w') (a:Option Addr) (l:List B3) (c:Nat) (S:Int→Bool) (hS:U3 l S) (hr:P4 w' a l) (hl:l.length≤100000):Calls Tryz.prog 40 #[.slice a l.length c] w' (AU4 W w' (lenS S) 0):=by
 refine(AP4 w' (A6.self w') a l c hr hl).mono ?_;rintro _ _ ⟨u,y,rfl,rfl,hu⟩;obtain⟨h1,h2⟩:=AU2 hS hu;obtain⟨z,hz⟩:=hw;subst hz;obtain⟨v,hv⟩:=z.trans y;exact⟨by rw[h1,h2],v,hv,y,hv.symm⟩
theorem AU7 (w:World) (x:A6 w) (r:A8) (h:r.At w):
 Calls Tryz.prog 11 #[.agg #[.int .i64 r.id,.int .i64 r.rd,.int .i64 r.s0,.int .i64 r.s1,.int .i64 r.e0,.int .i64 r.e1,.bool r.op,.slice r.la r.legs.length r.lc,.slice r.pa r.pauses.length r.pc,.int .i64 r.fw,.int .i64 r.fp,.int .i64 r.wh,.int .i64 r.pl]] x.w (vW w (Q0 r) (X1 r) (G4 r)):=by
 have H:=A2 h;clear h;have Hok:=A2 (fun(h:G4 r=0) (u:List B3) (S:Int→Bool) (k:V2 (G4 r) S (1+r.pauses.length) u)=>k.ok h);have Hm:=A2 (show Q0 r=if G4 r=0 then lenS (t7 r)else 0 from rfl);have Hn:=A2 (show X1 r=if G4 r=0 then lenS (aU r)else 0 from rfl);have aZ:=A2 (fun(w':World) (a b e:Int) (y:A6 w) (hm:Q0 r=a) (hn:X1 r=b) (hE:G4 r=e) (hw:w'=y.w)=>AU3 y hm hn hE hw);generalize vW w (Q0 r) (X1 r) (G4 r)=PO at *;have Hpl:=A2 (fun h:G4 r=0=>(fJ h).pn);have Hr:=A2 (fun(w:World) (h:r.At w) (w':World) (hw:A7 w w')=>AU5 w' hw r h);have Hp:=A2 (fun(w:World) (h:r.At w) (w':World) (hw:A7 w w')=>AU6 w' hw r h);generalize Q0 r=sr at *;generalize X1 r=sp at *;generalize G4 r=E at *;go_enter Tryz.func11,Tryz.ntmps11;go_upto_region 1 with fail;obtain⟨W,bx,y0,hW,hbx,-,B8,Hup,Hbx,HB0⟩:=J8 x [.int .i64 r.id,.int .i64 r.rd,.int .i64 r.s0,.int .i64 r.s1,.int .i64 r.e0,.int .i64 r.e1,.bool r.op,.slice r.la r.legs.length r.lc,.slice r.pa r.pauses.length r.pc,.int .i64 r.fw,.int .i64 r.fp,.int .i64 r.wh,.int .i64 r.pl] 40;rw[hW,hbx];clear hW hbx;obtain⟨D7,D9,E3,E5,F3,I0,K9,O5,O6,X5,X3,X4,i9,hf0⟩:=P8 HB0;clear HB0;replace H:=A2 (H.out.to B8);clear B8;by_cases he:E=0
 ·have hpl:=Hpl.out he
  have AA4:=A2 (Hok.out he);subst he;have HM:=A2 (show sr=lenS (t7 r)from Hm.out);have HN:=A2 (show sp=lenS (aU r)from Hn.out);clear Hok Hm Hn;go_upto_region 2 with(go_at_call 38;((with_reducible refine(Hr.out W H.out _ (A7.of y0)).mono ?_);rintro _ _ ⟨ax,cx,u,y1,rfl,rfl,_,hu,_,hU⟩;have HU:=A2 hu;have HUo:=A2 (AA4.out _ _ hU);have hul:=hU.n;clear hu hU))
  go_upto_region 5 with(go_at_call 39;((with_reducible refine(Hp.out W H.out _ (A7.of y1)).mono ?_);rintro _ _ ⟨ay,cy,v,y2,rfl,rfl,hz2,hv,_,hV⟩;have HV:=A2 hv;have HVo:=A2 (AA4.out _ _ hV);have hvl:=hV.n;replace HU:=A2 (HU.out.to hz2);clear hv hV hz2))
  clear Hr Hp;go_upto_region 8 with(go_at_call 40;((with_reducible refine(Aj6 (W:=W) _ (A7.of y2) ax u cx (t7 r) HUo.out HU.out (by omega)).mono ?_);rintro _ _ ⟨rfl,y3,rfl,hz3⟩;replace HV:=A2 (HV.out.to hz3);clear hz3))
  go_wp2_with(go_at_call 40;((with_reducible refine(Aj6 (W:=W) _ (A7.of y3) ay v cy (aU r) HVo.out HV.out (by omega)).mono ?_);rintro _ _ ⟨rfl,y4,rfl,_⟩));go_ret3
  obtain⟨z,hz⟩:=Hup.out y4;exact aZ.out _ _ _ _ z HM.out HN.out rfl hz
 ·have hee:(E != 0)=true:=by simpa using he
  go_wp2_with(go_at_call 38;((with_reducible refine(Hr.out W H.out _ (A7.of y0)).mono ?_);rintro _ _ ⟨ax,cx,u,y1,rfl,rfl,_,hu,_,hU⟩;have HU:=A2 hu;have HUo:=A2 hU;clear hu hU));go_ret3
  obtain⟨z,hz⟩:=Hup.out y1;exact aZ.out _ _ _ _ z (by rw[Hm.out,if_neg he]) (by rw[Hn.out,if_neg he]) rfl hz
end
end Go.Proofs.YtmmlmhnjjfnpnaaGreat
