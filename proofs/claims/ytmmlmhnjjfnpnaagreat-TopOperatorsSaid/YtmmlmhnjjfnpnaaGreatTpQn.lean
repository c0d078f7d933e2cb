/- Texts that belong together. -/
import Derived.Test.YtmmlmhnjjfnpnaaGreatTpQc
import Derived.Test.YtmmlmhnjjfnpnaaGreatTpQj
import Derived.Test.YtmmlmhnjjfnpnaaGreatTpQm
import Derived.IntWalk
set_option linter.all false
namespace Go.Proofs.YtmmlmhnjjfnpnaaGreat
set_option maxRecDepth 200000
set_option maxHeartbeats 64000000
section
open Go.RowKit
def uF (w:World) (S:B3) (E:Int) (o:Ending) (w':World):Prop:=o= .returned (.tuple #[.agg #[.int .i64 S.f,.int .i64 S.t],.int .i64 E])∧∃y:A7 w,w'=y.w
theorem AL8 {w w':World} {S:B3} {E:Int} {f t e:Int} (y:A7 w) (hS:S=⟨f,t⟩) (hE:E=e) (hw:w'=y.w):uF w S E (.returned (.tuple #[.agg #[.int .i64 f,.int .i64 t],.int .i64 e])) w':=by
 subst hS;subst hE;exact⟨rfl,y,hw⟩
theorem Af3 (w:World) (x:A7 w) (r:A9) (h:r.At w):
 Calls Tryz.prog 128 #[.agg #[.int .i64 r.id,.int .i64 r.rd,.int .i64 r.s0,.int .i64 r.s1,.int .i64 r.e0,.int .i64 r.e1,.bool r.op,.slice r.la r.legs.length r.lc,.slice r.pa r.pauses.length r.pc,.int .i64 r.fw,.int .i64 r.fp,.int .i64 r.wh,.int .i64 r.pl]] x.w (uF w (Y3 r) (I7 r)):=by
 have H:=A3 h;clear h;have hsw:Y3 r=if I7 r=0 then⟨r.s1,max r.s1 r.e0⟩else⟨0,0⟩:=rfl;have hiv:I7 r=if J9 r=0 then(if r.op then 26 else 0)else J9 r:=rfl;have Hsw:=A3 hsw;have Hiv:=A3 hiv;clear hsw hiv;generalize Y3 r=S at *;generalize I7 r=E at *;have Hc:=A3 (fun(w:World) (x:A7 w) (h:r.At w)=>oU w x r h);generalize hre:J9 r=e at *;clear hre;have bK:=A3 (fun(w':World) (f t e:Int) (y:A7 w) (hS:S=⟨f,t⟩) (hE:E=e) (hw:w'=y.w)=>AL8 y hS hE hw);generalize uF w S E=PO at *;generalize r.op=op at *;go_enter Tryz.func128,Tryz.ntmps128;go_upto_region 1 with fail;obtain⟨W,bx,y0,hW,hbx,-,B8,Hup,Hbx,HB0,HB1⟩:=Z7 x [.int .i64 r.id,.int .i64 r.rd,.int .i64 r.s0,.int .i64 r.s1,.int .i64 r.e0,.int .i64 r.e1,.bool op,.slice r.la r.legs.length r.lc,.slice r.pa r.pauses.length r.pc,.int .i64 r.fw,.int .i64 r.fp,.int .i64 r.wh,.int .i64 r.pl] 40 [.int .i64 0,.int .i64 0] 156;rw[hW,hbx];clear hW hbx;obtain⟨D9,E7,F9,G0,G8,K4,O0,Q6,R0,X7,X5,X6,i6,hf0⟩:=R5 HB0;obtain⟨T9,V9,hf1⟩:=p8 HB1;clear HB0 HB1;replace H:=A3 (H.out.to B8);clear B8;by_cases he:e=0
 ·subst he
  cases op with
  |false=>
   have HE:=A3 (show E=0 from Hiv.out)
   have HS:=A3 (show S=⟨r.s1,max r.s1 r.e0⟩ by rw[Hsw.out,HE.out,if_pos rfl])
   go_wp2_with(go_at_call 9;((with_reducible refine(Hc.out W y0 H.out).mono ?_);rintro _ _ ⟨rfl,y1,rfl⟩))
   obtain⟨z,hz,h0,h1⟩:=oS y1 (T9 y1) (V9 y1) (Hup.out y1) (by have:=Hbx.out;omega) (.int .i64 r.s1) (.int .i64 (max r.s1 r.e0))
   rw[hz]
   exact bodyPost_ret (v:=.tuple #[.agg #[.int .i64 r.s1,.int .i64 (max r.s1 r.e0)],.int .i64 0]) (by simp[results,Tryz.results128,go_sem,h0,h1]) rfl (bK.out _ _ _ _ z HS.out HE.out rfl)
  |true=>
   have HE:=A3 (show E=26 from Hiv.out)
   have HS:=A3 (show S=⟨0,0⟩ by rw[Hsw.out,HE.out];rfl)
   go_wp2_with(go_at_call 9;((with_reducible refine(Hc.out W y0 H.out).mono ?_);rintro _ _ ⟨rfl,y1,rfl⟩))
   obtain⟨z,hz,h0,h1⟩:=oS y1 (T9 y1) (V9 y1) (Hup.out y1) (by have:=Hbx.out;omega) (.int .i64 0) (.int .i64 0)
   rw[hz]
   exact bodyPost_ret (v:=.tuple #[.agg #[.int .i64 0,.int .i64 0],.int .i64 26]) (by simp[results,Tryz.results128,go_sem,h0,h1]) rfl (bK.out _ _ _ _ z HS.out HE.out rfl)
 ·have hee:(e != 0)=true:=by simpa using he
  have HE:=A3 (show E=e by rw[Hiv.out,if_neg he]);have HS:=A3 (show S=⟨0,0⟩ by rw[Hsw.out,HE.out,if_neg he]);go_wp2_with(go_at_call 9;((with_reducible refine(Hc.out W y0 H.out).mono ?_);rintro _ _ ⟨rfl,y1,rfl⟩));obtain⟨z,hz,h0,h1⟩:=oS y1 (T9 y1) (V9 y1) (Hup.out y1) (by have:=Hbx.out;omega) (.int .i64 0) (.int .i64 0);rw[hz];exact bodyPost_ret (v:=.tuple #[.agg #[.int .i64 0,.int .i64 0],.int .i64 e]) (by simp[results,Tryz.results128,go_sem,h0,h1]) rfl (bK.out _ _ _ _ z HS.out HE.out rfl)
end
section
open Go.RowKit
def jA (w:World) (u:List B3) (o:Ending) (w':World):Prop:=
 ∃(a:Option Addr) (cap:Nat) (y:A7 w),o= .returned (.slice a u.length cap)∧w'=y.w∧Q7 y.w a u∧u.length≤cap
theorem AL9 (w:World) (x:A7 w) (a:Option Addr) (l:List I2) (c:Nat) (h:D0 I2.cs 4 w a l) (hl:l.length≤100000):
 Calls Tryz.prog 87 #[.slice a l.length c] x.w (jA w (l.map Y4)):=by
 have HL:=A3 h;have HP:=A3 (show∀(a:Option Addr) (cap:Nat) (y:A7 w),Q7 y.w a (l.map Y4)→l.length≤cap→jA w (l.map Y4) (.returned (.slice a l.length cap)) y.w from fun a cap y h1 h2=>⟨a,cap,y,by rw[List.length_map],rfl,h1,by rw[List.length_map];exact h2⟩);generalize jA w (l.map Y4)=PO at *;clear h;obtain⟨n,hn⟩:∃n,n=l.length:=⟨_,rfl⟩
 rw[←hn]at HP⊢;have hn2:n≤100000:=by omega
 have Hn:=A3 hn;clear hn hl;go_enter Tryz.func87,Tryz.ntmps87;go_wp2_with fail;go_loopw [3,8] (fun v i wr=>∃(k:Nat) (y:A7 w),k≤n∧i= .int .i64 k∧wr=y.w∧y.w.ownsRow w.heap.size 156 2 v k (B4 B3.cs ((l.take k).map Y4))) (fun _ i _ =>n-(intOf i).toNat)
 case atStart=>exact⟨0,x,by omega,rfl,rfl,⟨rfl,.inl ⟨rfl,rfl⟩⟩⟩
 case round=>
  obtain⟨k,y,hk,rfl,rfl,hown⟩:=hrel;have I5:=A3 hown;clear hown;by_cases hlt:k<n
  ·obtain⟨e,he⟩:∃e,l[k]? =some e:=⟨_,A4 (by have:=Hn.out;omega)⟩
   have hk0:(0:Int)≤(k:Int):=by omega
   have hkl:(k:Int)<(n:Int):=by omega
   have Htk:=A3 (show(l.take (k+1)).map Y4=(l.take k).map Y4 ++ [Y4 e] by rw[List.take_add_one,he,List.map_append];rfl);obtain⟨b1,off1,rfl,h1'⟩:=D0.pse HL.out he;have ra0:=h1'.c0;have ra1:=h1'.c1;have ra2:=h1'.c2;have ra3:=h1'.c3;clear h1' he;go_upto_region 5 with fail;obtain⟨y2,e2,C9,hsz0,hlt0,HX0⟩:=L8 y [.int .i64 e.f0,.int .i64 e.f1,.int .i64 e.t0,.int .i64 e.t1] 44;rw[e2];obtain⟨hp0,hp1,hp2,hp3,hpf⟩:=dU HX0;(replace I5:=A3 (J8 I5.out C9))
   clear e2 C9;generalize y.w.heap.size=gp at *;obtain⟨Bt1,Bt2,Bt3,Bt4,Bt5⟩:=bO HX0;have Bt6:=A3 (And.intro hsz0 hlt0);clear hlt0 hsz0 HX0;go_wp2_with(at_builtin;(refine fM (w0:=w) ?hw rfl _ _ 110 rfl w.heap.size (Nat.le_refl _) ?hb 156 (.agg #[.int .i64 0,.int .i64 0]) 16 eV u3 k (B4 B3.cs ((l.take k).map Y4)) rfl ?hown ⟨y2.w.heap.size,0,none⟩ 1 1 (⟨e.f1,max e.f1 e.t0⟩:B3).cs rfl rfl ?hc (eU _) ?h63 ?hbytes ?_;rotate_right 1;intro v2 q2 hown4 _ hg4))
   case hw=>exact A8.alloc (A8.of y2) _
   case hb=>have:=y2.b.size;simp;omega
   case hown=>exact J8 I5.out (A8.alloc (A8.self _) _)
   case hc=>exact Z6 y2.w (⟨e.f1,max e.f1 e.t0⟩:B3).cs _
   case h63=>unfold maxLen;omega
   case hbytes=>omega
   rw[←Y1 B3.cs (⟨e.f1,max e.f1 e.t0⟩:B3),←U6]at hown4;have V8:=A3 hown4;clear hown4 hg4;go_wp2_with fail;go_roundw
   case rel=>exact⟨k+1,q2,by omega,by go_num,rfl,by rw[Htk.out];exact V8.out⟩
   case measure=>simp[intOf]<;>omega
  ·obtain rfl:k=n:=by omega
   obtain⟨hlen1,a5,c5,rfl,hc5,he5,_,_⟩:=O9 B3.len (by decide) I5.out;have hlk:((l.take k).map Y4).length=k:=by have:=Hn.out;simp;omega
   have htk:(l.take k).map Y4=l.map Y4:=by rw[List.take_of_length_le (by have:=Hn.out;omega)]
   rw[hlk]at hc5⊢;rw[htk]at he5;have H5:=A3 (HP.out a5 c5 y he5 hc5);clear hlen1 hc5 he5 hlk htk;go_wp2_with fail;exact H5.out
theorem AM0 (w:World) (x:A7 w) (a:Option Addr) (l:List I2) (c:Nat) (h:D0 I2.cs 4 w a l) (hl:l.length≤100000):
 Calls Tryz.prog 85 #[.slice a l.length c] x.w (jA w (l.map Y5)):=by
 have HL:=A3 h;have HP:=A3 (show∀(a:Option Addr) (cap:Nat) (y:A7 w),Q7 y.w a (l.map Y5)→l.length≤cap→jA w (l.map Y5) (.returned (.slice a l.length cap)) y.w from fun a cap y h1 h2=>⟨a,cap,y,by rw[List.length_map],rfl,h1,by rw[List.length_map];exact h2⟩);generalize jA w (l.map Y5)=PO at *;clear h;obtain⟨n,hn⟩:∃n,n=l.length:=⟨_,rfl⟩
 rw[←hn]at HP⊢;have hn2:n≤100000:=by omega
 have Hn:=A3 hn;clear hn hl;go_enter Tryz.func85,Tryz.ntmps85;go_wp2_with fail;go_loopw [3,8] (fun v i wr=>∃(k:Nat) (y:A7 w),k≤n∧i= .int .i64 k∧wr=y.w∧y.w.ownsRow w.heap.size 156 2 v k (B4 B3.cs ((l.take k).map Y5))) (fun _ i _ =>n-(intOf i).toNat)
 case atStart=>exact⟨0,x,by omega,rfl,rfl,⟨rfl,.inl ⟨rfl,rfl⟩⟩⟩
 case round=>
  obtain⟨k,y,hk,rfl,rfl,hown⟩:=hrel;have I5:=A3 hown;clear hown;by_cases hlt:k<n
  ·obtain⟨e,he⟩:∃e,l[k]? =some e:=⟨_,A4 (by have:=Hn.out;omega)⟩
   have hk0:(0:Int)≤(k:Int):=by omega
   have hkl:(k:Int)<(n:Int):=by omega
   have Htk:=A3 (show(l.take (k+1)).map Y5=(l.take k).map Y5 ++ [Y5 e] by rw[List.take_add_one,he,List.map_append];rfl);obtain⟨b1,off1,rfl,h1'⟩:=D0.pse HL.out he;have ra0:=h1'.c0;have ra1:=h1'.c1;have ra2:=h1'.c2;have ra3:=h1'.c3;clear h1' he;go_upto_region 5 with fail;obtain⟨y2,e2,C9,hsz0,hlt0,HX0⟩:=L8 y [.int .i64 e.f0,.int .i64 e.f1,.int .i64 e.t0,.int .i64 e.t1] 44;rw[e2];obtain⟨hp0,hp1,hp2,hp3,hpf⟩:=dU HX0;(replace I5:=A3 (J8 I5.out C9))
   clear e2 C9;generalize y.w.heap.size=gp at *;obtain⟨Bt1,Bt2,Bt3,Bt4,Bt5⟩:=bO HX0;have Bt6:=A3 (And.intro hsz0 hlt0);clear hlt0 hsz0 HX0;go_wp2_with(at_builtin;(refine fM (w0:=w) ?hw rfl _ _ 110 rfl w.heap.size (Nat.le_refl _) ?hb 156 (.agg #[.int .i64 0,.int .i64 0]) 16 eV u3 k (B4 B3.cs ((l.take k).map Y5)) rfl ?hown ⟨y2.w.heap.size,0,none⟩ 1 1 (⟨e.f0,max e.f0 e.t1⟩:B3).cs rfl rfl ?hc (eU _) ?h63 ?hbytes ?_;rotate_right 1;intro v2 q2 hown4 _ hg4))
   case hw=>exact A8.alloc (A8.of y2) _
   case hb=>have:=y2.b.size;simp;omega
   case hown=>exact J8 I5.out (A8.alloc (A8.self _) _)
   case hc=>exact Z6 y2.w (⟨e.f0,max e.f0 e.t1⟩:B3).cs _
   case h63=>unfold maxLen;omega
   case hbytes=>omega
   rw[←Y1 B3.cs (⟨e.f0,max e.f0 e.t1⟩:B3),←U6]at hown4;have V8:=A3 hown4;clear hown4 hg4;go_wp2_with fail;go_roundw
   case rel=>exact⟨k+1,q2,by omega,by go_num,rfl,by rw[Htk.out];exact V8.out⟩
   case measure=>simp[intOf]<;>omega
  ·obtain rfl:k=n:=by omega
   obtain⟨hlen1,a5,c5,rfl,hc5,he5,_,_⟩:=O9 B3.len (by decide) I5.out;have hlk:((l.take k).map Y5).length=k:=by have:=Hn.out;simp;omega
   have htk:(l.take k).map Y5=l.map Y5:=by rw[List.take_of_length_le (by have:=Hn.out;omega)]
   rw[hlk]at hc5⊢;rw[htk]at he5;have H5:=A3 (HP.out a5 c5 y he5 hc5);clear hlen1 hc5 he5 hlk htk;go_wp2_with fail;exact H5.out
end
section
open Go.RowKit
theorem kK (w:World) (S:B3):Q7 (w.alloc (.cells #[.int .i64 S.f,.int .i64 S.t] 156)) (some ⟨w.heap.size,0,none⟩) [S]:=by
 intro i x hx
 cases i with
 |zero=>
  simp at hx;subst hx
  refine⟨w.heap.size,0,rfl,by simp,fun j v hv=>?_⟩
  have:=Z6 w S.cs 156 j v hv
  rw[Addr.add_lit]at this
  rw[show 0+0*2+j=0+j by omega]
  exact this
 |succ i=>simp at hx
def uG (W w:World) (n:Nat) (u:List B3) (o:Ending) (w':World):Prop:=
 ∃(a:Option Addr) (cap:Nat) (z:A7 W),o= .returned (.slice a n cap)∧w'=z.w∧(∃v:A7 w,z.w=v.w)∧Q7 z.w a u∧n≤cap
theorem Af4 {W w:World} (h:A8 W w) {n:Nat} {u:List B3} (hn:u.length=n) {o:Ending} {w':World} (k:jA w u o w'):uG W w n u o w':=by
 obtain⟨a,cap,y,ho,hw,hr,hc⟩:=k;obtain⟨z,hz⟩:=h;subst hz;subst hn;obtain⟨v,hv⟩:=z.trans y;exact⟨a,cap,v,ho,hw.trans hv,⟨y,hv.symm⟩,hv ▸ hr,hc⟩
theorem AM1 {W:World} (w':World) (hw:A8 W w') (a:Option Addr) (l:List I2) (c:Nat) (h:D0 I2.cs 4 W a l) (hl:l.length≤100000):
 Calls Tryz.prog 87 #[.slice a l.length c] w' (uG W w' l.length (l.map Y4)):=by
 have hs:=hw;obtain⟨z,rfl⟩:=hw;exact(AL9 z.w (A7.self z.w) a l c (A7.els h z) hl).mono fun o w'' k=>Af4 hs (by rw[List.length_map]) k
theorem AM2 {W:World} (w':World) (hw:A8 W w') (a:Option Addr) (l:List I2) (c:Nat) (h:D0 I2.cs 4 W a l) (hl:l.length≤100000):
 Calls Tryz.prog 85 #[.slice a l.length c] w' (uG W w' l.length (l.map Y5)):=by
 have hs:=hw;obtain⟨z,rfl⟩:=hw;exact(AM0 z.w (A7.self z.w) a l c (A7.els h z) hl).mono fun o w'' k=>Af4 hs (by rw[List.length_map]) k
theorem Af5 {w:World} {Q R:List B3→Prop} (h:∀c,Q c→R c) {e:Int} {o:Ending} {w':World} (k:O3 w Q e o w'):O3 w R e o w':=by
 obtain⟨a,cap,u,y,h1,h2,h3,h4,h5⟩:=k;exact⟨a,cap,u,y,h1,h2,h3,h4,h _ h5⟩
theorem kL {W w:World} {Q:List B3→Prop} (h:∃z:A7 W,w=z.w) {e:Int} {o:Ending} {w':World} (k:O3 w Q e o w'):O3 W Q e o w':=by
 obtain⟨a,cap,u,y,h1,h2,h3,h4,h5⟩:=k;obtain⟨z,rfl⟩:=h;obtain⟨v,hv⟩:=z.trans y;exact⟨a,cap,u,v,h1,h2.trans hv,hv ▸ h3,h4,h5⟩
theorem AM3 {W:World} (w':World) (hw:A8 W w') (p:Addr) (S:B3) (a1:Option Addr) (l:List B3) (n c1:Nat) (e:Int) (h1:Q7 w' (some p) [S]) (h2:Q7 w' a1 l) (hn:l.length=n) (hl:n≤100000) (he:setE [S] l=e):
 Calls Tryz.prog 86 #[.slice (some p) 1 1,.slice a1 n c1] w' (O3 W (gV [S] l) e):=by
 subst hn;subst he;exact(AK2 w' (A7.self w') (some p) [S] 1 a1 l c1 h1 h2 (by simp) hl).mono fun o w'' k=>kL hw k
theorem AM4 {W:World} (w':World) (hw:A8 W w') (p:Addr) (S:B3) (a1:Option Addr) (l:List B3) (n c1:Nat) (e:Int) (h1:Q7 w' (some p) [S]) (h2:Q7 w' a1 l) (hn:l.length=n) (hl:n≤100000) (he:setE [S] l=e):
 Calls Tryz.prog 84 #[.slice (some p) 1 1,.slice a1 n c1] w' (O3 W (gW [S] l) e):=by
 subst hn;subst he;exact(AK3 w' (A7.self w') (some p) [S] 1 a1 l c1 h1 h2 (by simp) hl).mono fun o w'' k=>kL hw k
theorem AM5 {r:A9} (h:I7 r=0) {c:List B3} (k:gV [Y3 r] (r.pauses.map Y4) c):Y6 (I7 r) (bV r) (1+r.pauses.length) c:=by
 have hr:=fW h;have hw:Y3 r=⟨r.s1,max r.s1 r.e0⟩:=if_pos h;have hb:(L4 [Y3 r] || L4 (r.pauses.map Y4))=false:=by
  rw[Ae2 hr,hw,pJ (pI hr)];rfl
 have hs:=k.ok hb;refine⟨fun _ =>⟨hs.n,fun t=>?_⟩,fun h'=>(h' h).elim,by have:=k.n;simpa using this⟩;rw[hs.h];show(E3 [Y3 r] t && _)= _;rw[iV];rfl
theorem AM6 {r:A9} (h:I7 r=0) {c:List B3} (k:gW [Y3 r] (r.pauses.map Y5) c):Y6 (I7 r) (bW r) (1+r.pauses.length) c:=by
 have hr:=fW h;have hw:Y3 r=⟨r.s1,max r.s1 r.e0⟩:=if_pos h;have hb:(L4 [Y3 r] || L4 (r.pauses.map Y5))=false:=by
  rw[Ae3 hr,hw,pJ (pI hr)];rfl
 have hs:=k.ok hb;refine⟨fun _ =>⟨hs.n,fun t=>?_⟩,fun h'=>(h' h).elim,by have:=k.n;simp at this;omega⟩;rw[hs.h];show(E3 [Y3 r] t && _)= _;rw[iV];rfl
theorem AM7 (w:World) (x:A7 w) (r:A9) (h:r.At w):
 Calls Tryz.prog 83 #[.agg #[.int .i64 r.id,.int .i64 r.rd,.int .i64 r.s0,.int .i64 r.s1,.int .i64 r.e0,.int .i64 r.e1,.bool r.op,.slice r.la r.legs.length r.lc,.slice r.pa r.pauses.length r.pc,.int .i64 r.fw,.int .i64 r.fp,.int .i64 r.wh,.int .i64 r.pl],.func (.func 86) #[] #[],.func (.func 87) #[.slice r.pa r.pauses.length r.pc] #[]] x.w (O3 w (Y6 (I7 r) (bV r) (1+r.pauses.length)) (I7 r)):=by
 have H:=A3 h;clear h;have Hc:=A3 (fun(w:World) (x:A7 w) (h:r.At w)=>Af3 w x r h);have Hno:=A3 (show∀y:A7 w,I7 r≠0→O3 w (Y6 (I7 r) (bV r) (1+r.pauses.length)) (I7 r) (.returned (.tuple #[.slice none 0 0,.int .i64 (I7 r)])) y.w from fun y h=>mJ ⟨fun h'=>(h h').elim,fun _ =>rfl,by simp⟩ y);have oA:=A3 (show I7 r=0→∀o w',O3 w (gV [Y3 r] (r.pauses.map Y4)) 0 o w'→O3 w (Y6 (I7 r) (bV r) (1+r.pauses.length)) (I7 r) o w' from fun h o w' k=>by
  have k2:=Af5 (R:=Y6 (I7 r) (bV r) (1+r.pauses.length)) (fun c hc=>AM5 h hc) k;rw[h]at k2⊢;exact k2)
 have Hpl:=A3 (fun h:I7 r=0=>(fW h).pn);have Hse:=A3 (show I7 r=0→setE [Y3 r] (r.pauses.map Y4)=0 from fun h=>by
  have hr:=fW h;unfold setE;rw[Ae2 hr,show Y3 r=⟨r.s1,max r.s1 r.e0⟩from if_pos h,pJ (pI hr)];rfl)
 generalize O3 w (Y6 (I7 r) (bV r) (1+r.pauses.length)) (I7 r)=PO at *;generalize Y3 r=S at *;generalize I7 r=E at *;go_enter Tryz.func83,Tryz.ntmps83;go_upto_region 1 with fail;obtain⟨W,bx,y0,hW,hbx,-,B8,Hup,Hbx,HB0⟩:=K7 x [.int .i64 r.id,.int .i64 r.rd,.int .i64 r.s0,.int .i64 r.s1,.int .i64 r.e0,.int .i64 r.e1,.bool r.op,.slice r.la r.legs.length r.lc,.slice r.pa r.pauses.length r.pc,.int .i64 r.fw,.int .i64 r.fp,.int .i64 r.wh,.int .i64 r.pl] 40;rw[hW,hbx];clear hW hbx;obtain⟨D9,E7,F9,G0,G8,K4,O0,Q6,R0,X7,X5,X6,i6,hf0⟩:=R5 HB0;clear HB0;replace H:=A3 (H.out.to B8);clear B8;go_upto_region 2 with(go_at_call 128;((with_reducible refine(Hc.out W y0 H.out).mono ?_);rintro _ _ ⟨rfl,y1,rfl⟩))
 obtain⟨y2,e2,C9,hsz0,hlt0,HX0⟩:=L8 y1 [.int .i64 S.f,.int .i64 S.t] 156;rw[e2];obtain⟨hs0,hs1,hsf⟩:=aC HX0;skip;clear e2 C9;generalize y1.w.heap.size=gs at *;obtain⟨nT,nU,xM⟩:=p8 HX0;have Bt7:=A3 (And.intro hsz0 hlt0);clear hlt0 hsz0 HX0;by_cases he:E=0
 ·have hpl:=Hpl.out he
  have xW:=A3 (Hse.out he);have xY:=A3 (oA.out he);subst he;have Hps:=A3 (fun(w':World) (hw:A8 y2.w w')=>AM1 w' hw r.pa r.pauses r.pc (A7.els H.out.p y2) (by omega));have xX:=A3 (show∀w',A8 y2.w w'→A8 w w' from fun w' h=>by obtain⟨z,rfl⟩:=h;obtain⟨u,hu⟩:=y2.trans z;rw[hu];exact Hup.out u);have Hlm:=A3 (show(r.pauses.map Y4).length=r.pauses.length from List.length_map _);have ka0:=fun w' (h:A8 y2.w w')=>A8.cell nT h;have ka1:=fun w' (h:A8 y2.w w')=>A8.cell nU h;clear Hc Hno oA Hpl Hse hs0 hs1 hsf nT nU xM D9 E7 F9 G0 G8 K4 O0 Q6 R0 X7 X5 X6 i6 hf0;go_upto_region 4 with fail;go_region_held3 (fun w'=>A8 y2.w w') (first|assumption|exact A8.drew' (A8.self _)|exact A8.of _|exact A8.alloc (A8.drew' (A8.self _)) _|exact A8.alloc (by assumption) _) (first|(go_at_call 87;((with_reducible refine(Hps.out _ (by assumption)).mono ?_);rintro _ _ ⟨a1,c1,z1,rfl,rfl,hz,hrow,hcap⟩))|(go_at_call 86;((with_reducible refine(AM3 _ (by assumption:A8 y2.w _) _ S a1 (r.pauses.map Y4) _ _ 0 ?ha ?hb Hlm.out (by omega) xW.out).mono ?_);(case ha=>first|exact((kK _ S).to (A8.drew' (A8.self _))).to hz|exact kK _ S|exact(kK _ S).to (A8.drew' (A8.self _)));(case hb=>first|exact hrow|exact hrow.to (A8.alloc (A8.self _) _));rintro _ _ ⟨a5,c5,u5,y5,rfl,rfl,hr5,hc5,hq5⟩)));all_goals
   have H5:=A3 (xY.out _ _ (kL (xX.out _ (A8.self _)) ⟨a5,c5,u5,y5,rfl,rfl,hr5,hc5,hq5⟩));clear hr5 hc5 hq5 hrow hz hcap;go_wp2_with fail;exact H5.out
 ·have hee:(E != 0)=true:=by simpa using he
  have lG:=A3 (fun y:A7 w=>Hno.out y he);clear he;go_wp2_with fail;obtain⟨z,hz⟩:=Hup.out y2;rw[hz];exact lG.out z
theorem AM8 (w:World) (x:A7 w) (r:A9) (h:r.At w):
 Calls Tryz.prog 83 #[.agg #[.int .i64 r.id,.int .i64 r.rd,.int .i64 r.s0,.int .i64 r.s1,.int .i64 r.e0,.int .i64 r.e1,.bool r.op,.slice r.la r.legs.length r.lc,.slice r.pa r.pauses.length r.pc,.int .i64 r.fw,.int .i64 r.fp,.int .i64 r.wh,.int .i64 r.pl],.func (.func 84) #[] #[],.func (.func 85) #[.slice r.pa r.pauses.length r.pc] #[]] x.w (O3 w (Y6 (I7 r) (bW r) (1+r.pauses.length)) (I7 r)):=by
 have H:=A3 h;clear h;have Hc:=A3 (fun(w:World) (x:A7 w) (h:r.At w)=>Af3 w x r h);have Hno:=A3 (show∀y:A7 w,I7 r≠0→O3 w (Y6 (I7 r) (bW r) (1+r.pauses.length)) (I7 r) (.returned (.tuple #[.slice none 0 0,.int .i64 (I7 r)])) y.w from fun y h=>mJ ⟨fun h'=>(h h').elim,fun _ =>rfl,by simp⟩ y);have oA:=A3 (show I7 r=0→∀o w',O3 w (gW [Y3 r] (r.pauses.map Y5)) 0 o w'→O3 w (Y6 (I7 r) (bW r) (1+r.pauses.length)) (I7 r) o w' from fun h o w' k=>by
  have k2:=Af5 (R:=Y6 (I7 r) (bW r) (1+r.pauses.length)) (fun c hc=>AM6 h hc) k;rw[h]at k2⊢;exact k2)
 have Hpl:=A3 (fun h:I7 r=0=>(fW h).pn);have Hse:=A3 (show I7 r=0→setE [Y3 r] (r.pauses.map Y5)=0 from fun h=>by
  have hr:=fW h;unfold setE;rw[Ae3 hr,show Y3 r=⟨r.s1,max r.s1 r.e0⟩from if_pos h,pJ (pI hr)];rfl)
 generalize O3 w (Y6 (I7 r) (bW r) (1+r.pauses.length)) (I7 r)=PO at *;generalize Y3 r=S at *;generalize I7 r=E at *;go_enter Tryz.func83,Tryz.ntmps83;go_upto_region 1 with fail;obtain⟨W,bx,y0,hW,hbx,-,B8,Hup,Hbx,HB0⟩:=K7 x [.int .i64 r.id,.int .i64 r.rd,.int .i64 r.s0,.int .i64 r.s1,.int .i64 r.e0,.int .i64 r.e1,.bool r.op,.slice r.la r.legs.length r.lc,.slice r.pa r.pauses.length r.pc,.int .i64 r.fw,.int .i64 r.fp,.int .i64 r.wh,.int .i64 r.pl] 40;rw[hW,hbx];clear hW hbx;obtain⟨D9,E7,F9,G0,G8,K4,O0,Q6,R0,X7,X5,X6,i6,hf0⟩:=R5 HB0;clear HB0;replace H:=A3 (H.out.to B8);clear B8;go_upto_region 2 with(go_at_call 128;((with_reducible refine(Hc.out W y0 H.out).mono ?_);rintro _ _ ⟨rfl,y1,rfl⟩))
 obtain⟨y2,e2,C9,hsz0,hlt0,HX0⟩:=L8 y1 [.int .i64 S.f,.int .i64 S.t] 156;rw[e2];obtain⟨hs0,hs1,hsf⟩:=aC HX0;skip;clear e2 C9;generalize y1.w.heap.size=gs at *;obtain⟨nT,nU,xM⟩:=p8 HX0;have Bt7:=A3 (And.intro hsz0 hlt0);clear hlt0 hsz0 HX0;by_cases he:E=0
 ·have hpl:=Hpl.out he
  have xW:=A3 (Hse.out he);have xY:=A3 (oA.out he);subst he;have Hps:=A3 (fun(w':World) (hw:A8 y2.w w')=>AM2 w' hw r.pa r.pauses r.pc (A7.els H.out.p y2) (by omega));have xX:=A3 (show∀w',A8 y2.w w'→A8 w w' from fun w' h=>by obtain⟨z,rfl⟩:=h;obtain⟨u,hu⟩:=y2.trans z;rw[hu];exact Hup.out u);have Hlm:=A3 (show(r.pauses.map Y5).length=r.pauses.length from List.length_map _);have ka0:=fun w' (h:A8 y2.w w')=>A8.cell nT h;have ka1:=fun w' (h:A8 y2.w w')=>A8.cell nU h;clear Hc Hno oA Hpl Hse hs0 hs1 hsf nT nU xM D9 E7 F9 G0 G8 K4 O0 Q6 R0 X7 X5 X6 i6 hf0;go_upto_region 4 with fail;go_region_held3 (fun w'=>A8 y2.w w') (first|assumption|exact A8.drew' (A8.self _)|exact A8.of _|exact A8.alloc (A8.drew' (A8.self _)) _|exact A8.alloc (by assumption) _) (first|(go_at_call 85;((with_reducible refine(Hps.out _ (by assumption)).mono ?_);rintro _ _ ⟨a1,c1,z1,rfl,rfl,hz,hrow,hcap⟩))|(go_at_call 84;((with_reducible refine(AM4 _ (by assumption:A8 y2.w _) _ S a1 (r.pauses.map Y5) _ _ 0 ?ha ?hb Hlm.out (by omega) xW.out).mono ?_);(case ha=>first|exact((kK _ S).to (A8.drew' (A8.self _))).to hz|exact kK _ S|exact(kK _ S).to (A8.drew' (A8.self _)));(case hb=>first|exact hrow|exact hrow.to (A8.alloc (A8.self _) _));rintro _ _ ⟨a5,c5,u5,y5,rfl,rfl,hr5,hc5,hq5⟩)));all_goals
   have H5:=A3 (xY.out _ _ (kL (xX.out _ (A8.self _)) ⟨a5,c5,u5,y5,rfl,rfl,hr5,hc5,hq5⟩));clear hr5 hc5 hq5 hrow hz hcap;go_wp2_with fail;exact H5.out
 ·have hee:(E != 0)=true:=by simpa using he
  have lG:=A3 (fun y:A7 w=>Hno.out y he);clear he;go_wp2_with fail;obtain⟨z,hz⟩:=Hup.out y2;rw[hz];exact lG.out z
theorem AM9 (w:World) (x:A7 w) (r:A9) (h:r.At w):
 Calls Tryz.prog 39 #[.agg #[.int .i64 r.id,.int .i64 r.rd,.int .i64 r.s0,.int .i64 r.s1,.int .i64 r.e0,.int .i64 r.e1,.bool r.op,.slice r.la r.legs.length r.lc,.slice r.pa r.pauses.length r.pc,.int .i64 r.fw,.int .i64 r.fp,.int .i64 r.wh,.int .i64 r.pl]] x.w (O3 w (Y6 (I7 r) (bV r) (1+r.pauses.length)) (I7 r)):=by
 have H:=A3 h;clear h;have Hc:=A3 (fun(w:World) (x:A7 w) (h:r.At w)=>AM7 w x r h);have bK:=A3 (fun(W:World) (hW:∃z:A7 w,W=z.w) o w' (k:O3 W (Y6 (I7 r) (bV r) (1+r.pauses.length)) (I7 r) o w')=>kL hW k);generalize O3 w (Y6 (I7 r) (bV r) (1+r.pauses.length)) (I7 r)=PO at *;go_enter Tryz.func39,Tryz.ntmps39;go_upto_region 1 with fail;obtain⟨W,bx,y0,hW,hbx,-,B8,Hup,Hbx,HB0⟩:=K7 x [.int .i64 r.id,.int .i64 r.rd,.int .i64 r.s0,.int .i64 r.s1,.int .i64 r.e0,.int .i64 r.e1,.bool r.op,.slice r.la r.legs.length r.lc,.slice r.pa r.pauses.length r.pc,.int .i64 r.fw,.int .i64 r.fp,.int .i64 r.wh,.int .i64 r.pl] 40;rw[hW,hbx];clear hW hbx;obtain⟨D9,E7,F9,G0,G8,K4,O0,Q6,R0,X7,X5,X6,i6,hf0⟩:=R5 HB0;clear HB0;replace H:=A3 (H.out.to B8);have HW:=A3 B8;clear B8;go_wp2_with(go_at_call 83;((with_reducible refine(Hc.out W y0 H.out).mono ?_);rintro _ _ ⟨ax,cx,u,y1,rfl,rfl,h1,h2,h3⟩;have H5:=A3 (bK.out W HW.out _ _ ⟨ax,cx,u,y1,rfl,rfl,h1,h2,h3⟩);clear h1 h2 h3));exact H5.out
theorem AN0 (w:World) (x:A7 w) (r:A9) (h:r.At w):
 Calls Tryz.prog 38 #[.agg #[.int .i64 r.id,.int .i64 r.rd,.int .i64 r.s0,.int .i64 r.s1,.int .i64 r.e0,.int .i64 r.e1,.bool r.op,.slice r.la r.legs.length r.lc,.slice r.pa r.pauses.length r.pc,.int .i64 r.fw,.int .i64 r.fp,.int .i64 r.wh,.int .i64 r.pl]] x.w (O3 w (Y6 (I7 r) (bW r) (1+r.pauses.length)) (I7 r)):=by
 have H:=A3 h;clear h;have Hc:=A3 (fun(w:World) (x:A7 w) (h:r.At w)=>AM8 w x r h);have bK:=A3 (fun(W:World) (hW:∃z:A7 w,W=z.w) o w' (k:O3 W (Y6 (I7 r) (bW r) (1+r.pauses.length)) (I7 r) o w')=>kL hW k);generalize O3 w (Y6 (I7 r) (bW r) (1+r.pauses.length)) (I7 r)=PO at *;go_enter Tryz.func38,Tryz.ntmps38;go_upto_region 1 with fail;obtain⟨W,bx,y0,hW,hbx,-,B8,Hup,Hbx,HB0⟩:=K7 x [.int .i64 r.id,.int .i64 r.rd,.int .i64 r.s0,.int .i64 r.s1,.int .i64 r.e0,.int .i64 r.e1,.bool r.op,.slice r.la r.legs.length r.lc,.slice r.pa r.pauses.length r.pc,.int .i64 r.fw,.int .i64 r.fp,.int .i64 r.wh,.int .i64 r.pl] 40;rw[hW,hbx];clear hW hbx;obtain⟨D9,E7,F9,G0,G8,K4,O0,Q6,R0,X7,X5,X6,i6,hf0⟩:=R5 HB0;clear HB0;replace H:=A3 (H.out.to B8);have HW:=A3 B8;clear B8;go_wp2_with(go_at_call 83;((with_reducible refine(Hc.out W y0 H.out).mono ?_);rintro _ _ ⟨ax,cx,u,y1,rfl,rfl,h1,h2,h3⟩;have H5:=A3 (bK.out W HW.out _ _ ⟨ax,cx,u,y1,rfl,rfl,h1,h2,h3⟩);clear h1 h2 h3));exact H5.out
end
section
open Go.RowKit
theorem X8.lenS {u:List B3} {S:Int→Bool} (h:X8 u S):V6 u=lenS S:=by rw[h.len,Af0]
theorem AN1 {l:List B3} (h:N3 l):L4 l=false:=iW.2 fun x hx=>(gP x).2 (by have:=h.v x hx;omega)
theorem AN2 {l u:List B3} {S:Int→Bool} (hl:X8 l S) (h:eW l u):j3 l=0∧V6 u=lenS S:=by
 have hb:=AN1 hl.n;refine⟨by unfold j3;rw[hb];rfl,?_⟩;have h2:=h.ok hb;have:u=l:=h2.unique ⟨hl.n,fun t=>rfl⟩;rw[this,hl.lenS]
def uH (w:World) (m n E:Int) (o:Ending) (w':World):Prop:=o= .returned (.tuple #[.int .i64 m,.int .i64 n,.int .i64 E])∧∃y:A7 w,w'=y.w
theorem AN3 {w w':World} {m n E a b e:Int} (y:A7 w) (hm:m=a) (hn:n=b) (hE:E=e) (hw:w'=y.w):uH w m n E (.returned (.tuple #[.int .i64 a,.int .i64 b,.int .i64 e])) w':=by
 subst hm;subst hn;subst hE;exact⟨rfl,y,hw⟩
def uI (W w:World) (Q:List B3→Prop) (e:Int) (o:Ending) (w':World):Prop:=
 ∃(a:Option Addr) (cap:Nat) (u:List B3) (z:A7 W),o= .returned (.tuple #[.slice a u.length cap,.int .i64 e])∧w'=z.w∧(∃v:A7 w,z.w=v.w)∧Q7 z.w a u∧u.length≤cap∧Q u
theorem Af6 {W w:World} (h:A8 W w) {Q:List B3→Prop} {e:Int} {o:Ending} {w':World} (k:O3 w Q e o w'):uI W w Q e o w':=by
 obtain⟨a,cap,u,y,ho,hw,hr,hc,hq⟩:=k;obtain⟨z,hz⟩:=h;subst hz;obtain⟨v,hv⟩:=z.trans y;exact⟨a,cap,u,v,ho,hw.trans hv,⟨y,hv.symm⟩,hv ▸ hr,hc,hq⟩
def AN4 (W w:World) (n e:Int) (o:Ending) (w':World):Prop:=o= .returned (.tuple #[.int .i64 n,.int .i64 e])∧∃z:A7 W,w'=z.w∧∃v:A7 w,z.w=v.w
theorem AN5 {W:World} (w':World) (hw:A8 W w') (r:A9) (h:r.At W):Calls Tryz.prog 38 #[.agg #[.int .i64 r.id,.int .i64 r.rd,.int .i64 r.s0,.int .i64 r.s1,.int .i64 r.e0,.int .i64 r.e1,.bool r.op,.slice r.la r.legs.length r.lc,.slice r.pa r.pauses.length r.pc,.int .i64 r.fw,.int .i64 r.fp,.int .i64 r.wh,.int .i64 r.pl]] w' (uI W w' (Y6 (I7 r) (bW r) (1+r.pauses.length)) (I7 r)):=
 (AN0 w' (A7.self w') r (h.to hw)).mono fun _ _ k=>Af6 hw k
theorem AN6 {W:World} (w':World) (hw:A8 W w') (r:A9) (h:r.At W):Calls Tryz.prog 39 #[.agg #[.int .i64 r.id,.int .i64 r.rd,.int .i64 r.s0,.int .i64 r.s1,.int .i64 r.e0,.int .i64 r.e1,.bool r.op,.slice r.la r.legs.length r.lc,.slice r.pa r.pauses.length r.pc,.int .i64 r.fw,.int .i64 r.fp,.int .i64 r.wh,.int .i64 r.pl]] w' (uI W w' (Y6 (I7 r) (bV r) (1+r.pauses.length)) (I7 r)):=
 (AM9 w' (A7.self w') r (h.to hw)).mono fun _ _ k=>Af6 hw k
theorem Af7 {W:World} (w':World) (hw:A8 W w') (a:Option Addr) (l:List B3) (c:Nat) (S:Int→Bool) (hS:X8 l S) (hr:Q7 w' a l) (hl:l.length≤100000):Calls Tryz.prog 40 #[.slice a l.length c] w' (AN4 W w' (lenS S) 0):=by
 refine(AK5 w' (A7.self w') a l c hr hl).mono ?_;rintro _ _ ⟨u,y,rfl,rfl,hu⟩;obtain⟨h1,h2⟩:=AN2 hS hu;obtain⟨z,hz⟩:=hw;subst hz;obtain⟨v,hv⟩:=z.trans y;exact⟨by rw[h1,h2],v,hv,y,hv.symm⟩
theorem AN7 (w:World) (x:A7 w) (r:A9) (h:r.At w):
 Calls Tryz.prog 11 #[.agg #[.int .i64 r.id,.int .i64 r.rd,.int .i64 r.s0,.int .i64 r.s1,.int .i64 r.e0,.int .i64 r.e1,.bool r.op,.slice r.la r.legs.length r.lc,.slice r.pa r.pauses.length r.pc,.int .i64 r.fw,.int .i64 r.fp,.int .i64 r.wh,.int .i64 r.pl]] x.w (uH w (T5 r) (f9 r) (I7 r)):=by
 have H:=A3 h;clear h;have Hok:=A3 (fun(h:I7 r=0) (u:List B3) (S:Int→Bool) (k:Y6 (I7 r) S (1+r.pauses.length) u)=>k.ok h);have Hm:=A3 (show T5 r=if I7 r=0 then lenS (bW r)else 0 from rfl);have Hn:=A3 (show f9 r=if I7 r=0 then lenS (bV r)else 0 from rfl);have bK:=A3 (fun(w':World) (a b e:Int) (y:A7 w) (hm:T5 r=a) (hn:f9 r=b) (hE:I7 r=e) (hw:w'=y.w)=>AN3 y hm hn hE hw);generalize uH w (T5 r) (f9 r) (I7 r)=PO at *;have Hpl:=A3 (fun h:I7 r=0=>(fW h).pn);have Hr:=A3 (fun(w:World) (h:r.At w) (w':World) (hw:A8 w w')=>AN5 w' hw r h);have Hp:=A3 (fun(w:World) (h:r.At w) (w':World) (hw:A8 w w')=>AN6 w' hw r h);generalize T5 r=sr at *;generalize f9 r=sp at *;generalize I7 r=E at *;go_enter Tryz.func11,Tryz.ntmps11;go_upto_region 1 with fail;obtain⟨W,bx,y0,hW,hbx,-,B8,Hup,Hbx,HB0⟩:=K7 x [.int .i64 r.id,.int .i64 r.rd,.int .i64 r.s0,.int .i64 r.s1,.int .i64 r.e0,.int .i64 r.e1,.bool r.op,.slice r.la r.legs.length r.lc,.slice r.pa r.pauses.length r.pc,.int .i64 r.fw,.int .i64 r.fp,.int .i64 r.wh,.int .i64 r.pl] 40;rw[hW,hbx];clear hW hbx;obtain⟨D9,E7,F9,G0,G8,K4,O0,Q6,R0,X7,X5,X6,i6,hf0⟩:=R5 HB0;clear HB0;replace H:=A3 (H.out.to B8);clear B8;by_cases he:E=0
 ·have hpl:=Hpl.out he
  have Av9:=A3 (Hok.out he);subst he;have HM:=A3 (show sr=lenS (bW r)from Hm.out);have HN:=A3 (show sp=lenS (bV r)from Hn.out);clear Hok Hm Hn;go_upto_region 2 with(go_at_call 38;((with_reducible refine(Hr.out W H.out _ (A8.of y0)).mono ?_);rintro _ _ ⟨ax,cx,u,y1,rfl,rfl,_,hu,_,hU⟩;have HU:=A3 hu;have HUo:=A3 (Av9.out _ _ hU);have hul:=hU.n;clear hu hU))
  go_upto_region 5 with(go_at_call 39;((with_reducible refine(Hp.out W H.out _ (A8.of y1)).mono ?_);rintro _ _ ⟨ay,cy,v,y2,rfl,rfl,hz2,hv,_,hV⟩;have HV:=A3 hv;have HVo:=A3 (Av9.out _ _ hV);have hvl:=hV.n;replace HU:=A3 (HU.out.to hz2);clear hv hV hz2))
  clear Hr Hp;go_upto_region 8 with(go_at_call 40;((with_reducible refine(Af7 (W:=W) _ (A8.of y2) ax u cx (bW r) HUo.out HU.out (by omega)).mono ?_);rintro _ _ ⟨rfl,y3,rfl,hz3⟩;replace HV:=A3 (HV.out.to hz3);clear hz3))
  go_wp2_with(go_at_call 40;((with_reducible refine(Af7 (W:=W) _ (A8.of y3) ay v cy (bV r) HVo.out HV.out (by omega)).mono ?_);rintro _ _ ⟨rfl,y4,rfl,_⟩));go_ret3
  obtain⟨z,hz⟩:=Hup.out y4;exact bK.out _ _ _ _ z HM.out HN.out rfl hz
 ·have hee:(E != 0)=true:=by simpa using he
  go_wp2_with(go_at_call 38;((with_reducible refine(Hr.out W H.out _ (A8.of y0)).mono ?_);rintro _ _ ⟨ax,cx,u,y1,rfl,rfl,_,hu,_,hU⟩;have HU:=A3 hu;have HUo:=A3 hU;clear hu hU));go_ret3
  obtain⟨z,hz⟩:=Hup.out y1;exact bK.out _ _ _ _ z (by rw[Hm.out,if_neg he]) (by rw[Hn.out,if_neg he]) rfl hz
end
end Go.Proofs.YtmmlmhnjjfnpnaaGreat
