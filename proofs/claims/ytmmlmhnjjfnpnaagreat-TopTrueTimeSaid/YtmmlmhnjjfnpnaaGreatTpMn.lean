/- Texts that belong together. -/
import Derived.Test.YtmmlmhnjjfnpnaaGreatTpMc
import Derived.Test.YtmmlmhnjjfnpnaaGreatTpMj
import Derived.Test.YtmmlmhnjjfnpnaaGreatTpMm
import Derived.IntWalk
set_option linter.all false
namespace Go.Proofs.YtmmlmhnjjfnpnaaGreat
open Go.RowKit
def WinRes (w:World) (S:Win) (E:Int) (o:Ending) (w':World):Prop:=o= .returned (.tuple #[.agg #[.int .i64 S.f,.int .i64 S.t],.int .i64 E])∧∃y:Since w,w'=y.w
theorem winRes {w w':World} {S:Win} {E:Int} {f t e:Int} (y:Since w) (hS:S=⟨f,t⟩) (hE:E=e) (hw:w'=y.w):WinRes w S E (.returned (.tuple #[.agg #[.int .i64 f,.int .i64 t],.int .i64 e])) w':=by
 subst hS;subst hE;exact⟨rfl,y,hw⟩
set_option maxRecDepth 100000 in
set_option maxHeartbeats 8000000 in
theorem sure_calls (w:World) (x:Since w) (r:Ride) (h:r.At w):
 Calls Tryz.prog 128 #[.agg #[.int .i64 r.id,.int .i64 r.rd,.int .i64 r.s0,.int .i64 r.s1,.int .i64 r.e0,.int .i64 r.e1,.bool r.op,.slice r.la r.legs.length r.lc,.slice r.pa r.pauses.length r.pc,.int .i64 r.fw,.int .i64 r.fp,.int .i64 r.wh,.int .i64 r.pl]] x.w (WinRes w (sureW r) (ivE r)):=by
 have H:=Lib.hid h;clear h;have hsw:sureW r=if ivE r=0 then⟨r.s1,max r.s1 r.e0⟩else⟨0,0⟩:=rfl;have hiv:ivE r=if rideE r=0 then(if r.op then 26 else 0)else rideE r:=rfl;have Hsw:=Lib.hid hsw;have Hiv:=Lib.hid hiv;clear hsw hiv;generalize sureW r=S at *;generalize ivE r=E at *;have Hc:=Lib.hid (fun(w:World) (x:Since w) (h:r.At w)=>check_calls w x r h);generalize hre:rideE r=e at *;clear hre;have Hpost:=Lib.hid (fun(w':World) (f t e:Int) (y:Since w) (hS:S=⟨f,t⟩) (hE:E=e) (hw:w'=y.w)=>winRes y hS hE hw);generalize WinRes w S E=PO at *;generalize r.op=op at *;go_enter Tryz.func128,Tryz.ntmps128;go_upto_region 1 with fail;obtain⟨W,bx,y0,hW,hbx,-,hWup,Hup,Hbx,HB0,HB1⟩:=heads2 x [.int .i64 r.id,.int .i64 r.rd,.int .i64 r.s0,.int .i64 r.s1,.int .i64 r.e0,.int .i64 r.e1,.bool op,.slice r.la r.legs.length r.lc,.slice r.pa r.pauses.length r.pc,.int .i64 r.fw,.int .i64 r.fp,.int .i64 r.wh,.int .i64 r.pl] 40 [.int .i64 0,.int .i64 0] 156;rw[hW,hbx];clear hW hbx;obtain⟨hb0_0,hb0_1,hb0_2,hb0_3,hb0_4,hb0_5,hb0_6,hb0_7,hb0_8,hb0_9,hb0_10,hb0_11,hb0_12,hf0⟩:=bx13 HB0;obtain⟨hb1_0,hb1_1,hf1⟩:=bx2 HB1;clear HB0 HB1;replace H:=Lib.hid (H.out.to hWup);clear hWup;by_cases he:e=0
 ·subst he
  cases op with
  |false=>
   have HE:=Lib.hid (show E=0 from Hiv.out)
   have HS:=Lib.hid (show S=⟨r.s1,max r.s1 r.e0⟩ by rw[Hsw.out,HE.out,if_pos rfl])
   go_wp2_with(go_at_call 9;((with_reducible refine(Hc.out W y0 H.out).mono ?_);rintro _ _ ⟨rfl,y1,rfl⟩))
   obtain⟨z,hz,h0,h1⟩:=set_two y1 (hb1_0 y1) (hb1_1 y1) (Hup.out y1) (by have:=Hbx.out;omega) (.int .i64 r.s1) (.int .i64 (max r.s1 r.e0))
   rw[hz]
   exact bodyPost_ret (v:=.tuple #[.agg #[.int .i64 r.s1,.int .i64 (max r.s1 r.e0)],.int .i64 0]) (by simp[results,Tryz.results128,go_sem,h0,h1]) rfl (Hpost.out _ _ _ _ z HS.out HE.out rfl)
  |true=>
   have HE:=Lib.hid (show E=26 from Hiv.out)
   have HS:=Lib.hid (show S=⟨0,0⟩ by rw[Hsw.out,HE.out];rfl)
   go_wp2_with(go_at_call 9;((with_reducible refine(Hc.out W y0 H.out).mono ?_);rintro _ _ ⟨rfl,y1,rfl⟩))
   obtain⟨z,hz,h0,h1⟩:=set_two y1 (hb1_0 y1) (hb1_1 y1) (Hup.out y1) (by have:=Hbx.out;omega) (.int .i64 0) (.int .i64 0)
   rw[hz]
   exact bodyPost_ret (v:=.tuple #[.agg #[.int .i64 0,.int .i64 0],.int .i64 26]) (by simp[results,Tryz.results128,go_sem,h0,h1]) rfl (Hpost.out _ _ _ _ z HS.out HE.out rfl)
 ·have hee:(e != 0)=true:=by simpa using he
  have HE:=Lib.hid (show E=e by rw[Hiv.out,if_neg he]);have HS:=Lib.hid (show S=⟨0,0⟩ by rw[Hsw.out,HE.out,if_neg he]);go_wp2_with(go_at_call 9;((with_reducible refine(Hc.out W y0 H.out).mono ?_);rintro _ _ ⟨rfl,y1,rfl⟩));obtain⟨z,hz,h0,h1⟩:=set_two y1 (hb1_0 y1) (hb1_1 y1) (Hup.out y1) (by have:=Hbx.out;omega) (.int .i64 0) (.int .i64 0);rw[hz];exact bodyPost_ret (v:=.tuple #[.agg #[.int .i64 0,.int .i64 0],.int .i64 e]) (by simp[results,Tryz.results128,go_sem,h0,h1]) rfl (Hpost.out _ _ _ _ z HS.out HE.out rfl)
end Go.Proofs.YtmmlmhnjjfnpnaaGreat
namespace Go.Proofs.YtmmlmhnjjfnpnaaGreat
open Go.RowKit
def ListRes (w:World) (u:List Win) (o:Ending) (w':World):Prop:=
 ∃(a:Option Addr) (cap:Nat) (y:Since w),o= .returned (.slice a u.length cap)∧w'=y.w∧WinRow y.w a u∧u.length≤cap
set_option maxRecDepth 100000 in
set_option maxHeartbeats 8000000 in
theorem psure_calls (w:World) (x:Since w) (a:Option Addr) (l:List Pse) (c:Nat) (h:Els Pse.cs 4 w a l) (hl:l.length≤100000):
 Calls Tryz.prog 87 #[.slice a l.length c] x.w (ListRes w (l.map sureP)):=by
 have HL:=Lib.hid h;have HP:=Lib.hid (show∀(a:Option Addr) (cap:Nat) (y:Since w),WinRow y.w a (l.map sureP)→l.length≤cap→ListRes w (l.map sureP) (.returned (.slice a l.length cap)) y.w from fun a cap y h1 h2=>⟨a,cap,y,by rw[List.length_map],rfl,h1,by rw[List.length_map];exact h2⟩);generalize ListRes w (l.map sureP)=PO at *;clear h;obtain⟨n,hn⟩:∃n,n=l.length:=⟨_,rfl⟩
 rw[←hn]at HP⊢;have hn2:n≤100000:=by omega
 have Hn:=Lib.hid hn;clear hn hl;go_enter Tryz.func87,Tryz.ntmps87;go_wp2_with fail;go_loopw [3,8] (fun v i wr=>∃(k:Nat) (y:Since w),k≤n∧i= .int .i64 k∧wr=y.w∧y.w.ownsRow w.heap.size 156 2 v k (flat Win.cs ((l.take k).map sureP))) (fun _ i _ =>n-(intOf i).toNat)
 case atStart=>exact⟨0,x,by omega,rfl,rfl,⟨rfl,.inl ⟨rfl,rfl⟩⟩⟩
 case round=>
  obtain⟨k,y,hk,rfl,rfl,hown⟩:=hrel;have Hown:=Lib.hid hown;clear hown;by_cases hlt:k<n
  ·obtain⟨e,he⟩:∃e,l[k]? =some e:=⟨_,List.getElem?_eq_getElem (by have:=Hn.out;omega)⟩
   have hk0:(0:Int)≤(k:Int):=by omega
   have hkl:(k:Int)<(n:Int):=by omega
   have Htk:=Lib.hid (show(l.take (k+1)).map sureP=(l.take k).map sureP ++ [sureP e] by rw[List.take_add_one,he,List.map_append];rfl);obtain⟨b1,off1,rfl,h1'⟩:=Els.pse HL.out he;have ra0:=h1'.c0;have ra1:=h1'.c1;have ra2:=h1'.c2;have ra3:=h1'.c3;clear h1' he;go_upto_region 5 with fail;obtain⟨y2,e2,hst0,hsz0,hlt0,HX0⟩:=grow1 y [.int .i64 e.f0,.int .i64 e.f1,.int .i64 e.t0,.int .i64 e.t1] 44;rw[e2];obtain⟨hp0,hp1,hp2,hp3,hpf⟩:=cx4 HX0;(replace Hown:=Lib.hid (own_to Hown.out hst0))
   clear e2 hst0;generalize y.w.heap.size=gp at *;obtain⟨Hhp0,Hhp1,Hhp2,Hhp3,Hhpf⟩:=bx4 HX0;have Hhpg:=Lib.hid (And.intro hsz0 hlt0);clear hlt0 hsz0 HX0;go_wp2_with(at_builtin;(refine wpList_appendK (w0:=w) ?hw rfl _ _ 110 rfl w.heap.size (Nat.le_refl _) ?hb 156 (.agg #[.int .i64 0,.int .i64 0]) 16 sWin u3 k (flat Win.cs ((l.take k).map sureP)) rfl ?hown ⟨y2.w.heap.size,0,none⟩ 1 1 (⟨e.f1,max e.f1 e.t0⟩:Win).cs rfl rfl ?hc (win_one _) ?h63 ?hbytes ?_;rotate_right 1;intro v2 q2 hown4 _ hg4))
   case hw=>exact IsSince.alloc (IsSince.of y2) _
   case hb=>have:=y2.b.size;simp;omega
   case hown=>exact own_to Hown.out (IsSince.alloc (IsSince.self _) _)
   case hc=>exact cell_new_at y2.w (⟨e.f1,max e.f1 e.t0⟩:Win).cs _
   case h63=>unfold maxLen;omega
   case hbytes=>omega
   rw[←flat_one Win.cs (⟨e.f1,max e.f1 e.t0⟩:Win),←flat_append]at hown4;have Hown4:=Lib.hid hown4;clear hown4 hg4;go_wp2_with fail;go_roundw
   case rel=>exact⟨k+1,q2,by omega,by go_num,rfl,by rw[Htk.out];exact Hown4.out⟩
   case measure=>simp[intOf]<;>omega
  ·obtain rfl:k=n:=by omega
   obtain⟨hlen1,a5,c5,rfl,hc5,he5,_,_⟩:=own_els Win.len (by decide) Hown.out;have hlk:((l.take k).map sureP).length=k:=by have:=Hn.out;simp;omega
   have htk:(l.take k).map sureP=l.map sureP:=by rw[List.take_of_length_le (by have:=Hn.out;omega)]
   rw[hlk]at hc5⊢;rw[htk]at he5;have H5:=Lib.hid (HP.out a5 c5 y he5 hc5);clear hlen1 hc5 he5 hlk htk;go_wp2_with fail;exact H5.out
set_option maxRecDepth 100000 in
set_option maxHeartbeats 8000000 in
theorem pposs_calls (w:World) (x:Since w) (a:Option Addr) (l:List Pse) (c:Nat) (h:Els Pse.cs 4 w a l) (hl:l.length≤100000):
 Calls Tryz.prog 85 #[.slice a l.length c] x.w (ListRes w (l.map possP)):=by
 have HL:=Lib.hid h;have HP:=Lib.hid (show∀(a:Option Addr) (cap:Nat) (y:Since w),WinRow y.w a (l.map possP)→l.length≤cap→ListRes w (l.map possP) (.returned (.slice a l.length cap)) y.w from fun a cap y h1 h2=>⟨a,cap,y,by rw[List.length_map],rfl,h1,by rw[List.length_map];exact h2⟩);generalize ListRes w (l.map possP)=PO at *;clear h;obtain⟨n,hn⟩:∃n,n=l.length:=⟨_,rfl⟩
 rw[←hn]at HP⊢;have hn2:n≤100000:=by omega
 have Hn:=Lib.hid hn;clear hn hl;go_enter Tryz.func85,Tryz.ntmps85;go_wp2_with fail;go_loopw [3,8] (fun v i wr=>∃(k:Nat) (y:Since w),k≤n∧i= .int .i64 k∧wr=y.w∧y.w.ownsRow w.heap.size 156 2 v k (flat Win.cs ((l.take k).map possP))) (fun _ i _ =>n-(intOf i).toNat)
 case atStart=>exact⟨0,x,by omega,rfl,rfl,⟨rfl,.inl ⟨rfl,rfl⟩⟩⟩
 case round=>
  obtain⟨k,y,hk,rfl,rfl,hown⟩:=hrel;have Hown:=Lib.hid hown;clear hown;by_cases hlt:k<n
  ·obtain⟨e,he⟩:∃e,l[k]? =some e:=⟨_,List.getElem?_eq_getElem (by have:=Hn.out;omega)⟩
   have hk0:(0:Int)≤(k:Int):=by omega
   have hkl:(k:Int)<(n:Int):=by omega
   have Htk:=Lib.hid (show(l.take (k+1)).map possP=(l.take k).map possP ++ [possP e] by rw[List.take_add_one,he,List.map_append];rfl);obtain⟨b1,off1,rfl,h1'⟩:=Els.pse HL.out he;have ra0:=h1'.c0;have ra1:=h1'.c1;have ra2:=h1'.c2;have ra3:=h1'.c3;clear h1' he;go_upto_region 5 with fail;obtain⟨y2,e2,hst0,hsz0,hlt0,HX0⟩:=grow1 y [.int .i64 e.f0,.int .i64 e.f1,.int .i64 e.t0,.int .i64 e.t1] 44;rw[e2];obtain⟨hp0,hp1,hp2,hp3,hpf⟩:=cx4 HX0;(replace Hown:=Lib.hid (own_to Hown.out hst0))
   clear e2 hst0;generalize y.w.heap.size=gp at *;obtain⟨Hhp0,Hhp1,Hhp2,Hhp3,Hhpf⟩:=bx4 HX0;have Hhpg:=Lib.hid (And.intro hsz0 hlt0);clear hlt0 hsz0 HX0;go_wp2_with(at_builtin;(refine wpList_appendK (w0:=w) ?hw rfl _ _ 110 rfl w.heap.size (Nat.le_refl _) ?hb 156 (.agg #[.int .i64 0,.int .i64 0]) 16 sWin u3 k (flat Win.cs ((l.take k).map possP)) rfl ?hown ⟨y2.w.heap.size,0,none⟩ 1 1 (⟨e.f0,max e.f0 e.t1⟩:Win).cs rfl rfl ?hc (win_one _) ?h63 ?hbytes ?_;rotate_right 1;intro v2 q2 hown4 _ hg4))
   case hw=>exact IsSince.alloc (IsSince.of y2) _
   case hb=>have:=y2.b.size;simp;omega
   case hown=>exact own_to Hown.out (IsSince.alloc (IsSince.self _) _)
   case hc=>exact cell_new_at y2.w (⟨e.f0,max e.f0 e.t1⟩:Win).cs _
   case h63=>unfold maxLen;omega
   case hbytes=>omega
   rw[←flat_one Win.cs (⟨e.f0,max e.f0 e.t1⟩:Win),←flat_append]at hown4;have Hown4:=Lib.hid hown4;clear hown4 hg4;go_wp2_with fail;go_roundw
   case rel=>exact⟨k+1,q2,by omega,by go_num,rfl,by rw[Htk.out];exact Hown4.out⟩
   case measure=>simp[intOf]<;>omega
  ·obtain rfl:k=n:=by omega
   obtain⟨hlen1,a5,c5,rfl,hc5,he5,_,_⟩:=own_els Win.len (by decide) Hown.out;have hlk:((l.take k).map possP).length=k:=by have:=Hn.out;simp;omega
   have htk:(l.take k).map possP=l.map possP:=by rw[List.take_of_length_le (by have:=Hn.out;omega)]
   rw[hlk]at hc5⊢;rw[htk]at he5;have H5:=Lib.hid (HP.out a5 c5 y he5 hc5);clear hlen1 hc5 he5 hlk htk;go_wp2_with fail;exact H5.out
end Go.Proofs.YtmmlmhnjjfnpnaaGreat
namespace Go.Proofs.YtmmlmhnjjfnpnaaGreat
open Go.RowKit
theorem els_one (w:World) (S:Win):WinRow (w.alloc (.cells #[.int .i64 S.f,.int .i64 S.t] 156)) (some ⟨w.heap.size,0,none⟩) [S]:=by
 intro i x hx
 cases i with
 |zero=>
  simp at hx;subst hx
  refine⟨w.heap.size,0,rfl,by simp,fun j v hv=>?_⟩
  have:=cell_new_at w S.cs 156 j v hv
  rw[Addr.add_lit]at this
  rw[show 0+0*2+j=0+j by omega]
  exact this
 |succ i=>simp at hx
def ListResS (W w:World) (n:Nat) (u:List Win) (o:Ending) (w':World):Prop:=
 ∃(a:Option Addr) (cap:Nat) (z:Since W),o= .returned (.slice a n cap)∧w'=z.w∧(∃v:Since w,z.w=v.w)∧WinRow z.w a u∧n≤cap
theorem listResS {W w:World} (h:IsSince W w) {n:Nat} {u:List Win} (hn:u.length=n) {o:Ending} {w':World} (k:ListRes w u o w'):ListResS W w n u o w':=by
 obtain⟨a,cap,y,ho,hw,hr,hc⟩:=k;obtain⟨z,hz⟩:=h;subst hz;subst hn;obtain⟨v,hv⟩:=z.trans y;exact⟨a,cap,v,ho,hw.trans hv,⟨y,hv.symm⟩,hv ▸ hr,hc⟩
theorem psure_s {W:World} (w':World) (hw:IsSince W w') (a:Option Addr) (l:List Pse) (c:Nat) (h:Els Pse.cs 4 W a l) (hl:l.length≤100000):
 Calls Tryz.prog 87 #[.slice a l.length c] w' (ListResS W w' l.length (l.map sureP)):=by
 have hs:=hw;obtain⟨z,rfl⟩:=hw;exact(psure_calls z.w (Since.self z.w) a l c (Since.els h z) hl).mono fun o w'' k=>listResS hs (by rw[List.length_map]) k
theorem pposs_s {W:World} (w':World) (hw:IsSince W w') (a:Option Addr) (l:List Pse) (c:Nat) (h:Els Pse.cs 4 W a l) (hl:l.length≤100000):
 Calls Tryz.prog 85 #[.slice a l.length c] w' (ListResS W w' l.length (l.map possP)):=by
 have hs:=hw;obtain⟨z,rfl⟩:=hw;exact(pposs_calls z.w (Since.self z.w) a l c (Since.els h z) hl).mono fun o w'' k=>listResS hs (by rw[List.length_map]) k
theorem setRes_mono {w:World} {Q R:List Win→Prop} (h:∀c,Q c→R c) {e:Int} {o:Ending} {w':World} (k:SetRes w Q e o w'):SetRes w R e o w':=by
 obtain⟨a,cap,u,y,h1,h2,h3,h4,h5⟩:=k;exact⟨a,cap,u,y,h1,h2,h3,h4,h _ h5⟩
theorem setRes_up {W w:World} {Q:List Win→Prop} (h:∃z:Since W,w=z.w) {e:Int} {o:Ending} {w':World} (k:SetRes w Q e o w'):SetRes W Q e o w':=by
 obtain⟨a,cap,u,y,h1,h2,h3,h4,h5⟩:=k;obtain⟨z,rfl⟩:=h;obtain⟨v,hv⟩:=z.trans y;exact⟨a,cap,u,v,h1,h2.trans hv,hv ▸ h3,h4,h5⟩
theorem commonP_s {W:World} (w':World) (hw:IsSince W w') (p:Addr) (S:Win) (a1:Option Addr) (l:List Win) (n c1:Nat) (e:Int) (h1:WinRow w' (some p) [S]) (h2:WinRow w' a1 l) (hn:l.length=n) (hl:n≤100000) (he:setE [S] l=e):
 Calls Tryz.prog 86 #[.slice (some p) 1 1,.slice a1 n c1] w' (SetRes W (ComOk [S] l) e):=by
 subst hn;subst he;exact(common_calls w' (Since.self w') (some p) [S] 1 a1 l c1 h1 h2 (by simp) hl).mono fun o w'' k=>setRes_up hw k
theorem minusP_s {W:World} (w':World) (hw:IsSince W w') (p:Addr) (S:Win) (a1:Option Addr) (l:List Win) (n c1:Nat) (e:Int) (h1:WinRow w' (some p) [S]) (h2:WinRow w' a1 l) (hn:l.length=n) (hl:n≤100000) (he:setE [S] l=e):
 Calls Tryz.prog 84 #[.slice (some p) 1 1,.slice a1 n c1] w' (SetRes W (MinOk [S] l) e):=by
 subst hn;subst he;exact(minus_calls w' (Since.self w') (some p) [S] 1 a1 l c1 h1 h2 (by simp) hl).mono fun o w'' k=>setRes_up hw k
theorem pau_of {r:Ride} (h:ivE r=0) {c:List Win} (k:ComOk [sureW r] (r.pauses.map sureP) c):SetOk (ivE r) (pauS r) (1+r.pauses.length) c:=by
 have hr:=rideOk_of h;have hw:sureW r=⟨r.s1,max r.s1 r.e0⟩:=if_pos h;have hb:(badW [sureW r] || badW (r.pauses.map sureP))=false:=by
  rw[sureP_good hr,hw,badW_one (sureW_vld hr)];rfl
 have hs:=k.ok hb;refine⟨fun _ =>⟨hs.n,fun t=>?_⟩,fun h'=>(h' h).elim,by have:=k.n;simpa using this⟩;rw[hs.h];show(hasW [sureW r] t && _)= _;rw[hasW_one];rfl
theorem rid_of {r:Ride} (h:ivE r=0) {c:List Win} (k:MinOk [sureW r] (r.pauses.map possP) c):SetOk (ivE r) (ridS r) (1+r.pauses.length) c:=by
 have hr:=rideOk_of h;have hw:sureW r=⟨r.s1,max r.s1 r.e0⟩:=if_pos h;have hb:(badW [sureW r] || badW (r.pauses.map possP))=false:=by
  rw[possP_good hr,hw,badW_one (sureW_vld hr)];rfl
 have hs:=k.ok hb;refine⟨fun _ =>⟨hs.n,fun t=>?_⟩,fun h'=>(h' h).elim,by have:=k.n;simp at this;omega⟩;rw[hs.h];show(hasW [sureW r] t && _)= _;rw[hasW_one];rfl
set_option maxRecDepth 100000 in
set_option maxHeartbeats 8000000 in
theorem partP_calls (w:World) (x:Since w) (r:Ride) (h:r.At w):
 Calls Tryz.prog 83 #[.agg #[.int .i64 r.id,.int .i64 r.rd,.int .i64 r.s0,.int .i64 r.s1,.int .i64 r.e0,.int .i64 r.e1,.bool r.op,.slice r.la r.legs.length r.lc,.slice r.pa r.pauses.length r.pc,.int .i64 r.fw,.int .i64 r.fp,.int .i64 r.wh,.int .i64 r.pl],.func (.func 86) #[] #[],.func (.func 87) #[.slice r.pa r.pauses.length r.pc] #[]] x.w (SetRes w (SetOk (ivE r) (pauS r) (1+r.pauses.length)) (ivE r)):=by
 have H:=Lib.hid h;clear h;have Hc:=Lib.hid (fun(w:World) (x:Since w) (h:r.At w)=>sure_calls w x r h);have Hno:=Lib.hid (show∀y:Since w,ivE r≠0→SetRes w (SetOk (ivE r) (pauS r) (1+r.pauses.length)) (ivE r) (.returned (.tuple #[.slice none 0 0,.int .i64 (ivE r)])) y.w from fun y h=>setRes_nil ⟨fun h'=>(h h').elim,fun _ =>rfl,by simp⟩ y);have Hyes:=Lib.hid (show ivE r=0→∀o w',SetRes w (ComOk [sureW r] (r.pauses.map sureP)) 0 o w'→SetRes w (SetOk (ivE r) (pauS r) (1+r.pauses.length)) (ivE r) o w' from fun h o w' k=>by
  have k2:=setRes_mono (R:=SetOk (ivE r) (pauS r) (1+r.pauses.length)) (fun c hc=>pau_of h hc) k;rw[h]at k2⊢;exact k2)
 have Hpl:=Lib.hid (fun h:ivE r=0=>(rideOk_of h).pn);have Hse:=Lib.hid (show ivE r=0→setE [sureW r] (r.pauses.map sureP)=0 from fun h=>by
  have hr:=rideOk_of h;unfold setE;rw[sureP_good hr,show sureW r=⟨r.s1,max r.s1 r.e0⟩from if_pos h,badW_one (sureW_vld hr)];rfl)
 generalize SetRes w (SetOk (ivE r) (pauS r) (1+r.pauses.length)) (ivE r)=PO at *;generalize sureW r=S at *;generalize ivE r=E at *;go_enter Tryz.func83,Tryz.ntmps83;go_upto_region 1 with fail;obtain⟨W,bx,y0,hW,hbx,-,hWup,Hup,Hbx,HB0⟩:=heads1 x [.int .i64 r.id,.int .i64 r.rd,.int .i64 r.s0,.int .i64 r.s1,.int .i64 r.e0,.int .i64 r.e1,.bool r.op,.slice r.la r.legs.length r.lc,.slice r.pa r.pauses.length r.pc,.int .i64 r.fw,.int .i64 r.fp,.int .i64 r.wh,.int .i64 r.pl] 40;rw[hW,hbx];clear hW hbx;obtain⟨hb0_0,hb0_1,hb0_2,hb0_3,hb0_4,hb0_5,hb0_6,hb0_7,hb0_8,hb0_9,hb0_10,hb0_11,hb0_12,hf0⟩:=bx13 HB0;clear HB0;replace H:=Lib.hid (H.out.to hWup);clear hWup;go_upto_region 2 with(go_at_call 128;((with_reducible refine(Hc.out W y0 H.out).mono ?_);rintro _ _ ⟨rfl,y1,rfl⟩))
 obtain⟨y2,e2,hst0,hsz0,hlt0,HX0⟩:=grow1 y1 [.int .i64 S.f,.int .i64 S.t] 156;rw[e2];obtain⟨hs0,hs1,hsf⟩:=cx2 HX0;skip;clear e2 hst0;generalize y1.w.heap.size=gs at *;obtain⟨Hhs0,Hhs1,Hhsf⟩:=bx2 HX0;have Hhsg:=Lib.hid (And.intro hsz0 hlt0);clear hlt0 hsz0 HX0;by_cases he:E=0
 ·have hpl:=Hpl.out he
  have Hse2:=Lib.hid (Hse.out he);have Hyes2:=Lib.hid (Hyes.out he);subst he;have Hps:=Lib.hid (fun(w':World) (hw:IsSince y2.w w')=>psure_s w' hw r.pa r.pauses r.pc (Since.els H.out.p y2) (by omega));have Hup2:=Lib.hid (show∀w',IsSince y2.w w'→IsSince w w' from fun w' h=>by obtain⟨z,rfl⟩:=h;obtain⟨u,hu⟩:=y2.trans z;rw[hu];exact Hup.out u);have Hlm:=Lib.hid (show(r.pauses.map sureP).length=r.pauses.length from List.length_map _);have ka0:=fun w' (h:IsSince y2.w w')=>IsSince.cell Hhs0 h;have ka1:=fun w' (h:IsSince y2.w w')=>IsSince.cell Hhs1 h;clear Hc Hno Hyes Hpl Hse hs0 hs1 hsf Hhs0 Hhs1 Hhsf hb0_0 hb0_1 hb0_2 hb0_3 hb0_4 hb0_5 hb0_6 hb0_7 hb0_8 hb0_9 hb0_10 hb0_11 hb0_12 hf0;go_upto_region 4 with fail;go_region_held3 (fun w'=>IsSince y2.w w') (first|assumption|exact IsSince.drew' (IsSince.self _)|exact IsSince.of _|exact IsSince.alloc (IsSince.drew' (IsSince.self _)) _|exact IsSince.alloc (by assumption) _) (first|(go_at_call 87;((with_reducible refine(Hps.out _ (by assumption)).mono ?_);rintro _ _ ⟨a1,c1,z1,rfl,rfl,hz,hrow,hcap⟩))|(go_at_call 86;((with_reducible refine(commonP_s _ (by assumption:IsSince y2.w _) _ S a1 (r.pauses.map sureP) _ _ 0 ?ha ?hb Hlm.out (by omega) Hse2.out).mono ?_);(case ha=>first|exact((els_one _ S).to (IsSince.drew' (IsSince.self _))).to hz|exact els_one _ S|exact(els_one _ S).to (IsSince.drew' (IsSince.self _)));(case hb=>first|exact hrow|exact hrow.to (IsSince.alloc (IsSince.self _) _));rintro _ _ ⟨a5,c5,u5,y5,rfl,rfl,hr5,hc5,hq5⟩)));all_goals
   have H5:=Lib.hid (Hyes2.out _ _ (setRes_up (Hup2.out _ (IsSince.self _)) ⟨a5,c5,u5,y5,rfl,rfl,hr5,hc5,hq5⟩));clear hr5 hc5 hq5 hrow hz hcap;go_wp2_with fail;exact H5.out
 ·have hee:(E != 0)=true:=by simpa using he
  have Hno2:=Lib.hid (fun y:Since w=>Hno.out y he);clear he;go_wp2_with fail;obtain⟨z,hz⟩:=Hup.out y2;rw[hz];exact Hno2.out z
set_option maxRecDepth 100000 in
set_option maxHeartbeats 8000000 in
theorem partR_calls (w:World) (x:Since w) (r:Ride) (h:r.At w):
 Calls Tryz.prog 83 #[.agg #[.int .i64 r.id,.int .i64 r.rd,.int .i64 r.s0,.int .i64 r.s1,.int .i64 r.e0,.int .i64 r.e1,.bool r.op,.slice r.la r.legs.length r.lc,.slice r.pa r.pauses.length r.pc,.int .i64 r.fw,.int .i64 r.fp,.int .i64 r.wh,.int .i64 r.pl],.func (.func 84) #[] #[],.func (.func 85) #[.slice r.pa r.pauses.length r.pc] #[]] x.w (SetRes w (SetOk (ivE r) (ridS r) (1+r.pauses.length)) (ivE r)):=by
 have H:=Lib.hid h;clear h;have Hc:=Lib.hid (fun(w:World) (x:Since w) (h:r.At w)=>sure_calls w x r h);have Hno:=Lib.hid (show∀y:Since w,ivE r≠0→SetRes w (SetOk (ivE r) (ridS r) (1+r.pauses.length)) (ivE r) (.returned (.tuple #[.slice none 0 0,.int .i64 (ivE r)])) y.w from fun y h=>setRes_nil ⟨fun h'=>(h h').elim,fun _ =>rfl,by simp⟩ y);have Hyes:=Lib.hid (show ivE r=0→∀o w',SetRes w (MinOk [sureW r] (r.pauses.map possP)) 0 o w'→SetRes w (SetOk (ivE r) (ridS r) (1+r.pauses.length)) (ivE r) o w' from fun h o w' k=>by
  have k2:=setRes_mono (R:=SetOk (ivE r) (ridS r) (1+r.pauses.length)) (fun c hc=>rid_of h hc) k;rw[h]at k2⊢;exact k2)
 have Hpl:=Lib.hid (fun h:ivE r=0=>(rideOk_of h).pn);have Hse:=Lib.hid (show ivE r=0→setE [sureW r] (r.pauses.map possP)=0 from fun h=>by
  have hr:=rideOk_of h;unfold setE;rw[possP_good hr,show sureW r=⟨r.s1,max r.s1 r.e0⟩from if_pos h,badW_one (sureW_vld hr)];rfl)
 generalize SetRes w (SetOk (ivE r) (ridS r) (1+r.pauses.length)) (ivE r)=PO at *;generalize sureW r=S at *;generalize ivE r=E at *;go_enter Tryz.func83,Tryz.ntmps83;go_upto_region 1 with fail;obtain⟨W,bx,y0,hW,hbx,-,hWup,Hup,Hbx,HB0⟩:=heads1 x [.int .i64 r.id,.int .i64 r.rd,.int .i64 r.s0,.int .i64 r.s1,.int .i64 r.e0,.int .i64 r.e1,.bool r.op,.slice r.la r.legs.length r.lc,.slice r.pa r.pauses.length r.pc,.int .i64 r.fw,.int .i64 r.fp,.int .i64 r.wh,.int .i64 r.pl] 40;rw[hW,hbx];clear hW hbx;obtain⟨hb0_0,hb0_1,hb0_2,hb0_3,hb0_4,hb0_5,hb0_6,hb0_7,hb0_8,hb0_9,hb0_10,hb0_11,hb0_12,hf0⟩:=bx13 HB0;clear HB0;replace H:=Lib.hid (H.out.to hWup);clear hWup;go_upto_region 2 with(go_at_call 128;((with_reducible refine(Hc.out W y0 H.out).mono ?_);rintro _ _ ⟨rfl,y1,rfl⟩))
 obtain⟨y2,e2,hst0,hsz0,hlt0,HX0⟩:=grow1 y1 [.int .i64 S.f,.int .i64 S.t] 156;rw[e2];obtain⟨hs0,hs1,hsf⟩:=cx2 HX0;skip;clear e2 hst0;generalize y1.w.heap.size=gs at *;obtain⟨Hhs0,Hhs1,Hhsf⟩:=bx2 HX0;have Hhsg:=Lib.hid (And.intro hsz0 hlt0);clear hlt0 hsz0 HX0;by_cases he:E=0
 ·have hpl:=Hpl.out he
  have Hse2:=Lib.hid (Hse.out he);have Hyes2:=Lib.hid (Hyes.out he);subst he;have Hps:=Lib.hid (fun(w':World) (hw:IsSince y2.w w')=>pposs_s w' hw r.pa r.pauses r.pc (Since.els H.out.p y2) (by omega));have Hup2:=Lib.hid (show∀w',IsSince y2.w w'→IsSince w w' from fun w' h=>by obtain⟨z,rfl⟩:=h;obtain⟨u,hu⟩:=y2.trans z;rw[hu];exact Hup.out u);have Hlm:=Lib.hid (show(r.pauses.map possP).length=r.pauses.length from List.length_map _);have ka0:=fun w' (h:IsSince y2.w w')=>IsSince.cell Hhs0 h;have ka1:=fun w' (h:IsSince y2.w w')=>IsSince.cell Hhs1 h;clear Hc Hno Hyes Hpl Hse hs0 hs1 hsf Hhs0 Hhs1 Hhsf hb0_0 hb0_1 hb0_2 hb0_3 hb0_4 hb0_5 hb0_6 hb0_7 hb0_8 hb0_9 hb0_10 hb0_11 hb0_12 hf0;go_upto_region 4 with fail;go_region_held3 (fun w'=>IsSince y2.w w') (first|assumption|exact IsSince.drew' (IsSince.self _)|exact IsSince.of _|exact IsSince.alloc (IsSince.drew' (IsSince.self _)) _|exact IsSince.alloc (by assumption) _) (first|(go_at_call 85;((with_reducible refine(Hps.out _ (by assumption)).mono ?_);rintro _ _ ⟨a1,c1,z1,rfl,rfl,hz,hrow,hcap⟩))|(go_at_call 84;((with_reducible refine(minusP_s _ (by assumption:IsSince y2.w _) _ S a1 (r.pauses.map possP) _ _ 0 ?ha ?hb Hlm.out (by omega) Hse2.out).mono ?_);(case ha=>first|exact((els_one _ S).to (IsSince.drew' (IsSince.self _))).to hz|exact els_one _ S|exact(els_one _ S).to (IsSince.drew' (IsSince.self _)));(case hb=>first|exact hrow|exact hrow.to (IsSince.alloc (IsSince.self _) _));rintro _ _ ⟨a5,c5,u5,y5,rfl,rfl,hr5,hc5,hq5⟩)));all_goals
   have H5:=Lib.hid (Hyes2.out _ _ (setRes_up (Hup2.out _ (IsSince.self _)) ⟨a5,c5,u5,y5,rfl,rfl,hr5,hc5,hq5⟩));clear hr5 hc5 hq5 hrow hz hcap;go_wp2_with fail;exact H5.out
 ·have hee:(E != 0)=true:=by simpa using he
  have Hno2:=Lib.hid (fun y:Since w=>Hno.out y he);clear he;go_wp2_with fail;obtain⟨z,hz⟩:=Hup.out y2;rw[hz];exact Hno2.out z
set_option maxRecDepth 100000 in
set_option maxHeartbeats 4000000 in
theorem pausing_calls (w:World) (x:Since w) (r:Ride) (h:r.At w):
 Calls Tryz.prog 39 #[.agg #[.int .i64 r.id,.int .i64 r.rd,.int .i64 r.s0,.int .i64 r.s1,.int .i64 r.e0,.int .i64 r.e1,.bool r.op,.slice r.la r.legs.length r.lc,.slice r.pa r.pauses.length r.pc,.int .i64 r.fw,.int .i64 r.fp,.int .i64 r.wh,.int .i64 r.pl]] x.w (SetRes w (SetOk (ivE r) (pauS r) (1+r.pauses.length)) (ivE r)):=by
 have H:=Lib.hid h;clear h;have Hc:=Lib.hid (fun(w:World) (x:Since w) (h:r.At w)=>partP_calls w x r h);have Hpost:=Lib.hid (fun(W:World) (hW:∃z:Since w,W=z.w) o w' (k:SetRes W (SetOk (ivE r) (pauS r) (1+r.pauses.length)) (ivE r) o w')=>setRes_up hW k);generalize SetRes w (SetOk (ivE r) (pauS r) (1+r.pauses.length)) (ivE r)=PO at *;go_enter Tryz.func39,Tryz.ntmps39;go_upto_region 1 with fail;obtain⟨W,bx,y0,hW,hbx,-,hWup,Hup,Hbx,HB0⟩:=heads1 x [.int .i64 r.id,.int .i64 r.rd,.int .i64 r.s0,.int .i64 r.s1,.int .i64 r.e0,.int .i64 r.e1,.bool r.op,.slice r.la r.legs.length r.lc,.slice r.pa r.pauses.length r.pc,.int .i64 r.fw,.int .i64 r.fp,.int .i64 r.wh,.int .i64 r.pl] 40;rw[hW,hbx];clear hW hbx;obtain⟨hb0_0,hb0_1,hb0_2,hb0_3,hb0_4,hb0_5,hb0_6,hb0_7,hb0_8,hb0_9,hb0_10,hb0_11,hb0_12,hf0⟩:=bx13 HB0;clear HB0;replace H:=Lib.hid (H.out.to hWup);have HW:=Lib.hid hWup;clear hWup;go_wp2_with(go_at_call 83;((with_reducible refine(Hc.out W y0 H.out).mono ?_);rintro _ _ ⟨ax,cx,u,y1,rfl,rfl,h1,h2,h3⟩;have H5:=Lib.hid (Hpost.out W HW.out _ _ ⟨ax,cx,u,y1,rfl,rfl,h1,h2,h3⟩);clear h1 h2 h3));exact H5.out
set_option maxRecDepth 100000 in
set_option maxHeartbeats 4000000 in
theorem riding_calls (w:World) (x:Since w) (r:Ride) (h:r.At w):
 Calls Tryz.prog 38 #[.agg #[.int .i64 r.id,.int .i64 r.rd,.int .i64 r.s0,.int .i64 r.s1,.int .i64 r.e0,.int .i64 r.e1,.bool r.op,.slice r.la r.legs.length r.lc,.slice r.pa r.pauses.length r.pc,.int .i64 r.fw,.int .i64 r.fp,.int .i64 r.wh,.int .i64 r.pl]] x.w (SetRes w (SetOk (ivE r) (ridS r) (1+r.pauses.length)) (ivE r)):=by
 have H:=Lib.hid h;clear h;have Hc:=Lib.hid (fun(w:World) (x:Since w) (h:r.At w)=>partR_calls w x r h);have Hpost:=Lib.hid (fun(W:World) (hW:∃z:Since w,W=z.w) o w' (k:SetRes W (SetOk (ivE r) (ridS r) (1+r.pauses.length)) (ivE r) o w')=>setRes_up hW k);generalize SetRes w (SetOk (ivE r) (ridS r) (1+r.pauses.length)) (ivE r)=PO at *;go_enter Tryz.func38,Tryz.ntmps38;go_upto_region 1 with fail;obtain⟨W,bx,y0,hW,hbx,-,hWup,Hup,Hbx,HB0⟩:=heads1 x [.int .i64 r.id,.int .i64 r.rd,.int .i64 r.s0,.int .i64 r.s1,.int .i64 r.e0,.int .i64 r.e1,.bool r.op,.slice r.la r.legs.length r.lc,.slice r.pa r.pauses.length r.pc,.int .i64 r.fw,.int .i64 r.fp,.int .i64 r.wh,.int .i64 r.pl] 40;rw[hW,hbx];clear hW hbx;obtain⟨hb0_0,hb0_1,hb0_2,hb0_3,hb0_4,hb0_5,hb0_6,hb0_7,hb0_8,hb0_9,hb0_10,hb0_11,hb0_12,hf0⟩:=bx13 HB0;clear HB0;replace H:=Lib.hid (H.out.to hWup);have HW:=Lib.hid hWup;clear hWup;go_wp2_with(go_at_call 83;((with_reducible refine(Hc.out W y0 H.out).mono ?_);rintro _ _ ⟨ax,cx,u,y1,rfl,rfl,h1,h2,h3⟩;have H5:=Lib.hid (Hpost.out W HW.out _ _ ⟨ax,cx,u,y1,rfl,rfl,h1,h2,h3⟩);clear h1 h2 h3));exact H5.out
end Go.Proofs.YtmmlmhnjjfnpnaaGreat
namespace Go.Proofs.YtmmlmhnjjfnpnaaGreat
open Go.RowKit
theorem IsSet.lenS {u:List Win} {S:Int→Bool} (h:IsSet u S):lenW u=lenS S:=by rw[h.len,lenS_eq]
theorem norm_good {l:List Win} (h:Norm l):badW l=false:=badW_false.2 fun x hx=>(vldW_iff x).2 (by have:=h.v x hx;omega)
theorem len_of {l u:List Win} {S:Int→Bool} (hl:IsSet l S) (h:UnOk l u):unE l=0∧lenW u=lenS S:=by
 have hb:=norm_good hl.n;refine⟨by unfold unE;rw[hb];rfl,?_⟩;have h2:=h.ok hb;have:u=l:=h2.unique ⟨hl.n,fun t=>rfl⟩;rw[this,hl.lenS]
def Num3Res (w:World) (m n E:Int) (o:Ending) (w':World):Prop:=o= .returned (.tuple #[.int .i64 m,.int .i64 n,.int .i64 E])∧∃y:Since w,w'=y.w
theorem num3Res {w w':World} {m n E a b e:Int} (y:Since w) (hm:m=a) (hn:n=b) (hE:E=e) (hw:w'=y.w):Num3Res w m n E (.returned (.tuple #[.int .i64 a,.int .i64 b,.int .i64 e])) w':=by
 subst hm;subst hn;subst hE;exact⟨rfl,y,hw⟩
def SetResS (W w:World) (Q:List Win→Prop) (e:Int) (o:Ending) (w':World):Prop:=
 ∃(a:Option Addr) (cap:Nat) (u:List Win) (z:Since W),o= .returned (.tuple #[.slice a u.length cap,.int .i64 e])∧w'=z.w∧(∃v:Since w,z.w=v.w)∧WinRow z.w a u∧u.length≤cap∧Q u
theorem setResS {W w:World} (h:IsSince W w) {Q:List Win→Prop} {e:Int} {o:Ending} {w':World} (k:SetRes w Q e o w'):SetResS W w Q e o w':=by
 obtain⟨a,cap,u,y,ho,hw,hr,hc,hq⟩:=k;obtain⟨z,hz⟩:=h;subst hz;obtain⟨v,hv⟩:=z.trans y;exact⟨a,cap,u,v,ho,hw.trans hv,⟨y,hv.symm⟩,hv ▸ hr,hc,hq⟩
def IntResS (W w:World) (n e:Int) (o:Ending) (w':World):Prop:=o= .returned (.tuple #[.int .i64 n,.int .i64 e])∧∃z:Since W,w'=z.w∧∃v:Since w,z.w=v.w
theorem riding_s {W:World} (w':World) (hw:IsSince W w') (r:Ride) (h:r.At W):Calls Tryz.prog 38 #[.agg #[.int .i64 r.id,.int .i64 r.rd,.int .i64 r.s0,.int .i64 r.s1,.int .i64 r.e0,.int .i64 r.e1,.bool r.op,.slice r.la r.legs.length r.lc,.slice r.pa r.pauses.length r.pc,.int .i64 r.fw,.int .i64 r.fp,.int .i64 r.wh,.int .i64 r.pl]] w' (SetResS W w' (SetOk (ivE r) (ridS r) (1+r.pauses.length)) (ivE r)):=
 (riding_calls w' (Since.self w') r (h.to hw)).mono fun _ _ k=>setResS hw k
theorem pausing_s {W:World} (w':World) (hw:IsSince W w') (r:Ride) (h:r.At W):Calls Tryz.prog 39 #[.agg #[.int .i64 r.id,.int .i64 r.rd,.int .i64 r.s0,.int .i64 r.s1,.int .i64 r.e0,.int .i64 r.e1,.bool r.op,.slice r.la r.legs.length r.lc,.slice r.pa r.pauses.length r.pc,.int .i64 r.fw,.int .i64 r.fp,.int .i64 r.wh,.int .i64 r.pl]] w' (SetResS W w' (SetOk (ivE r) (pauS r) (1+r.pauses.length)) (ivE r)):=
 (pausing_calls w' (Since.self w') r (h.to hw)).mono fun _ _ k=>setResS hw k
theorem length_s {W:World} (w':World) (hw:IsSince W w') (a:Option Addr) (l:List Win) (c:Nat) (S:Int→Bool) (hS:IsSet l S) (hr:WinRow w' a l) (hl:l.length≤100000):Calls Tryz.prog 40 #[.slice a l.length c] w' (IntResS W w' (lenS S) 0):=by
 refine(length_calls w' (Since.self w') a l c hr hl).mono ?_;rintro _ _ ⟨u,y,rfl,rfl,hu⟩;obtain⟨h1,h2⟩:=len_of hS hu;obtain⟨z,hz⟩:=hw;subst hz;obtain⟨v,hv⟩:=z.trans y;exact⟨by rw[h1,h2],v,hv,y,hv.symm⟩
set_option maxRecDepth 100000 in
set_option maxHeartbeats 8000000 in
theorem seconds_calls (w:World) (x:Since w) (r:Ride) (h:r.At w):
 Calls Tryz.prog 11 #[.agg #[.int .i64 r.id,.int .i64 r.rd,.int .i64 r.s0,.int .i64 r.s1,.int .i64 r.e0,.int .i64 r.e1,.bool r.op,.slice r.la r.legs.length r.lc,.slice r.pa r.pauses.length r.pc,.int .i64 r.fw,.int .i64 r.fp,.int .i64 r.wh,.int .i64 r.pl]] x.w (Num3Res w (secR r) (secP r) (ivE r)):=by
 have H:=Lib.hid h;clear h;have Hok:=Lib.hid (fun(h:ivE r=0) (u:List Win) (S:Int→Bool) (k:SetOk (ivE r) S (1+r.pauses.length) u)=>k.ok h);have Hm:=Lib.hid (show secR r=if ivE r=0 then lenS (ridS r)else 0 from rfl);have Hn:=Lib.hid (show secP r=if ivE r=0 then lenS (pauS r)else 0 from rfl);have Hpost:=Lib.hid (fun(w':World) (a b e:Int) (y:Since w) (hm:secR r=a) (hn:secP r=b) (hE:ivE r=e) (hw:w'=y.w)=>num3Res y hm hn hE hw);generalize Num3Res w (secR r) (secP r) (ivE r)=PO at *;have Hpl:=Lib.hid (fun h:ivE r=0=>(rideOk_of h).pn);have Hr:=Lib.hid (fun(w:World) (h:r.At w) (w':World) (hw:IsSince w w')=>riding_s w' hw r h);have Hp:=Lib.hid (fun(w:World) (h:r.At w) (w':World) (hw:IsSince w w')=>pausing_s w' hw r h);generalize secR r=sr at *;generalize secP r=sp at *;generalize ivE r=E at *;go_enter Tryz.func11,Tryz.ntmps11;go_upto_region 1 with fail;obtain⟨W,bx,y0,hW,hbx,-,hWup,Hup,Hbx,HB0⟩:=heads1 x [.int .i64 r.id,.int .i64 r.rd,.int .i64 r.s0,.int .i64 r.s1,.int .i64 r.e0,.int .i64 r.e1,.bool r.op,.slice r.la r.legs.length r.lc,.slice r.pa r.pauses.length r.pc,.int .i64 r.fw,.int .i64 r.fp,.int .i64 r.wh,.int .i64 r.pl] 40;rw[hW,hbx];clear hW hbx;obtain⟨hb0_0,hb0_1,hb0_2,hb0_3,hb0_4,hb0_5,hb0_6,hb0_7,hb0_8,hb0_9,hb0_10,hb0_11,hb0_12,hf0⟩:=bx13 HB0;clear HB0;replace H:=Lib.hid (H.out.to hWup);clear hWup;by_cases he:E=0
 ·have hpl:=Hpl.out he
  have Hok2:=Lib.hid (Hok.out he);subst he;have HM:=Lib.hid (show sr=lenS (ridS r)from Hm.out);have HN:=Lib.hid (show sp=lenS (pauS r)from Hn.out);clear Hok Hm Hn;go_upto_region 2 with(go_at_call 38;((with_reducible refine(Hr.out W H.out _ (IsSince.of y0)).mono ?_);rintro _ _ ⟨ax,cx,u,y1,rfl,rfl,_,hu,_,hU⟩;have HU:=Lib.hid hu;have HUo:=Lib.hid (Hok2.out _ _ hU);have hul:=hU.n;clear hu hU))
  go_upto_region 5 with(go_at_call 39;((with_reducible refine(Hp.out W H.out _ (IsSince.of y1)).mono ?_);rintro _ _ ⟨ay,cy,v,y2,rfl,rfl,hz2,hv,_,hV⟩;have HV:=Lib.hid hv;have HVo:=Lib.hid (Hok2.out _ _ hV);have hvl:=hV.n;replace HU:=Lib.hid (HU.out.to hz2);clear hv hV hz2))
  clear Hr Hp;go_upto_region 8 with(go_at_call 40;((with_reducible refine(length_s (W:=W) _ (IsSince.of y2) ax u cx (ridS r) HUo.out HU.out (by omega)).mono ?_);rintro _ _ ⟨rfl,y3,rfl,hz3⟩;replace HV:=Lib.hid (HV.out.to hz3);clear hz3))
  go_wp2_with(go_at_call 40;((with_reducible refine(length_s (W:=W) _ (IsSince.of y3) ay v cy (pauS r) HVo.out HV.out (by omega)).mono ?_);rintro _ _ ⟨rfl,y4,rfl,_⟩));go_ret3
  obtain⟨z,hz⟩:=Hup.out y4;exact Hpost.out _ _ _ _ z HM.out HN.out rfl hz
 ·have hee:(E != 0)=true:=by simpa using he
  go_wp2_with(go_at_call 38;((with_reducible refine(Hr.out W H.out _ (IsSince.of y0)).mono ?_);rintro _ _ ⟨ax,cx,u,y1,rfl,rfl,_,hu,_,hU⟩;have HU:=Lib.hid hu;have HUo:=Lib.hid hU;clear hu hU));go_ret3
  obtain⟨z,hz⟩:=Hup.out y1;exact Hpost.out _ _ _ _ z (by rw[Hm.out,if_neg he]) (by rw[Hn.out,if_neg he]) rfl hz
end Go.Proofs.YtmmlmhnjjfnpnaaGreat
