/- Texts that belong together. -/
import Derived.Test.YtmmlmhnjjfnpnaaGreatTpMzi
set_option linter.all false
namespace Go.Proofs.YtmmlmhnjjfnpnaaGreat
open Go.RowKit
set_option maxRecDepth 100000 in
set_option maxHeartbeats 8000000 in
theorem tfew_calls (w:World) (x:Since w) (f:Flt) (da ta:Option Addr) (dc tc:Nat) (hf:FltAt w f da ta) (a:Option Addr) (n c:Nat) (hn:n≤9223372036854775807) (v:Bool) (hv:decide (n≤40∧f.dk.length≤40∧f.tk.length≤20)=v):
 Calls Tryz.prog 6 #[.agg #[.int .i64 f.bk,.int .i64 f.rd,.int .i64 f.dv,.slice da f.dk.length dc,.slice ta f.tk.length tc],.slice a n c] x.w fun o w'=>o= .returned (.bool v)∧∃y:Since w,w'=y.w:=by
 have hd:=hf.dl;have ht:=hf.tl;clear hf;go_enter Tryz.func6,Tryz.ntmps6;go_upto_region 1 with fail;obtain⟨W,bx,y0,hW,hbx,-,hWup,Hup,Hbx,HB0⟩:=heads1 x [.int .i64 f.bk,.int .i64 f.rd,.int .i64 f.dv,.slice da f.dk.length dc,.slice ta f.tk.length tc] 24;rw[hW,hbx];clear hW hbx;obtain⟨hb0_0,hb0_1,hb0_2,hb0_3,hb0_4,hf0⟩:=bx5 HB0;clear HB0;have HWa:=Lib.hid (show IsSince w y0.w from Hup.out y0);clear hWup;rcases(by omega:40<n∨(n≤40∧40<f.dk.length)∨(n≤40∧f.dk.length≤40∧20<f.tk.length)∨(n≤40∧f.dk.length≤40∧f.tk.length≤20))with h|⟨h,h'⟩|⟨h,h',h''⟩|⟨h,h',h''⟩
 ·obtain rfl:v=false:=by rw[←hv];exact decide_eq_false (by omega)
  clear hv;go_wp2_with fail;go_ret;exact⟨ret_bool (by first|rfl|(simp;done)|(simp;omega)),HWa.out⟩
 ·obtain rfl:v=false:=by rw[←hv];exact decide_eq_false (by omega)
  clear hv;go_wp2_with fail;go_ret;exact⟨ret_bool (by first|rfl|(simp;done)|(simp;omega)),HWa.out⟩
 ·obtain rfl:v=false:=by rw[←hv];exact decide_eq_false (by omega)
  clear hv;go_wp2_with fail;go_ret;exact⟨ret_bool (by first|rfl|(simp;done)|(simp;omega)),HWa.out⟩
 ·obtain rfl:v=true:=by rw[←hv];exact decide_eq_true (by omega)
  clear hv;go_wp2_with fail;go_ret;exact⟨ret_bool (by first|rfl|(simp;done)|(simp;omega)),HWa.out⟩
def mom (lo hi off:Int):Int:=lo+off % (hi-lo+1)
theorem mom_in {lo hi off:Int} (h:lo≤hi) (ho:0≤off):lo≤mom lo hi off∧mom lo hi off≤hi:=by
 have h1:=Int.emod_nonneg off (show hi-lo+1≠0 by omega);have h2:=Int.emod_lt_of_pos off (show 0<hi-lo+1 by omega);unfold mom;omega
set_option maxRecDepth 100000 in
set_option maxHeartbeats 8000000 in
theorem mom_calls (w:World) (x:Since w) (lo hi off:Int) (h0:0≤lo) (h1:lo≤hi) (h2:hi≤4294943999) (h3:0≤off) (h4:off≤255):
 Calls Tryz.prog 10 #[.agg #[.int .i64 lo,.int .i64 hi],.int .u8 off] x.w fun o w'=>o= .returned (.int .i64 (mom lo hi off))∧∃y:Since w,w'=y.w:=by
 obtain⟨m,hm⟩:∃m,mom lo hi off=m:=⟨_,rfl⟩
 have hr:=mom_in h1 h3;rw[hm]at hr⊢;have hq:Int.tmod off (hi-lo+1)=off % (hi-lo+1):=Int.tmod_eq_emod_of_nonneg h3;have hq2:lo+off % (hi-lo+1)=m:=hm;have hw1:IntKind.i64.wrap (hi-lo)=hi-lo:=IntWalk.i64_in _ ⟨by omega,by omega⟩;have hw2:IntKind.i64.wrap (hi-lo+1)=hi-lo+1:=IntWalk.i64_in _ ⟨by omega,by omega⟩;have hw3:IntKind.i64.wrap off=off:=IntWalk.i64_in _ ⟨by omega,by omega⟩;have hw4:IntKind.i64.wrap m=m:=IntWalk.i64_in _ ⟨by omega,by omega⟩;have hw5:IntKind.i64.wrap (off % (hi-lo+1))=off % (hi-lo+1):=IntWalk.i64_in _ ⟨by omega,by omega⟩;have hne:hi-lo+1≠0:=by omega
 clear hm;go_enter Tryz.func10,Tryz.ntmps10;go_upto_region 1 with fail;obtain⟨W,bx,y0,hW,hbx,-,hWup,Hup,Hbx,HB0⟩:=heads1 x [.int .i64 lo,.int .i64 hi] 36;rw[hW,hbx];clear hW hbx;obtain⟨hb0_0,hb0_1,hf0⟩:=bx2 HB0;clear HB0;have HWa:=Lib.hid (fun(w':World) (hw:IsSince y0.w w')=>show IsSince w w' from IsSince.trans (Hup.out y0) hw);have HS:=Lib.hid (fun(w':World) (hw:IsSince W w')=>show w'.cell? ⟨bx,0,none⟩=some (.int .i64 lo)∧w'.cell? ⟨bx,1,none⟩=some (.int .i64 hi)from by obtain⟨z,rfl⟩:=hw;exact⟨hb0_0 z,hb0_1 z⟩);clear hWup hb0_0 hb0_1 hf0;go_upto_region 1 with fail;refine wp_region_M (fun w'=>w'.cell? ⟨bx,0,none⟩=some (.int .i64 lo)∧w'.cell? ⟨bx,1,none⟩=some (.int .i64 hi)) 12 (by kernel_rfl) (HS.out _ (IsSince.trans ⟨y0,rfl⟩ (IsSince.drew' (IsSince.self _)))) (fun hS=>?_);refine tk 0 ?_ rfl (by kernel_rfl) hS (fun _ _ _ h=>h) ?_ ?_;rotate_left
 ·(intro w h;(try dsimp only at h);go_split_ands;go_simp;try with_reducible rfl)
 (try simp only[Act.put,actS])
 refine tk 1 ?_ rfl (by kernel_rfl) hS (fun _ _ _ h=>h) ?_ ?_;rotate_left
 ·(intro w h;(try dsimp only at h);go_split_ands;go_simp;try with_reducible rfl)
 (try simp only[Act.put,actS])
 refine tk 2 ?_ rfl (by kernel_rfl) hS (fun _ _ _ h=>h) ?_ ?_;rotate_left
 ·(intro w h;(try dsimp only at h);go_split_ands;go_simp;try with_reducible rfl)
 (try simp only[Act.put,actS])
 refine tk 3 ?_ rfl (by kernel_rfl) hS (fun _ _ _ h=>h) ?_ ?_;rotate_left
 ·(intro w h;(try dsimp only at h);go_split_ands;go_simp;try with_reducible rfl)
 (try simp only[Act.put,actS])
 refine tk 4 ?_ rfl (by kernel_rfl) hS (fun _ _ _ h=>h) ?_ ?_;rotate_left
 ·(intro w h;(try dsimp only at h);go_split_ands;go_simp;try with_reducible rfl)
 (try simp only[Act.put,actS])
 refine tk 5 ?_ rfl (by kernel_rfl) hS (fun _ _ _ h=>h) ?_ ?_;rotate_left
 ·(intro w h;(try dsimp only at h);go_split_ands;go_simp;try with_reducible rfl)
 (try simp only[Act.put,actS])
 refine tk 6 ?_ rfl (by kernel_rfl) hS (fun _ _ _ h=>h) ?_ ?_;rotate_left
 ·(intro w h;(try dsimp only at h);go_split_ands;go_simp;try with_reducible rfl)
 (try simp only[Act.put,actS])
 refine tk 7 ?_ rfl (by kernel_rfl) hS (fun _ _ _ h=>h) ?_ ?_;rotate_left
 ·(intro w h;(try dsimp only at h);go_split_ands;go_simp;try with_reducible rfl)
 (try simp only[Act.put,actS])
 refine tk 8 ?_ rfl (by kernel_rfl) hS (fun _ _ _ h=>h) ?_ ?_;rotate_left
 ·(intro w h;(try dsimp only at h);go_split_ands;go_simp;try with_reducible rfl)
 (try simp only[Act.put,actS])
 refine tk 9 ?_ rfl (by kernel_rfl) hS (fun _ _ _ h=>h) ?_ ?_;rotate_left
 ·(intro w h;(try dsimp only at h);go_split_ands;go_simp;try with_reducible rfl)
 (try simp only[Act.put,actS])
 refine tk 10 ?_ rfl (by kernel_rfl) hS (fun _ _ _ h=>h) ?_ ?_;rotate_left
 ·(intro w h;(try dsimp only at h);go_split_ands;go_simp;try with_reducible rfl)
 (try simp only[Act.put,actS])
 refine tk 11 ?_ rfl (by kernel_rfl) hS (fun _ _ _ h=>h) ?_ ?_;rotate_left
 ·(intro w h;(try dsimp only at h);go_split_ands;go_simp;try with_reducible rfl)
 (try simp only[Act.put,actS])
 have HR:=Lib.hid (HWa.out _ (IsSince.drew' (IsSince.self _)));refine tk1 12 (by kernel_rfl) rfl fun K hK=>?_;go_simp;refine tkL hK (by kernel_rfl) ?_;clear hK K hS;(try simp only[Act.put,actS])
 go_wp2_with fail;first
  |exact⟨rfl,HR.out⟩
  |exact bodyPost_ret (by simp[results,Tryz.results10,go_sem]) rfl ⟨rfl,HR.out⟩
end Go.Proofs.YtmmlmhnjjfnpnaaGreat
