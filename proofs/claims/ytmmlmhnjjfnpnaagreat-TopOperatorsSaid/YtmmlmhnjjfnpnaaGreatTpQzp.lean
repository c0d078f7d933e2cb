/- Texts that belong together. -/
import Derived.Test.YtmmlmhnjjfnpnaaGreatTpQzn
set_option linter.all false
namespace Go.Proofs.YtmmlmhnjjfnpnaaGreat
open Go.RowKit
set_option maxRecDepth 100000 in
set_option maxHeartbeats 8000000 in
theorem Bn7 (w:World) (x:A7 w) (f:G4) (da ta:Option Addr) (dc tc:Nat) (hf:i5 w f da ta) (a:Option Addr) (n c:Nat) (hn:n≤9223372036854775807) (v:Bool) (hv:decide (n≤40∧f.dk.length≤40∧f.tk.length≤20)=v):
 Calls Tryz.prog 6 #[.agg #[.int .i64 f.bk,.int .i64 f.rd,.int .i64 f.dv,.slice da f.dk.length dc,.slice ta f.tk.length tc],.slice a n c] x.w fun o w'=>o= .returned (.bool v)∧∃y:A7 w,w'=y.w:=by
 have hd:=hf.dl;have ht:=hf.tl;clear hf;go_enter Tryz.func6,Tryz.ntmps6;go_upto_region 1 with fail;obtain⟨W,bx,y0,hW,hbx,-,B8,Hup,Hbx,HB0⟩:=K7 x [.int .i64 f.bk,.int .i64 f.rd,.int .i64 f.dv,.slice da f.dk.length dc,.slice ta f.tk.length tc] 24;rw[hW,hbx];clear hW hbx;obtain⟨D9,E7,F9,G0,G8,hf0⟩:=V5 HB0;clear HB0;have HWa:=A3 (show A8 w y0.w from Hup.out y0);clear B8;rcases(by omega:40<n∨(n≤40∧40<f.dk.length)∨(n≤40∧f.dk.length≤40∧20<f.tk.length)∨(n≤40∧f.dk.length≤40∧f.tk.length≤20))with h|⟨h,h'⟩|⟨h,h',h''⟩|⟨h,h',h''⟩
 ·obtain rfl:v=false:=by rw[←hv];exact decide_eq_false (by omega)
  clear hv;go_wp2_with fail;go_ret;exact⟨I1 (by first|rfl|(simp;done)|(simp;omega)),HWa.out⟩
 ·obtain rfl:v=false:=by rw[←hv];exact decide_eq_false (by omega)
  clear hv;go_wp2_with fail;go_ret;exact⟨I1 (by first|rfl|(simp;done)|(simp;omega)),HWa.out⟩
 ·obtain rfl:v=false:=by rw[←hv];exact decide_eq_false (by omega)
  clear hv;go_wp2_with fail;go_ret;exact⟨I1 (by first|rfl|(simp;done)|(simp;omega)),HWa.out⟩
 ·obtain rfl:v=true:=by rw[←hv];exact decide_eq_true (by omega)
  clear hv;go_wp2_with fail;go_ret;exact⟨I1 (by first|rfl|(simp;done)|(simp;omega)),HWa.out⟩
end Go.Proofs.YtmmlmhnjjfnpnaaGreat
