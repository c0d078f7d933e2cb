/- Texts that belong together. -/
import Derived.Test.YtmmlmhnjjfnpnaaGreatTpNzl
import Derived.Test.YtmmlmhnjjfnpnaaGreatTpNzm
set_option linter.all false
namespace Go.Proofs.YtmmlmhnjjfnpnaaGreat
open Go.RowKit
theorem fR {w:World} {B n:Nat} {e:TypeId} {k:Nat} {v:Value} {xs:List Value} (h:w.ownsRow B e k v n xs):n≤9223372036854775807:=by
 obtain⟨_,⟨_,h2⟩|⟨g,cap,cur,rfl,hg,hh,h1,h2,_⟩⟩:=h
 ·omega
 ·unfold maxLen at h2;omega
def Br9 (w:World) (f:D5) (L:List Ev) (o:Ending) (w':World):Prop:=
 ∃(a:Option Addr) (c:Nat) (R:List A8) (y:A6 w),o= .returned (.tuple #[.slice a R.length c,.int .i64 (H9 f)])∧w'=y.w∧(H9 f≠0→R=[])∧j3 y.w a R∧R.length≤9223372036854775807∧(H9 f=0→R.map A8.br=V3 (P1 f L))
theorem Bs0 {w:World} {f:D5} {L:List Ev} {o:Ending} {w':World} (h:jF w f L o w'):Br9 w f L o w':=by
 obtain⟨v,y,rfl,rfl,⟨h1,rfl⟩|⟨h1,R,h2,h3,h4⟩⟩:=h
 ·exact⟨none,0,[],y,rfl,rfl,fun _ =>rfl,⟨xU,fun r hr=>by cases hr⟩,by simp,fun h=>absurd h h1⟩
 ·obtain⟨_,a,c,e,_,h5,_,_⟩:=P2 A8.len (by decide) h2
  refine⟨a,c,R,y,by rw[e],rfl,fun h=>absurd h1 h,⟨h5,fun r hr=>(h3 r hr).at (fR (h3 r hr).l) (fR (h3 r hr).p)⟩,fR h2,fun _ =>h4⟩
theorem Bs1 {f:D5} {l:List Ev} {R:List A8} (h:R.map A8.br=V3 (P1 f (G9 l))) (hl:l.length≤40) {r:A8} (hr:r∈R) (ho:r.op=false):I7 r=0:=by
 have h1:r.br∈P1 f (G9 l):=by
  rw[←(eI _).mem_iff,←h];exact List.mem_map_of_mem hr
 have h2:=Ak0 (rF l) (Nat.le_trans (gV l) (by omega)) h1 ho;exact h2
theorem Bs2 {a n:Int} {m:Nat} (h:0≤a) (hn:n=m) (hm:0<m):∃j:Nat,Int.tmod a n=(j:Int)∧j<m:=by
 subst hn;have h1:Int.tmod a m=a % m:=Int.tmod_eq_emod_of_nonneg h;have h2:=Int.emod_nonneg a (show(m:Int)≠0 by omega);have h3:=Int.emod_lt_of_pos a (show(0:Int)<m by omega);exact⟨(a % m).toNat,by rw[h1];omega,by omega⟩
end Go.Proofs.YtmmlmhnjjfnpnaaGreat
