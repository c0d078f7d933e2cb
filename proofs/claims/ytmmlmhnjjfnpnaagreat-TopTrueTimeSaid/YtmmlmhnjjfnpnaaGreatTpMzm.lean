/- Texts that belong together. -/
import Derived.Test.YtmmlmhnjjfnpnaaGreatTpMzk
import Derived.Test.YtmmlmhnjjfnpnaaGreatTpMzl
set_option linter.all false
namespace Go.Proofs.YtmmlmhnjjfnpnaaGreat
open Go.RowKit
theorem own_len {w:World} {B n:Nat} {e:TypeId} {k:Nat} {v:Value} {xs:List Value} (h:w.ownsRow B e k v n xs):n≤9223372036854775807:=by
 obtain⟨_,⟨_,h2⟩|⟨g,cap,cur,rfl,hg,hh,h1,h2,_⟩⟩:=h
 ·omega
 ·unfold maxLen at h2;omega
def All2 (w:World) (f:Flt) (L:List Ev) (o:Ending) (w':World):Prop:=
 ∃(a:Option Addr) (c:Nat) (R:List Ride) (y:Since w),o= .returned (.tuple #[.slice a R.length c,.int .i64 (fltE f)])∧w'=y.w∧(fltE f≠0→R=[])∧RideRow y.w a R∧R.length≤9223372036854775807∧(fltE f=0→R.map Ride.br=sortI (ridesL f L))
theorem all2_of {w:World} {f:Flt} {L:List Ev} {o:Ending} {w':World} (h:AllRes w f L o w'):All2 w f L o w':=by
 obtain⟨v,y,rfl,rfl,⟨h1,rfl⟩|⟨h1,R,h2,h3,h4⟩⟩:=h
 ·exact⟨none,0,[],y,rfl,rfl,fun _ =>rfl,⟨els_nilT,fun r hr=>by cases hr⟩,by simp,fun h=>absurd h h1⟩
 ·obtain⟨_,a,c,e,_,h5,_,_⟩:=own_els Ride.len (by decide) h2
  refine⟨a,c,R,y,by rw[e],rfl,fun h=>absurd h1 h,⟨h5,fun r hr=>(h3 r hr).at (own_len (h3 r hr).l) (own_len (h3 r hr).p)⟩,own_len h2,fun _ =>h4⟩
theorem br_ok {f:Flt} {l:List Ev} {R:List Ride} (h:R.map Ride.br=sortI (ridesL f (setL l))) (hl:l.length≤40) {r:Ride} (hr:r∈R) (ho:r.op=false):rideE r=0:=by
 have h1:r.br∈ridesL f (setL l):=by
  rw[←(sortI_perm _).mem_iff,←h];exact List.mem_map_of_mem hr
 have h2:=rides_right (setL_at l) (Nat.le_trans (setL_len l) (by omega)) h1 ho;exact h2
theorem mod_at {a n:Int} {m:Nat} (h:0≤a) (hn:n=m) (hm:0<m):∃j:Nat,Int.tmod a n=(j:Int)∧j<m:=by
 subst hn;have h1:Int.tmod a m=a % m:=Int.tmod_eq_emod_of_nonneg h;have h2:=Int.emod_nonneg a (show(m:Int)≠0 by omega);have h3:=Int.emod_lt_of_pos a (show(0:Int)<m by omega);exact⟨(a % m).toNat,by rw[h1];omega,by omega⟩
end Go.Proofs.YtmmlmhnjjfnpnaaGreat
