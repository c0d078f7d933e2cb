/- Texts that belong together. -/
import Derived.Test.YtmmlmhnjjfnpnaaGreatTpQa
import Derived.Lib.BitFns
set_option linter.all false
namespace Go.Proofs.YtmmlmhnjjfnpnaaGreat
section
structure j4 (a b u n v q r:Nat):Prop where
 hv:v=a*4294967296+b
 hu:u=q*a+r
 hq:(u*4294967296+n)/v≤q
 hb:q≤4294967297
structure dF (a b u n v:Nat):Prop where
 ha:2147483648≤a∧a<4294967296
 hb:b<4294967296
 hn:n<4294967296
 hu:u<v
 hv:v=a*4294967296+b
variable {a b u n v q r:Nat}
theorem P3 (C:dF a b u n v):(u*4294967296+n)/v<4294967296:=by
 have hv0:0<v:=by have:=C.hv;have:=C.ha;omega
 rw[Nat.div_lt_iff_lt_mul hv0];have:=C.hu;have:=C.hn;omega
theorem pK (C:dF a b u n v):j4 a b u n v (u/a) (u % a):=by
 have ha:=C.ha;have hv:=C.hv;have hb:=C.hb;have hn:=C.hn;have hu:=C.hu;have hv0:0<v:=by omega
 have h1:=Nat.div_add_mod' u a;refine⟨hv,h1.symm,?_,?_⟩
 ·refine Nat.le_of_lt_succ ?_
  rw[Nat.div_lt_iff_lt_mul hv0,hv];have h2:u<(u/a+1)*a:=by
   have:=Nat.mod_lt u (show a>0 by omega);rw[Nat.add_mul];omega
  have h3:(u+1)*4294967296≤(u/a+1)*a*4294967296:=Nat.mul_le_mul_right _ h2;have h4:(u/a).succ*(a*4294967296+b)=(u/a+1)*a*4294967296+(u/a+1)*b:=by rw[Nat.succ_eq_add_one,Nat.mul_add,Nat.mul_assoc]
  rw[h4];omega
 ·refine Nat.le_of_lt_succ ?_
  rw[Nat.div_lt_iff_lt_mul (by omega)];omega
theorem AN8 (C:dF a b u n v) (D:j4 a b u n v q r) (h:4294967296≤q∨4294967296*r+n<q*b):(u*4294967296+n)/v<q:=by
 rcases h with h|h
 ·exact Nat.lt_of_lt_of_le (P3 C) h
 ·have hv0:0<v:=by have:=C.hv;have:=C.ha;omega
  rw[Nat.div_lt_iff_lt_mul hv0];have h1:q*v=q*a*4294967296+q*b:=by rw[C.hv,Nat.mul_add,Nat.mul_assoc]
  have h2:u*4294967296=q*a*4294967296+r*4294967296:=by conv=>lhs;rw[D.hu,Nat.add_mul]
  omega
theorem mK (C:dF a b u n v) (D:j4 a b u n v q r) (h:q*b≤4294967296*r+n):q=(u*4294967296+n)/v:=by
 have hv0:0<v:=by have:=C.hv;have:=C.ha;omega
 refine Nat.le_antisymm ?_ D.hq;rw[Nat.le_div_iff_mul_le hv0];have h1:q*v=q*a*4294967296+q*b:=by rw[C.hv,Nat.mul_add,Nat.mul_assoc]
 have h2:u*4294967296=q*a*4294967296+r*4294967296:=by conv=>lhs;rw[D.hu,Nat.add_mul]
 omega
theorem pL (C:dF a b u n v) (D:j4 a b u n v q r) (h:4294967296≤q∨4294967296*r+n<q*b):0<q∧j4 a b u n v (q-1) (r+a):=by
 have h1:=AN8 C D h;have h0:0<q:=Nat.lt_of_le_of_lt (Nat.zero_le _) h1;refine⟨h0,D.hv,?_,Nat.le_pred_of_lt h1,by have:=D.hb;omega⟩;have h2:q*a=(q-1)*a+a:=by
  obtain⟨p,rfl⟩:∃p,q=p+1:=⟨q-1,by omega⟩
  rw[Nat.add_sub_cancel,Nat.add_mul,Nat.one_mul]
 have:=D.hu;omega
theorem gX (C:dF a b u n v) (D:j4 a b u n v q r) (hq:q≤4294967296) (h:4294967296≤r):q=(u*4294967296+n)/v:=by
 refine mK C D ?_;have h1:q*b≤4294967296*4294967296:=Nat.mul_le_mul hq (by have:=C.hb;omega);omega
theorem pM (C:dF a b u n v) (D:j4 a b u n v q r):q*b<18446744073709551616:=by
 have:q*b≤4294967297*4294967295:=Nat.mul_le_mul D.hb (by have:=C.hb;omega);omega
theorem dG (C:dF a b u n v):u*4294967296+n=(u*4294967296+n)/v*v+(u*4294967296+n) % v∧(u*4294967296+n) % v<v:=
 ⟨(Nat.div_add_mod' _ v).symm,Nat.mod_lt _ (by have:=C.hu;omega)⟩
theorem AN9 {u n m v q r q2 r2:Nat} (h1:q*v+r=u*4294967296+n) (h2:q2*v+r2=r*4294967296+m) (h3:r2<v):(u*18446744073709551616+(n*4294967296+m))/v=q*4294967296+q2:=by
 have h4:u*18446744073709551616+(n*4294967296+m)=r2+(q*4294967296+q2)*v:=by
  have h5:(q*4294967296+q2)*v=q*v*4294967296+q2*v:=by rw[Nat.add_mul,Nat.mul_right_comm]
  rw[h5];omega
 rw[h4,Nat.add_mul_div_right _ _ (by omega),Nat.div_eq_of_lt h3,Nat.zero_add]
theorem fX {u n m v:Nat} (hv:0<v):(u*18446744073709551616+(n*4294967296+m))/v=(u*4294967296+n)/v*4294967296+((u*4294967296+n) % v*4294967296+m)/v:=
 AN9 (Nat.div_add_mod' _ v) (Nat.div_add_mod' _ v) (Nat.mod_lt _ hv)
theorem AO0 {hi lo p q K c d:Nat} (h1:lo*p=q*K+d) (h2:q=c):(hi*K+lo)*p=(hi*p+c)*K+d:=by
 subst h2;rw[Nat.add_mul,Nat.add_mul,Nat.mul_right_comm,h1,Nat.add_assoc]
theorem AO1 {hi lo p p' K:Nat} (h:p*p'=K) (hp:0<p):(hi*K+lo)*p=(hi*p+lo/p')*K+lo*p % K:=
 AO0 (Nat.div_add_mod' (lo*p) K).symm (by rw[←h,Nat.mul_comm lo p,Nat.mul_div_mul_left _ _ hp])
end
section
theorem AO2 {x k:Nat} (h1:2 ^ k≤x) (h2:x<2 ^ (k+1)) (h3:x<2 ^ 64):Lib.bitLen x=k+1:=by
 rw[Lib.bitLen_shift k x h1 h3];have h4:x/2 ^ k=1:=by
  refine Nat.div_eq_of_lt_le (by omega) ?_;rw[Nat.pow_succ]at h2;omega
 rw[h4];rfl
theorem AO3 {x:Nat} (h:0<x) (h3:x<2 ^ 64):∃k,k<64∧Lib.bitLen x=k+1∧2 ^ k≤x∧x<2 ^ (k+1):=by
 have h1:2 ^ x.log2≤x:=Nat.log2_self_le (by omega);have h2:x<2 ^ (x.log2+1):=Nat.lt_log2_self;refine⟨x.log2,?_,AO2 h1 h2 h3,h1,h2⟩;rcases Nat.lt_or_ge x.log2 64 with h4|h4
 ·exact h4
 ·have:=Nat.pow_le_pow_right (show 0<2 by decide) h4
  omega
theorem AO4 {y:Nat} (h:0<y) (h3:y<2 ^ 64):∃s,s≤63∧Lib.bitLen y+s=64∧2 ^ 63≤y*2 ^ s∧y*2 ^ s<2 ^ 64∧2 ^ s*2 ^ (64-s)=2 ^ 64:=by
 obtain⟨k,hk,hb,h1,h2⟩:=AO3 h h3;refine⟨63-k,by omega,by omega,?_,?_,?_⟩
 ·have h4:=Nat.mul_le_mul_right (2 ^ (63-k)) h1
  rw[←Nat.pow_add,show k+(63-k)=63 by omega]at h4;exact h4
 ·have h4:=Nat.mul_lt_mul_of_pos_right h2 (Nat.two_pow_pos (63-k))
  rw[←Nat.pow_add,show k+1+(63-k)=64 by omega]at h4;exact h4
 ·rw[←Nat.pow_add,show 63-k+(64-(63-k))=64 by omega]
theorem AO5 {a b s:Nat} (h:b<2 ^ s):a*2 ^ s ||| b=a*2 ^ s+b:=by
 rw[Nat.mul_comm,Nat.two_pow_add_eq_or_of_lt h]
end
end Go.Proofs.YtmmlmhnjjfnpnaaGreat
