/- Texts that belong together. -/
import Derived.Test.YtmmlmhnjjfnpnaaGreatTpQza
import Derived.Test.YtmmlmhnjjfnpnaaGreatTpQzi
import Derived.Test.YtmmlmhnjjfnpnaaGreatTpQzr
set_option linter.all false
namespace Go.Proofs.YtmmlmhnjjfnpnaaGreat
section
structure Bo3 (Ra Rb:List A9) (h:Int):Prop where
 same:∀r:A9,r.op=false→r.e0<h→(r∈Ra↔r∈Rb)
 bef:∀r r':A9,r∈Rb→r'∈Rb→r.op=false→r'.op=false→r'.rd=r.rd→r.e0<h→h≤r'.e0→bef r r'=true
theorem Ar0 {s:D7} {k:Nat} (h:k<s.rs.length):s.rat k∈s.rs:=by
 unfold D7.rat;rw[A6,A4 h];exact List.getElem_mem h
end
section
end
section
def Bo4 (pG:Int) (r:A9):Bool:=!r.op && decide (r.e0<pG)
structure Ar1 (f:G4) (L:List Ev) (h:Int) (M:List A9):Prop where
 eq:M.map A9.br=(bG (dL f L)).filter (Bo4 h)
theorem Bo5 {r:A9} (h:J9 r=0):r.legs.length≤100000∧r.pauses.length≤100000:=by
 unfold J9 at h;split at h
 ·omega
 ·split at h
  ·omega
  ·rename_i h1
   unfold j2 at h1;simp only[Bool.and_eq_false_iff,not_or,Bool.not_eq_false,decide_eq_true_eq]at h1;omega
section
variable {f:G4} {la lb:List Ev} {ha hb:Int} {M N:List A9} (HM:Ar1 f (P9 la) ha M) (HN:Ar1 f (P9 lb) hb N) (hab:ha≤hb) (hF:Bo3 (dL f (P9 la)) (dL f (P9 lb)) ha) (l1:(P9 la).length≤512) (l2:(P9 lb).length≤512)
include HM HN hab hF
end
theorem Ar2 {P:Int→Prop} {s:D7} (h:∀r∈s.rs,P r.pl) (h0:P 0) (k:Nat) (a t:Int):∀r∈(V2 s k a t).rs,P r.pl:=by
 have hd:P (s.rat k).pl:=by
  by_cases hk:k<s.rs.length
  ·exact h _ (Ar0 hk)
  ·unfold D7.rat;rw[A6,List.getElem?_eq_none (by omega)];exact h0
 unfold V2;intro r hr
 cases hz:s.pz.getD k false
 ·rw[hz]at hr;exact h r hr
 ·rw[hz]at hr
  rcases List.mem_or_eq_of_mem_set (show r∈s.rs.set k _ from hr)with hr|rfl
  ·exact h r hr
  ·exact hd
theorem Ar3 {P:Int→Prop} {s:D7} (h:∀r∈s.rs,P r.pl) (h0:P 0) (k:Nat):P (s.rat k).pl:=by
 by_cases hk:k<s.rs.length
 ·exact h _ (Ar0 hk)
 ·unfold D7.rat;rw[A6,List.getElem?_eq_none (by omega)];exact h0
theorem wR {P:Int→Prop} {s:D7} (h:∀r∈s.rs,P r.pl) (h0:P 0) (b:Int) (x:D8) (hx:P x.p) (a t:Int):∀r∈(Y8 s b x a t).rs,P r.pl:=by
 unfold Y8;intro r hr;dsimp only at hr;split at hr
 ·exact h r hr
 ·rcases List.mem_or_eq_of_mem_set hr with hr|rfl
  ·exact Ar2 (s:={s with sp:=s.sp.set b.toNat x}) h h0 _ a t r hr
  ·exact hx
theorem Bo6 {P:Int→Prop} {s:D7} (h:∀r∈s.rs,P r.pl) (h0:P 0) {e:Ev} (he:P e.p):∀r∈(V7 s e).rs,P r.pl:=by
 unfold V7;intro r hr;dsimp only at hr;split at hr
 ·rcases List.mem_append.1 hr with hr|hr
  ·exact h r hr
  ·rw[List.mem_singleton]at hr;subst hr;exact h0
 ·split at hr
  ·unfold dK at hr
   split at hr
   ·exact h r hr
   ·rcases List.mem_or_eq_of_mem_set hr with hr|rfl
    ·exact h r hr
    ·exact Ar3 h h0 _
  ·split at hr
   ·split at hr
    ·exact h r hr
    ·rcases List.mem_or_eq_of_mem_set hr with hr|rfl
     ·exact h r hr
     ·exact Ar3 h h0 _
   ·split at hr
    ·split at hr
     ·exact h r hr
     ·exact Ar2 h h0 _ _ _ r hr
    ·split at hr
     ·exact wR h h0 _ _ he _ _ r hr
     ·split at hr
      ·exact wR h h0 _ _ he _ _ r hr
      ·split at hr
       ·exact wR h h0 _ _ h0 _ _ r hr
       ·exact h r hr
theorem Bo7 {f:G4} {e:Ev} (h:t6 f e=0) (hk:e.k≠10):0≤e.p∧e.p≤1024:=by
 obtain⟨_,_,_,hp,_,hf⟩:=jD h;have hd:f.dk.length≤32∧f.tk.length≤8:=by
  unfold K5 at hf;split at hf
  ·cases hf
  ·split at hf
   ·cases hf
   ·omega
 unfold bZ at hp;split at hp
 ·simp only[Bool.and_eq_true,decide_eq_true_eq]at hp
  omega
 ·split at hp
  ·simp[C6]at hp;omega
  ·split at hp
   ·simp[C6]at hp;omega
   ·simp at hp;omega
theorem Bo8 {f:G4} {l:List Ev}:∀r∈dL f l,0≤r.pl∧r.pl≤1024:=by
 have:∀(l:List Ev) (c:C5) (s:D7),(∀r∈s.rs,0≤r.pl∧r.pl≤1024)→∀r∈((O4 f c l).foldl V7 s).rs,0≤r.pl∧r.pl≤1024:=by
  intro l;induction l with
  |nil=>intro c s h;exact h
  |cons e l ih=>
   intro c s h
   unfold O4
   split
   ·rename_i ho
    unfold V1 at ho;simp only[Bool.and_eq_true,decide_eq_true_eq]at ho;exact ih _ _ (Bo6 (P:=fun n=>0≤n∧n≤1024) h (by omega) (Bo7 ho.1.1 ho.1.2))
   ·exact ih _ _ h
 exact this l _ _ (fun r hr=>by simp[Q3]at hr)
end
end Go.Proofs.YtmmlmhnjjfnpnaaGreat
