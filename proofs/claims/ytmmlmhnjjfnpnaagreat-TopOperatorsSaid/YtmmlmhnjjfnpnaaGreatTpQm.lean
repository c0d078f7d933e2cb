/- Texts that belong together. -/
import Derived.Test.YtmmlmhnjjfnpnaaGreatTpQe
import Derived.Test.YtmmlmhnjjfnpnaaGreatTpQf
set_option linter.all false
namespace Go.Proofs.YtmmlmhnjjfnpnaaGreat
section
open Go.RowKit
def I7 (r:A9):Int:=if J9 r=0 then(if r.op then 26 else 0)else J9 r
theorem AL5 (r:A9):J9 r=0↔i9 r=true∧j2 r=true∧X2 r=true∧gO r=false:=by
 unfold J9
 cases i9 r<;>cases j2 r<;>cases X2 r<;>cases gO r<;>simp
theorem Ad8 (r:A9):I7 r=0↔J9 r=0∧r.op=false:=by
 unfold I7;split
 ·rename_i h;cases r.op<;>simp[h]
 ·rename_i h;simp[h]
structure Ad9 (last e:Int) (l:List I2):Prop where
 le:last≤e
 p:∀p∈l,last≤p.f0∧p.f0≤p.t0∧p.t0≤e
 s:l.Pairwise fun p q=>p.t0≤q.f0
theorem Ae0:∀(l:List I2) (last e:Int),l6 false e last l=true→Ad9 last e l
 |[],last,e,h=>⟨by simpa[l6]using h,fun p hp=>(by cases hp),List.Pairwise.nil⟩
 |x :: l,last,e,h=>by
  simp only[l6,Bool.false_and,Bool.false_or,Bool.and_eq_true,decide_eq_true_eq]at h;obtain⟨h1,h2,h3⟩:=h;have ih:=Ae0 l x.t0 e h3;refine⟨by have:=ih.le;omega,fun p hp=>?_,List.pairwise_cons.2 ⟨fun q hq=>(ih.p q hq).1,ih.s⟩⟩;rcases List.mem_cons.1 hp with rfl|hp
  ·exact⟨h1,h2,ih.le⟩
  ·have:=ih.p p hp;omega
theorem Ae1:∀(l:List E0) (a0 a1 e0 e1:Int),j1 a0 a1 l e0 e1=true→p9 false l=true→a0≤e0
 |[],a0,a1,e0,e1,h,_ =>by simp[j1]at h;omega
 |x :: l,a0,a1,e0,e1,h,ho=>by
  simp only[j1,Bool.and_eq_true,decide_eq_true_eq]at h;simp only[p9,Bool.false_and,Bool.or_false,Bool.and_eq_true,decide_eq_true_eq]at ho;have:=Ae1 l x.t0 x.t1 e0 e1 h.2 ho.2;omega
structure pH (r:A9):Prop where
 s:0≤r.s0∧r.s0≤r.s1∧r.s1≤4294943999
 e:0≤r.e0∧r.e0≤r.e1∧r.e1≤4294943999
 se:r.s0≤r.e0
 p:∀p∈r.pauses,0≤p.f0∧p.f0≤p.f1∧p.f1≤4294943999∧0≤p.t0∧p.t0≤p.t1∧p.t1≤4294943999∧r.s0≤p.f0∧p.f0≤p.t0∧p.t0≤r.e0
 o:r.pauses.Pairwise fun p q=>p.t0≤q.f0
 pn:r.pauses.length≤512
 ln:1≤r.legs.length∧r.legs.length≤512
theorem fW {r:A9} (h:I7 r=0):pH r:=by
 obtain⟨h,hop⟩:=(Ad8 r).1 h;obtain⟨h1,h2,h3,h4⟩:=(AL5 r).1 h;simp only[i9,dW,Bool.and_eq_true,decide_eq_true_eq,List.all_eq_true]at h1;obtain⟨⟨⟨⟨_,hs⟩,he⟩,hl⟩,hp⟩:=h1;simp only[j2,Bool.and_eq_true,decide_eq_true_eq]at h2;simp only[X2,hop,Bool.and_eq_true,Bool.or_eq_true]at h3;have hs':=(fP _ _).1 hs;have he':=(fP _ _).1 he;have hse:=Ae1 _ _ _ _ _ h2.2 h3.1;have hpo:Ad9 r.s0 r.e0 r.pauses:=by
  rcases h3.2 with h5|h5
  ·have:r.pauses=[]:=by simpa using h5
   rw[this];exact⟨hse,fun p hp=>(by cases hp),List.Pairwise.nil⟩
  ·exact Ae0 _ _ _ h5
 refine⟨hs',he',hse,fun p hpp=>?_,hpo.s,h2.1.2,⟨h2.1.1.1,h2.1.1.2⟩⟩;have h6:=hp p hpp;simp only[cP,Bool.and_eq_true]at h6;have h7:=(fP _ _).1 h6.1;have h8:=(fP _ _).1 h6.2;have h9:=hpo.p p hpp;omega
def Y3 (r:A9):B3:=if I7 r=0 then⟨r.s1,max r.s1 r.e0⟩else⟨0,0⟩
def Y4 (p:I2):B3:=⟨p.f1,max p.f1 p.t0⟩
def Y5 (p:I2):B3:=⟨p.f0,max p.f0 p.t1⟩
theorem pI {r:A9} (h:pH r):X3 (⟨r.s1,max r.s1 r.e0⟩:B3)=true:=(gP _).2 (by
 have:=h.s;have:=h.e;show 0≤r.s1∧r.s1≤max r.s1 r.e0∧max r.s1 r.e0≤_;omega)
theorem pJ {x:B3} (h:X3 x=true):L4 [x]=false:=iW.2 fun y hy=>by simp at hy;subst hy;exact h
theorem Ae2 {r:A9} (h:pH r):L4 (r.pauses.map Y4)=false:=iW.2 fun x hx=>by
 obtain⟨p,hp,rfl⟩:=List.mem_map.1 hx;have:=h.p p hp;refine(gP _).2 ?_;show 0≤p.f1∧p.f1≤max p.f1 p.t0∧max p.f1 p.t0≤_;omega
theorem Ae3 {r:A9} (h:pH r):L4 (r.pauses.map Y5)=false:=iW.2 fun x hx=>by
 obtain⟨p,hp,rfl⟩:=List.mem_map.1 hx;have:=h.p p hp;refine(gP _).2 ?_;show 0≤p.f0∧p.f0≤max p.f0 p.t1∧max p.f0 p.t1≤_;omega
def bV (r:A9) (t:Int):Bool:=R8 t (Y3 r) && E3 (r.pauses.map Y4) t
def bW (r:A9) (t:Int):Bool:=R8 t (Y3 r) && !E3 (r.pauses.map Y5) t
structure Y6 (e:Int) (S:Int→Bool) (n:Nat) (c:List B3):Prop where
 ok:e=0→X8 c S
 no:e≠0→c=[]
 n:c.length≤n
def cnt (S:Int→Bool):Nat→Int
 |0=>0
 |n+1=>cnt S n+if S n then 1 else 0
theorem Ae4 {S T:Int→Bool}:∀n:Nat,(∀t:Int,0≤t→t<n→S t=T t)→cnt S n=cnt T n
 |0,_ =>rfl
 |n+1,h=>by
  have h1:=Ae4 n fun t h0 h1=>h t h0 (by omega);have h2:=h n (by omega) (by omega);simp only[cnt,h1,h2]
theorem Ae5 {S A B:Int→Bool}:∀n:Nat,(∀t:Int,0≤t→t<n→(S t=(A t || B t))∧(A t && B t)=false)→cnt S n=cnt A n+cnt B n
 |0,_ =>rfl
 |n+1,h=>by
  have h1:=Ae5 (S:=S) (A:=A) (B:=B) n fun t h0 h1=>h t h0 (by omega);obtain⟨h2,h3⟩:=h n (by omega) (by omega);simp only[cnt,h1,h2];revert h3
  cases A n<;>cases B n<;>simp<;>omega
theorem Ae6 {S:Int→Bool}:∀n:Nat,(∀t:Int,0≤t→t<n→S t=false)→cnt S n=0
 |0,_ =>rfl
 |n+1,h=>by
  have h1:=Ae6 (S:=S) n fun t h0 h1=>h t h0 (by omega);have h2:=h n (by omega) (by omega);simp only[cnt,h1,h2];simp
theorem Ae7 (x:B3) (h0:0≤x.f) (h1:x.f≤x.t):∀n:Nat,cnt (fun t=>R8 t x) n=min x.t n-min x.f n
 |0=>by simp[cnt];omega
 |n+1=>by
  have ih:=Ae7 x h0 h1 n;simp only[cnt,ih];by_cases hi:R8 n x=true
  ·rw[if_pos hi]
   have:=(l8 _ _).1 hi;omega
  ·rw[if_neg hi]
   have:¬(x.f≤(n:Int)∧(n:Int)<x.t):=fun h=>hi ((l8 _ _).2 h);omega
theorem Ae8:∀{u:List B3},N3 u→V6 u=cnt (E3 u) 4294944000
 |[],_ =>(Ae6 _ fun t _ _ =>rfl).symm
 |x :: u,hn=>by
  have hx:=hn.v x (by simp);have e1:V6 (x :: u)=(x.t-x.f)+V6 u:=by simp[V6]
  have h1:=Ae7 x hx.1 (by omega) 4294944000;rw[e1,Ae8 hn.tail,Ae5 (S:=E3 (x :: u)) (A:=fun t=>R8 t x) (B:=E3 u) _ fun t _ _ =>⟨rfl,by
   cases hi:R8 t x
   ·rfl
   ·have:=(l8 _ _).1 hi
    rw[tF hn (show t≤x.t by omega)];rfl⟩,h1]
  omega
theorem X8.len {u:List B3} {S:Int→Bool} (h:X8 u S):V6 u=cnt S 4294944000:=by
 rw[Ae8 h.n];exact Ae4 _ fun t _ _ =>h.h t
end
section
theorem Ae9 (S:Int→Bool):∃n:Int,n=cnt S 4294944000:=⟨_,rfl⟩
noncomputable def lenS (S:Int→Bool):Int:=Classical.choose (Ae9 S)
theorem Af0 (S:Int→Bool):lenS S=cnt S 4294944000:=Classical.choose_spec (Ae9 S)
noncomputable def T5 (r:A9):Int:=if I7 r=0 then lenS (bW r)else 0
noncomputable def f9 (r:A9):Int:=if I7 r=0 then lenS (bV r)else 0
theorem Af1 (S:Int→Bool):∀n:Nat,0≤cnt S n∧cnt S n≤n
 |0=>⟨Int.le_refl _,Int.le_refl _⟩
 |n+1=>by
  have:=Af1 S n;simp only[cnt];split<;>omega
theorem Af2 (S:Int→Bool):0≤lenS S∧lenS S≤4294944000:=by
 rw[Af0];exact Af1 S 4294944000
theorem AL6 (r:A9):0≤T5 r∧T5 r≤4294944000:=by
 unfold T5;split
 ·exact Af2 _
 ·omega
theorem AL7 (r:A9):0≤f9 r∧f9 r≤4294944000:=by
 unfold f9;split
 ·exact Af2 _
 ·omega
end
end Go.Proofs.YtmmlmhnjjfnpnaaGreat
