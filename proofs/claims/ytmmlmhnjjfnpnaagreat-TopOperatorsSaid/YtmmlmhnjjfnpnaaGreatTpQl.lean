/- Texts that belong together. -/
import Derived.Test.YtmmlmhnjjfnpnaaGreatTpQd
import Derived.Test.YtmmlmhnjjfnpnaaGreatTpQi
import Derived.Test.YtmmlmhnjjfnpnaaGreatTpQk
import Derived.Deep.QuietTactic
import Derived.BigQuiet
import Derived.Shelf.SlSortCmp.NoneTotal
set_option linter.all false
namespace Go.Proofs.YtmmlmhnjjfnpnaaGreat
section
open Go.RowKit Go.ChangeMaps Go.Sort
def l9 (x y:Ev):Int:=if T4 x y then -1 else if T4 y x then 1 else 0
theorem uE:∀(x y:List Int) (k:Nat),k<x.length→k<y.length→(∀j,j<k→B0 x j=B0 y j)→B0 x k<B0 y k→lexB x y=true
 |[],_,_,h,_,_,_ =>by simp at h
 | _ :: _,[],_,_,h,_,_ =>by simp at h
 |x :: xs,y :: ys,0,_,_,_,h=>by
  have h':x<y:=h;unfold lexB;rw[if_neg (by omega)];simpa using h'
 |x :: xs,y :: ys,k+1,h1,h2,hp,h=>by
  have h0:x=y:=hp 0 (by omega);unfold lexB;rw[if_pos h0];exact uE xs ys k (by simpa using h1) (by simpa using h2) (fun j hj=>hp (j+1) (by omega)) h
theorem AL0 {x y:Ev} {k:Nat} (hk:k<9) (hp:∀j,j<k→B0 x.ks j=B0 y.ks j) (hne:B0 x.ks k≠B0 y.ks k):R9 (B0 x.ks k) (B0 y.ks k)=l9 x y:=by
 unfold R9 l9;by_cases h:B0 x.ks k<B0 y.ks k
 ·have:T4 x y=true:=uE _ _ k (by rw[Ev.ks_len];exact hk) (by rw[Ev.ks_len];exact hk) hp h
  rw[if_pos h,this,if_pos rfl]
 ·have h2:B0 y.ks k<B0 x.ks k:=by omega
  have h3:T4 y x=true:=uE _ _ k (by rw[Ev.ks_len];exact hk) (by rw[Ev.ks_len];exact hk) (fun j hj=>(hp j hj).symm) h2;rw[if_neg h,if_pos h2,Ad0 h3,if_neg (by simp),h3,if_pos rfl]
theorem AL1 {x y:Ev} (hp:∀j,j<9→B0 x.ks j=B0 y.ks j):x=y:=by
 apply Ev.ks_inj;apply List.ext_getElem (by rw[Ev.ks_len,Ev.ks_len]);intro i h1 h2;have:=hp i (by rw[Ev.ks_len]at h1;exact h1);unfold B0 at this;simpa[A6,h1,h2]using this
theorem AL2 (x:Ev):l9 x x=0:=by unfold l9;simp[uB]
theorem AL3 {x y:Int} (h:x≠y):(R9 x y != 0)=true:=by
 unfold R9;by_cases h1:x<y
 ·simp[h1]
 ·have h2:y<x:=by omega
  rw[if_neg h1,if_pos h2];rfl
theorem AL4 {x y:Int} (h:x=y):(R9 x y != 0)=false:=by subst h;unfold R9;simp
set_option maxHeartbeats 2000000 in
theorem Ad6 (x y:Ev) (w:World):Calls Tryz.prog 177 #[x.ag,y.ag] w fun e w'=>e= .returned (.int .i64 (l9 x y))∧Gr w w':=by
 unfold Ev.ag;go_enter Tryz.func177,Tryz.ntmps177;go_upto_region 3 with fail;have hA:∀(k:Nat),k<9→(World.alloc (World.alloc (World.alloc (World.alloc w (.cells #[.int .i64 x.d,.int .i64 x.q,.int .i64 x.a,.int .i64 x.t,.int .i64 x.k,.int .i64 x.b,.int .i64 x.p,.int .i64 x.r,.int .i64 x.i] 63)) (.cells #[.int .i64 y.d,.int .i64 y.q,.int .i64 y.a,.int .i64 y.t,.int .i64 y.k,.int .i64 y.b,.int .i64 y.p,.int .i64 y.r,.int .i64 y.i] 63)) (.cells #[.int .i64 x.a,.int .i64 x.d,.int .i64 x.q,.int .i64 x.t,.int .i64 x.k,.int .i64 x.b,.int .i64 x.p,.int .i64 x.r,.int .i64 x.i] 166)) (.cells #[.int .i64 y.a,.int .i64 y.d,.int .i64 y.q,.int .i64 y.t,.int .i64 y.k,.int .i64 y.b,.int .i64 y.p,.int .i64 y.r,.int .i64 y.i] 166)).cell? ⟨w.heap.size+1+1,k,none⟩=some (.int .i64 (B0 x.ks k)):=fun k hk=>by
  have hk9:k=0∨k=1∨k=2∨k=3∨k=4∨k=5∨k=6∨k=7∨k=8:=by omega
  rcases hk9 with rfl|rfl|rfl|rfl|rfl|rfl|rfl|rfl|rfl<;>(simp[go_sem];rfl)
 have hB:∀(k:Nat),k<9→(World.alloc (World.alloc (World.alloc (World.alloc w (.cells #[.int .i64 x.d,.int .i64 x.q,.int .i64 x.a,.int .i64 x.t,.int .i64 x.k,.int .i64 x.b,.int .i64 x.p,.int .i64 x.r,.int .i64 x.i] 63)) (.cells #[.int .i64 y.d,.int .i64 y.q,.int .i64 y.a,.int .i64 y.t,.int .i64 y.k,.int .i64 y.b,.int .i64 y.p,.int .i64 y.r,.int .i64 y.i] 63)) (.cells #[.int .i64 x.a,.int .i64 x.d,.int .i64 x.q,.int .i64 x.t,.int .i64 x.k,.int .i64 x.b,.int .i64 x.p,.int .i64 x.r,.int .i64 x.i] 166)) (.cells #[.int .i64 y.a,.int .i64 y.d,.int .i64 y.q,.int .i64 y.t,.int .i64 y.k,.int .i64 y.b,.int .i64 y.p,.int .i64 y.r,.int .i64 y.i] 166)).cell? ⟨w.heap.size+1+1+1,k,none⟩=some (.int .i64 (B0 y.ks k)):=fun k hk=>by
  have hk9:k=0∨k=1∨k=2∨k=3∨k=4∨k=5∨k=6∨k=7∨k=8:=by omega
  rcases hk9 with rfl|rfl|rfl|rfl|rfl|rfl|rfl|rfl|rfl<;>(simp[go_sem];rfl)
 have hG:Gr w (World.alloc (World.alloc (World.alloc (World.alloc w (.cells #[.int .i64 x.d,.int .i64 x.q,.int .i64 x.a,.int .i64 x.t,.int .i64 x.k,.int .i64 x.b,.int .i64 x.p,.int .i64 x.r,.int .i64 x.i] 63)) (.cells #[.int .i64 y.d,.int .i64 y.q,.int .i64 y.a,.int .i64 y.t,.int .i64 y.k,.int .i64 y.b,.int .i64 y.p,.int .i64 y.r,.int .i64 y.i] 63)) (.cells #[.int .i64 x.a,.int .i64 x.d,.int .i64 x.q,.int .i64 x.t,.int .i64 x.k,.int .i64 x.b,.int .i64 x.p,.int .i64 x.r,.int .i64 x.i] 166)) (.cells #[.int .i64 y.a,.int .i64 y.d,.int .i64 y.q,.int .i64 y.t,.int .i64 y.k,.int .i64 y.b,.int .i64 y.p,.int .i64 y.r,.int .i64 y.i] 166)):=(((Gr.alloc _ _).trans (Gr.alloc _ _)).trans (Gr.alloc _ _)).trans (Gr.alloc _ _);generalize World.alloc (World.alloc (World.alloc (World.alloc w (.cells #[.int .i64 x.d,.int .i64 x.q,.int .i64 x.a,.int .i64 x.t,.int .i64 x.k,.int .i64 x.b,.int .i64 x.p,.int .i64 x.r,.int .i64 x.i] 63)) (.cells #[.int .i64 y.d,.int .i64 y.q,.int .i64 y.a,.int .i64 y.t,.int .i64 y.k,.int .i64 y.b,.int .i64 y.p,.int .i64 y.r,.int .i64 y.i] 63)) (.cells #[.int .i64 x.a,.int .i64 x.d,.int .i64 x.q,.int .i64 x.t,.int .i64 x.k,.int .i64 x.b,.int .i64 x.p,.int .i64 x.r,.int .i64 x.i] 166)) (.cells #[.int .i64 y.a,.int .i64 y.d,.int .i64 y.q,.int .i64 y.t,.int .i64 y.k,.int .i64 y.b,.int .i64 y.p,.int .i64 y.r,.int .i64 y.i] 166)=W1 at *;generalize w.heap.size+1+1+1=gy at *;generalize w.heap.size+1+1=gx at *;go_wp2_with fail;have HG:=A3 hG;clear hG;go_loopw [47] (fun i wr=>∃(k:Nat) (y':C3 W1),k≤9∧i= .int .i64 k∧wr=y'.w∧∀j,j<k→B0 x.ks j=B0 y.ks j) (fun i _ =>9-(intOf i).toNat)
 case atStart=>exact⟨0,⟨W1,Gr.refl _⟩,by omega,rfl,rfl,fun j hj=>by omega⟩
 case round=>
  obtain⟨k,z,hk,rfl,rfl,hp⟩:=hrel;have Hp:=A3 hp;clear hp;by_cases hlt:k<9
  ·have ca:∀z:C3 W1,z.w.cell? ⟨gx,k,none⟩=some (.int .i64 (B0 x.ks k)):=C3.cell (hA k hlt)
   have cb:∀z:C3 W1,z.w.cell? ⟨gy,k,none⟩=some (.int .i64 (B0 y.ks k)):=C3.cell (hB k hlt);have hk0:(0:Int)≤(k:Int):=by omega
   have hk9:(k:Int)<9:=by omega
   by_cases hne:B0 x.ks k=B0 y.ks k
   ·have hc:=AL4 hne
    have hp2:∀j,j<k+1→B0 x.ks j=B0 y.ks j:=fun j hj=>by
     by_cases hjk:j<k
     ·exact Hp.out j hjk
     ·obtain rfl:j=k:=by omega
      exact hne
    have Hp2:=A3 hp2;clear hp2 hA hB hne;generalize B0 x.ks k=u at *;generalize B0 y.ks k=v at *;go_wp2_with fail;refine Ab7 (by kernel_rfl) (by kernel_rfl) ?_;repeat(go_big_quiet_step((go_at_call 34;exact(fT _ _ _).mono fun _ _ h=>⟨h.1,_,h.2.symm⟩)))
    refine wpQuiet_nil ?_;rintro _ ⟨z2,rfl⟩;go_wp2_with fail;go_roundw
    case rel=>exact⟨k+1,z2,by omega,by go_num,rfl,Hp2.out⟩
    case measure=>simp[intOf];omega
   ·have hc:=AL3 hne
    have hres:=A3 (AL0 hlt Hp.out hne);clear hA hB hne;generalize B0 x.ks k=u at *;generalize B0 y.ks k=v at *;go_wp2_with fail;refine Ab7 (by kernel_rfl) (by kernel_rfl) ?_;repeat(go_big_quiet_step((go_at_call 34;exact(fT _ _ _).mono fun _ _ h=>⟨h.1,_,h.2.symm⟩)))
    refine wpQuiet_nil ?_;rintro _ ⟨z2,rfl⟩;go_wp2_with fail;go_ret;exact⟨D5 hres.out,HG.out.trans z2.g⟩
  ·obtain rfl:k=9:=by omega
   have hxy:=AL1 Hp.out;have hres:=A3 (show l9 x y=0 from by rw[hxy];exact AL2 y);clear hxy hA hB;go_wp2_with fail;go_ret;exact⟨D5 hres.out.symm,HG.out.trans z.g⟩
end
section
open Go.RowKit Go.ChangeMaps Go.Sort
theorem Ad7 (x y:Ev):decide (l9 x y<0)=T4 x y:=by
 unfold l9
 cases h:T4 x y
 ·cases h2:T4 y x<;>simp
 ·simp
end
end Go.Proofs.YtmmlmhnjjfnpnaaGreat
