/- Texts that belong together. -/
import Derived.Test.YtmmlmhnjjfnpnaaGreatTpQp
import Derived.Test.YtmmlmhnjjfnpnaaGreatTpQr
import Derived.Deep.MidRow
import Derived.Shelf.Spec.BitsCarry
import Derived.Ground.Names7Prog
set_option linter.all false
namespace Go.Proofs.YtmmlmhnjjfnpnaaGreat
set_option maxRecDepth 200000
set_option maxHeartbeats 64000000
section
open Go.Shelf Go.RowKit Go.Lib
def Tryz.lays264_ren:Go.Shelf.Ren:=⟨fun|264=>169|n=>n,fun|53=>255|46=>202|n=>n,fun|n=>n⟩
theorem Tryz.lays264:Go.Proofs.Lays.n264 Tryz.prog Tryz.lays264_ren:={mixed:=by kernel_rfl,f264:=Tryz.func169.trans (congrArg some (by kernel_rfl)),t46:=Tryz.underlying202,a46:=Tryz.isAgg202,z46:=Tryz.sizeOf202,v46:=Tryz.zeroValue202,t53:=Tryz.underlying255,a53:=Tryz.isAgg255,z53:=Tryz.sizeOf255,v53:=Tryz.zeroValue255}
theorem AQ9 (w:World) (x y:Nat) (hx:x<18446744073709551616) (hy:y<18446744073709551616):
 Calls Tryz.prog 169 #[.int .u64 (x:Int),.int .u64 (y:Int)] w fun o w'=>o= .returned (.tuple #[.int .u64 ((x*y/18446744073709551616:Nat):Int),.int .u64 ((x*y % 18446744073709551616:Nat):Int)])∧w'=w:=by
 have:=Any.bits_Mul64 Tryz.lays264 x y hx hy w;exact this
theorem Ag8 (w:World) (x:A7 w) (n lo hi:Int) (h1:lo≤n) (h2:n≤hi):
 Calls Tryz.prog 113 #[.int .i64 n,.int .i64 lo,.int .i64 hi] x.w fun o w'=>o= .returned (.bool true)∧∃y:A7 w,w'=y.w:=by
 go_enter Tryz.func113,Tryz.ntmps113;go_wp2_with fail;go_ret;exact⟨rfl,x,rfl⟩
theorem AR0 (w:World) (x:A7 w) (a b c:Nat) (ha:a≤1125899906842624) (hb:b≤c) (hc:0<c) (hc2:c≤1125899906842624):
 Calls Tryz.prog 114 #[.int .i64 (a:Int),.int .i64 (b:Int),.int .i64 (c:Int)] x.w fun o w'=>∃r:Nat,r<c∧o= .returned (.tuple #[.int .i64 ((a*b/c:Nat):Int),.int .i64 (r:Int)])∧∃y:A7 w,w'=y.w:=by
 have hM:=AQ9 x.w a b (by omega) (by omega);have hp:a*b≤1125899906842624*c:=Nat.mul_le_mul ha hb;have hq:a*b/c≤1125899906842624:=by
  refine Nat.div_le_of_le_mul ?_;rw[Nat.mul_comm c];exact hp
 have hD:=AO8 w x (a*b/18446744073709551616) (a*b % 18446744073709551616) c (by omega) (by omega) (Nat.mod_lt _ (by omega));rw[show a*b/18446744073709551616*18446744073709551616+a*b % 18446744073709551616=a*b from by omega]at hD;generalize a*b/18446744073709551616=hi at *;generalize a*b % 18446744073709551616=lo at *;generalize a*b/c=q at *;have HM:=A3 hM;have HD:=A3 hD;have hb2:b≤1125899906842624:=by omega
 clear hM hD hp hb;go_enter Tryz.func114,Tryz.ntmps114;go_wp2_with(first|(go_at_call 169;(with_reducible refine HM.out.mono ?_);rintro _ _ ⟨rfl,rfl⟩)|(go_at_call 170;(with_reducible refine HD.out.mono ?_);rintro _ _ ⟨r,hr,rfl,y,rfl⟩;(have Hr:=A3 hr);(have hr2:r<1125899906842624:=by omega)));go_ret2
 exact⟨r,Hr.out,rfl,y,rfl⟩
end
section
open Go.RowKit
abbrev eZ (w:World) (a:Option Addr) (l:List Nat):Prop:=N0 w a l.length fun i=>.int .i64 ((l.getD i 0:Nat):Int)
abbrev PV (w:World) (g:Nat) (l:List Nat):Prop:=K6 w g l.length fun j=>.int .i64 ((l.getD j 0:Nat):Int)
theorem PV.set {w:World} {g k v:Nat} {l:List Nat} (h:PV w g l) (hk:k<l.length):PV (w.setCell ⟨g,k,none⟩ (.int .i64 (v:Int))) g (l.set k v):=by
 have h1:=K6.set (f':=fun j=>.int .i64 (((l.set k v).getD j 0:Nat):Int)) h hk (.int .i64 (v:Int)) (by simp[A6,hk]) (fun j _ hj=>by simp[A6,List.getElem?_set_ne (Ne.symm hj)]);show K6 _ g (l.set k v).length _;rw[List.length_set];exact h1
def mP (w:World) (T:Nat) (ws:List Nat) (o:Ending) (w':World):Prop:=
 ∃(g:Nat) (P:List Nat) (y:A7 w),o= .returned (.tuple #[.slice (some ⟨g,0,none⟩) ws.length ws.length,.int .i64 0])∧w'=y.w∧w.heap.size≤g∧eZ y.w (some ⟨g,0,none⟩) P∧gZ T ws P
theorem Ag9:M6 Tryz.prog 22 3 (.int .i64 0) 1 8:=M6.mk' Tryz.underlying22 (by kernel_rfl) rfl (by decide)
structure o5 (w:World) (gp gr go gx n k k':Nat) (f r:Nat→Nat):Prop where
 p:K6 w gp n (fun j=>.int .i64 ((if j<k then f j else 0:Nat):Int))
 r:K6 w gr n (fun j=>.int .i64 (r j))
 o:K6 w go n (fun j=>.int .i64 ((if j<k' then j else 0:Nat):Int))
 x:C4 w gx [.slice (some ⟨gr,0,none⟩) n n]
structure pU (gp gr go gx:Nat):Prop where
 a:gp≠gr
 b:gp≠go
 c:gp≠gx
 d:gr≠go
 e:gr≠gx
 f:go≠gx
section
variable {w:World} {gp gr go gx n k k' i:Nat} {f r:Nat→Nat}
theorem o5.to {W:World} (h:o5 w gp gr go gx n k k' f r) (hW:∃z:A7 w,W=z.w):o5 W gp gr go gx n k k' f r:=⟨h.p.to hW,h.r.to hW,h.o.to hW,h.x.to hW⟩
theorem o5.putO (h:o5 w gp gr go gx n k i f r) (D:pU gp gr go gx) (hi:i<n):o5 (w.setCell ⟨go,i,none⟩ (.int .i64 (i:Int))) gp gr go gx n k (i+1) f r:=
 ⟨h.p.setOther _ D.b.symm _,h.r.setOther _ D.d.symm _,h.o.set hi _ (by simp) (fun j _ hj=>by
  by_cases hlt:j<i
  ·rw[if_pos hlt,if_pos (by omega)]
  ·rw[if_neg hlt,if_neg (by omega)]),h.x.far _ _ D.f.symm⟩
theorem o5.putP (h:o5 w gp gr go gx n i k' f r) (D:pU gp gr go gx) (hi:i<n):o5 (w.setCell ⟨gp,i,none⟩ (.int .i64 (f i:Int))) gp gr go gx n (i+1) k' f r:=
 ⟨h.p.set hi _ (by simp) (fun j _ hj=>by
  by_cases hlt:j<i
  ·rw[if_pos hlt,if_pos (by omega)]
  ·rw[if_neg hlt,if_neg (by omega)]),h.r.setOther _ D.a _,h.o.setOther _ D.b _,h.x.far _ _ D.c.symm⟩
theorem o5.skipP (h:o5 w gp gr go gx n i k' f r) (h0:f i=0):o5 w gp gr go gx n (i+1) k' f r:=
 ⟨h.p.congr (fun j _ =>by
  by_cases hlt:j<i
  ·rw[if_pos hlt,if_pos (by omega)]
  ·rw[if_neg hlt]
   by_cases hj:j=i
   ·subst hj;rw[if_pos (by omega),h0]
   ·rw[if_neg (by omega)]),h.r,h.o,h.x⟩
theorem o5.putR (h:o5 w gp gr go gx n k k' f r) (D:pU gp gr go gx) (hi:i<n) (v:Nat):∃r':Nat→Nat,o5 (w.setCell ⟨gr,i,none⟩ (.int .i64 (v:Int))) gp gr go gx n k k' f r':=
 ⟨fun j=>if j=i then v else r j,h.p.setOther _ D.a.symm _,h.r.set hi _ (by simp) (fun j _ hj=>by rw[if_neg hj]),h.o.setOther _ D.d _,h.x.far _ _ D.e.symm⟩
end
theorem sA {w:World} {n:Nat} (o:Obj) (h:w.heap.size=n):(w.alloc o).heap.size=n+1:=by subst h;simp
theorem vn {w:World} {g n:Nat} {z:Value} {e:TypeId} (h:w.heap.size=g):K6 (w.alloc (.cells (Array.replicate n z) e)) g n (fun _ =>z):=by
 subst h;have:=K6.new w (List.replicate n z) e n (fun _ =>z) (fun i hi=>by simp[hi]);rwa[List.toArray_replicate]at this
theorem vu {w:World} {g n:Nat} {f:Nat→Value} {o:Obj} (h:K6 w g n f):K6 (w.alloc o) g n f:=h.to (A8.alloc (A8.self _) _)
theorem vd {w:World} {g n:Nat} {f:Nat→Value} (h:K6 w g n f):K6 w.drew g n f:=h.to (A8.drew' (A8.self _))
theorem vs {w:World} {g n b o:Nat} {f:Nat→Value} {v:Value} (hp:b≠g) (h:K6 w g n f):K6 (w.setCell ⟨b,o,none⟩ v) g n f:=h.setOther _ hp _
theorem bn {w:World} {g:Nat} {v:Value} {e:TypeId} (h:w.heap.size=g):C4 (w.alloc (.cells #[v] e)) g [v]:=by
 subst h;exact C4.new w [v] e
theorem iS {W w:World} {b o:Nat} {v:Value} (hb:W.heap.size≤b) (h:A8 W w):A8 W (w.setCell ⟨b,o,none⟩ v):=A8.set h _ hb _
theorem AR2 {w W:World} {k gp gr go gx:Nat} {z:Value} (hb:C4 W gx [.slice (some ⟨gr,0,none⟩) k k]) (hw:A8 w W) (h1:K6 W gp k (fun _ =>z)) (h2:K6 W gr k (fun _ =>z)) (h3:K6 W go k (fun _ =>z)) (hd:[gp,gr,go,gx].Pairwise (·≠·)) (hn:∀b∈[gp,gr,go,gx],w.heap.size≤b):
 ∃(gp' gr' go' gx':Nat) (y5:A7 w),Value.slice (some ⟨gp,0,none⟩) k k= .slice (some ⟨gp',0,none⟩) k k∧Value.pointer (some ⟨gx,0,none⟩)= .pointer (some ⟨gx',0,none⟩)∧Value.slice (some ⟨go,0,none⟩) k k= .slice (some ⟨go',0,none⟩) k k∧W=y5.w∧K6 y5.w gp' k (fun _ =>z)∧K6 y5.w gr' k (fun _ =>z)∧K6 y5.w go' k (fun _ =>z)∧C4 y5.w gx' [.slice (some ⟨gr',0,none⟩) k k]∧[gp',gr',go',gx'].Pairwise (·≠·)∧∀b∈[gp',gr',go',gx'],w.heap.size≤b:=by
 obtain⟨y5,rfl⟩:=hw;exact⟨gp,gr,go,gx,y5,rfl,rfl,rfl,rfl,h1,h2,h3,hb,hd,hn⟩
theorem Ah0 (w:World) (x:A7 w) (T:Nat) (ws:List Nat) (a:Option Addr) (c:Nat) (hr:eZ w a ws) (hT:T≤1125899906842624) (hn:1≤ws.length∧ws.length≤512) (hs:ws.sum≤1125899906842624) (h0:ws.sum=0→T=0):
 Calls Tryz.prog 68 #[.int .i64 (T:Int),.slice a ws.length c] x.w (mP w T ws):=by
 have HP:=A3 (fun(g:Nat) (P:List Nat) (y:A7 w) (h0:w.heap.size≤g) (h1:eZ y.w (some ⟨g,0,none⟩) P) (h2:gZ T ws P)=>show mP w T ws (.returned (.tuple #[.slice (some ⟨g,0,none⟩) ws.length ws.length,.int .i64 0])) y.w from⟨g,P,y,rfl,rfl,h0,h1,h2⟩);generalize mP w T ws=PO at *;obtain⟨n,hnn⟩:∃n,ws.length=n:=⟨_,rfl⟩
 obtain⟨S,hS⟩:∃S,ws.sum=S:=⟨_,rfl⟩
 have HR:=A3 hr;rw[hnn]at hn HP⊢;rw[hS]at hs h0;have Hn:=A3 hnn;have HS:=A3 hS;have H0:=A3 h0;clear hr hnn hS h0;go_enter Tryz.func68,Tryz.ntmps68;go_wp2_with(go_at_call 113;(with_reducible refine(Ag8 w _ _ _ _ (by omega) (by omega)).mono ?_);rintro _ _ ⟨rfl,y1,rfl⟩);go_loopw [6,27] (fun s t wr=>∃(k:Nat) (y:A7 w),k≤n∧s= .int .i64 (((ws.take k).sum:Nat):Int)∧t= .int .i64 (k:Int)∧wr=y.w) (fun _ t _ =>n-(intOf t).toNat)
 case atStart=>exact⟨0,y1,by omega,rfl,rfl,rfl⟩
 case round=>
  clear y1;obtain⟨k,y,hk,rfl,rfl,rfl⟩:=hrel;by_cases hkn:k<n
  ·have Ay1:(k:Int)<(n:Int):=by omega
   obtain⟨v,hv⟩:∃v,ws[k]? =some v:=⟨_,A4 (by have:=Hn.out;omega)⟩
   obtain⟨ba,off,rfl,hwk⟩:∃ba off,a=some ⟨ba,off,none⟩∧∀z:A7 w,z.w.cell? ⟨ba,off+k,none⟩=some (.int .i64 (v:Int)):=by
    obtain⟨ba,off,ha,hb,hc⟩:=HR.out k (by have:=Hn.out;omega);refine⟨ba,off,ha,A7.cell ?_ hb⟩;rw[hc];show some (Value.int .i64 ((ws.getD k 0:Nat):Int))= _;rw[A6,hv];rfl
   have hv2:v≤1125899906842624:=by have:=jB hv;have:=HS.out;omega
   have Hv:=A3 hv;have hsum:(ws.take (k+1)).sum=(ws.take k).sum+v:=by rw[gY hv,List.sum_append];simp
   have hle:(ws.take (k+1)).sum≤1125899906842624:=by have:=kM ws (k+1);have:=HS.out;omega
   have hle2:(ws.take k).sum+v≤1125899906842624:=by omega
   have iP:=A3 hsum;clear hsum hle hv;generalize(ws.take k).sum=z at *;go_wp2_with(go_at_call 113;(with_reducible refine(Ag8 w _ _ _ _ (by omega) (by omega)).mono ?_);rintro _ _ ⟨rfl,y1,rfl⟩);go_roundw
   case rel=>exact⟨k+1,y1,by omega,by rw[iP.out];go_num,by go_num,rfl⟩
   case measure=>simp[intOf];omega
  ·obtain rfl:k=n:=by omega
   rw[show ws.take k=ws from by rw[←Hn.out];exact List.take_length,HS.out];clear hk hkn;have hkk:¬(k:Int)<(k:Int):=by omega
   have hS2:¬(1125899906842624:Int)<(S:Int):=by omega
   have hz:S=0∨0<S:=by omega
   clear hz;go_upto_region 13 with fail;go_cut [41] (fun t wr=>t= .bool false∧wr=y.w)
   case first=>
    by_cases hS0:S=0
    ·have hT0:=H0.out hS0
     subst hS0 hT0;go_wp2_with fail;go_meet;exact⟨rfl,rfl⟩
    ·have hS1:¬(S:Int)=0:=by omega
     go_wp2_with fail;go_meet;exact⟨rfl,rfl⟩
   case rest=>
    obtain⟨rfl,rfl⟩:=hcut;have hmk:=fun q:World=>sM Ag9 rfl k (by omega) (by omega) q;go_upto_region 15 with fail;go_cut [9,10,11] (fun s9 s10 s11 wr=>∃(gp gr go gx:Nat) (y5:A7 y.w),s9= .slice (some ⟨gp,0,none⟩) k k∧s10= .pointer (some ⟨gx,0,none⟩)∧s11= .slice (some ⟨go,0,none⟩) k k∧wr=y5.w∧K6 y5.w gp k (fun _ =>.int .i64 0)∧K6 y5.w gr k (fun _ =>.int .i64 0)∧K6 y5.w go k (fun _ =>.int .i64 0)∧C4 y5.w gx [.slice (some ⟨gr,0,none⟩) k k]∧[gp,gr,go,gx].Pairwise (·≠·)∧∀b∈[gp,gr,go,gx],y.w.heap.size≤b)
    case first=>
     go_region_held3 (fun w'=>A8 y.w w') (repeat(with_reducible first|assumption|exact A8.self _|refine A8.drew' ?_|refine A8.alloc ?_ _|refine A8.set ?_ _ (by simp;omega) _)) (fail);all_goals(go_wp2_with fail)
     all_goals go_meet
     all_goals
      apply AR2
      ·(repeat(with_reducible first|exact bn rfl|exact bn (sA _ rfl)|exact bn (sA _ (sA _ rfl))|exact bn (sA _ (sA _ (sA _ rfl)))|refine C4.drew ?_|apply C4.set1|refine C4.up ?_ _))
      ·(repeat(with_reducible first|exact A8.self _|refine A8.drew' ?_|refine A8.alloc ?_ _|refine iS (by omega) ?_))
      ·(repeat(with_reducible first|exact vn rfl|exact vn (sA _ rfl)|exact vn (sA _ (sA _ rfl))|exact vn (sA _ (sA _ (sA _ rfl)))|refine vd ?_|refine vs (by omega) ?_|refine vu ?_))
      ·(repeat(with_reducible first|exact vn rfl|exact vn (sA _ rfl)|exact vn (sA _ (sA _ rfl))|exact vn (sA _ (sA _ (sA _ rfl)))|refine vd ?_|refine vs (by omega) ?_|refine vu ?_))
      ·(repeat(with_reducible first|exact vn rfl|exact vn (sA _ rfl)|exact vn (sA _ (sA _ rfl))|exact vn (sA _ (sA _ (sA _ rfl)))|refine vd ?_|refine vs (by omega) ?_|refine vu ?_))
      ·simp;try omega
      ·simp;try omega
    case rest=>
     obtain⟨gp,gr,go,gx,y5,rfl,rfl,rfl,rfl,v1,v2,v3,hbx,hd,hg⟩:=hcut;have hys:=y.b.size;have HG:=A3 (show w.heap.size≤gp∧w.heap.size≤gr∧w.heap.size≤go∧w.heap.size≤gx from by simp at hg;omega);have HD:=A3 (show pU gp gr go gx from by simp at hd;exact⟨by omega,by omega,by omega,by omega,by omega,by omega⟩);obtain⟨z,hz⟩:=y.trans y5;rw[hz]at v1 v2 v3 hbx⊢;have HM:=A3 (show o5 z.w gp gr go gx k 0 0 (fun j=>P7 T S (ws.getD j 0)) (fun _ =>0)from⟨v1.congr (fun j _ =>by simp),v2.congr (fun j _ =>by simp),v3.congr (fun j _ =>by simp),hbx⟩);have HF:=A3 (show∀i v,ws[i]? =some v→S5 T S (ws.take (i+1))=S5 T S (ws.take i)+P7 T S v from fun i v h=>AP0 h);have HT:=A3 (show∀i,S5 T S (ws.take i)≤T from fun i=>by
      have h1:=Af9 T S ws i;by_cases h:S=0
      ·have h2:∀l:List Nat,S5 T S l=0:=fun l=>by subst h;unfold S5 P7;induction l with
        |nil=>rfl
        |cons a l ih=>rw[List.map_cons,List.sum_cons,ih];simp
       rw[h2];omega
      ·have h3:=(uL (T:=T) (ws:=ws) (by rw[HS.out];omega)).1
       rw[HS.out]at h3;omega)
     clear v1 v2 v3 hbx hd hg hys hz hmk y5 y;go_wp2_with fail;go_loopw [12,60] (fun s t wr=>∃(i:Nat) (r:Nat→Nat) (q:A7 w),i≤k∧s= .int .i64 ((T-S5 T S (ws.take i):Nat):Int)∧t= .int .i64 (i:Int)∧wr=q.w∧o5 q.w gp gr go gx k i i (fun j=>P7 T S (ws.getD j 0)) r) (fun _ t _ =>k-(intOf t).toNat)
     case atStart=>exact⟨0,fun _ =>0,z,by omega,by simp[S5],rfl,rfl,HM.out⟩
     case round=>
      clear HM;obtain⟨i,r,q,hi,rfl,rfl,rfl,hM⟩:=hrel;have HM:=A3 hM;clear hM;obtain⟨m,hm⟩:∃m,T-S5 T S (ws.take i)=m:=⟨_,rfl⟩
      rw[hm];by_cases hik:i<k
      ·have Bx7:(i:Int)<(k:Int):=by omega
       obtain⟨v,hv⟩:∃v,ws[i]? =some v:=⟨_,A4 (by have:=Hn.out;omega)⟩
       obtain⟨ba,off,rfl,hwk⟩:∃ba off,a=some ⟨ba,off,none⟩∧∀z:A7 w,z.w.cell? ⟨ba,off+i,none⟩=some (.int .i64 (v:Int)):=by
        obtain⟨ba,off,ha,hb,hc⟩:=HR.out i (by have:=Hn.out;omega);refine⟨ba,off,ha,A7.cell ?_ hb⟩;rw[hc];show some (Value.int .i64 ((ws.getD i 0:Nat):Int))= _;rw[A6,hv];rfl
       have hv2:v≤S:=by have:=jB hv;have:=HS.out;omega
       have Hq:=A3 (show T-S5 T S (ws.take (i+1))+P7 T S v=m from by have h1:=HF.out i v hv;have h2:=HT.out (i+1);omega);have Hfi:=A3 (show P7 T S (ws.getD i 0)=P7 T S v from by rw[A6,hv];rfl);have hmT:m≤T:=by omega
       clear hv hm;have c1:q.w.cell? ⟨go,i,none⟩=some (.int .i64 ((if i<i then i else 0:Nat):Int)):=HM.out.o.c i hik;rw[if_neg (by omega)]at c1;have f1:=HM.out.o.f i hik;have hwq:=hwk q;go_upto_region 21 with fail;clear hwq c1 f1;have HM1:=A3 (HM.out.putO HD.out hik);obtain⟨q1,hq1⟩:=q.set ⟨go,i,none⟩ HG.out.2.2.1 (.int .i64 (i:Int));rw[hq1]at HM1⊢;clear hq1 HM;have hvS:P7 T S v≤T:=by have:=Hq.out;omega
       by_cases hS0:S=0
       ·have hf0:P7 T S v=0:=by subst hS0;unfold P7;simp
        have hS1:¬(0:Int)<(S:Int):=by omega
        have HM2:=A3 (HM1.out.skipP (by show P7 T S (ws.getD i 0)=0;rw[Hfi.out];exact hf0));have c2:q1.w.cell? ⟨gp,i,none⟩=some (.int .i64 ((if i<i+1 then P7 T S (ws.getD i 0)else 0:Nat):Int)):=HM2.out.p.c i hik;rw[if_pos (by omega),Hfi.out]at c2;generalize P7 T S v=fl at *;go_wp2_with fail;go_roundw
        case rel=>exact⟨i+1,_,q1,by omega,by rw[show T-S5 T S (ws.take (i+1))=m-fl from by have:=Hq.out;omega];go_num,by go_num,rfl,HM2.out⟩
        case measure=>simp[intOf];omega
       ·have hS1:(0:Int)<(S:Int):=by omega
        have HQ:=A3 (fun(u:World) (hu:A8 w u)=>show Calls Tryz.prog 114 #[.int .i64 (T:Int),.int .i64 (v:Int),.int .i64 (S:Int)] u (fun o w'=>∃r:Nat,r<S∧o= .returned (.tuple #[.int .i64 ((P7 T S v:Nat):Int),.int .i64 (r:Int)])∧∃y:A7 u,w'=y.w)from AR0 u (A7.self u) T v S hT hv2 (by omega) hs);have hcx:q1.w.drew.cell? ⟨gx,0,none⟩=some (.slice (some ⟨gr,0,none⟩) k k):=HM1.out.x.drew.c 0 _ rfl;go_upto_region 22 with fail;generalize P7 T S v=fl at *;refine R7 (fun w'=>A8 w w'∧w'.cell? ⟨gx,0,none⟩=some (.slice (some ⟨gr,0,none⟩) k k)) 14 (by kernel_rfl) ⟨A8.drew' (A8.of q1),hcx⟩ (fun hS=>?_);iterate 7
         refine J4 0 ?_ rfl rfl (by kernel_rfl) hS (fun _ _ _ h=>h) ?_ ?_
         rotate_left
         ·(intro w h;(try dsimp only at h);go_split_ands;go_simp;try with_reducible rfl)
         (try simp only[Act.put,B9])
        refine I0 7 (by kernel_rfl) rfl fun K hK=>?_;(go_simp;(with_reducible refine(HQ.out _ hS.1).mono ?_);rintro _ _ ⟨r2,hr2,rfl,z2,rfl⟩;(have HM2:=A3 (HM1.out.to (A8.trans (A8.drew' (A8.self _)) (A8.of z2))));(have hz2:=A8.trans hS.1 (A8.of z2));generalize z2.w=wz at *;clear z2)
        refine E5 hK (⟨hz2,HM2.out.x.c 0 _ rfl⟩) ?_;clear hK K hS;intro hS;(try simp only[Act.put,B9])
        iterate 4
         refine J4 8 ?_ rfl rfl (by kernel_rfl) hS (fun _ _ _ h=>h) ?_ ?_
         rotate_left
         ·(intro w h;(try dsimp only at h);go_split_ands;go_simp;try with_reducible rfl)
         (try simp only[Act.put,B9])
        have HM3:=A3 (show o5 (wz.setCell ⟨gp,i,none⟩ (.int .i64 (fl:Int))) gp gr go gx k (i+1) (i+1) (fun j=>P7 T S (ws.getD j 0)) r from by
         have h:=HM2.out.putP HD.out hik;rw[Hfi.out]at h;exact h)
        have d1:=HM2.out.p.c i hik;have f1:=HM2.out.p.f i hik;have d2:=HM3.out.r.c i hik;have f2:=HM2.out.r.f i hik;have hz3:=A8.set hz2 ⟨gp,i,none⟩ HG.out.1 (.int .i64 (fl:Int));refine I0 12 (by kernel_rfl) rfl fun K hK=>?_;go_simp;refine E5 hK (⟨hz3,HM3.out.x.c 0 _ rfl⟩) ?_;clear hK K hS;intro hS;(try simp only[Act.put,B9])
        refine tk 13 ?_ rfl (by kernel_rfl) hS (fun _ _ _ h=>h) ?_ ?_;rotate_left
        ·(intro w h;(try dsimp only at h);go_split_ands;go_simp;try with_reducible rfl)
        (try simp only[Act.put,B9])
        refine I0 14 (by kernel_rfl) rfl fun K hK=>?_;go_simp;refine M9 hK (by kernel_rfl) ?_;clear hK K;(try clear hS)
        (try simp only[Act.put,B9])
        obtain⟨r3,hM4⟩:=HM3.out.putR HD.out hik r2;obtain⟨q2,hq2⟩:=A8.set hz3 ⟨gr,i,none⟩ HG.out.2.1 (.int .i64 (r2:Int));rw[hq2]at hM4⊢;have HM4:=A3 hM4;clear d1 d2 f1 f2 hz3 hz2 hq2 hM4 HM3 HM2 HM1 HQ hcx;have c2:q2.w.cell? ⟨gp,i,none⟩=some (.int .i64 ((if i<i+1 then P7 T S (ws.getD i 0)else 0:Nat):Int)):=HM4.out.p.c i hik;rw[if_pos (by omega),Hfi.out]at c2;have hfm:fl≤m:=by have:=Hq.out;omega
        go_wp2_with fail;go_roundw
        case rel=>exact⟨i+1,_,q2,by omega,by rw[show T-S5 T S (ws.take (i+1))=m-fl from by have:=Hq.out;omega];go_num,by go_num,rfl,HM4.out⟩
        case measure=>simp[intOf];omega
      ·obtain rfl:i=k:=by omega
       rw[show ws.take i=ws from by rw[←Hn.out];exact List.take_length]at hm;have Hm:=A3 hm;have HL:=A3 (show m≤i∧eX T ws (ws.map (P7 T S)) m from by
        by_cases h:S=0
        ·obtain rfl:T=0:=H0.out h
         obtain rfl:m=0:=by omega
         refine⟨by omega,?_⟩;have h2:=AP2 (ws:=ws);rwa[show List.replicate ws.length 0=ws.map (P7 0 S)from by rw[←List.map_const'];exact List.map_congr_left fun v _ =>by simp[P7]]at h2
        ·have h1:=uL (T:=T) (ws:=ws) (by rw[HS.out];omega)
         have h2:=AP1 (T:=T) (ws:=ws) (by rw[HS.out];omega);rw[HS.out]at h1 h2;have h3:=Hn.out;refine⟨by omega,?_⟩;rw[←hm];exact h2)
       have hO:=HM.out.o;have Hor:=A3 (show N5 i go q.w q.w from⟨B7.refl _ _,fun j=>j,fun j hj=>hj,hO.congr fun j hj=>by rw[if_pos hj]⟩);have HRs:=A3 (show fY i gx gr i r q.w from⟨HM.out.x.lt,HM.out.x.c 0 _ rfl,HM.out.r⟩);have HC:=A3 (AQ4 i go i gx gr i hn.2 r q.w q.w HRs.out (Ne.symm HD.out.f) HD.out.d Hor.out);clear hm hO HF HT hi hik Hor HRs;have hii:¬(i:Int)<(i:Int):=by omega
       go_wp2_with(go_at_call 115;(with_reducible refine HC.out.mono ?_);rintro _ w2 ⟨rfl,h2⟩;(have H2:=A3 h2);clear h2);obtain⟨ord,ho,hV⟩:=H2.out.v;obtain⟨q2,hq2⟩:=B7.since q H2.out.k (fun g hg=>by subst hg;exact HG.out.2.2.1);have HPV:=A3 (show PV q2.w gp (ws.map (P7 T S))from by
        have h1:=HM.out.p.keep H2.out.k.size (H2.out.k.block gp HM.out.p.lt HD.out.b);rw[hq2]at h1;show K6 q2.w gp (ws.map (P7 T S)).length _;rw[List.length_map,Hn.out];refine h1.congr fun j hj=>?_;rw[if_pos hj,A6,A6,List.getElem?_map];have h3:j<ws.length:=by rw[Hn.out];exact hj
        rw[A4 h3];rfl)
       rw[hq2]at hV⊢;have HV:=A3 hV;have Ho:=A3 ho;clear hV ho H2 hq2 HC HM hii;go_loopw [95] (fun t wr=>∃(j:Nat) (P:List Nat) (q:A7 w),j≤m∧t= .int .i64 (j:Int)∧wr=q.w∧PV q.w gp P∧K6 q.w go i (fun j=>.int .i64 (ord j))∧eX T ws P (m-j)) (fun t _ =>m-(intOf t).toNat)
       case atStart=>exact⟨0,_,q2,by omega,rfl,rfl,HPV.out,HV.out,HL.out.2⟩
       case round=>
        have hmi:=HL.out.1;clear HPV HV HL q2;obtain⟨j,P,q2,hj,rfl,rfl,hP,hV,hK⟩:=hrel;have HPV:=A3 hP;have HV:=A3 hV;have HK:=A3 hK;clear hP hV hK;by_cases hjm:j<m
        ·have BC7:(j:Int)<(m:Int):=by omega
         have hj2:(j:Int)<(i:Int):=by omega
         have hoi:=Ho.out j (by omega);obtain⟨u,hu⟩:∃u,ord j=u:=⟨_,rfl⟩
         have c1:q2.w.cell? ⟨go,j,none⟩=some (.int .i64 (u:Int)):=by rw[←hu];exact HV.out.c j (by omega)
         rw[hu]at hoi;have hlen:P.length=i:=HK.out.n.trans Hn.out;obtain⟨p,hp⟩:∃p,P[u]? =some p:=⟨_,A4 (by omega)⟩
         have c2:q2.w.cell? ⟨gp,u,none⟩=some (.int .i64 (p:Int)):=by
          rw[HPV.out.c u (by omega)];show some (Value.int .i64 ((P.getD u 0:Nat):Int))= _;rw[A6,hp];rfl
         have f2:=HPV.out.f u (by omega);have hpT:p≤1125899906842624:=by have h1:=jB hp;have h2:=HK.out.s;omega
         have hui:(u:Int)<(i:Int):=by omega
         have HN:=A3 (show eX T ws (P.set u (p+1)) (m-(j+1))from by
          have h1:=HK.out;rw[show m-j=m-(j+1)+1 from by omega]at h1;exact h1.give hp)
         have rS:=A3 (PV.set (v:=p+1) HPV.out (k:=u) (by omega));have HV2:=A3 (HV.out.setOther ⟨gp,u,none⟩ HD.out.b (.int .i64 ((p+1:Nat):Int)));obtain⟨q3,hq3⟩:=q2.set ⟨gp,u,none⟩ HG.out.1 (.int .i64 ((p+1:Nat):Int));have Hq3:=A3 hq3;clear hu hp hlen hq3;go_wp2_with fail;go_roundw
         case rel=>exact⟨j+1,P.set u (p+1),q3,by omega,by go_num,by rw[←Hq3.out];rfl,Hq3.out ▸ rS.out,Hq3.out ▸ HV2.out,HN.out⟩
         case measure=>simp[intOf];omega
        ·obtain rfl:j=m:=by omega
         have hjj:¬(j:Int)<(j:Int):=by omega
         rw[Nat.sub_self]at HK;have HD1:=A3 (HK.out.done);have HRw:=A3 (show eZ q2.w (some ⟨gp,0,none⟩) P from HPV.out.row);clear HK HPV HV;go_wp2_with fail;exact HP.out gp P q2 HG.out.1 HRw.out HD1.out
end
section
open Go.RowKit
def S2 (L:List E0):List Nat:=L.map fun x=>(x.t0-x.f0).toNat
def aG (L:List E0):List Nat:=if(S2 L).sum=0 then List.replicate L.length 1 else S2 L
structure uT (L:List E0):Prop where
 n:1≤L.length∧L.length≤512
 l:∀x∈L,0≤x.f0∧x.f0≤x.t0∧x.t0≤4294943999
theorem mQ {r:A9} (h:J9 r=0) (ho:r.op=false):uT r.legs:=by
 unfold J9 at h;by_cases h1:i9 r=false
 ·rw[if_pos h1]at h;omega
 rw[if_neg h1]at h;by_cases h2:j2 r=false
 ·rw[if_pos h2]at h;omega
 rw[if_neg h2]at h;by_cases h3:X2 r=false
 ·rw[if_pos h3]at h;omega
 simp only[Bool.not_eq_false]at h1 h2 h3;unfold i9 at h1;unfold j2 at h2;unfold X2 at h3;simp only[Bool.and_eq_true,List.all_eq_true,decide_eq_true_eq]at h1 h2 h3;refine⟨⟨h2.1.1.1,h2.1.1.2⟩,fun x hx=>?_⟩;have h4:=h1.1.2 x hx;unfold dA at h4;simp only[Bool.and_eq_true,fP]at h4;have h5:∀L:List E0,p9 r.op L=true→∀x∈L,x.f0≤x.t0:=fun L=>by
  rw[ho];induction L with
  |nil=>intro _ x hx;simp at hx
  |cons a L ih=>
   intro h x hx
   rw[p9,Bool.and_eq_true,Bool.or_eq_true]at h
   simp only[decide_eq_true_eq,Bool.false_and,Bool.false_eq_true,or_false]at h
   rcases List.mem_cons.1 hx with rfl|hx
   ·exact h.1
   ·exact ih h.2 x hx
 have h6:=h5 r.legs h3.1 x hx;omega
theorem pV:∀{L:List E0},(∀x∈L,0≤x.f0∧x.f0≤x.t0∧x.t0≤4294943999)→(S2 L).sum≤L.length*4294943999
 |[],_ =>by simp[S2]
 |a :: L,h=>by
  have h1:=pV fun x hx=>h x (List.mem_cons_of_mem _ hx);have h2:=h a List.mem_cons_self;show(a.t0-a.f0).toNat+(S2 L).sum≤(L.length+1)*4294943999;omega
theorem pW (L:List E0):(aG L).length=L.length:=by unfold aG;split<;>simp[S2]
theorem AR3 {L:List E0} (h:uT L):0<(aG L).sum∧(aG L).sum≤1125899906842624:=by
 have h1:=pV h.l;have h2:=h.n;have h3:L.length*4294943999≤512*4294943999:=Nat.mul_le_mul_right _ h2.2;unfold aG;split
 ·rw[List.sum_replicate_nat];omega
 ·omega
def mR (w:World) (L:List E0) (o:Ending) (w':World):Prop:=∃(g:Nat) (y:A7 w),o= .returned (.slice (some ⟨g,0,none⟩) L.length L.length)∧w'=y.w∧eZ y.w (some ⟨g,0,none⟩) (aG L)
theorem AR4 (w:World) (x:A7 w) (r:A9) (hr:r.At w) (hk:uT r.legs):
 Calls Tryz.prog 69 #[.agg #[.int .i64 r.id,.int .i64 r.rd,.int .i64 r.s0,.int .i64 r.s1,.int .i64 r.e0,.int .i64 r.e1,.bool r.op,.slice r.la r.legs.length r.lc,.slice r.pa r.pauses.length r.pc,.int .i64 r.fw,.int .i64 r.fp,.int .i64 r.wh,.int .i64 r.pl]] x.w (mR w r.legs):=by
 have HP:=A3 (fun(g:Nat) (y:A7 w) (h:eZ y.w (some ⟨g,0,none⟩) (aG r.legs))=>show mR w r.legs (.returned (.slice (some ⟨g,0,none⟩) r.legs.length r.legs.length)) y.w from⟨g,y,rfl,rfl,h⟩);generalize mR w r.legs=PO at *;have HK:=A3 hk;have HL:=A3 hr.l;have hn:=hk.n;clear hk hr;have hmk:=fun q:World=>sM Ag9 rfl r.legs.length (by omega) (by omega) q;go_enter Tryz.func69,Tryz.ntmps69;go_upto_region 1 with fail;obtain⟨W,bx,y0,hW,hbx,-,B8,Hup,Hbx,HB0⟩:=K7 x [.int .i64 r.id,.int .i64 r.rd,.int .i64 r.s0,.int .i64 r.s1,.int .i64 r.e0,.int .i64 r.e1,.bool r.op,.slice r.la r.legs.length r.lc,.slice r.pa r.pauses.length r.pc,.int .i64 r.fw,.int .i64 r.fp,.int .i64 r.wh,.int .i64 r.pl] 40;rw[hW,hbx];clear hW hbx;obtain⟨D9,E7,F9,G0,G8,K4,O0,Q6,R0,X7,X5,X6,i6,hf0⟩:=R5 HB0;clear HB0;go_upto_region 2 with fail;have HLW:=A3 (HL.out.to B8);obtain⟨y1,hy1⟩:=y0.alloc (.cells (Array.replicate r.legs.length (.int .i64 0)) 3);have hv1:K6 y1.w y0.w.heap.size r.legs.length (fun _ =>.int .i64 0):=by rw[←hy1];exact vn rfl
 have HG:=A3 (show W.heap.size≤y0.w.heap.size from y0.b.size);rw[hy1];have HV0:=A3 hv1;clear hv1 hy1 hmk;generalize y0.w.heap.size=g0 at *;have b7:=Q6 y1;clear D9 E7 F9 G0 G8 K4 O0 Q6 R0 X7 X5 X6 i6 hf0 y0 HL;obtain⟨n,hnn⟩:∃n,r.legs.length=n:=⟨_,rfl⟩
 have Hn:=A3 hnn;go_upto_region 4 with fail;rw[hnn]at hn HP HV0⊢;clear hnn b7;go_loopw [4,15] (fun s t wr=>∃(k:Nat) (y:A7 W),k≤n∧s= .int .i64 ((((S2 r.legs).take k).sum:Nat):Int)∧t= .int .i64 (k:Int)∧wr=y.w∧K6 y.w g0 n (fun j=>.int .i64 ((if j<k then(S2 r.legs).getD j 0 else 0:Nat):Int))) (fun _ t _ =>n-(intOf t).toNat)
 case atStart=>exact⟨0,y1,by omega,rfl,rfl,rfl,HV0.out.congr fun j _ =>by simp⟩
 case round=>
  clear HV0 y1;obtain⟨k,y,hk,rfl,rfl,rfl,hV⟩:=hrel;have HV:=A3 hV;clear hV;by_cases hkn:k<n
  ·have Ay1:(k:Int)<(n:Int):=by omega
   obtain⟨e,he⟩:∃e,r.legs[k]? =some e:=⟨_,A4 (by rw[Hn.out];exact hkn)⟩
   obtain⟨b1,off1,ha,hb1,hc1⟩:=HLW.out k e he;have ra0:∀y:A7 W,y.w.cell? ⟨b1,off1+k*5,none⟩=some (.int .i64 e.b):=A7.cell (hc1 0 _ rfl) hb1;have ra1:∀y:A7 W,y.w.cell? ⟨b1,off1+k*5+1,none⟩=some (.int .i64 e.f0):=A7.cell (hc1 1 _ rfl) hb1;have ra2:∀y:A7 W,y.w.cell? ⟨b1,off1+k*5+2,none⟩=some (.int .i64 e.f1):=A7.cell (hc1 2 _ rfl) hb1;have ra3:∀y:A7 W,y.w.cell? ⟨b1,off1+k*5+3,none⟩=some (.int .i64 e.t0):=A7.cell (hc1 3 _ rfl) hb1;have ra4:∀y:A7 W,y.w.cell? ⟨b1,off1+k*5+4,none⟩=some (.int .i64 e.t1):=A7.cell (hc1 4 _ rfl) hb1;rw[ha];have hk0:(0:Int)≤(k:Int):=by omega
   have hel:=HK.out.l e (A0 he);obtain⟨d,hd⟩:∃d:Nat,e.t0-e.f0=(d:Int):=⟨(e.t0-e.f0).toNat,by omega⟩
   have hdd:(S2 r.legs)[k]? =some d:=by unfold S2;rw[List.getElem?_map,he];show some (e.t0-e.f0).toNat= _;rw[hd];rfl
   have hsum:((S2 r.legs).take (k+1)).sum=((S2 r.legs).take k).sum+d:=by rw[gY hdd,List.sum_append];simp
   have hle:((S2 r.legs).take (k+1)).sum≤512*4294943999:=by
    have h1:=kM (S2 r.legs) (k+1);have h2:=pV HK.out.l;have h3:=Nat.mul_le_mul_right 4294943999 HK.out.n.2;omega
   have Hdd:=A3 hdd;have iP:=A3 hsum;have hle2:((S2 r.legs).take k).sum+d≤512*4294943999:=by omega
   have Hd:=A3 hd;clear hc1 hb1 ha he hdd hsum hle hd;generalize((S2 r.legs).take k).sum=z at *;go_upto_region 6 with fail;obtain⟨y2,e2,C9,hsz0,hlt0,HX0⟩:=L8 y [.int .i64 e.b,.int .i64 e.f0,.int .i64 e.f1,.int .i64 e.t0,.int .i64 e.t1] 152;rw[e2];obtain⟨hx0,hx1,hx2,hx3,hx4,hxf⟩:=fO HX0;(replace HV:=A3 (HV.out.to C9))
   clear e2 C9;generalize y.w.heap.size=g at *;obtain⟨E6,G9,K1,J5,O8,I3⟩:=V5 HX0;have I9:=A3 (And.intro hsz0 hlt0);clear hlt0 hsz0 HX0;clear E6 G9 K1 J5 O8 I3 ra0 ra1 ra2 ra3 ra4;have c0:=HV.out.c k hkn;have f0:=HV.out.f k hkn;have ed:=Hd.out;have HV2:=A3 (HV.out.set (f':=fun j=>.int .i64 ((if j<k+1 then(S2 r.legs).getD j 0 else 0:Nat):Int)) hkn (.int .i64 (d:Int)) (by rw[if_pos (by omega),A6,Hdd.out];rfl) (fun j _ hj=>by
    by_cases hlt:j<k
    ·rw[if_pos hlt,if_pos (by omega)]
    ·rw[if_neg hlt,if_neg (by omega)]))
   obtain⟨q1,hq1⟩:=y2.set ⟨g0,k,none⟩ HG.out (.int .i64 (d:Int));go_upto_region 7 with fail;rw[hq1]at HV2;clear hq1 c0 f0 ed HV;have c1:=HV2.out.c k hkn;rw[if_pos (by omega),A6,Hdd.out]at c1;go_wp2_with fail;go_roundw
   case rel=>exact⟨k+1,q1,by omega,by rw[iP.out];go_num,by go_num,rfl,HV2.out⟩
   case measure=>simp[intOf];omega
  ·obtain rfl:k=n:=by omega
   have hkk:¬(k:Int)<(k:Int):=by omega
   have hlen:(S2 r.legs).length=k:=by unfold S2;rw[List.length_map];exact Hn.out
   have htk:(S2 r.legs).take k=S2 r.legs:=by rw[←hlen];exact List.take_length
   rw[htk];have HV2:=A3 (HV.out.congr (f':=fun j=>.int .i64 (((S2 r.legs).getD j 0:Nat):Int)) fun j hj=>by rw[if_pos hj]);have hsz:(S2 r.legs).sum≤512*4294943999:=Nat.le_trans (pV HK.out.l) (Nat.mul_le_mul_right 4294943999 HK.out.n.2);have Hlen:=A3 hlen;have Hwt:=A3 (show aG r.legs=if(S2 r.legs).sum=0 then List.replicate k 1 else S2 r.legs from by unfold aG;rw[Hn.out]);clear htk hlen HV hk hkn;obtain⟨z,hz⟩:∃z,(S2 r.legs).sum=z:=⟨_,rfl⟩
   rw[hz]at Hwt hsz⊢;clear hz;go_wp2_with fail;go_loopw [39] (fun t wr=>∃(i:Nat) (q:A7 W),i≤k∧t= .int .i64 (i:Int)∧wr=q.w∧K6 q.w g0 k (fun j=>.int .i64 ((if z=0∧j<i then 1 else(S2 r.legs).getD j 0:Nat):Int))) (fun t _ =>k-(intOf t).toNat)
   case atStart=>exact⟨0,y,by omega,rfl,rfl,HV2.out.congr fun j _ =>by simp⟩
   case round=>
    clear HV2 y;obtain⟨i,q,hi,rfl,rfl,hV⟩:=hrel;have HV:=A3 hV;clear hV;by_cases hik:i<k
    ·have Bx7:(i:Int)<(k:Int):=by omega
     by_cases hz:z=0
     ·have HV2:=A3 (HV.out.set (f':=fun j=>.int .i64 ((if z=0∧j<i+1 then 1 else(S2 r.legs).getD j 0:Nat):Int)) hik (.int .i64 1) (by rw[if_pos ⟨hz,by omega⟩];rfl) (fun j _ hj=>by
       by_cases hlt:j<i
       ·rw[if_pos ⟨hz,by omega⟩,if_pos ⟨hz,hlt⟩]
       ·rw[if_neg (by omega),if_neg (by omega)]))
      have c0:=HV.out.c i hik;have f0:=HV.out.f i hik;obtain⟨q1,hq1⟩:=q.set ⟨g0,i,none⟩ HG.out (.int .i64 1);rw[hq1]at HV2;have hzb:((z:Int) == 0)=true:=by simp[hz]
      clear hz;go_wp2_with fail;go_roundw
      case rel=>exact⟨i+1,q1,by omega,by go_num,rfl,HV2.out⟩
      case measure=>simp[intOf];omega
     ·have hz1:¬(z:Int)=0:=by omega
      have HV2:=A3 (HV.out.congr (f':=fun j=>.int .i64 ((if z=0∧j<i+1 then 1 else(S2 r.legs).getD j 0:Nat):Int)) fun j _ =>by rw[if_neg (by omega),if_neg (by omega)]);go_wp2_with fail;go_roundw
      case rel=>exact⟨i+1,q,by omega,by go_num,rfl,HV2.out⟩
      case measure=>simp[intOf];omega
    ·obtain rfl:i=k:=by omega
     have hii:¬(i:Int)<(i:Int):=by omega
     obtain⟨y3,e3⟩:=Hup.out q;have HN:=A3 (show eZ q.w (some ⟨g0,0,none⟩) (aG r.legs)from by
      rw[Hwt.out];have hl:=Hlen.out;have h1:=HV.out.row;split
      ·rename_i h0
       show N0 _ _ (List.replicate i 1).length _;rw[List.length_replicate];intro j hj;obtain⟨b,off,h2,h3,h4⟩:=h1 j hj;refine⟨b,off,h2,h3,h4.trans ?_⟩;show some (Value.int .i64 ((if z=0∧j<i then 1 else _:Nat):Int))=some (Value.int .i64 (((List.replicate i 1).getD j 0:Nat):Int));rw[if_pos ⟨h0,hj⟩,A6,List.getElem?_replicate,if_pos hj];rfl
      ·rename_i h0
       show N0 _ _ (S2 r.legs).length _;rw[hl];intro j hj;obtain⟨b,off,h2,h3,h4⟩:=h1 j hj;refine⟨b,off,h2,h3,h4.trans ?_⟩;show some (Value.int .i64 ((if z=0∧j<i then 1 else(S2 r.legs).getD j 0:Nat):Int))= _;rw[if_neg (fun h=>h0 h.1)])
     rw[e3]at HN;have He3:=A3 e3;clear HV e3;go_wp2_with fail;rw[He3.out];exact HP.out g0 y3 HN.out
end
section
open Go.RowKit
theorem AR5 (l:List C7) (b t:Int):∃v,pN l b t v:=by
 induction l with
 |nil=>exact⟨-1,.inl ⟨rfl,fun c hc=>by simp at hc⟩⟩
 |cons a l ih=>
  cases hb:eA b t a
  ·obtain⟨v,⟨rfl,h⟩|⟨k,c,rfl,h1,h2,h3⟩⟩:=ih
   ·refine⟨-1,.inl ⟨rfl,fun c hc=>?_⟩⟩
    rcases List.mem_cons.1 hc with rfl|hc
    ·exact hb
    ·exact h c hc
   ·refine⟨_,.inr ⟨k+1,c,rfl,h1,h2,fun j x hj hx=>?_⟩⟩
    cases j with
    |zero=>
     obtain rfl:a=x:=by simpa using hx
     exact hb
    |succ j=>exact h3 j x (by omega) (by simpa using hx)
  ·exact⟨_,.inr ⟨0,a,rfl,rfl,hb,fun j x hj=>by omega⟩⟩
theorem AR6 {l:List C7} {b t u v:Int} (h:pN l b t u) (k:pN l b t v):u=v:=by
 rcases h with⟨rfl,h⟩|⟨i,c,rfl,h1,h2,h3⟩<;>rcases k with⟨rfl,k⟩|⟨j,d,rfl,k1,k2,k3⟩
 ·rfl
 ·have:=h d (A0 k1);rw[k2]at this;cases this
 ·have:=k c (A0 h1);rw[h2]at this;cases this
 ·rcases Nat.lt_trichotomy i j with e|e|e
  ·have:=k3 i c e h1;rw[h2]at this;cases this
  ·rw[e]
  ·have:=h3 j d e k1;rw[k2]at this;cases this
theorem AR7 {S:List Nat} {i sv:Nat} (h9:S.length=9) (h:S[i]? =some sv) (w:World):(Instr.index 166 (.agg (S.map fun n:Nat=>Value.int .i64 (n:Int)).toArray) (.int .i64 (i:Int))).run Tryz.prog w= .ok (.int .i64 (sv:Int)) w:=by
 have hi:i<S.length:=(A5 h).1;have hi9:(0:Int)≤(i:Int)∧(i:Int)<9:=by omega
 have hin:i<9:=by omega
 have e1:=run_underlying (P:=Tryz.prog) (w:=w) Tryz.underlying166;simp[Instr.index,e1,asIntOf,hi9,go_sem,part,h,hin]
theorem kO:M6 Tryz.prog 87 91 (.agg #[.int .i64 0,.int .i64 0]) 2 16:=M6.mk' Tryz.underlying87 (by kernel_rfl) rfl (by decide)
theorem kP (c:E9):∀v∈c.cs,v.oneCell'=true:=by
 intro v hv;simp only[E9.cs,List.mem_cons,List.not_mem_nil,or_false]at hv;rcases hv with rfl|rfl<;>rfl
def mS (w:World) (l:List C7) (L:List E0) (T:Nat) (o:Ending) (w':World):Prop:=
 ∃(a:Option Addr) (c:Nat) (P S:List Nat) (y:A7 w),o= .returned (.tuple #[.slice a (L9 0 S).length c,.int .i64 0])∧w'=y.w∧D0 E9.cs 2 y.w a (L9 0 S)∧(a=none→c=0)∧gZ T (aG L) P∧eB l L P L.length S
theorem Ah1 (w:World) (x:A7 w) (a:Option Addr) (l:List C7) (c:Nat) (h:D0 C7.cs 5 w a l) (hl:l.length≤512) (hc:l.length≤c) (hok:o4 l) (r:A9) (hr:r.At w) (hre:J9 r=0) (hro:r.op=false) (T:Nat) (hT:T≤1000000000000):
 Calls Tryz.prog 27 #[.slice a l.length c,.agg #[.int .i64 r.id,.int .i64 r.rd,.int .i64 r.s0,.int .i64 r.s1,.int .i64 r.e0,.int .i64 r.e1,.bool r.op,.slice r.la r.legs.length r.lc,.slice r.pa r.pauses.length r.pc,.int .i64 r.fw,.int .i64 r.fp,.int .i64 r.wh,.int .i64 r.pl],.int .i64 (T:Int)] x.w (mS w l r.legs T):=by
 have HP:=A3 (fun(a:Option Addr) (c:Nat) (P S:List Nat) (y:A7 w) (h1:D0 E9.cs 2 y.w a (L9 0 S)) (h2:a=none→c=0) (h3:gZ T (aG r.legs) P) (h4:eB l r.legs P r.legs.length S)=>show mS w l r.legs T (.returned (.tuple #[.slice a (L9 0 S).length c,.int .i64 0])) y.w from⟨a,c,P,S,y,rfl,rfl,h1,h2,h3,h4⟩);generalize mS w l r.legs T=PO at *;have HK:=A3 (mQ hre hro);have HC:=A3 (fun(u:World) (hu:A8 w u)=>show Calls Tryz.prog 24 #[.slice a l.length c] u (fun o w'=>o= .returned (.int .i64 0)∧∃y:A7 u,w'=y.w)from(pS u (A7.self u) a l c (h.to hu) (by omega) hc).mono (fun o w' ⟨v,h1,h2,h3⟩=>⟨by rw[h2,h1.2 hok],h3⟩));have HRC:=A3 (fun(u:World) (hu:A8 w u)=>show Calls Tryz.prog 9 #[.agg #[.int .i64 r.id,.int .i64 r.rd,.int .i64 r.s0,.int .i64 r.s1,.int .i64 r.e0,.int .i64 r.e1,.bool r.op,.slice r.la r.legs.length r.lc,.slice r.pa r.pauses.length r.pc,.int .i64 r.fw,.int .i64 r.fp,.int .i64 r.wh,.int .i64 r.pl]] u (fun o w'=>o= .returned (.int .i64 0)∧∃y:A7 u,w'=y.w)from by have:=oU u (A7.self u) r (hr.to hu);rwa[hre]at this);have HWC:=A3 (fun(u:World) (hu:A8 w u)=>show Calls Tryz.prog 69 #[.agg #[.int .i64 r.id,.int .i64 r.rd,.int .i64 r.s0,.int .i64 r.s1,.int .i64 r.e0,.int .i64 r.e1,.bool r.op,.slice r.la r.legs.length r.lc,.slice r.pa r.pauses.length r.pc,.int .i64 r.fw,.int .i64 r.fp,.int .i64 r.wh,.int .i64 r.pl]] u (mR u r.legs)from AR4 u (A7.self u) r (hr.to hu) (mQ hre hro));have HSC:=A3 (fun(u:World) (g:Nat) (hg:eZ u (some ⟨g,0,none⟩) (aG r.legs))=>show Calls Tryz.prog 68 #[.int .i64 (T:Int),.slice (some ⟨g,0,none⟩) r.legs.length r.legs.length] u (mP u T (aG r.legs))from by
  have h1:=pW r.legs;have h2:=(mQ hre hro).n;have h3:=AR3 (mQ hre hro);have:=Ah0 u (A7.self u) T (aG r.legs) (some ⟨g,0,none⟩) r.legs.length hg (by omega) (by omega) h3.2 (fun h=>by omega);rwa[h1]at this)
 have HL:=A3 h;have HLg:=A3 hr.l;have hn:=(mQ hre hro).n;have Hok:=A3 hok;have Hro:=A3 hro;clear h hr hre hok hro;go_enter Tryz.func27,Tryz.ntmps27;go_upto_region 1 with fail;obtain⟨W,bx,y0,hW,hbx,-,B8,Hup,Hbx,HB0⟩:=K7 x (([.int .i64 r.id,.int .i64 r.rd,.int .i64 r.s0,.int .i64 r.s1,.int .i64 r.e0,.int .i64 r.e1,.bool r.op,.slice r.la r.legs.length r.lc,.slice r.pa r.pauses.length r.pc,.int .i64 r.fw,.int .i64 r.fp,.int .i64 r.wh,.int .i64 r.pl]:List Value)) 40;rw[hW,hbx];clear hW hbx;have hB0:=fun y:A7 W=>HB0.since y;clear HB0;have HB:=A3 (hB0 y0);have HW:=A3 (fun(u:World) (hu:A8 W u)=>show A8 w u from A8.trans B8 hu);clear hB0 B8 Hbx;have hcall:=HC.out y0.w (HW.out _ (A8.of y0));have hd1:¬(T:Int)<0:=by omega
 have hd2:¬(1000000000000:Int)<(T:Int):=by omega
 go_upto_region 2 with(go_at_call 24;(with_reducible refine hcall.mono ?_);rintro _ _ ⟨rfl,z1,rfl⟩)
 clear hcall HC;obtain⟨c0,c1,c2,c3,c4,c5,c6,c7,c8,c9,c10,c11,c12,cf⟩:=R5 HB.out;clear cf;have hq1:=HRC.out z1.w (HW.out _ (A8.trans (A8.of y0) (A8.of z1)));have e0:=c0 z1;have e1:=c1 z1;have e2:=c2 z1;have e3:=c3 z1;have e4:=c4 z1;have e5:=c5 z1;have e6:=c6 z1;have e7:=c7 z1;have e8:=c8 z1;have e9:=c9 z1;have e10:=c10 z1;have e11:=c11 z1;have e12:=c12 z1;clear c0 c1 c2 c3 c4 c5 c6 c7 c8 c9 c10 c11 c12;go_upto_region 5 with(go_at_call 9;(with_reducible refine hq1.mono ?_);rintro _ _ ⟨rfl,z2,rfl⟩)
 clear hq1 HRC e0 e1 e2 e3 e4 e5 e6 e7 e8 e9 e10 e11 e12;replace HB:=A3 ((HB.out.since z1).since z2);have HWz:=A3 (show A8 W z2.w from A8.trans (A8.trans (A8.of y0) (A8.of z1)) (A8.of z2));generalize z2.w=wb at *;clear z2 z1 y0;obtain⟨c0,c1,c2,c3,c4,c5,c6,c7,c8,c9,c10,c11,c12,cf⟩:=bP HB.out;clear cf;have ho:=Hro.out;have hq2:=HWC.out wb (HW.out _ HWz.out);unfold mR at hq2;rw[ho]at hq2 c6;clear HWC ho;go_upto_region 14 with(first|(go_at_call 69;(with_reducible refine hq2.mono ?_);clear hq2;rintro _ _ ⟨gw,z1,rfl,rfl,hgw⟩)|(go_at_call 68;(with_reducible refine(HSC.out z1.w gw hgw).mono ?_);clear hgw HSC;rintro _ _ ⟨gp,P,z2,rfl,rfl,-,hgp,hsh⟩))
 have HPr:=A3 hgp;have HSh:=A3 hsh;clear hgp hsh;rw[pW];have xH:=A3 (show A8 W z2.w from A8.trans HWz.out (A8.trans (A8.of z1) (A8.of z2)));have HPl:=A3 (show P.length=r.legs.length from HSh.out.n.trans (pW _));replace HB:=A3 ((HB.out.since z1).since z2);clear HWz c0 c1 c2 c3 c4 c5 c6 c7 c8 c9 c10 c11 c12;generalize z2.w=wa at *;clear z2 z1 wb;have HLW:=A3 (HL.out.to (HW.out _ xH.out));have Br8:=A3 (HLg.out.to (HW.out _ xH.out));clear HL HLg;obtain⟨n,hnn⟩:∃n,r.legs.length=n:=⟨_,rfl⟩
 rw[hnn]at hn HP HPl⊢;have Hn:=A3 hnn;clear hnn;go_upto_region 15 with fail;have hpv:=K6.new wa ((List.replicate 9 0).map fun n:Nat=>Value.int .i64 (n:Int)) 166 9 (fun j=>.int .i64 (((List.replicate 9 0).getD j 0:Nat):Int)) (fun i hi=>by
  rw[List.getElem?_map,A6,List.getElem?_replicate,if_pos hi];rfl)
 obtain⟨q0,hq0⟩:=A8.alloc (A8.self wa) (.cells ((List.replicate 9 0).map fun n:Nat=>Value.int .i64 (n:Int)).toArray 166);rw[hq0]at hpv;have HPV:=A3 (show PV q0.w wa.heap.size (List.replicate 9 0)from hpv);change Code.wp _ _ _ _ (wa.alloc (.cells ((List.replicate 9 0).map fun n:Nat=>Value.int .i64 (n:Int)).toArray 166));rw[hq0];clear hq0 hpv;obtain⟨gs,hgs⟩:∃gs,wa.heap.size=gs:=⟨_,rfl⟩
 rw[hgs]at HPV⊢;have HG:=A3 (show wa.heap.size≤gs from by omega);clear hgs;go_upto_region 16 with fail;go_loopw [51] (fun t wr=>∃(k:Nat) (S:List Nat) (q:A7 wa),k≤n∧t= .int .i64 (k:Int)∧wr=q.w∧PV q.w gs S∧eB l r.legs P k S) (fun t _ =>n-(intOf t).toNat)
 case atStart=>exact⟨0,_,q0,by omega,rfl,rfl,HPV.out,.zero⟩
 case round=>
  clear HPV q0;obtain⟨k,S,q,hk,rfl,rfl,hP,hA⟩:=hrel;have HPV:=A3 hP;have HA:=A3 hA;clear hP hA;by_cases hkn:k<n
  ·have Ay1:(k:Int)<(n:Int):=by omega
   have hk0:(0:Int)≤(k:Int):=by omega
   obtain⟨e,he⟩:∃e,r.legs[k]? =some e:=⟨_,A4 (by rw[Hn.out];exact hkn)⟩
   obtain⟨p,hp⟩:∃p,P[k]? =some p:=⟨_,A4 (by rw[HPl.out];exact hkn)⟩
   have hpT:p≤1000000000000:=by have h1:=jB hp;have h2:=HSh.out.s;omega
   obtain⟨b1,off1,ha,hb1,hc1⟩:=(A7.els Br8.out q) k e he;have ra0:∀y:A7 q.w,y.w.cell? ⟨b1,off1+k*5,none⟩=some (.int .i64 e.b):=A7.cell (hc1 0 _ rfl) hb1;have ra1:∀y:A7 q.w,y.w.cell? ⟨b1,off1+k*5+1,none⟩=some (.int .i64 e.f0):=A7.cell (hc1 1 _ rfl) hb1;have b7:∀y:A7 q.w,y.w.cell? ⟨bx,7,none⟩=some (.slice r.la r.legs.length r.lc):=fun y=>((HB.out.since q).since y).c 7 _ rfl;rw[ha,Hn.out]at b7;have hpc:q.w.cell? ⟨gp,k,none⟩=some (.int .i64 (p:Int)):=by
    obtain⟨b2,off2,h1,h2,h3⟩:=(HPr.out.to (A8.of q)) k (by rw[HPl.out];exact hkn);obtain⟨rfl,rfl⟩:gp=b2∧0=off2:=by simpa using h1
    rw[Nat.zero_add]at h3;rw[h3];show some (Value.int .i64 ((P.getD k 0:Nat):Int))= _;rw[A6,hp];rfl
   have Hla:=A3 ha;obtain⟨v,hv⟩:=AR5 l e.b e.f0;have HF:=A3 (fun y:A7 q.w=>show Calls Tryz.prog 67 #[.slice a l.length c,.int .i64 e.b,.int .i64 e.f0] y.w (fun o w'=>o= .returned (.int .i64 v)∧∃y:A7 q.w,w'=y.w)from(Ag7 q.w y a l c (A7.els HLW.out q) (by omega) e.b e.f0).mono (fun o w' ⟨v',h1,h2,h3⟩=>⟨by rw[h2,AR6 h1 hv],h3⟩));have Hv:=A3 hv;have He:=A3 he;have Hp:=A3 hp;clear hv he hp hb1 hc1 ha;go_upto_region 18 with fail;clear hpc;obtain⟨y0,hy0⟩:=A7.refl q.w;rw[hy0];clear hy0;refine L5 (by kernel_rfl) (by kernel_rfl) ?_;repeat(go_big_quiet_step((go_at_call 67;exact HF.out _)))
   refine wpQuiet_nil ?_;rintro _ ⟨y,rfl⟩;clear ra0 ra1 b7 HF y0;replace HPV:=A3 (HPV.out.since y);obtain⟨q1,hq1⟩:=q.trans y;rw[hq1]at HPV⊢;clear hq1 y q;have hSl:=HA.out.facts.1;have hSs:S.sum≤T:=by have h1:=HA.out.facts.2;have h2:=kM P k;have h3:=HSh.out.s;omega
   obtain⟨s,hs⟩:∃s,S[0]? =some s:=⟨_,A4 (by omega)⟩
   have hsT:s≤1000000000000:=by have h1:=jB hs;omega
   have hcell:∀(w':World) (Z:List Nat) (j z:Nat),PV w' gs Z→Z[j]? =some z→w'.cell? ⟨gs,j,none⟩=some (.int .i64 (z:Int))∧w'.frozen? ⟨gs,j,none⟩=false:=fun w' Z j z h hz=>by
    have hj:=(A5 hz).1;refine⟨?_,h.f j hj⟩;rw[h.c j hj];show some (Value.int .i64 ((Z.getD j 0:Nat):Int))= _;rw[A6,hz];rfl
   have xI:=A3 hcell;have Hs:=A3 hs;have HSl:=A3 hSl;have HSs:=A3 hSs;clear hcell hs hSl hSs;rcases Hv.out with⟨hv1,hno⟩|⟨j,ct,hv1,hj,hct,_⟩
   ·subst hv1
    have Hno:=A3 hno;obtain⟨d0,f0⟩:=xI.out q1.w S 0 s HPV.out Hs.out;have rS:=A3 (PV.set (v:=s+p) HPV.out (k:=0) (by have:=HSl.out;omega));obtain⟨q2,hq2⟩:=q1.set ⟨gs,0,none⟩ HG.out (.int .i64 ((s+p:Nat):Int));rw[hq2]at rS;have Hq2:=A3 hq2;clear hno hq2;go_wp2_with fail;go_roundw
    case rel=>exact⟨k+1,S.set 0 (s+p),q2,by omega,by go_num,by rw[←Hq2.out];rfl,rS.out,.city k S e p s HA.out He.out Hp.out Hno.out Hs.out⟩
    case measure=>simp[intOf];omega
   ·have hci:=(C7.inB_iff _).1 (Hok.out.i j ct hj)
    have hjl:=(A5 hj).1;obtain⟨i,hi⟩:∃i:Nat,ct.o=(i:Int):=⟨ct.o.toNat,by omega⟩
    obtain⟨sh,hsh⟩:∃sh:Nat,ct.s=(sh:Int):=⟨ct.s.toNat,by omega⟩
    obtain⟨b2,off2,hxa,rb0,rb1,rb2,rb3,rb4⟩:=pR (A7.els HLW.out q1) hj;rw[hi]at rb0;rw[hsh]at rb4;have hi8:i<8:=by omega
    have hsh2:sh≤1000:=by omega
    have Hj:=A3 hj;have Hct:=A3 hct;have Hi:=A3 hi;have Aw5:=A3 hsh;have hj0:(0:Int)≤(j:Int):=by omega
    have hjc:(j:Int)<(l.length:Int):=by omega
    have hv0:¬(j:Int)<0:=by omega
    subst hv1 hxa;clear hci hj hct hi hsh rb1 rb2 rb3;have HS2:=A3 (fun(u:World) (g:Nat) (hg:eZ u (some ⟨g,0,none⟩) [sh,1000-sh])=>show Calls Tryz.prog 68 #[.int .i64 (p:Int),.slice (some ⟨g,0,none⟩) 2 2] u (mP u p [sh,1000-sh])from Ah0 u (A7.self u) p [sh,1000-sh] (some ⟨g,0,none⟩) 2 hg (by omega) ⟨by show 1≤2;omega,by show 2≤512;omega⟩ (by show sh+(1000-sh+0)≤_;omega) (fun h=>by have h1:sh+(1000-sh+0)=0:=h;omega));go_upto_region 21 with fail;have ib:∀u,A8 q1.w u→u.cell? ⟨b2,off2+j*5+4,none⟩=some (.int .i64 (sh:Int)):=fun u hu=>A8.cell rb4 hu;clear rb4;have e1000:IntKind.i64.wrap (1000-(sh:Int))=((1000-sh:Nat):Int):=by rw[show(1000:Int)-(sh:Int)=((1000-sh:Nat):Int)from by omega];exact IntWalk.i64_in _ ⟨by omega,by omega⟩
    refine R7 (fun w'=>A8 q1.w w') 18 (by kernel_rfl) (A8.drew' (A8.self _)) (fun hS=>?_);iterate 12
     refine J4 0 ?_ rfl rfl (by kernel_rfl) hS (fun _ _ _ h=>h) ?_ ?_
     rotate_left
     ·(intro w h;(try dsimp only at h);go_split_ands;go_simp;try with_reducible rfl)
     (try simp only[Act.put,B9])
    refine I0 12 (by kernel_rfl) rfl fun K hK=>?_;go_simp;refine E5 hK (A8.alloc hS _) ?_;clear hK K hS;intro hS;(try simp only[Act.put,B9])
    have hrow:eZ (q1.w.alloc (.cells #[.int .i64 (sh:Int),.int .i64 ((1000-sh:Nat):Int)] 3)).drew (some ⟨q1.w.heap.size,0,none⟩) [sh,1000-sh]:=N0.to (AB0 q1.w [.int .i64 (sh:Int),.int .i64 ((1000-sh:Nat):Int)] 3 2 _ (fun i hi=>by
     match i,hi with
     |0,_ =>rfl
     |1,_ =>rfl)) (A8.drew' (A8.self _))
    refine I0 13 (by kernel_rfl) rfl fun K hK=>?_;(go_simp;(with_reducible refine(HS2.out _ _ hrow).mono ?_);rintro _ _ ⟨g2,P2,z3,rfl,rfl,hg2,hp2,hsh2⟩)
    refine E5 hK (A8.trans (A8.drew' (A8.alloc (A8.self _) _)) (A8.of z3)) ?_;clear hK K hS;intro hS;(try simp only[Act.put,B9])
    iterate 4
     refine J4 14 ?_ rfl rfl (by kernel_rfl) hS (fun _ _ _ h=>h) ?_ ?_
     rotate_left
     ·(intro w h;(try dsimp only at h);go_split_ands;go_simp;try with_reducible rfl)
     (try simp only[Act.put,B9])
    have HS3:=A3 hS;refine I0 18 (by kernel_rfl) rfl fun K hK=>?_;go_simp;refine M9 hK (by kernel_rfl) ?_;clear hK K;(try clear hS)
    (try simp only[Act.put,B9])
    obtain⟨x2,y2,rfl,hxy,hfx,hfy⟩:=AP3 hsh2;obtain⟨r0,hr0⟩:∃r0,S[1+i]? =some r0:=⟨_,A4 (by have:=HSl.out;omega)⟩
    have hgs:gs≠g2:=by
     have h1:=HPV.out.lt;have h2:(q1.w.alloc (.cells #[.int .i64 (sh:Int),.int .i64 ((1000-sh:Nat):Int)] 3)).heap.size≤g2:=hg2;have h3:=sA (.cells #[.int .i64 (sh:Int),.int .i64 ((1000-sh:Nat):Int)] 3) (rfl:q1.w.heap.size=q1.w.heap.size);omega
    obtain⟨q3,hq3⟩:=A8.trans (A8.of q1) HS3.out;have hoc:z3.w.cell? ⟨b2,off2+j*5,none⟩=some (.int .i64 (i:Int)):=A8.cell rb0 HS3.out;have hP3:=HPV.out.to HS3.out;rw[hq3]at hP3 hp2 hoc⊢;have xE:=A3 hP3;have Hp2:=A3 hp2;have Hgs:=A3 hgs;have HX:=A3 (And.intro hxy (And.intro hfx hfy));have BD4:r0≤1000000000000:=by have h1:=jB hr0;have h2:=HSs.out;omega
    have Hr0:=A3 hr0;have hx2:x2≤1000000000000:=by omega
    have hy2:y2≤1000000000000:=by omega
    clear HPV hP3 hp2 hgs hxy hfx hfy hsh2 hg2 hq3 HS3 rb0 ib HS2 hrow hr0 e1000 z3;go_upto_region 24 with fail;obtain⟨d1,f1⟩:=xI.out q3.w S (1+i) r0 xE.out Hr0.out;have d2:q3.w.cell? ⟨g2,0,none⟩=some (.int .i64 (x2:Int)):=by
     obtain⟨b,off,h1,_,h3⟩:=Hp2.out 0 (by show 0<2;omega);obtain⟨rfl,rfl⟩:g2=b∧0=off:=by simpa using h1
     exact h3
    have ei:IntKind.i64.wrap (1+(i:Int))=((1+i:Nat):Int):=by rw[show(1:Int)+(i:Int)=((1+i:Nat):Int)from by omega];exact IntWalk.i64_in _ ⟨by omega,by omega⟩
    obtain⟨m,hm⟩:∃m,1+i=m:=⟨_,rfl⟩
    rw[hm]at d1 f1 ei;have hm9:(m:Int)<9:=by omega
    have BD2:m<9:=by omega
    have Hm:=A3 hm;clear hm;go_region
    have hP4:=K6.to (PV.set (v:=r0+x2) xE.out (k:=m) (by have:=HSl.out;omega)) (A8.drew' (A8.self _));obtain⟨q4,hq4⟩:=A8.drew' (A8.set (A8.of q3) ⟨gs,m,none⟩ HG.out (.int .i64 ((r0+x2:Nat):Int)));have hp4:=N0.to (N0.set Hp2.out ⟨gs,m,none⟩ (.int .i64 ((r0+x2:Nat):Int)) (fun b hb=>by cases hb;exact Hgs.out.symm)) (A8.drew' (A8.self _));rw[hq4]at hP4 hp4;rw[Int.natCast_add]at hq4;rw[hq4];have xF:=A3 hP4;have Hp4:=A3 hp4;clear hP4 hp4 hq4 xE Hp2 d1 d2 f1 ei hoc q3;have hs4:(S.set m (r0+x2))[0]? =some s:=by rw[List.getElem?_set_ne (by have:=Hm.out;omega)];exact Hs.out
    obtain⟨d1,f1⟩:=xI.out q4.w (S.set m (r0+x2)) 0 s xF.out hs4;have d2:q4.w.cell? ⟨g2,1,none⟩=some (.int .i64 (y2:Int)):=by
     obtain⟨b,off,h1,_,h3⟩:=Hp4.out 1 (by show 1<2;omega);obtain⟨rfl,rfl⟩:g2=b∧0=off:=by simpa using h1
     exact h3
    have Hs4:=A3 hs4;clear hs4;go_upto_region 25 with fail;go_region
    have hP5:=K6.to (PV.set (v:=s+y2) xF.out (k:=0) (by rw[List.length_set];have:=HSl.out;omega)) (A8.drew' (A8.self _));obtain⟨q5,hq5⟩:=A8.drew' (A8.set (A8.of q4) ⟨gs,0,none⟩ HG.out (.int .i64 ((s+y2:Nat):Int)));rw[hq5]at hP5;rw[Int.natCast_add]at hq5;rw[hq5];have Bs2:=A3 hP5;clear hP5 hq5 xF Hp4 d1 d2 f1 q4;go_wp2_with fail;go_roundw
    case rel=>
     have hfx:=HX.out.2.1;have hfy:=HX.out.2.2;rw[show sh+(1000-sh)=1000 from by omega]at hfx hfy;have h1:ct.s.toNat=sh:=by rw[Aw5.out];rfl
     have h2:(1000-ct.s).toNat=1000-sh:=by rw[Aw5.out];omega
     obtain rfl:=Hm.out;exact⟨k+1,_,q5,by omega,by go_num,rfl,Bs2.out,.both k S e p s r0 i ct x2 y2 j HA.out He.out Hp.out Hj.out Hct.out Hi.out HX.out.1 (by rw[h1];exact hfx) (by rw[h2];exact hfy) Hr0.out Hs4.out⟩
    case measure=>simp[intOf];omega
  ·obtain rfl:k=n:=by omega
   have hkk:¬(k:Int)<(k:Int):=by omega
   have hS9:=HA.out.facts.1;have Hcl:=A3 (fun(j z:Nat) (hz:S[j]? =some z)=>show q.w.cell? ⟨gs,j,none⟩=some (.int .i64 (z:Int))from by
    have hj:=(A5 hz).1;rw[HPV.out.c j hj];show some (Value.int .i64 ((S.getD j 0:Nat):Int))= _;rw[A6,hz];rfl)
   obtain⟨s0,s1,s2,s3,s4,s5,s6,s7,s8,hS⟩:=Ag5 hS9;have k0:q.w.cell? ⟨gs,0,none⟩=some (.int .i64 (s0:Int)):=(Hcl.out 0 s0 (by rw[hS];rfl))
   have k1:q.w.cell? ⟨gs,1,none⟩=some (.int .i64 (s1:Int)):=(Hcl.out 1 s1 (by rw[hS];rfl))
   have k2:q.w.cell? ⟨gs,2,none⟩=some (.int .i64 (s2:Int)):=(Hcl.out 2 s2 (by rw[hS];rfl))
   have k3:q.w.cell? ⟨gs,3,none⟩=some (.int .i64 (s3:Int)):=(Hcl.out 3 s3 (by rw[hS];rfl))
   have k4:q.w.cell? ⟨gs,4,none⟩=some (.int .i64 (s4:Int)):=(Hcl.out 4 s4 (by rw[hS];rfl))
   have k5:q.w.cell? ⟨gs,5,none⟩=some (.int .i64 (s5:Int)):=(Hcl.out 5 s5 (by rw[hS];rfl))
   have k6:q.w.cell? ⟨gs,6,none⟩=some (.int .i64 (s6:Int)):=(Hcl.out 6 s6 (by rw[hS];rfl))
   have k7:q.w.cell? ⟨gs,7,none⟩=some (.int .i64 (s7:Int)):=(Hcl.out 7 s7 (by rw[hS];rfl))
   have k8:q.w.cell? ⟨gs,8,none⟩=some (.int .i64 (s8:Int)):=(Hcl.out 8 s8 (by rw[hS];rfl))
   have hE:(#[.int .i64 (s0:Int),.int .i64 (s1:Int),.int .i64 (s2:Int),.int .i64 (s3:Int),.int .i64 (s4:Int),.int .i64 (s5:Int),.int .i64 (s6:Int),.int .i64 (s7:Int),.int .i64 (s8:Int)]:Array Value)=(S.map fun n:Nat=>Value.int .i64 (n:Int)).toArray:=by rw[hS];rfl
   have HE:=A3 hE;clear hE hS Hcl;have HS9:=A3 hS9;clear hS9;go_upto_region 29 with fail;rw[HE.out];clear HE k0 k1 k2 k3 k4 k5 k6 k7 k8 s0 s1 s2 s3 s4 s5 s6 s7 s8;go_loopw [18,120] (fun u t wr=>∃(i:Nat) (z:A7 q.w) (va:Option Addr) (vn vc:Nat),i≤9∧u= .slice va vn vc∧t= .int .i64 (i:Int)∧wr=z.w∧z.w.ownsRow q.w.heap.size 91 2 (.slice va vn vc) vn (B4 E9.cs (L9 0 (S.take i)))) (fun _ t _ =>9-(intOf t).toNat)
   case atStart=>exact⟨0,A7.self q.w,none,0,0,by omega,rfl,rfl,rfl,⟨rfl,.inl ⟨rfl,rfl⟩⟩⟩
   case round=>
    obtain⟨i,z,va,vn,vc,hi,rfl,rfl,rfl,hO⟩:=hrel;have HO:=A3 hO;clear hO;by_cases hi9:i<9
    ·have hi1:(i:Int)<9:=by omega
     have hi0:(0:Int)≤(i:Int):=by omega
     obtain⟨sv,hsv⟩:∃sv,S[i]? =some sv:=⟨_,A4 (by rw[HS9.out];exact hi9)⟩
     have hix:=AR7 HS9.out hsv z.w;have hbd:sv≤1000000000000:=by have h1:=jB hsv;have h2:=HA.out.facts.2;have h3:=kM P k;have h4:=HSh.out.s;omega
     have Hsv:=A3 (AP7 hsv);have hvn:vn≤9:=by
      have h1:=HO.out.1;rw[U7 E9.len]at h1;have h2:=pO (S.take i) 0;rw[List.length_take]at h2;omega
     clear hsv;go_upto_region 31 with fail;clear hix;by_cases h0:sv=0
     ·subst h0
      rw[if_pos rfl]at Hsv;go_wp2_with fail;go_roundw
      case rel=>exact⟨i+1,z,va,vn,vc,by omega,rfl,by go_num,rfl,by rw[Hsv.out];exact HO.out⟩
      case measure=>simp[intOf];omega
     ·rw[if_neg h0]at Hsv
      have h01:¬(sv:Int)=0:=by omega
      go_wp2_with(at_builtin;(refine cY (w0:=q.w) (enc:=E9.cs) (k:=2) E9.len (by decide) kP ?hw rfl _ _ 87 rfl q.w.heap.size (Nat.le_refl _) ?hb 91 (.agg #[.int .i64 0,.int .i64 0]) 16 kO (.slice va vn vc) vn (B4 E9.cs (L9 0 (S.take i))) rfl ?hown (some ⟨z.w.heap.size,0,none⟩) [⟨(i:Int),(sv:Int)⟩] 1 rfl ?hels (fun h=>by cases h) ?h63 ?hbytes ?_;rotate_right 1;intro v2 z2 hown2 _ hg2;refine Hid.out ?_))
      case hw=>exact z.alloc _
      case hb=>have:=z.b.size;(try simp);omega
      case hown=>exact J8 HO.out (A8.alloc (A8.self _) _)
      case hels=>exact sL E9.len z.w [⟨(i:Int),(sv:Int)⟩] _
      case h63=>show vn+1≤maxLen;unfold maxLen;omega
      case hbytes=>show(vn+1)*16≤_;omega
      refine A3 ?_;obtain⟨va2,vn2,vc2,rfl⟩:=I4 hown2;have hn2:vn2=vn+1:=by
       obtain⟨h1,a2,c2,h2,_⟩:=O9 E9.len (by decide) (show z2.w.ownsRow q.w.heap.size 91 2 (.slice va2 vn2 vc2) (vn+1) (B4 E9.cs (L9 0 (S.take i) ++ [⟨(i:Int),(sv:Int)⟩]))from by rw[U6];exact hown2);simp only[Value.slice.injEq]at h2;omega
      subst hn2;have HO2:=A3 (show z2.w.ownsRow q.w.heap.size 91 2 (.slice va2 (vn+1) vc2) (vn+1) (B4 E9.cs (L9 0 (S.take (i+1))))from by rw[Hsv.out,U6];exact hown2);clear hown2 hg2;go_wp2_with fail;go_roundw
      case rel=>exact⟨i+1,z2,va2,vn+1,vc2,by omega,rfl,by go_num,rfl,HO2.out⟩
      case measure=>simp[intOf];omega
    ·obtain rfl:i=9:=by omega
     have h99:¬((9:Nat):Int)<9:=by omega
     have ht9:S.take 9=S:=by rw[←HS9.out];exact List.take_length
     rw[ht9]at HO;obtain⟨hln,a4,c4,hv4,hc4,he4,_,hb4⟩:=O9 E9.len (by decide) HO.out;obtain⟨rfl,rfl⟩:va=a4∧vc=c4:=by simp only[Value.slice.injEq]at hv4;exact⟨hv4.1,hv4.2.2⟩
     obtain⟨y9,e9⟩:=HW.out _ (A8.trans xH.out (A8.trans (A8.of q) (A8.of z)));have hnone:va=none→vc=0:=fun h=>by
      obtain⟨_,⟨h1,_⟩|⟨g',cap',cur,h1,_⟩⟩:=HO.out
      ·simp only[Value.slice.injEq]at h1;exact h1.2.2
      ·simp only[Value.slice.injEq]at h1;rw[h]at h1;cases h1.1
     rw[e9]at he4;have HF:=A3 (HP.out va vc P S y9 he4 hnone HSh.out (by first|exact HA.out|(rw[Hn.out];exact HA.out)));have He9:=A3 e9;have Hln:=A3 hln;clear hln hv4 hc4 he4 hb4 hnone e9 HO;go_wp2_with fail;rw[He9.out];have hF:=HF.out;rw[←Hln.out]at hF;exact hF
end
section
open Go.Shelf Go.RowKit Go.Lib
def Tryz.lays7n25_ren:Go.Shelf.Ren:=⟨fun|25=>173|n=>n,fun|22=>255|n=>n,fun|n=>n⟩
theorem Tryz.lays7n25:Go.Proofs.Lays7.n25 Tryz.prog Tryz.lays7n25_ren:={mixed:=by kernel_rfl,f25:=Tryz.func173.trans (congrArg some (by kernel_rfl)),t22:=Tryz.underlying255,a22:=Tryz.isAgg255,z22:=Tryz.sizeOf255,v22:=Tryz.zeroValue255,i22:=by kernel_rfl}
theorem AR8 (x y:Nat) (w:World):(callFunc 173 #[.int .u64 (x:Int),.int .u64 (y:Int),.int .u64 0]).run Tryz.prog w= .ok (.value (.tuple #[.int .u64 (((x+y) % 18446744073709551616:Nat):Int),.int .u64 (((x+y)/18446744073709551616:Nat):Int)])) w:=
 Any7.bits_Add64 Tryz.lays7n25 x y 0 (by omega) w
theorem AR9 (x y c:Nat) (hc:c≤1) (w:World):(callFunc 173 #[.int .u64 (x:Int),.int .u64 (y:Int),.int .u64 (c:Int)]).run Tryz.prog w= .ok (.value (.tuple #[.int .u64 (((x+y+c) % 18446744073709551616:Nat):Int),.int .u64 (((x+y+c)/18446744073709551616:Nat):Int)])) w:=
 Any7.bits_Add64 Tryz.lays7n25 x y c hc w
def eC (s:Int):Nat:=(if s<0 then s+18446744073709551616 else s).toNat
def hJ (s:Int):Nat:=if s<0 then 18446744073709551615 else 0
theorem AS0 {s v:Int} {u t:Nat} (hs:-16000000000000≤s∧s≤16000000000000) (hv:-1000000000000≤v∧v≤1000000000000) (hu:IntKind.u64.wrap v=(u:Int)) (ht:IntKind.u64.wrap (v/9223372036854775808)=(t:Int)):
 (eC s+u) % 18446744073709551616=eC (s+v)∧(hJ s+t+(eC s+u)/18446744073709551616) % 18446744073709551616=hJ (s+v)∧(eC s+u)/18446744073709551616≤1:=by
 rw[IntKind.wrap_u64]at hu ht;unfold eC hJ;split<;>split<;>omega
def W3:List Int→Int
 |[]=>0
 |a :: l=>a+W3 l
theorem Ah2:∀(l:List Int) (a:Int),W3 (l ++ [a])=W3 l+a
 |[],a=>by simp[W3]
 |b :: l,a=>by rw[List.cons_append,W3,W3,Ah2 l a];omega
theorem Ah3:∀(l:List Int),(∀x∈l,-1000000000000≤x∧x≤1000000000000)→-(l.length*1000000000000:Int)≤W3 l∧W3 l≤l.length*1000000000000
 |[],_ =>by simp[W3]
 |a :: l,h=>by
  have h1:=Ah3 l fun x hx=>h x (List.mem_cons_of_mem _ hx);have h2:=h a List.mem_cons_self;rw[W3,List.length_cons];omega
theorem Ah4 (w:World) (n:Int) (h1:-1125899906842624≤n) (h2:n≤1125899906842624):
 Calls Tryz.prog 172 #[.int .i64 n] w fun o w'=>o= .returned (.bool true)∧w'=w:=by
 go_enter Tryz.func172,Tryz.ntmps172;go_wp2_with fail;go_ret;exact⟨rfl,rfl⟩
theorem AS1 (w:World) (n:Int) (h1:-1125899906842624≤n) (h2:n≤1125899906842624):
 Calls Tryz.prog 174 #[.int .i64 n] w fun o w'=>o= .returned (.tuple #[.int .i64 n,.int .i64 0])∧w'=w:=by
 have hv:=Ah4 w n h1 h2;go_enter Tryz.func174,Tryz.ntmps174;go_wp2_with(go_at_call 172;(with_reducible refine hv.mono ?_);rintro _ _ ⟨rfl,rfl⟩);go_ret2
 exact⟨rfl,rfl⟩
theorem AS2 (w:World) (a:Option Addr) (l:List Int) (c:Nat) (hr:S9 w a l) (hn:l.length≤16) (hb:∀x∈l,-1000000000000≤x∧x≤1000000000000):
 Calls Tryz.prog 117 #[.slice a l.length c] w fun o w'=>o= .returned (.tuple #[.int .i64 (W3 l),.int .i64 0])∧w'=w:=by
 have HR:=A3 hr;have HB:=A3 hb;obtain⟨s,hs⟩:∃s,W3 l=s:=⟨_,rfl⟩
 rw[hs];have HS:=A3 hs;clear hr hb hs;go_enter Tryz.func117,Tryz.ntmps117;go_wp2_with fail;go_loopw [4,5,12] (fun s t u wr=>∃k:Nat,k≤l.length∧s= .int .u64 (hJ (W3 (l.take k)):Int)∧t= .int .u64 (eC (W3 (l.take k)):Int)∧u= .int .i64 (k:Int)∧wr=w) (fun _ _ u _ =>l.length-(RowKit.intOf u).toNat)
 case atStart=>exact⟨0,by omega,rfl,rfl,rfl,rfl⟩
 case round=>
  obtain⟨k,hk,rfl,rfl,rfl,rfl⟩:=hrel;have hbk:=Ah3 (l.take k) fun x hx=>HB.out x (List.mem_of_mem_take hx);have hbk2:-(16*1000000000000:Int)≤W3 (l.take k)∧W3 (l.take k)≤16*1000000000000:=by
   have:(l.take k).length≤16:=by rw[List.length_take];omega
   omega
  clear hbk;by_cases hlt:k<l.length
  ·have hlt1:(k:Int)<(l.length:Int):=by omega
   obtain⟨v,hv⟩:∃v,l[k]? =some v:=⟨_,A4 hlt⟩
   have hvb:=HB.out v (A0 hv);obtain⟨b,off,rfl,hb1,hc1⟩:=HR.out k hlt;have hat:B0 l k=v:=by unfold B0;rw[A6,hv];rfl
   have hc2:wr.cell? ⟨b,off+k,none⟩=some (.int .i64 v):=by rw[hc1];show some (Value.int .i64 (B0 l k))= _;rw[hat]
   clear hc1;have hsum:W3 (l.take (k+1))=W3 (l.take k)+v:=by
    rw[List.take_add_one,hv];exact Ah2 _ _
   have iP:=A3 hsum;clear hv hat hsum hb1;generalize W3 (l.take k)=z at *;have hval:=Ah4 wr v (by omega) (by omega);obtain⟨u,hu⟩:∃u:Nat,IntKind.u64.wrap v=(u:Int):=⟨(IntKind.u64.wrap v).toNat,by rw[IntKind.wrap_u64];omega⟩
   obtain⟨t,ht⟩:∃t:Nat,IntKind.u64.wrap (v/9223372036854775808)=(t:Int):=⟨(IntKind.u64.wrap (v/9223372036854775808)).toNat,by rw[IntKind.wrap_u64];omega⟩
   go_upto_region 8 with(go_at_call 172;(with_reducible refine hval.mono ?_);rintro _ _ ⟨rfl,rfl⟩)
   obtain⟨hL,hH,hc⟩:=AS0 (s:=z) (by omega) hvb hu ht;have a1:=AR8 (eC z) u;rw[hL]at a1;obtain⟨cy,hcy⟩:∃cy,(eC z+u)/18446744073709551616=cy:=⟨_,rfl⟩
   rw[hcy]at a1 hH hc;have a2:=AR9 (hJ z) t cy hc;rw[hH]at a2;clear hL hH hc hcy;go_wp2_with fail;go_roundw
   case rel=>exact⟨k+1,by omega,by rw[iP.out],by rw[iP.out],by go_num,by first|rfl|trivial⟩
   case measure=>simp[RowKit.intOf];omega
  ·obtain rfl:k=l.length:=by omega
   rw[List.take_length]at *;have hkk:¬(l.length:Int)<(l.length:Int):=by omega
   have hs1:IntKind.i64.wrap (eC (W3 l):Int)=W3 l:=by
    simp only[IntKind.wrap_i64,wrap64];unfold eC;split<;>omega
   have hs2:IntKind.u64.wrap (W3 l/9223372036854775808)=(hJ (W3 l):Int):=by
    rw[IntKind.wrap_u64];unfold hJ;split<;>omega
   rw[HS.out]at hs1 hs2 hbk2⊢;generalize eC s=lo at *;generalize hJ s=hi at *;have hck:=fun W:World=>AS1 W s (by omega) (by omega);go_wp2_with(go_at_call 174;(with_reducible refine(hck _).mono ?_);rintro _ _ ⟨rfl,rfl⟩);go_ret2
   exact⟨rfl,rfl⟩
end
section
open Go.RowKit
structure J6 where
 id:Int
 tm:Int
 la:Option Addr
 lc:Nat
 ls:List E9
def J6.cs (e:J6):List Value:=[.int .i64 e.id,.int .i64 e.tm,.slice e.la e.ls.length e.lc,.bool false]
theorem J6.len (e:J6):e.cs.length=4:=rfl
theorem AS3 (c:J6):∀v∈c.cs,v.oneCell'=true:=by
 intro v hv;simp only[J6.cs,List.mem_cons,List.not_mem_nil,or_false]at hv;rcases hv with rfl|rfl|rfl|rfl<;>rfl
theorem AS4:M6 Tryz.prog 22 3 (.int .i64 0) 1 8:=M6.mk' Tryz.underlying22 (by kernel_rfl) rfl (by decide)
structure aH (B w:World) (g:Nat) (n:Int) (v:Value) (es:List J6):Prop where
 gb:B.heap.size≤g
 b:C4 w g [.int .i64 n,v]
 r:w.ownsRow B.heap.size 169 4 v es.length (B4 J6.cs es)
 d:∀b,v.ownBlock=some b→b≠g
 l:∀e∈es,D0 E9.cs 2 w e.la e.ls
 f:∀e∈es,∀b off,e.la=some ⟨b,off,none⟩→b<w.heap.size∧b≠g∧v.ownBlock≠some b
theorem aH.to {B w W:World} {g:Nat} {n:Int} {v:Value} {es:List J6} (h:aH B w g n v es) (hW:∃z:A7 w,W=z.w):aH B W g n v es:=
 ⟨h.gb,h.b.to hW,J8 h.r hW,h.d,fun e he=>(h.l e he).to hW,fun e he b off hb=>by have h1:=h.f e he b off hb;exact⟨Nat.lt_of_lt_of_le h1.1 (A8.size hW),h1.2⟩⟩
theorem Ah5 (w:World) (n:Int) (h1:2≤n) (h2:n≤64):
 Calls Tryz.prog 26 #[.int .i64 n] w fun o w'=>∃(g:Nat) (y:A7 w),o= .returned (.tuple #[.pointer (some ⟨g,0,none⟩),.int .i64 0])∧w'=y.w∧aH w y.w g n (.slice none 0 0) []:=by
 have HP:=A3 (fun(g:Nat) (y:A7 w) (h:aH w y.w g n (.slice none 0 0) [])=>show(fun o w'=>∃(g:Nat) (y:A7 w),o=Ending.returned (.tuple #[.pointer (some ⟨g,0,none⟩),.int .i64 0])∧w'=y.w∧aH w y.w g n (.slice none 0 0) []) (.returned (.tuple #[.pointer (some ⟨g,0,none⟩),.int .i64 0])) y.w from⟨g,y,rfl,rfl,h⟩);generalize(fun o w'=>∃(g:Nat) (y:A7 w),o=Ending.returned (.tuple #[.pointer (some ⟨g,0,none⟩),.int .i64 0])∧w'=y.w∧aH w y.w g n (.slice none 0 0) [])=PO at *;go_enter Tryz.func26,Tryz.ntmps26;go_wp2_with fail;have hb:=C4.new w [.int .i64 n,.slice none 0 0] 163;obtain⟨y,hy⟩:=A8.alloc (A8.self w) (.cells [Value.int .i64 n,.slice none 0 0].toArray 163);rw[hy]at hb;have h:=HP.out w.heap.size y ⟨Nat.le_refl _,hb,⟨rfl,.inl ⟨rfl,rfl⟩⟩,fun b hb=>by(simp[Value.ownBlock]at hb),fun e he=>by(simp at he),fun e he=>by(simp at he)⟩;rw[←hy]at h;exact h
theorem Ah6 (w:World) (g:Nat) (n:Int) (v:Value) (hb:C4 w g [.int .i64 n,v]) (a:Int) (h1:0≤a) (h2:a<n):
 Calls Tryz.prog 73 #[.pointer (some ⟨g,0,none⟩),.int .i64 a] w fun o w'=>o= .returned (.bool true)∧w'=w:=by
 obtain⟨c0,_,_⟩:=aC hb;clear hb;go_enter Tryz.func73,Tryz.ntmps73;go_wp2_with fail;go_ret;exact⟨rfl,rfl⟩
theorem AS5 (l:List E9):W3 (l.map E9.n)=dI l:=by
 induction l with
 |nil=>rfl
 |cons a l ih=>rw[List.map_cons,W3,dI,ih]
structure uU (n:Int) (l:List E9):Prop where
 len:2≤l.length∧l.length≤16
 ln:∀x∈l,(0≤x.a∧x.a<n)∧x.n≠0∧-1000000000000≤x.n∧x.n≤1000000000000
 tot:dI l=0
theorem AS6 (w:World) (x:A7 w) (g:Nat) (n:Int) (v:Value) (hb:C4 w g [.int .i64 n,v]) (a:Option Addr) (l:List E9) (c:Nat) (h:D0 E9.cs 2 w a l) (hk:uU n l):
 Calls Tryz.prog 70 #[.pointer (some ⟨g,0,none⟩),.slice a l.length c] x.w fun o w'=>o= .returned (.int .i64 0)∧∃y:A7 w,w'=y.w:=by
 have HB:=A3 hb;have HL:=A3 h;have HK:=A3 hk;have hn:=hk.len;clear hb h hk;go_enter Tryz.func70,Tryz.ntmps70;go_wp2_with fail;go_loopw [5,20] (fun u t wr=>∃(k:Nat) (y:A7 w) (va:Option Addr) (vc:Nat),k≤l.length∧u= .slice va k vc∧t= .int .i64 (k:Int)∧wr=y.w∧y.w.ownsRow w.heap.size 3 1 (.slice va k vc) k ((l.take k).map fun x=>Value.int .i64 x.n)) (fun _ t _ =>l.length-(RowKit.intOf t).toNat)
 case atStart=>exact⟨0,x,none,0,by omega,rfl,rfl,rfl,⟨rfl,.inl ⟨rfl,rfl⟩⟩⟩
 case round=>
  obtain⟨k,y,va,vc,hk,rfl,rfl,rfl,hO⟩:=hrel;have HO:=A3 hO;clear hO;by_cases hlt:k<l.length
  ·obtain⟨e,he⟩:∃e,l[k]? =some e:=⟨_,A4 hlt⟩
   obtain⟨b1,off1,rfl,hb1,hc1⟩:=HL.out k e he;have ra0:∀y:A7 w,y.w.cell? ⟨b1,off1+k*2,none⟩=some (.int .i64 e.a):=A7.cell (hc1 0 _ rfl) hb1;have ra1:∀y:A7 w,y.w.cell? ⟨b1,off1+k*2+1,none⟩=some (.int .i64 e.n):=A7.cell (hc1 1 _ rfl) hb1;have hk0:(0:Int)≤(k:Int):=by omega
   have hkl:(k:Int)<(l.length:Int):=by omega
   obtain⟨⟨p0,p1⟩,p2,p3,p4⟩:=HK.out.ln e (A0 he);have He:=A3 he;clear hc1 hb1 he;go_upto_region 7 with fail;obtain⟨y2,e2,C9,hsz0,hlt0,HX0⟩:=L8 y [.int .i64 e.a,.int .i64 e.n] 91;rw[e2];obtain⟨hx0,hx1,hxf⟩:=aC HX0;(replace HO:=A3 (J8 HO.out C9))
   clear e2 C9;generalize y.w.heap.size=gx at *;obtain⟨E6,G9,I3⟩:=p8 HX0;have I9:=A3 (And.intro hsz0 hlt0);clear hlt0 hsz0 HX0;clear E6 G9 I3 ra0 ra1;have HH:=A3 (Ah6 y2.w g n v (HB.out.since y2) e.a p0 p1);have hnn:(e.n == 0)=false:=by simp[p2]
   go_wp2_with(first|(go_at_call 73;(with_reducible refine HH.out.mono ?_);rintro _ _ ⟨rfl,rfl⟩)|(at_builtin;(refine AA8 (w0:=w) ?hw rfl _ _ 22 rfl w.heap.size (Nat.le_refl _) ?hb 3 (.int .i64 0) 8 AS4 (.slice va k vc) k ((l.take k).map fun x=>Value.int .i64 x.n) rfl ?hown (.int .i64 e.n) rfl ⟨_,0,none⟩ 1 rfl ?hc ?h63 ?hbytes ?_;rotate_right 1;intro v2 z2 hown2 _;refine Hid.out ?_)))
   case hw=>exact y2.alloc _
   case hb=>have:=y2.b.size;(try simp);omega
   case hown=>exact J8 HO.out (A8.alloc (A8.self _) _)
   case hc=>exact(C4.new y2.w [.int .i64 e.n] 3).c 0 _ rfl
   case h63=>unfold maxLen;omega
   case hbytes=>omega
   refine A3 ?_;obtain⟨va2,m2,vc2,rfl⟩:=I4 hown2;have hm2:m2=k+1:=by
    obtain⟨a2,c2,h2,_⟩:=oH hown2;simp only[Value.slice.injEq]at h2;omega
   subst hm2;have HO2:=A3 (show z2.w.ownsRow w.heap.size 3 1 (.slice va2 (k+1) vc2) (k+1) ((l.take (k+1)).map fun x=>Value.int .i64 x.n)from by rw[gY He.out,List.map_append];exact hown2);clear hown2;go_wp2_with fail;go_roundw
   case rel=>exact⟨k+1,z2,va2,vc2,by omega,rfl,by go_num,rfl,HO2.out⟩
   case measure=>simp[RowKit.intOf];omega
  ·obtain rfl:k=l.length:=by omega
   have hkk:¬(l.length:Int)<(l.length:Int):=by omega
   have hO:=HO.out;rw[List.take_length]at hO;obtain⟨a2,c2,hv,_,hrow,_⟩:=oH hO;obtain⟨rfl,rfl⟩:va=a2∧vc=c2:=by simp only[Value.slice.injEq]at hv;exact⟨hv.1,hv.2.2⟩
   have hrow2:S9 y.w va (l.map E9.n):=by
    intro i hi;rw[List.length_map]at hi;obtain⟨b,off,h1,h2,h3⟩:=hrow i hi;refine⟨b,off,h1,h2,h3.trans ?_⟩;unfold B0;simp[A6,hi]
   have HS:=A3 (show Calls Tryz.prog 117 #[.slice va l.length vc] y.w (fun o w'=>o= .returned (.tuple #[.int .i64 0,.int .i64 0])∧w'=y.w)from by
    have h1:=AS2 y.w va (l.map E9.n) vc hrow2 (by rw[List.length_map];omega) (fun x hx=>by
     obtain⟨e,he,rfl⟩:=List.mem_map.1 hx;exact(HK.out.ln e he).2.2)
    rw[AS5,HK.out.tot,List.length_map]at h1;exact h1)
   clear hO hv hrow hrow2 HO;go_wp2_with(go_at_call 117;(with_reducible refine HS.out.mono ?_);rintro _ _ ⟨rfl,rfl⟩);go_ret;exact⟨rfl,y,rfl⟩
end
section
open Go.RowKit
theorem AS7 (w:World) (x:A7 w) (e:J6) (gb:Nat) (id:Int) (hb:∀y:A7 w,y.w.cell? ⟨gb,0,none⟩=some (.int .i64 id)):
 Calls Tryz.prog 119 #[.agg #[.int .i64 e.id,.int .i64 e.tm,.slice e.la e.ls.length e.lc,.bool false],.pointer (some ⟨gb,0,none⟩)] x.w fun o w'=>o= .returned (.bool (decide (e.id=id)))∧∃y:A7 w,w'=y.w:=by
 obtain⟨v,hv⟩:∃v,decide (e.id=id)=v:=⟨_,rfl⟩
 rw[hv];have HV:=A3 hv;clear hv;go_enter Tryz.func119,Tryz.ntmps119;go_upto_region 1 with fail;obtain⟨W,bx,y0,hW,hbx,-,B8,Hup,Hbx,HB0⟩:=K7 x [.int .i64 e.id,.int .i64 e.tm,.slice e.la e.ls.length e.lc,.bool false] 169;rw[hW,hbx];clear hW hbx;obtain⟨D9,E7,F9,G0,hf0⟩:=bO HB0;clear HB0;have h0:=D9 y0;obtain⟨yw,hyw⟩:=Hup.out y0;have h1:=hb yw;rw[←hyw]at h1;have Hyw:=A3 hyw;clear hyw;go_wp2_with fail;go_ret;refine⟨I1 ?_,yw,Hyw.out⟩;rw[←HV.out];rfl
theorem AS8 (w:World) (x:A7 w) (a:Option Addr) (es:List J6) (c:Nat) (h:D0 J6.cs 4 w a es) (hl:es.length≤512) (gb:Nat) (id:Int) (hb:∀y:A7 w,y.w.cell? ⟨gb,0,none⟩=some (.int .i64 id)) (hn:∀e∈es,e.id≠id):
 Calls Tryz.prog 118 #[.slice a es.length c,.func (.func 119) #[] #[.pointer (some ⟨gb,0,none⟩)]] x.w fun o w'=>o= .returned (.int .i64 (-1))∧∃y:A7 w,w'=y.w:=by
 have HL:=A3 h;have HC:=A3 (fun(y:A7 w) (e:J6) (he:e∈es)=>show Calls Tryz.prog 119 #[.agg #[.int .i64 e.id,.int .i64 e.tm,.slice e.la e.ls.length e.lc,.bool false],.pointer (some ⟨gb,0,none⟩)] y.w (fun o w'=>o= .returned (.bool false)∧∃y:A7 w,w'=y.w)from by
  have:=AS7 w y e gb id hb;rwa[decide_eq_false (hn e he)]at this)
 clear h hb hn;go_enter Tryz.func118,Tryz.ntmps118;go_wp2_with fail;go_loopw [8] (fun t wr=>∃(k:Nat) (y:A7 w),k≤es.length∧t= .int .i64 (k:Int)∧wr=y.w) (fun t _ =>es.length-(RowKit.intOf t).toNat)
 case atStart=>exact⟨0,x,by omega,rfl,rfl⟩
 case round=>
  obtain⟨k,y,hk,rfl,rfl⟩:=hrel;by_cases hlt:k<es.length
  ·obtain⟨e,he⟩:∃e,es[k]? =some e:=⟨_,A4 hlt⟩
   obtain⟨b1,off1,rfl,hb1,hc1⟩:=HL.out k e he;have ra0:∀y:A7 w,y.w.cell? ⟨b1,off1+k*4,none⟩=some (.int .i64 e.id):=A7.cell (hc1 0 _ rfl) hb1;have ra1:∀y:A7 w,y.w.cell? ⟨b1,off1+k*4+1,none⟩=some (.int .i64 e.tm):=A7.cell (hc1 1 _ rfl) hb1;have ra2:∀y:A7 w,y.w.cell? ⟨b1,off1+k*4+2,none⟩=some (.slice e.la e.ls.length e.lc):=A7.cell (hc1 2 _ rfl) hb1;have ra3:∀y:A7 w,y.w.cell? ⟨b1,off1+k*4+3,none⟩=some (.bool false):=A7.cell (hc1 3 _ rfl) hb1;have hk0:(0:Int)≤(k:Int):=by omega
   have hkl:(k:Int)<(es.length:Int):=by omega
   have HE:=A3 (HC.out y e (A0 he));clear hc1 hb1 he;go_wp2_with(go_at_call 119;(with_reducible refine HE.out.mono ?_);rintro _ _ ⟨rfl,y2,rfl⟩);go_roundw
   case rel=>exact⟨k+1,y2,by omega,by go_num,rfl⟩
   case measure=>simp[RowKit.intOf];omega
  ·obtain rfl:k=es.length:=by omega
   have hkk:¬(es.length:Int)<(es.length:Int):=by omega
   go_wp2_with fail;go_ret;exact⟨rfl,y,rfl⟩
theorem uV {B w:World} {v:Value} {es:List J6} (h:w.ownsRow B.heap.size 169 4 v es.length (B4 J6.cs es)):∃(a:Option Addr) (c:Nat),v= .slice a es.length c∧D0 J6.cs 4 w a es:=by
 obtain⟨_,a,c,hv,_,he,_,_⟩:=O9 J6.len (by decide) h;exact⟨a,c,hv,he⟩
theorem AS9 (B w:World) (x:A7 w) (g:Nat) (n:Int) (v:Value) (es:List J6) (h:aH B w g n v es) (hl:es.length≤512) (id:Int) (hn:∀e∈es,e.id≠id):
 Calls Tryz.prog 71 #[.pointer (some ⟨g,0,none⟩),.int .i64 id] x.w fun o w'=>o= .returned (.int .i64 (-1))∧∃y:A7 w,w'=y.w:=by
 obtain⟨a,c,rfl,he⟩:=uV h.r;have HE:=A3 he;have HB:=A3 h.b;clear h;go_enter Tryz.func71,Tryz.ntmps71;go_upto_region 1 with fail;obtain⟨W,bx,y0,hW,hbx,-,B8,Hup,Hbx,HB0⟩:=K7 x [.int .i64 id] 3;rw[hW,hbx];clear hW hbx;obtain⟨D9,hf0⟩:=sX HB0;clear HB0;have HI:=A3 (fun y:A7 W=>AS8 W y a es c (HE.out.to B8) hl bx id D9 hn);have hB:=HB.out.to B8;have hB2:=hB.since y0;obtain⟨c0,c1,_⟩:=aC hB2;clear hB hB2 D9 hf0;go_wp2_with(go_at_call 118;(with_reducible refine(HI.out y0).mono ?_);rintro _ _ ⟨rfl,y2,rfl⟩);go_ret;exact⟨rfl,Hup.out y2⟩
end
end Go.Proofs.YtmmlmhnjjfnpnaaGreat
