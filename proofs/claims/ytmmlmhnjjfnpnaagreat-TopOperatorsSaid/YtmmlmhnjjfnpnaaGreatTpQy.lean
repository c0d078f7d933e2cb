/- Texts that belong together. -/
import Derived.Test.YtmmlmhnjjfnpnaaGreatTpQw
set_option linter.all false
namespace Go.Proofs.YtmmlmhnjjfnpnaaGreat
section
open Go.RowKit Go.ChangeMaps
def A9.br (r:A9):A9:={r with la:=none,lc:=0,pa:=none,pc:=0}
def ob (v:Value):List Nat:=v.ownBlock.toList
def A9.lv (r:A9):Value:=.slice r.la r.legs.length r.lc
def A9.pv (r:A9):Value:=.slice r.pa r.pauses.length r.pc
def K3 (r:A9):List Nat:=ob r.lv ++ ob r.pv
def D6 (p bi gg gs:Nat) (vr vp:Value):List Nat:=p :: bi :: gg :: gs :: (ob vr ++ ob vp)
structure AW9 (p bi gg gs:Nat) (vr vp:Value) (R:List A9):Prop where
 b:(D6 p bi gg gs vr vp).Nodup
 r:∀(i:Nat) (r:A9),R[i]? =some r→(K3 r).Nodup∧∀b∈K3 r,b∉D6 p bi gg gs vr vp
 x:∀(i j:Nat) (r r':A9),R[i]? =some r→R[j]? =some r'→i≠j→∀b∈K3 r,b∉K3 r'
structure P5 (w:World) (B:Nat) (r:A9):Prop where
 l:w.ownsRow B 152 5 r.lv r.legs.length (B4 E0.cs r.legs)
 p:w.ownsRow B 44 4 r.pv r.pauses.length (B4 I2.cs r.pauses)
structure I8 (w:World) (B p bi gg gs:Nat) (vr vp:Value) (R:List A9) (s:D7):Prop where
 st:C4 w p [vr,.map (some bi),.slice (some ⟨gg,0,none⟩) s.rg.length s.rg.length,vp,.slice (some ⟨gs,0,none⟩) s.sp.length s.sp.length]
 rr:w.ownsRow B 40 13 vr R.length (B4 A9.cs R)
 br:R.map A9.br=s.rs
 ix:J0 fZ w bi (s.ix.map fun x=>(x.1,.int .i64 (x.2:Int)))
 rg:C4 w gg (s.rg.map (.int .i64))
 pz:w.ownsRow B 4 1 vp s.pz.length (s.pz.map .bool)
 sp:C4 w gs (B4 D8.cs s.sp)
 rm:∀r∈R,P5 w B r
 ap:AW9 p bi gg gs vr vp R
 ge:B≤p∧B≤bi∧B≤gg∧B≤gs
theorem V3 (a:Option Addr) (n c:Nat):ob (.slice a n c)=(a.map (·.block)).toList:=by cases a<;>rfl
theorem O2 {v:Value} {b:Nat}:b∈ob v↔v.ownBlock=some b:=by unfold ob;simp
theorem X4 {S:Nat→Prop} {w w':World} {B k n:Nat} {T:TypeId} {v:Value} {xs:List Value} (h:w.ownsRow B T k v n xs) (hk:B7 S w w') (hn:∀b∈ob v,¬S b):w'.ownsRow B T k v n xs:=by
 obtain⟨hl,h1|⟨g',cap,cur,e,hg,hh,r⟩⟩:=h
 ·exact⟨hl,.inl h1⟩
 ·refine⟨hl,.inr ⟨g',cap,cur,e,hg,?_,r⟩⟩
  rw[hk.block g' (Array.getElem?_eq_some_iff.1 hh).1 (hn g' (by rw[O2,e];rfl))];exact hh
theorem bH {w:World} {B k n:Nat} {T:TypeId} {v:Value} {xs:List Value} (h:w.ownsRow B T k v n xs):∀b∈ob v,B≤b∧b<w.heap.size:=fun b hb=>⟨aZ h b (O2.1 hb),lV h b (O2.1 hb)⟩
theorem P5.keepS {S:Nat→Prop} {w w':World} {B:Nat} {r:A9} (h:P5 w B r) (hk:B7 S w w') (hn:∀b∈K3 r,¬S b):P5 w' B r:=
 ⟨X4 h.l hk (fun b hb=>hn b (List.mem_append_left _ hb)),X4 h.p hk (fun b hb=>hn b (List.mem_append_right _ hb))⟩
theorem P5.lt {w:World} {B:Nat} {r:A9} (h:P5 w B r):∀b∈K3 r,B≤b∧b<w.heap.size:=fun b hb=>by
 rcases List.mem_append.1 hb with hb|hb
 ·exact bH h.l b hb
 ·exact bH h.p b hb
section
variable {w w':World} {B p bi gg gs:Nat} {vr vp:Value} {R:List A9} {s:D7}
theorem I8.lt (h:I8 w B p bi gg gs vr vp R s):∀b∈D6 p bi gg gs vr vp,B≤b∧b<w.heap.size:=fun b hb=>by
 unfold D6 at hb;simp only[List.mem_cons,List.mem_append]at hb;rcases hb with rfl|rfl|rfl|rfl|hb|hb
 ·exact⟨h.ge.1,h.st.lt⟩
 ·exact⟨h.ge.2.1,h.ix.lt⟩
 ·exact⟨h.ge.2.2.1,h.rg.lt⟩
 ·exact⟨h.ge.2.2.2,h.sp.lt⟩
 ·exact bH h.rr b hb
 ·exact bH h.pz b hb
def K9 (p bi gg gs:Nat) (vr vp:Value) (R:List A9) (b:Nat):Prop:=b∈D6 p bi gg gs vr vp∨∃r∈R,b∈K3 r
theorem I8.ltS (h:I8 w B p bi gg gs vr vp R s) {b:Nat} (hb:K9 p bi gg gs vr vp R b):B≤b∧b<w.heap.size:=by
 rcases hb with hb|⟨r,hr,hb⟩
 ·exact h.lt b hb
 ·exact(h.rm r hr).lt b hb
theorem I8.keep {S:Nat→Prop} (h:I8 w B p bi gg gs vr vp R s) (hk:B7 S w w') (hn:∀b,K9 p bi gg gs vr vp R b→¬S b):I8 w' B p bi gg gs vr vp R s:=
 ⟨h.st.keepS hk (hn p (.inl (by simp[D6]))),X4 h.rr hk (fun b hb=>hn b (.inl (by simp[D6,hb]))),h.br,h.ix.keepS hk (hn bi (.inl (by simp[D6]))),h.rg.keepS hk (hn gg (.inl (by simp[D6]))),
  X4 h.pz hk (fun b hb=>hn b (.inl (by simp[D6,hb]))),h.sp.keepS hk (hn gs (.inl (by simp[D6]))),fun r hr=>(h.rm r hr).keepS hk (fun b hb=>hn b (.inr ⟨r,hr,hb⟩)),h.ap,h.ge⟩
theorem I8.to (h:I8 w B p bi gg gs vr vp R s) (hW:∃z:A7 w,w'=z.w):I8 w' B p bi gg gs vr vp R s:=by
 obtain⟨z,rfl⟩:=hW;exact h.keep (B7.of (S:=fun _ =>False) z) fun _ _ h=>h
theorem I8.setRide (h:I8 w B p bi gg gs vr vp R s) {k:Nat} {r r':A9} (hr:R[k]? =some r) (hk:B7 (fun b=>b∈ob vr ++ K3 r) w w') (hrow:w'.ownsRow B 40 13 vr R.length (B4 A9.cs (R.set k r'))) (hm:P5 w' B r') (hblk:∀b∈K3 r',b∈K3 r∨w.heap.size≤b) (hnd:(K3 r').Nodup)
 {s':D7} (h1:s'.rs=s.rs.set k r'.br) (h2:s'.ix=s.ix) (h3:s'.rg=s.rg) (h4:s'.pz=s.pz) (h5:s'.sp=s.sp):I8 w' B p bi gg gs vr vp (R.set k r') s':=by
 have hkl:k<R.length:=(A5 hr).1;have hrR:r∈R:=A0 hr;have hb:=h.ap.b;unfold D6 at hb;simp only[List.nodup_cons,List.mem_cons,List.mem_append,not_or]at hb;obtain⟨⟨n1,n2,n3,n4,n5⟩,⟨n6,n7,n8,n9⟩,⟨n10,n11,n12⟩,⟨n13,n14⟩,n15⟩:=hb;have hrs:=(h.ap.r k r hr).2;have hno:∀b,b∈D6 p bi gg gs vr vp→b∉ob vr→¬(b∈ob vr ++ K3 r):=fun b hs hv hb=>by
  rcases List.mem_append.1 hb with hb|hb
  ·exact hv hb
  ·exact hrs b hb hs
 have hget:∀(i:Nat) (x:A9),(R.set k r')[i]? =some x→(i=k∧x=r')∨(i≠k∧R[i]? =some x):=fun i x hx=>by
  rw[List.getElem?_set]at hx;by_cases e:k=i
  ·subst e;rw[if_pos rfl,if_pos hkl]at hx;exact .inl ⟨rfl,(Option.some.inj hx).symm⟩
  ·rw[if_neg e]at hx;exact .inr ⟨fun e'=>e e'.symm,hx⟩
 have lL:∀(i:Nat) (x:A9),R[i]? =some x→∀b∈K3 x,b<w.heap.size:=fun i x hx b hb=>((h.rm x (A0 hx)).lt b hb).2;refine⟨by rw[h3,h5];exact h.st.keepS hk (hno p (by simp[D6]) n4),by rw[List.length_set];exact hrow,by rw[h1,←h.br,List.map_set],by rw[h2];exact h.ix.keepS hk (hno bi (by simp[D6]) n8),by rw[h3];exact h.rg.keepS hk (hno gg (by simp[D6]) n11),
  by rw[h4];exact X4 h.pz hk (fun b hb=>hno b (by simp[D6,hb]) (fun hv=>(List.nodup_append.1 n15).2.2 b hv b hb rfl)),by rw[h5];exact h.sp.keepS hk (hno gs (by simp[D6]) n13),fun x hx=>?_,⟨h.ap.b,fun i x hx=>?_,fun i j x y hx hy hij=>?_⟩,h.ge⟩
 ·obtain⟨i,hi⟩:=List.getElem?_of_mem hx
  rcases hget i x hi with⟨rfl,rfl⟩|⟨hne,hi⟩
  ·exact hm
  ·refine(h.rm x (A0 hi)).keepS hk (fun b hb hb2=>?_)
   rcases List.mem_append.1 hb2 with hb2|hb2
   ·exact(h.ap.r i x hi).2 b hb (by simp[D6,hb2])
   ·exact h.ap.x i k x r hi hr hne b hb hb2
 ·rcases hget i x hx with⟨rfl,rfl⟩|⟨hne,hi⟩
  ·refine⟨hnd,fun b hb hs=>?_⟩
   rcases hblk b hb with h'|h'
   ·exact hrs b h' hs
   ·have:=(h.lt b hs).2;omega
  ·exact h.ap.r i x hi
 ·rcases hget i x hx with⟨rfl,rfl⟩|⟨hne,hi⟩
  ·rcases hget j y hy with⟨e,_⟩|⟨hne',hj⟩
   ·exact absurd e.symm hij
   ·intro b hb hb2
    rcases hblk b hb with h'|h'
    ·exact h.ap.x i j r y hr hj hij b h' hb2
    ·have:=lL j y hj b hb2;omega
  ·rcases hget j y hy with⟨rfl,rfl⟩|⟨hne',hj⟩
   ·intro b hb hb2
    rcases hblk b hb2 with h'|h'
    ·exact h.ap.x i j x r hi hr hij b hb h'
    ·have:=lL i x hi b hb;omega
   ·exact h.ap.x i j x y hi hj hij
theorem I8.setRg (h:I8 w B p bi gg gs vr vp R s) {b:Nat} (hb:b<s.rg.length) (v:Int):I8 (w.setCell ⟨gg,b,none⟩ (.int .i64 v)) B p bi gg gs vr vp R {s with rg:=s.rg.set b v}∧B7 (fun x=>x=gg) w (w.setCell ⟨gg,b,none⟩ (.int .i64 v)):=by
 have hk:B7 (fun x=>x=gg) w (w.setCell ⟨gg,b,none⟩ (.int .i64 v)):=B7.set (S:=fun x=>x=gg) w _ _ rfl;have hB:=h.ap.b;unfold D6 at hB;simp only[List.nodup_cons,List.mem_cons,List.mem_append,not_or]at hB;obtain⟨⟨n1,n2,n3,n4,n5⟩,⟨n6,n7,n8,n9⟩,⟨n10,n11,n12⟩,⟨n13,n14⟩,n15⟩:=hB;refine⟨⟨by simpa using h.st.keepS hk n2,X4 h.rr hk (fun x hx e=>n11 (e ▸ hx)),h.br,h.ix.keepS hk n6,?_,X4 h.pz hk (fun x hx e=>n12 (e ▸ hx)),h.sp.keepS hk (fun e=>n10 e.symm),fun r hr=>(h.rm r hr).keepS hk (fun x hx e=>?_),h.ap,h.ge⟩,hk⟩
 ·have:=h.rg.setj (j:=b) (by simpa using hb) (.int .i64 v)
  rw[List.map_set];exact this
 ·obtain⟨i,hi⟩:=List.getElem?_of_mem hr
  exact(h.ap.r i r hi).2 x hx (by rw[e];simp[D6])
theorem I8.setSp (h:I8 w B p bi gg gs vr vp R s) {b:Nat} (hb:b<s.sp.length) (x:D8):I8 (w.setCells gs (b*4) x.cs) B p bi gg gs vr vp R {s with sp:=s.sp.set b x}∧B7 (fun x=>x=gs) w (w.setCells gs (b*4) x.cs):=by
 have hk:B7 (fun x=>x=gs) w (w.setCells gs (b*4) x.cs):=B7.sets (S:=fun x=>x=gs) gs rfl _ _ _;have hB:=h.ap.b;unfold D6 at hB;simp only[List.nodup_cons,List.mem_cons,List.mem_append,not_or]at hB;obtain⟨⟨n1,n2,n3,n4,n5⟩,⟨n6,n7,n8,n9⟩,⟨n10,n11,n12⟩,⟨n13,n14⟩,n15⟩:=hB;refine⟨⟨by simpa using h.st.keepS hk n3,X4 h.rr hk (fun x hx e=>n13 (e ▸ hx)),h.br,h.ix.keepS hk n7,h.rg.keepS hk n10,X4 h.pz hk (fun x hx e=>n14 (e ▸ hx)),h.sp.setE D8.len b hb x,fun r hr=>(h.rm r hr).keepS hk (fun y hy e=>?_),h.ap,h.ge⟩,hk⟩;obtain⟨i,hi⟩:=List.getElem?_of_mem hr;exact(h.ap.r i r hi).2 y hy (by rw[e];simp[D6])
theorem I8.setPz (h:I8 w B p bi gg gs vr vp R s) {gp c:Nat} (hv:vp= .slice (some ⟨gp,0,none⟩) s.pz.length c) {k:Nat} (hk':k<s.pz.length) (z:Bool):I8 (w.setCell ⟨gp,k,none⟩ (.bool z)) B p bi gg gs vr vp R {s with pz:=s.pz.set k z}∧B7 (fun x=>x=gp) w (w.setCell ⟨gp,k,none⟩ (.bool z)):=by
 have hk:B7 (fun x=>x=gp) w (w.setCell ⟨gp,k,none⟩ (.bool z)):=B7.set (S:=fun x=>x=gp) w _ _ rfl;have hgp:gp∈ob vp:=by rw[hv,V3];simp
 have hb:=h.ap.b;unfold D6 at hb;simp only[List.nodup_cons,List.mem_cons,List.mem_append,not_or]at hb;obtain⟨⟨n1,n2,n3,n4,n5⟩,⟨n6,n7,n8,n9⟩,⟨n10,n11,n12⟩,⟨n13,n14⟩,n15⟩:=hb;refine⟨⟨by simpa using h.st.keepS hk (fun e=>n5 (e ▸ hgp)),X4 h.rr hk (fun x hx e=>(List.nodup_append.1 n15).2.2 x hx gp hgp e),h.br,h.ix.keepS hk (fun e=>n9 (e ▸ hgp)),h.rg.keepS hk (fun e=>n12 (e ▸ hgp)),?_,h.sp.keepS hk (fun e=>n14 (e ▸ hgp)),fun r hr=>(h.rm r hr).keepS hk (fun x hx e=>?_),h.ap,h.ge⟩,hk⟩
 ·have h1:=h.pz
  rw[hv]at h1⊢;have:=iR h1 (j:=k) (by simpa using hk') (.bool z);simpa[List.map_set]using this
 ·obtain⟨i,hi⟩:=List.getElem?_of_mem hr
  exact(h.ap.r i r hi).2 x hx (by rw[e];simp[D6,hgp])
theorem I8.storeIx (h:I8 w B p bi gg gs vr vp R s) {i:Int} {k:Nat} (hm:J0 fZ w' bi ((s.ix.map fun x=>(x.1,Value.int .i64 (x.2:Int))) ++ [(i,.int .i64 (k:Int))])) (hg:w.grownBy w' (some bi)):I8 w' B p bi gg gs vr vp R {s with ix:=s.ix ++ [(i,k)]}∧B7 (fun x=>x=bi) w w':=by
 have hk:B7 (fun x=>x=bi) w w':=B7.grown hg rfl;have hb:=h.ap.b;unfold D6 at hb;simp only[List.nodup_cons,List.mem_cons,List.mem_append,not_or]at hb;obtain⟨⟨n1,n2,n3,n4,n5⟩,⟨n6,n7,n8,n9⟩,⟨n10,n11,n12⟩,⟨n13,n14⟩,n15⟩:=hb;refine⟨⟨h.st.keepS hk n1,X4 h.rr hk (fun x hx e=>n8 (e ▸ hx)),h.br,by simpa using hm,h.rg.keepS hk (fun e=>n6 e.symm),X4 h.pz hk (fun x hx e=>n9 (e ▸ hx)),h.sp.keepS hk (fun e=>n7 e.symm),fun r hr=>(h.rm r hr).keepS hk (fun x hx e=>?_),h.ap,h.ge⟩,hk⟩;obtain⟨i,hi⟩:=List.getElem?_of_mem hr;exact(h.ap.r i r hi).2 x hx (by rw[e];simp[D6])
theorem iD (v:Value):(ob v).Nodup:=by
 unfold ob
 cases v.ownBlock<;>simp
theorem I8.pushR (h:I8 w B p bi gg gs vr vp R s) {vr':Value} {r':A9} (hk:B7 (fun b=>b∈ob vr∨b=p) w w') (hst:C4 w' p [vr',.map (some bi),.slice (some ⟨gg,0,none⟩) s.rg.length s.rg.length,vp,.slice (some ⟨gs,0,none⟩) s.sp.length s.sp.length]) (hrow:w'.ownsRow B 40 13 vr' (R ++ [r']).length (B4 A9.cs (R ++ [r'])))
 (hl:∀b∈ob vr',b∈ob vr∨(w.heap.size≤b∧b∉K3 r')) (hm:P5 w' B r') (hf:∀b∈K3 r',w.heap.size≤b) (hnd:(K3 r').Nodup) {s':D7} (h1:s'.rs=s.rs ++ [r'.br]) (h2:s'.ix=s.ix) (h3:s'.rg=s.rg) (h4:s'.pz=s.pz) (h5:s'.sp=s.sp):I8 w' B p bi gg gs vr' vp (R ++ [r']) s':=by
 have hlt:=fun b hb=>(h.lt b hb).2;have hb:=h.ap.b;unfold D6 at hb;simp only[List.nodup_cons,List.mem_cons,List.mem_append,not_or]at hb;obtain⟨⟨n1,n2,n3,n4,n5⟩,⟨n6,n7,n8,n9⟩,⟨n10,n11,n12⟩,⟨n13,n14⟩,n15⟩:=hb;have hS:∀b∈D6 p bi gg gs vr' vp,b∈D6 p bi gg gs vr vp∨(w.heap.size≤b∧b∉K3 r'):=fun b hb=>by
  unfold D6 at hb⊢;simp only[List.mem_cons,List.mem_append]at hb⊢;rcases hb with hb|hb|hb|hb|hb|hb
  ·exact .inl (.inl hb)
  ·exact .inl (.inr (.inl hb))
  ·exact .inl (.inr (.inr (.inl hb)))
  ·exact .inl (.inr (.inr (.inr (.inl hb))))
  ·rcases hl b hb with h'|h'
   ·exact .inl (.inr (.inr (.inr (.inr (.inl h')))))
   ·exact .inr h'
  ·exact .inl (.inr (.inr (.inr (.inr (.inr hb)))))
 have hnv:∀b,b∈D6 p bi gg gs vr vp→b∉ob vr→b∉ob vr':=fun b hb hn hv=>by
  rcases hl b hv with h'|h'
  ·exact hn h'
  ·have:=hlt b hb;omega
 have hget:∀(i:Nat) (x:A9),(R ++ [r'])[i]? =some x→(i=R.length∧x=r')∨R[i]? =some x:=fun i x hx=>by
  by_cases hi:i<R.length
  ·rw[List.getElem?_append_left hi]at hx;exact .inr hx
  ·have hi2:i<(R ++ [r']).length:=(A5 hx).1
   rw[List.length_append,List.length_singleton]at hi2;obtain rfl:i=R.length:=by omega
   rw[List.getElem?_append_right (Nat.le_refl _),Nat.sub_self]at hx;exact .inl ⟨rfl,(Option.some.inj hx).symm⟩
 have lL:∀(i:Nat) (x:A9),R[i]? =some x→∀b∈K3 x,b<w.heap.size:=fun i x hx b hb=>((h.rm x (A0 hx)).lt b hb).2;have hkr:∀r∈R,P5 w' B r:=fun r hr=>(h.rm r hr).keepS hk (fun b hb hb2=>by
  obtain⟨i,hi⟩:=List.getElem?_of_mem hr;rcases hb2 with hb2|rfl
  ·exact(h.ap.r i r hi).2 b hb (by simp[D6,hb2])
  ·exact(h.ap.r i r hi).2 b hb (by simp[D6]))
 have hno:∀b,b∉ob vr→b≠p→¬(b∈ob vr∨b=p):=fun b h1 h2 h3=>h3.elim h1 h2;refine⟨by rw[h3,h5];exact hst,hrow,by rw[h1,←h.br,List.map_append];rfl,by rw[h2];exact h.ix.keepS hk (hno bi n8 (fun e=>n1 e.symm)),by rw[h3];exact h.rg.keepS hk (hno gg n11 (fun e=>n2 e.symm)),
  by rw[h4];exact X4 h.pz hk (fun b hb=>hno b (fun hv=>(List.nodup_append.1 n15).2.2 b hv b hb rfl) (fun e=>n5 (e ▸ hb))),by rw[h5];exact h.sp.keepS hk (hno gs n13 (fun e=>n3 e.symm)),fun x hx=>?_,⟨?_,fun i x hx=>?_,fun i j x y hx hy hij=>?_⟩,h.ge⟩
 ·rcases List.mem_append.1 hx with hx|hx
  ·exact hkr x hx
  ·rw[List.mem_singleton]at hx;subst hx;exact hm
 ·unfold D6
  simp only[List.nodup_cons,List.mem_cons,List.mem_append,not_or];refine⟨⟨n1,n2,n3,hnv p (by simp[D6]) n4,n5⟩,⟨n6,n7,hnv bi (by simp[D6]) n8,n9⟩,⟨n10,hnv gg (by simp[D6]) n11,n12⟩,⟨hnv gs (by simp[D6]) n13,n14⟩,?_⟩;rw[List.nodup_append];refine⟨iD _,iD _,fun a ha b hb e=>?_⟩;subst e;exact hnv a (by simp[D6,hb]) (fun hv=>(List.nodup_append.1 n15).2.2 a hv a hb rfl) ha
 ·rcases hget i x hx with⟨rfl,rfl⟩|hi
  ·refine⟨hnd,fun b hb hs=>?_⟩
   rcases hS b hs with h'|h'
   ·have:=hlt b h';have:=hf b hb;omega
   ·exact h'.2 hb
  ·refine⟨(h.ap.r i x hi).1,fun b hb hs=>?_⟩
   rcases hS b hs with h'|h'
   ·exact(h.ap.r i x hi).2 b hb h'
   ·have:=lL i x hi b hb;omega
 ·rcases hget i x hx with⟨rfl,rfl⟩|hi
  ·rcases hget j y hy with⟨e,_⟩|hj
   ·exact absurd e.symm hij
   ·intro b hb hb2;have:=hf b hb;have:=lL j y hj b hb2;omega
  ·rcases hget j y hy with⟨rfl,rfl⟩|hj
   ·intro b hb hb2;have:=hf b hb2;have:=lL i x hi b hb;omega
   ·exact h.ap.x i j x y hi hj hij
theorem I8.pushP (h:I8 w B p bi gg gs vr vp R s) {vp':Value} {z:Bool} (hk:B7 (fun b=>b∈ob vp∨b=p) w w') (hst:C4 w' p [vr,.map (some bi),.slice (some ⟨gg,0,none⟩) s.rg.length s.rg.length,vp',.slice (some ⟨gs,0,none⟩) s.sp.length s.sp.length]) (hrow:w'.ownsRow B 4 1 vp' (s.pz.length+1) (s.pz.map .bool ++ [.bool z]))
 (hl:∀b∈ob vp',b∈ob vp∨w.heap.size≤b):I8 w' B p bi gg gs vr vp' R {s with pz:=s.pz ++ [z]}:=by
 have hlt:=fun b hb=>(h.lt b hb).2;have hb:=h.ap.b;unfold D6 at hb;simp only[List.nodup_cons,List.mem_cons,List.mem_append,not_or]at hb;obtain⟨⟨n1,n2,n3,n4,n5⟩,⟨n6,n7,n8,n9⟩,⟨n10,n11,n12⟩,⟨n13,n14⟩,n15⟩:=hb;have hnv:∀b,b<w.heap.size→b∉ob vp→b∉ob vp':=fun b hb hn hv=>by
  rcases hl b hv with h'|h'
  ·exact hn h'
  ·omega
 have hno:∀b,b∉ob vp→b≠p→¬(b∈ob vp∨b=p):=fun b h1 h2 h3=>h3.elim h1 h2;have hvr:∀b∈ob vr,b∉ob vp:=fun b hb hv=>(List.nodup_append.1 n15).2.2 b hb b hv rfl;have hrk:∀(i:Nat) (r:A9),R[i]? =some r→∀b∈K3 r,b∉ob vp∧b≠p:=fun i r hi b hb=>⟨fun hv=>(h.ap.r i r hi).2 b hb (by simp[D6,hv]),fun e=>(h.ap.r i r hi).2 b hb (by rw[e];simp[D6])⟩
 refine⟨by simpa using hst,X4 h.rr hk (fun b hb=>hno b (hvr b hb) (fun e=>n4 (e ▸ hb))),h.br,h.ix.keepS hk (hno bi n9 (fun e=>n1 e.symm)),h.rg.keepS hk (hno gg n12 (fun e=>n2 e.symm)),by simpa using hrow,h.sp.keepS hk (hno gs n14 (fun e=>n3 e.symm)),fun x hx=>?_,⟨?_,fun i x hx=>⟨(h.ap.r i x hx).1,fun b hb hs=>?_⟩,h.ap.x⟩,h.ge⟩
 ·obtain⟨i,hi⟩:=List.getElem?_of_mem hx
  exact(h.rm x hx).keepS hk (fun b hb=>hno b (hrk i x hi b hb).1 (hrk i x hi b hb).2)
 ·unfold D6
  simp only[List.nodup_cons,List.mem_cons,List.mem_append,not_or];refine⟨⟨n1,n2,n3,n4,hnv p h.st.lt n5⟩,⟨n6,n7,n8,hnv bi h.ix.lt n9⟩,⟨n10,n11,hnv gg h.rg.lt n12⟩,⟨n13,hnv gs h.sp.lt n14⟩,?_⟩;rw[List.nodup_append];refine⟨iD _,iD _,fun a ha b hb e=>?_⟩;subst e;exact hnv a (bH h.rr a ha).2 (hvr a ha) hb
 ·have hlb:=((h.rm x (A0 hx)).lt b hb).2
  unfold D6 at hs;simp only[List.mem_cons,List.mem_append]at hs;rcases hs with hs|hs|hs|hs|hs|hs
  ·exact(h.ap.r i x hx).2 b hb (by simp[D6,hs])
  ·exact(h.ap.r i x hx).2 b hb (by simp[D6,hs])
  ·exact(h.ap.r i x hx).2 b hb (by simp[D6,hs])
  ·exact(h.ap.r i x hx).2 b hb (by simp[D6,hs])
  ·exact(h.ap.r i x hx).2 b hb (by simp[D6,hs])
  ·exact hnv b hlb (hrk i x hx b hb).1 hs
end
end
section
open Go.RowKit Go.ChangeMaps
theorem Ak3 {α:Type} {enc:α→List Value} {k:Nat} (hk:∀x,(enc x).length=k) {w:World} {B:Nat} {T:TypeId} {g n c:Nat} {init:List α} {q q':α} (h:w.ownsRow B T k (.slice (some ⟨g,0,none⟩) n c) n (B4 enc (init ++ [q]))) {j:Nat} (hj:j+1<k) (a t:Value) (hq:enc q'=((enc q).set j a).set (j+1) t):
 ((w.setCell ⟨g,init.length*k+j,none⟩ a).setCell ⟨g,init.length*k+j+1,none⟩ t).ownsRow B T k (.slice (some ⟨g,0,none⟩) n c) n (B4 enc (init ++ [q'])):=by
 have hl:(B4 enc (init ++ [q])).length=init.length*k+k:=by rw[U7 hk,List.length_append,List.length_singleton,Nat.succ_mul]
 have h1:=iR h (j:=init.length*k+j) (by omega) a;have h2:=iR h1 (j:=init.length*k+j+1) (by rw[List.length_set];omega) t;have hi:(B4 enc init).length=init.length*k:=U7 hk init;have e:((B4 enc (init ++ [q])).set (init.length*k+j) a).set (init.length*k+j+1) t=B4 enc (init ++ [q']):=by
  rw[U6,U6,Y1,Y1,hq,List.set_append_right _ _ (by omega),List.set_append_right _ _ (by omega),hi];rw[show init.length*k+j-init.length*k=j by omega,show init.length*k+j+1-init.length*k=j+1 by omega]
 rwa[e]at h2
theorem dM {w:World} {B k n:Nat} {T:TypeId} {v:Value} {xs:List Value} (h:w.ownsRow B T k v n xs) (p:Addr) (u:Value) (hne:p.block∉ob v):(w.setCell p u).ownsRow B T k v n xs:=cO h p u (fun b hb e=>hne (e ▸ O2.2 hb))
theorem P5.leg_at {w:World} {B:Nat} {r:A9} (h:P5 w B r) (hn:0<r.legs.length):∃g,r.la=some ⟨g,0,none⟩∧r.legs.length≤r.lc∧B≤g:=by
 obtain⟨g,c,he,hg,hc⟩:=eQ h.l hn;unfold A9.lv at he;simp only[Value.slice.injEq]at he;exact⟨g,he.1,by omega,hg⟩
theorem P5.pse_at {w:World} {B:Nat} {r:A9} (h:P5 w B r) (hn:0<r.pauses.length):∃g,r.pa=some ⟨g,0,none⟩∧r.pauses.length≤r.pc∧B≤g:=by
 obtain⟨g,c,he,hg,hc⟩:=eQ h.p hn;unfold A9.pv at he;simp only[Value.slice.injEq]at he;exact⟨g,he.1,by omega,hg⟩
theorem P5.endP {w:World} {B:Nat} {r:A9} (h:P5 w B r) (hnd:(K3 r).Nodup) {init:List I2} {q:I2} (hp:r.pauses=init ++ [q]) {g:Nat} (hg:r.pa=some ⟨g,0,none⟩) (a t:Int):
 P5 ((w.setCell ⟨g,init.length*4+2,none⟩ (.int .i64 a)).setCell ⟨g,init.length*4+2+1,none⟩ (.int .i64 t)) B {r with pauses:=init ++ [q.to a t]}:=by
 have hgp:g∈ob r.pv:=by unfold A9.pv;rw[V3,hg];simp
 have hno:g∉ob r.lv:=fun hl=>(List.nodup_append.1 hnd).2.2 g hl g hgp rfl;refine⟨dM (dM h.l _ _ hno) _ _ hno,?_⟩;have h1:=h.p;unfold A9.pv at h1;rw[hg,hp]at h1;show World.ownsRow _ B _ 4 (.slice r.pa (init ++ [q.to a t]).length r.pc) (init ++ [q.to a t]).length _;rw[hg,List.length_append,List.length_singleton];rw[List.length_append,List.length_singleton]at h1;exact Ak3 I2.len h1 (j:=2) (by decide) (.int .i64 a) (.int .i64 t) rfl
theorem P5.endL {w:World} {B:Nat} {r:A9} (h:P5 w B r) (hnd:(K3 r).Nodup) {init:List E0} {q:E0} (hp:r.legs=init ++ [q]) {g:Nat} (hg:r.la=some ⟨g,0,none⟩) (a t:Int):
 P5 ((w.setCell ⟨g,init.length*5+3,none⟩ (.int .i64 a)).setCell ⟨g,init.length*5+3+1,none⟩ (.int .i64 t)) B {r with legs:=init ++ [q.to a t]}:=by
 have hgp:g∈ob r.lv:=by unfold A9.lv;rw[V3,hg];simp
 have hno:g∉ob r.pv:=fun hl=>(List.nodup_append.1 hnd).2.2 g hgp g hl rfl;refine⟨?_,dM (dM h.p _ _ hno) _ _ hno⟩;have h1:=h.l;unfold A9.lv at h1;rw[hg,hp]at h1;show World.ownsRow _ B _ 5 (.slice r.la (init ++ [q.to a t]).length r.lc) (init ++ [q.to a t]).length _;rw[hg,List.length_append,List.length_singleton];rw[List.length_append,List.length_singleton]at h1;exact Ak3 E0.len h1 (j:=3) (by decide) (.int .i64 a) (.int .i64 t) rfl
theorem vJ {α:Type} {enc:α→List Value}:∀{l:List α} {k:Nat} {x y:α},l[k]? =some x→enc y=enc x→B4 enc (l.set k y)=B4 enc l
 |[],_,_,_,h,_ =>by simp at h
 |z :: l,0,x,y,h,e=>by
  simp at h;subst h;show enc y ++ B4 enc l=enc z ++ B4 enc l;rw[e]
 |z :: l,k+1,x,y,h,e=>by
  show enc z ++ B4 enc (l.set k y)=enc z ++ B4 enc l;rw[vJ (by simpa using h) e]
section
variable {w:World} {B p bi gg gs:Nat} {vr vp:Value} {R:List A9} {s:D7}
theorem vK (r:A9) (l:List I2):K3 {r with pauses:=l}=K3 r:=by
 unfold K3 A9.lv A9.pv;simp only[V3]
theorem qH (r:A9) (l:List E0):K3 {r with legs:=l}=K3 r:=by
 unfold K3 A9.lv A9.pv;simp only[V3]
theorem qI {S:Nat→Prop} {w:World} {g i j:Nat} {a t:Value} (h:S g):B7 S w ((w.setCell ⟨g,i,none⟩ a).setCell ⟨g,j,none⟩ t):=(B7.set w _ _ h).step (B7.set _ _ _ h)
theorem I8.endP (h:I8 w B p bi gg gs vr vp R s) {k:Nat} {r:A9} (hr:R[k]? =some r) {init:List I2} {q:I2} (hp:r.pauses=init ++ [q]) {g:Nat} (hg:r.pa=some ⟨g,0,none⟩) (a t:Int):
 I8 ((w.setCell ⟨g,init.length*4+2,none⟩ (.int .i64 a)).setCell ⟨g,init.length*4+2+1,none⟩ (.int .i64 t)) B p bi gg gs vr vp (R.set k {r with pauses:=init ++ [q.to a t]}) {s with rs:=s.rs.set k {r with pauses:=init ++ [q.to a t]}.br}∧B7 (K9 p bi gg gs vr vp R) w ((w.setCell ⟨g,init.length*4+2,none⟩ (.int .i64 a)).setCell ⟨g,init.length*4+2+1,none⟩ (.int .i64 t)):=by
 have hrR:r∈R:=A0 hr;have hnd:=(h.ap.r k r hr).1;have hgb:g∈K3 r:=List.mem_append_right _ (by unfold A9.pv;rw[V3,hg];simp);have hgr:g∉ob vr:=fun hv=>(h.ap.r k r hr).2 g hgb (by simp[D6,hv]);refine⟨h.setRide hr (qI (List.mem_append_right _ hgb)) ?_ ((h.rm r hrR).endP hnd hp hg a t) (fun b hb=>.inl (by rw[vK]at hb;exact hb)) (by rw[vK];exact hnd) rfl rfl rfl rfl rfl,qI (.inr ⟨r,hrR,hgb⟩)⟩;rw[vJ hr (by unfold A9.cs;rw[hp];simp)];exact dM (dM h.rr _ _ hgr) _ _ hgr
theorem I8.endL (h:I8 w B p bi gg gs vr vp R s) {k:Nat} {r:A9} (hr:R[k]? =some r) {init:List E0} {q:E0} (hp:r.legs=init ++ [q]) {g:Nat} (hg:r.la=some ⟨g,0,none⟩) (a t:Int):
 I8 ((w.setCell ⟨g,init.length*5+3,none⟩ (.int .i64 a)).setCell ⟨g,init.length*5+3+1,none⟩ (.int .i64 t)) B p bi gg gs vr vp (R.set k {r with legs:=init ++ [q.to a t]}) {s with rs:=s.rs.set k {r with legs:=init ++ [q.to a t]}.br}∧B7 (K9 p bi gg gs vr vp R) w ((w.setCell ⟨g,init.length*5+3,none⟩ (.int .i64 a)).setCell ⟨g,init.length*5+3+1,none⟩ (.int .i64 t)):=by
 have hrR:r∈R:=A0 hr;have hnd:=(h.ap.r k r hr).1;have hgb:g∈K3 r:=List.mem_append_left _ (by unfold A9.lv;rw[V3,hg];simp);have hgr:g∉ob vr:=fun hv=>(h.ap.r k r hr).2 g hgb (by simp[D6,hv]);refine⟨h.setRide hr (qI (List.mem_append_right _ hgb)) ?_ ((h.rm r hrR).endL hnd hp hg a t) (fun b hb=>.inl (by rw[qH]at hb;exact hb)) (by rw[qH];exact hnd) rfl rfl rfl rfl rfl,qI (.inr ⟨r,hrR,hgb⟩)⟩;rw[vJ hr (by unfold A9.cs;rw[hp];simp)];exact dM (dM h.rr _ _ hgr) _ _ hgr
end
end
end Go.Proofs.YtmmlmhnjjfnpnaaGreat
