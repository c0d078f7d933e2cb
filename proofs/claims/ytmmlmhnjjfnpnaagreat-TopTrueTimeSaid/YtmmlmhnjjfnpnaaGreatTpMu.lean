/- Texts that belong together. -/
import Derived.Test.YtmmlmhnjjfnpnaaGreatTpMs
set_option linter.all false
namespace Go.Proofs.YtmmlmhnjjfnpnaaGreat
open Go.RowKit Go.ChangeMaps
def Ride.br (r:Ride):Ride:={r with la:=none,lc:=0,pa:=none,pc:=0}
def ob (v:Value):List Nat:=v.ownBlock.toList
def Ride.lv (r:Ride):Value:=.slice r.la r.legs.length r.lc
def Ride.pv (r:Ride):Value:=.slice r.pa r.pauses.length r.pc
def rblk (r:Ride):List Nat:=ob r.lv ++ ob r.pv
def sblk (p bi gg gs:Nat) (vr vp:Value):List Nat:=p :: bi :: gg :: gs :: (ob vr ++ ob vp)
structure Apart (p bi gg gs:Nat) (vr vp:Value) (R:List Ride):Prop where
 b:(sblk p bi gg gs vr vp).Nodup
 r:∀(i:Nat) (r:Ride),R[i]? =some r→(rblk r).Nodup∧∀b∈rblk r,b∉sblk p bi gg gs vr vp
 x:∀(i j:Nat) (r r':Ride),R[i]? =some r→R[j]? =some r'→i≠j→∀b∈rblk r,b∉rblk r'
structure RideM (w:World) (B:Nat) (r:Ride):Prop where
 l:w.ownsRow B 152 5 r.lv r.legs.length (flat Leg.cs r.legs)
 p:w.ownsRow B 44 4 r.pv r.pauses.length (flat Pse.cs r.pauses)
structure StoM (w:World) (B p bi gg gs:Nat) (vr vp:Value) (R:List Ride) (s:Sto):Prop where
 st:BoxIs w p [vr,.map (some bi),.slice (some ⟨gg,0,none⟩) s.rg.length s.rg.length,vp,.slice (some ⟨gs,0,none⟩) s.sp.length s.sp.length]
 rr:w.ownsRow B 40 13 vr R.length (flat Ride.cs R)
 br:R.map Ride.br=s.rs
 ix:MapAt ekI w bi (s.ix.map fun x=>(x.1,.int .i64 (x.2:Int)))
 rg:BoxIs w gg (s.rg.map (.int .i64))
 pz:w.ownsRow B 4 1 vp s.pz.length (s.pz.map .bool)
 sp:BoxIs w gs (flat Spt.cs s.sp)
 rm:∀r∈R,RideM w B r
 ap:Apart p bi gg gs vr vp R
 ge:B≤p∧B≤bi∧B≤gg∧B≤gs
theorem ob_slice (a:Option Addr) (n c:Nat):ob (.slice a n c)=(a.map (·.block)).toList:=by cases a<;>rfl
theorem ob_mem {v:Value} {b:Nat}:b∈ob v↔v.ownBlock=some b:=by unfold ob;simp
theorem own_keepS {S:Nat→Prop} {w w':World} {B k n:Nat} {T:TypeId} {v:Value} {xs:List Value} (h:w.ownsRow B T k v n xs) (hk:KpS S w w') (hn:∀b∈ob v,¬S b):w'.ownsRow B T k v n xs:=by
 obtain⟨hl,h1|⟨g',cap,cur,e,hg,hh,r⟩⟩:=h
 ·exact⟨hl,.inl h1⟩
 ·refine⟨hl,.inr ⟨g',cap,cur,e,hg,?_,r⟩⟩
  rw[hk.block g' (Array.getElem?_eq_some_iff.1 hh).1 (hn g' (by rw[ob_mem,e];rfl))];exact hh
theorem own_ge {w:World} {B k n:Nat} {T:TypeId} {v:Value} {xs:List Value} (h:w.ownsRow B T k v n xs):∀b∈ob v,B≤b∧b<w.heap.size:=fun b hb=>⟨own_block h b (ob_mem.1 hb),own_ltB h b (ob_mem.1 hb)⟩
theorem RideM.keepS {S:Nat→Prop} {w w':World} {B:Nat} {r:Ride} (h:RideM w B r) (hk:KpS S w w') (hn:∀b∈rblk r,¬S b):RideM w' B r:=
 ⟨own_keepS h.l hk (fun b hb=>hn b (List.mem_append_left _ hb)),own_keepS h.p hk (fun b hb=>hn b (List.mem_append_right _ hb))⟩
theorem RideM.lt {w:World} {B:Nat} {r:Ride} (h:RideM w B r):∀b∈rblk r,B≤b∧b<w.heap.size:=fun b hb=>by
 rcases List.mem_append.1 hb with hb|hb
 ·exact own_ge h.l b hb
 ·exact own_ge h.p b hb
section
variable {w w':World} {B p bi gg gs:Nat} {vr vp:Value} {R:List Ride} {s:Sto}
theorem StoM.lt (h:StoM w B p bi gg gs vr vp R s):∀b∈sblk p bi gg gs vr vp,B≤b∧b<w.heap.size:=fun b hb=>by
 unfold sblk at hb;simp only[List.mem_cons,List.mem_append]at hb;rcases hb with rfl|rfl|rfl|rfl|hb|hb
 ·exact⟨h.ge.1,h.st.lt⟩
 ·exact⟨h.ge.2.1,h.ix.lt⟩
 ·exact⟨h.ge.2.2.1,h.rg.lt⟩
 ·exact⟨h.ge.2.2.2,h.sp.lt⟩
 ·exact own_ge h.rr b hb
 ·exact own_ge h.pz b hb
def StoS (p bi gg gs:Nat) (vr vp:Value) (R:List Ride) (b:Nat):Prop:=b∈sblk p bi gg gs vr vp∨∃r∈R,b∈rblk r
theorem StoM.ltS (h:StoM w B p bi gg gs vr vp R s) {b:Nat} (hb:StoS p bi gg gs vr vp R b):B≤b∧b<w.heap.size:=by
 rcases hb with hb|⟨r,hr,hb⟩
 ·exact h.lt b hb
 ·exact(h.rm r hr).lt b hb
theorem StoM.keep {S:Nat→Prop} (h:StoM w B p bi gg gs vr vp R s) (hk:KpS S w w') (hn:∀b,StoS p bi gg gs vr vp R b→¬S b):StoM w' B p bi gg gs vr vp R s:=
 ⟨h.st.keepS hk (hn p (.inl (by simp[sblk]))),own_keepS h.rr hk (fun b hb=>hn b (.inl (by simp[sblk,hb]))),h.br,h.ix.keepS hk (hn bi (.inl (by simp[sblk]))),h.rg.keepS hk (hn gg (.inl (by simp[sblk]))),
  own_keepS h.pz hk (fun b hb=>hn b (.inl (by simp[sblk,hb]))),h.sp.keepS hk (hn gs (.inl (by simp[sblk]))),fun r hr=>(h.rm r hr).keepS hk (fun b hb=>hn b (.inr ⟨r,hr,hb⟩)),h.ap,h.ge⟩
theorem StoM.to (h:StoM w B p bi gg gs vr vp R s) (hW:∃z:Since w,w'=z.w):StoM w' B p bi gg gs vr vp R s:=by
 obtain⟨z,rfl⟩:=hW;exact h.keep (KpS.of (S:=fun _ =>False) z) fun _ _ h=>h
theorem StoM.setRide (h:StoM w B p bi gg gs vr vp R s) {k:Nat} {r r':Ride} (hr:R[k]? =some r) (hk:KpS (fun b=>b∈ob vr ++ rblk r) w w') (hrow:w'.ownsRow B 40 13 vr R.length (flat Ride.cs (R.set k r'))) (hm:RideM w' B r') (hblk:∀b∈rblk r',b∈rblk r∨w.heap.size≤b) (hnd:(rblk r').Nodup)
 {s':Sto} (h1:s'.rs=s.rs.set k r'.br) (h2:s'.ix=s.ix) (h3:s'.rg=s.rg) (h4:s'.pz=s.pz) (h5:s'.sp=s.sp):StoM w' B p bi gg gs vr vp (R.set k r') s':=by
 have hkl:k<R.length:=(List.getElem?_eq_some_iff.1 hr).1;have hrR:r∈R:=List.mem_of_getElem? hr;have hb:=h.ap.b;unfold sblk at hb;simp only[List.nodup_cons,List.mem_cons,List.mem_append,not_or]at hb;obtain⟨⟨n1,n2,n3,n4,n5⟩,⟨n6,n7,n8,n9⟩,⟨n10,n11,n12⟩,⟨n13,n14⟩,n15⟩:=hb;have hrs:=(h.ap.r k r hr).2;have hno:∀b,b∈sblk p bi gg gs vr vp→b∉ob vr→¬(b∈ob vr ++ rblk r):=fun b hs hv hb=>by
  rcases List.mem_append.1 hb with hb|hb
  ·exact hv hb
  ·exact hrs b hb hs
 have hget:∀(i:Nat) (x:Ride),(R.set k r')[i]? =some x→(i=k∧x=r')∨(i≠k∧R[i]? =some x):=fun i x hx=>by
  rw[List.getElem?_set]at hx;by_cases e:k=i
  ·subst e;rw[if_pos rfl,if_pos hkl]at hx;exact .inl ⟨rfl,(Option.some.inj hx).symm⟩
  ·rw[if_neg e]at hx;exact .inr ⟨fun e'=>e e'.symm,hx⟩
 have hltr:∀(i:Nat) (x:Ride),R[i]? =some x→∀b∈rblk x,b<w.heap.size:=fun i x hx b hb=>((h.rm x (List.mem_of_getElem? hx)).lt b hb).2;refine⟨by rw[h3,h5];exact h.st.keepS hk (hno p (by simp[sblk]) n4),by rw[List.length_set];exact hrow,by rw[h1,←h.br,List.map_set],by rw[h2];exact h.ix.keepS hk (hno bi (by simp[sblk]) n8),by rw[h3];exact h.rg.keepS hk (hno gg (by simp[sblk]) n11),
  by rw[h4];exact own_keepS h.pz hk (fun b hb=>hno b (by simp[sblk,hb]) (fun hv=>(List.nodup_append.1 n15).2.2 b hv b hb rfl)),by rw[h5];exact h.sp.keepS hk (hno gs (by simp[sblk]) n13),fun x hx=>?_,⟨h.ap.b,fun i x hx=>?_,fun i j x y hx hy hij=>?_⟩,h.ge⟩
 ·obtain⟨i,hi⟩:=List.getElem?_of_mem hx
  rcases hget i x hi with⟨rfl,rfl⟩|⟨hne,hi⟩
  ·exact hm
  ·refine(h.rm x (List.mem_of_getElem? hi)).keepS hk (fun b hb hb2=>?_)
   rcases List.mem_append.1 hb2 with hb2|hb2
   ·exact(h.ap.r i x hi).2 b hb (by simp[sblk,hb2])
   ·exact h.ap.x i k x r hi hr hne b hb hb2
 ·rcases hget i x hx with⟨rfl,rfl⟩|⟨hne,hi⟩
  ·refine⟨hnd,fun b hb hs=>?_⟩
   rcases hblk b hb with h'|h'
   ·exact hrs b h' hs
   ·have:=(h.lt b hs).2;omega
  ·exact h.ap.r i x hi
 ·rcases hget i x hx with⟨rfl,rfl⟩|⟨hne,hi⟩
  ·rcases hget j y hy with⟨e,_⟩|⟨hne',hj⟩
   ·exact absurd e.symm hij
   ·intro b hb hb2
    rcases hblk b hb with h'|h'
    ·exact h.ap.x i j r y hr hj hij b h' hb2
    ·have:=hltr j y hj b hb2;omega
  ·rcases hget j y hy with⟨rfl,rfl⟩|⟨hne',hj⟩
   ·intro b hb hb2
    rcases hblk b hb2 with h'|h'
    ·exact h.ap.x i j x r hi hr hij b hb h'
    ·have:=hltr i x hi b hb;omega
   ·exact h.ap.x i j x y hi hj hij
theorem StoM.setRg (h:StoM w B p bi gg gs vr vp R s) {b:Nat} (hb:b<s.rg.length) (v:Int):StoM (w.setCell ⟨gg,b,none⟩ (.int .i64 v)) B p bi gg gs vr vp R {s with rg:=s.rg.set b v}∧KpS (fun x=>x=gg) w (w.setCell ⟨gg,b,none⟩ (.int .i64 v)):=by
 have hk:KpS (fun x=>x=gg) w (w.setCell ⟨gg,b,none⟩ (.int .i64 v)):=KpS.set (S:=fun x=>x=gg) w _ _ rfl;have hB:=h.ap.b;unfold sblk at hB;simp only[List.nodup_cons,List.mem_cons,List.mem_append,not_or]at hB;obtain⟨⟨n1,n2,n3,n4,n5⟩,⟨n6,n7,n8,n9⟩,⟨n10,n11,n12⟩,⟨n13,n14⟩,n15⟩:=hB;refine⟨⟨by simpa using h.st.keepS hk n2,own_keepS h.rr hk (fun x hx e=>n11 (e ▸ hx)),h.br,h.ix.keepS hk n6,?_,own_keepS h.pz hk (fun x hx e=>n12 (e ▸ hx)),h.sp.keepS hk (fun e=>n10 e.symm),fun r hr=>(h.rm r hr).keepS hk (fun x hx e=>?_),h.ap,h.ge⟩,hk⟩
 ·have:=h.rg.setj (j:=b) (by simpa using hb) (.int .i64 v)
  rw[List.map_set];exact this
 ·obtain⟨i,hi⟩:=List.getElem?_of_mem hr
  exact(h.ap.r i r hi).2 x hx (by rw[e];simp[sblk])
theorem StoM.setSp (h:StoM w B p bi gg gs vr vp R s) {b:Nat} (hb:b<s.sp.length) (x:Spt):StoM (w.setCells gs (b*4) x.cs) B p bi gg gs vr vp R {s with sp:=s.sp.set b x}∧KpS (fun x=>x=gs) w (w.setCells gs (b*4) x.cs):=by
 have hk:KpS (fun x=>x=gs) w (w.setCells gs (b*4) x.cs):=KpS.sets (S:=fun x=>x=gs) gs rfl _ _ _;have hB:=h.ap.b;unfold sblk at hB;simp only[List.nodup_cons,List.mem_cons,List.mem_append,not_or]at hB;obtain⟨⟨n1,n2,n3,n4,n5⟩,⟨n6,n7,n8,n9⟩,⟨n10,n11,n12⟩,⟨n13,n14⟩,n15⟩:=hB;refine⟨⟨by simpa using h.st.keepS hk n3,own_keepS h.rr hk (fun x hx e=>n13 (e ▸ hx)),h.br,h.ix.keepS hk n7,h.rg.keepS hk n10,own_keepS h.pz hk (fun x hx e=>n14 (e ▸ hx)),h.sp.setE Spt.len b hb x,fun r hr=>(h.rm r hr).keepS hk (fun y hy e=>?_),h.ap,h.ge⟩,hk⟩;obtain⟨i,hi⟩:=List.getElem?_of_mem hr;exact(h.ap.r i r hi).2 y hy (by rw[e];simp[sblk])
theorem StoM.setPz (h:StoM w B p bi gg gs vr vp R s) {gp c:Nat} (hv:vp= .slice (some ⟨gp,0,none⟩) s.pz.length c) {k:Nat} (hk':k<s.pz.length) (z:Bool):StoM (w.setCell ⟨gp,k,none⟩ (.bool z)) B p bi gg gs vr vp R {s with pz:=s.pz.set k z}∧KpS (fun x=>x=gp) w (w.setCell ⟨gp,k,none⟩ (.bool z)):=by
 have hk:KpS (fun x=>x=gp) w (w.setCell ⟨gp,k,none⟩ (.bool z)):=KpS.set (S:=fun x=>x=gp) w _ _ rfl;have hgp:gp∈ob vp:=by rw[hv,ob_slice];simp
 have hb:=h.ap.b;unfold sblk at hb;simp only[List.nodup_cons,List.mem_cons,List.mem_append,not_or]at hb;obtain⟨⟨n1,n2,n3,n4,n5⟩,⟨n6,n7,n8,n9⟩,⟨n10,n11,n12⟩,⟨n13,n14⟩,n15⟩:=hb;refine⟨⟨by simpa using h.st.keepS hk (fun e=>n5 (e ▸ hgp)),own_keepS h.rr hk (fun x hx e=>(List.nodup_append.1 n15).2.2 x hx gp hgp e),h.br,h.ix.keepS hk (fun e=>n9 (e ▸ hgp)),h.rg.keepS hk (fun e=>n12 (e ▸ hgp)),?_,h.sp.keepS hk (fun e=>n14 (e ▸ hgp)),fun r hr=>(h.rm r hr).keepS hk (fun x hx e=>?_),h.ap,h.ge⟩,hk⟩
 ·have h1:=h.pz
  rw[hv]at h1⊢;have:=own_setcell h1 (j:=k) (by simpa using hk') (.bool z);simpa[List.map_set]using this
 ·obtain⟨i,hi⟩:=List.getElem?_of_mem hr
  exact(h.ap.r i r hi).2 x hx (by rw[e];simp[sblk,hgp])
theorem StoM.storeIx (h:StoM w B p bi gg gs vr vp R s) {i:Int} {k:Nat} (hm:MapAt ekI w' bi ((s.ix.map fun x=>(x.1,Value.int .i64 (x.2:Int))) ++ [(i,.int .i64 (k:Int))])) (hg:w.grownBy w' (some bi)):StoM w' B p bi gg gs vr vp R {s with ix:=s.ix ++ [(i,k)]}∧KpS (fun x=>x=bi) w w':=by
 have hk:KpS (fun x=>x=bi) w w':=KpS.grown hg rfl;have hb:=h.ap.b;unfold sblk at hb;simp only[List.nodup_cons,List.mem_cons,List.mem_append,not_or]at hb;obtain⟨⟨n1,n2,n3,n4,n5⟩,⟨n6,n7,n8,n9⟩,⟨n10,n11,n12⟩,⟨n13,n14⟩,n15⟩:=hb;refine⟨⟨h.st.keepS hk n1,own_keepS h.rr hk (fun x hx e=>n8 (e ▸ hx)),h.br,by simpa using hm,h.rg.keepS hk (fun e=>n6 e.symm),own_keepS h.pz hk (fun x hx e=>n9 (e ▸ hx)),h.sp.keepS hk (fun e=>n7 e.symm),fun r hr=>(h.rm r hr).keepS hk (fun x hx e=>?_),h.ap,h.ge⟩,hk⟩;obtain⟨i,hi⟩:=List.getElem?_of_mem hr;exact(h.ap.r i r hi).2 x hx (by rw[e];simp[sblk])
theorem ob_nodup (v:Value):(ob v).Nodup:=by
 unfold ob
 cases v.ownBlock<;>simp
theorem StoM.pushR (h:StoM w B p bi gg gs vr vp R s) {vr':Value} {r':Ride} (hk:KpS (fun b=>b∈ob vr∨b=p) w w') (hst:BoxIs w' p [vr',.map (some bi),.slice (some ⟨gg,0,none⟩) s.rg.length s.rg.length,vp,.slice (some ⟨gs,0,none⟩) s.sp.length s.sp.length]) (hrow:w'.ownsRow B 40 13 vr' (R ++ [r']).length (flat Ride.cs (R ++ [r'])))
 (hl:∀b∈ob vr',b∈ob vr∨(w.heap.size≤b∧b∉rblk r')) (hm:RideM w' B r') (hf:∀b∈rblk r',w.heap.size≤b) (hnd:(rblk r').Nodup) {s':Sto} (h1:s'.rs=s.rs ++ [r'.br]) (h2:s'.ix=s.ix) (h3:s'.rg=s.rg) (h4:s'.pz=s.pz) (h5:s'.sp=s.sp):StoM w' B p bi gg gs vr' vp (R ++ [r']) s':=by
 have hlt:=fun b hb=>(h.lt b hb).2;have hb:=h.ap.b;unfold sblk at hb;simp only[List.nodup_cons,List.mem_cons,List.mem_append,not_or]at hb;obtain⟨⟨n1,n2,n3,n4,n5⟩,⟨n6,n7,n8,n9⟩,⟨n10,n11,n12⟩,⟨n13,n14⟩,n15⟩:=hb;have hS:∀b∈sblk p bi gg gs vr' vp,b∈sblk p bi gg gs vr vp∨(w.heap.size≤b∧b∉rblk r'):=fun b hb=>by
  unfold sblk at hb⊢;simp only[List.mem_cons,List.mem_append]at hb⊢;rcases hb with hb|hb|hb|hb|hb|hb
  ·exact .inl (.inl hb)
  ·exact .inl (.inr (.inl hb))
  ·exact .inl (.inr (.inr (.inl hb)))
  ·exact .inl (.inr (.inr (.inr (.inl hb))))
  ·rcases hl b hb with h'|h'
   ·exact .inl (.inr (.inr (.inr (.inr (.inl h')))))
   ·exact .inr h'
  ·exact .inl (.inr (.inr (.inr (.inr (.inr hb)))))
 have hnv:∀b,b∈sblk p bi gg gs vr vp→b∉ob vr→b∉ob vr':=fun b hb hn hv=>by
  rcases hl b hv with h'|h'
  ·exact hn h'
  ·have:=hlt b hb;omega
 have hget:∀(i:Nat) (x:Ride),(R ++ [r'])[i]? =some x→(i=R.length∧x=r')∨R[i]? =some x:=fun i x hx=>by
  by_cases hi:i<R.length
  ·rw[List.getElem?_append_left hi]at hx;exact .inr hx
  ·have hi2:i<(R ++ [r']).length:=(List.getElem?_eq_some_iff.1 hx).1
   rw[List.length_append,List.length_singleton]at hi2;obtain rfl:i=R.length:=by omega
   rw[List.getElem?_append_right (Nat.le_refl _),Nat.sub_self]at hx;exact .inl ⟨rfl,(Option.some.inj hx).symm⟩
 have hltr:∀(i:Nat) (x:Ride),R[i]? =some x→∀b∈rblk x,b<w.heap.size:=fun i x hx b hb=>((h.rm x (List.mem_of_getElem? hx)).lt b hb).2;have hkr:∀r∈R,RideM w' B r:=fun r hr=>(h.rm r hr).keepS hk (fun b hb hb2=>by
  obtain⟨i,hi⟩:=List.getElem?_of_mem hr;rcases hb2 with hb2|rfl
  ·exact(h.ap.r i r hi).2 b hb (by simp[sblk,hb2])
  ·exact(h.ap.r i r hi).2 b hb (by simp[sblk]))
 have hno:∀b,b∉ob vr→b≠p→¬(b∈ob vr∨b=p):=fun b h1 h2 h3=>h3.elim h1 h2;refine⟨by rw[h3,h5];exact hst,hrow,by rw[h1,←h.br,List.map_append];rfl,by rw[h2];exact h.ix.keepS hk (hno bi n8 (fun e=>n1 e.symm)),by rw[h3];exact h.rg.keepS hk (hno gg n11 (fun e=>n2 e.symm)),
  by rw[h4];exact own_keepS h.pz hk (fun b hb=>hno b (fun hv=>(List.nodup_append.1 n15).2.2 b hv b hb rfl) (fun e=>n5 (e ▸ hb))),by rw[h5];exact h.sp.keepS hk (hno gs n13 (fun e=>n3 e.symm)),fun x hx=>?_,⟨?_,fun i x hx=>?_,fun i j x y hx hy hij=>?_⟩,h.ge⟩
 ·rcases List.mem_append.1 hx with hx|hx
  ·exact hkr x hx
  ·rw[List.mem_singleton]at hx;subst hx;exact hm
 ·unfold sblk
  simp only[List.nodup_cons,List.mem_cons,List.mem_append,not_or];refine⟨⟨n1,n2,n3,hnv p (by simp[sblk]) n4,n5⟩,⟨n6,n7,hnv bi (by simp[sblk]) n8,n9⟩,⟨n10,hnv gg (by simp[sblk]) n11,n12⟩,⟨hnv gs (by simp[sblk]) n13,n14⟩,?_⟩;rw[List.nodup_append];refine⟨ob_nodup _,ob_nodup _,fun a ha b hb e=>?_⟩;subst e;exact hnv a (by simp[sblk,hb]) (fun hv=>(List.nodup_append.1 n15).2.2 a hv a hb rfl) ha
 ·rcases hget i x hx with⟨rfl,rfl⟩|hi
  ·refine⟨hnd,fun b hb hs=>?_⟩
   rcases hS b hs with h'|h'
   ·have:=hlt b h';have:=hf b hb;omega
   ·exact h'.2 hb
  ·refine⟨(h.ap.r i x hi).1,fun b hb hs=>?_⟩
   rcases hS b hs with h'|h'
   ·exact(h.ap.r i x hi).2 b hb h'
   ·have:=hltr i x hi b hb;omega
 ·rcases hget i x hx with⟨rfl,rfl⟩|hi
  ·rcases hget j y hy with⟨e,_⟩|hj
   ·exact absurd e.symm hij
   ·intro b hb hb2;have:=hf b hb;have:=hltr j y hj b hb2;omega
  ·rcases hget j y hy with⟨rfl,rfl⟩|hj
   ·intro b hb hb2;have:=hf b hb2;have:=hltr i x hi b hb;omega
   ·exact h.ap.x i j x y hi hj hij
theorem StoM.pushP (h:StoM w B p bi gg gs vr vp R s) {vp':Value} {z:Bool} (hk:KpS (fun b=>b∈ob vp∨b=p) w w') (hst:BoxIs w' p [vr,.map (some bi),.slice (some ⟨gg,0,none⟩) s.rg.length s.rg.length,vp',.slice (some ⟨gs,0,none⟩) s.sp.length s.sp.length]) (hrow:w'.ownsRow B 4 1 vp' (s.pz.length+1) (s.pz.map .bool ++ [.bool z]))
 (hl:∀b∈ob vp',b∈ob vp∨w.heap.size≤b):StoM w' B p bi gg gs vr vp' R {s with pz:=s.pz ++ [z]}:=by
 have hlt:=fun b hb=>(h.lt b hb).2;have hb:=h.ap.b;unfold sblk at hb;simp only[List.nodup_cons,List.mem_cons,List.mem_append,not_or]at hb;obtain⟨⟨n1,n2,n3,n4,n5⟩,⟨n6,n7,n8,n9⟩,⟨n10,n11,n12⟩,⟨n13,n14⟩,n15⟩:=hb;have hnv:∀b,b<w.heap.size→b∉ob vp→b∉ob vp':=fun b hb hn hv=>by
  rcases hl b hv with h'|h'
  ·exact hn h'
  ·omega
 have hno:∀b,b∉ob vp→b≠p→¬(b∈ob vp∨b=p):=fun b h1 h2 h3=>h3.elim h1 h2;have hvr:∀b∈ob vr,b∉ob vp:=fun b hb hv=>(List.nodup_append.1 n15).2.2 b hb b hv rfl;have hrk:∀(i:Nat) (r:Ride),R[i]? =some r→∀b∈rblk r,b∉ob vp∧b≠p:=fun i r hi b hb=>⟨fun hv=>(h.ap.r i r hi).2 b hb (by simp[sblk,hv]),fun e=>(h.ap.r i r hi).2 b hb (by rw[e];simp[sblk])⟩
 refine⟨by simpa using hst,own_keepS h.rr hk (fun b hb=>hno b (hvr b hb) (fun e=>n4 (e ▸ hb))),h.br,h.ix.keepS hk (hno bi n9 (fun e=>n1 e.symm)),h.rg.keepS hk (hno gg n12 (fun e=>n2 e.symm)),by simpa using hrow,h.sp.keepS hk (hno gs n14 (fun e=>n3 e.symm)),fun x hx=>?_,⟨?_,fun i x hx=>⟨(h.ap.r i x hx).1,fun b hb hs=>?_⟩,h.ap.x⟩,h.ge⟩
 ·obtain⟨i,hi⟩:=List.getElem?_of_mem hx
  exact(h.rm x hx).keepS hk (fun b hb=>hno b (hrk i x hi b hb).1 (hrk i x hi b hb).2)
 ·unfold sblk
  simp only[List.nodup_cons,List.mem_cons,List.mem_append,not_or];refine⟨⟨n1,n2,n3,n4,hnv p h.st.lt n5⟩,⟨n6,n7,n8,hnv bi h.ix.lt n9⟩,⟨n10,n11,hnv gg h.rg.lt n12⟩,⟨n13,hnv gs h.sp.lt n14⟩,?_⟩;rw[List.nodup_append];refine⟨ob_nodup _,ob_nodup _,fun a ha b hb e=>?_⟩;subst e;exact hnv a (own_ge h.rr a ha).2 (hvr a ha) hb
 ·have hlb:=((h.rm x (List.mem_of_getElem? hx)).lt b hb).2
  unfold sblk at hs;simp only[List.mem_cons,List.mem_append]at hs;rcases hs with hs|hs|hs|hs|hs|hs
  ·exact(h.ap.r i x hx).2 b hb (by simp[sblk,hs])
  ·exact(h.ap.r i x hx).2 b hb (by simp[sblk,hs])
  ·exact(h.ap.r i x hx).2 b hb (by simp[sblk,hs])
  ·exact(h.ap.r i x hx).2 b hb (by simp[sblk,hs])
  ·exact(h.ap.r i x hx).2 b hb (by simp[sblk,hs])
  ·exact hnv b hlb (hrk i x hx b hb).1 hs
end
end Go.Proofs.YtmmlmhnjjfnpnaaGreat
namespace Go.Proofs.YtmmlmhnjjfnpnaaGreat
open Go.RowKit Go.ChangeMaps
theorem own_lastTo {α:Type} {enc:α→List Value} {k:Nat} (hk:∀x,(enc x).length=k) {w:World} {B:Nat} {T:TypeId} {g n c:Nat} {init:List α} {q q':α} (h:w.ownsRow B T k (.slice (some ⟨g,0,none⟩) n c) n (flat enc (init ++ [q]))) {j:Nat} (hj:j+1<k) (a t:Value) (hq:enc q'=((enc q).set j a).set (j+1) t):
 ((w.setCell ⟨g,init.length*k+j,none⟩ a).setCell ⟨g,init.length*k+j+1,none⟩ t).ownsRow B T k (.slice (some ⟨g,0,none⟩) n c) n (flat enc (init ++ [q'])):=by
 have hl:(flat enc (init ++ [q])).length=init.length*k+k:=by rw[flat_length hk,List.length_append,List.length_singleton,Nat.succ_mul]
 have h1:=own_setcell h (j:=init.length*k+j) (by omega) a;have h2:=own_setcell h1 (j:=init.length*k+j+1) (by rw[List.length_set];omega) t;have hi:(flat enc init).length=init.length*k:=flat_length hk init;have e:((flat enc (init ++ [q])).set (init.length*k+j) a).set (init.length*k+j+1) t=flat enc (init ++ [q']):=by
  rw[flat_append,flat_append,flat_one,flat_one,hq,List.set_append_right _ _ (by omega),List.set_append_right _ _ (by omega),hi];rw[show init.length*k+j-init.length*k=j by omega,show init.length*k+j+1-init.length*k=j+1 by omega]
 rwa[e]at h2
theorem own_other {w:World} {B k n:Nat} {T:TypeId} {v:Value} {xs:List Value} (h:w.ownsRow B T k v n xs) (p:Addr) (u:Value) (hne:p.block∉ob v):(w.setCell p u).ownsRow B T k v n xs:=own_setB h p u (fun b hb e=>hne (e ▸ ob_mem.2 hb))
theorem RideM.leg_at {w:World} {B:Nat} {r:Ride} (h:RideM w B r) (hn:0<r.legs.length):∃g,r.la=some ⟨g,0,none⟩∧r.legs.length≤r.lc∧B≤g:=by
 obtain⟨g,c,he,hg,hc⟩:=own_some h.l hn;unfold Ride.lv at he;simp only[Value.slice.injEq]at he;exact⟨g,he.1,by omega,hg⟩
theorem RideM.pse_at {w:World} {B:Nat} {r:Ride} (h:RideM w B r) (hn:0<r.pauses.length):∃g,r.pa=some ⟨g,0,none⟩∧r.pauses.length≤r.pc∧B≤g:=by
 obtain⟨g,c,he,hg,hc⟩:=own_some h.p hn;unfold Ride.pv at he;simp only[Value.slice.injEq]at he;exact⟨g,he.1,by omega,hg⟩
theorem RideM.endP {w:World} {B:Nat} {r:Ride} (h:RideM w B r) (hnd:(rblk r).Nodup) {init:List Pse} {q:Pse} (hp:r.pauses=init ++ [q]) {g:Nat} (hg:r.pa=some ⟨g,0,none⟩) (a t:Int):
 RideM ((w.setCell ⟨g,init.length*4+2,none⟩ (.int .i64 a)).setCell ⟨g,init.length*4+2+1,none⟩ (.int .i64 t)) B {r with pauses:=init ++ [q.to a t]}:=by
 have hgp:g∈ob r.pv:=by unfold Ride.pv;rw[ob_slice,hg];simp
 have hno:g∉ob r.lv:=fun hl=>(List.nodup_append.1 hnd).2.2 g hl g hgp rfl;refine⟨own_other (own_other h.l _ _ hno) _ _ hno,?_⟩;have h1:=h.p;unfold Ride.pv at h1;rw[hg,hp]at h1;show World.ownsRow _ B _ 4 (.slice r.pa (init ++ [q.to a t]).length r.pc) (init ++ [q.to a t]).length _;rw[hg,List.length_append,List.length_singleton];rw[List.length_append,List.length_singleton]at h1;exact own_lastTo Pse.len h1 (j:=2) (by decide) (.int .i64 a) (.int .i64 t) rfl
theorem RideM.endL {w:World} {B:Nat} {r:Ride} (h:RideM w B r) (hnd:(rblk r).Nodup) {init:List Leg} {q:Leg} (hp:r.legs=init ++ [q]) {g:Nat} (hg:r.la=some ⟨g,0,none⟩) (a t:Int):
 RideM ((w.setCell ⟨g,init.length*5+3,none⟩ (.int .i64 a)).setCell ⟨g,init.length*5+3+1,none⟩ (.int .i64 t)) B {r with legs:=init ++ [q.to a t]}:=by
 have hgp:g∈ob r.lv:=by unfold Ride.lv;rw[ob_slice,hg];simp
 have hno:g∉ob r.pv:=fun hl=>(List.nodup_append.1 hnd).2.2 g hgp g hl rfl;refine⟨?_,own_other (own_other h.p _ _ hno) _ _ hno⟩;have h1:=h.l;unfold Ride.lv at h1;rw[hg,hp]at h1;show World.ownsRow _ B _ 5 (.slice r.la (init ++ [q.to a t]).length r.lc) (init ++ [q.to a t]).length _;rw[hg,List.length_append,List.length_singleton];rw[List.length_append,List.length_singleton]at h1;exact own_lastTo Leg.len h1 (j:=3) (by decide) (.int .i64 a) (.int .i64 t) rfl
theorem flat_same {α:Type} {enc:α→List Value}:∀{l:List α} {k:Nat} {x y:α},l[k]? =some x→enc y=enc x→flat enc (l.set k y)=flat enc l
 |[],_,_,_,h,_ =>by simp at h
 |z :: l,0,x,y,h,e=>by
  simp at h;subst h;show enc y ++ flat enc l=enc z ++ flat enc l;rw[e]
 |z :: l,k+1,x,y,h,e=>by
  show enc z ++ flat enc (l.set k y)=enc z ++ flat enc l;rw[flat_same (by simpa using h) e]
section
variable {w:World} {B p bi gg gs:Nat} {vr vp:Value} {R:List Ride} {s:Sto}
theorem rblk_pauses (r:Ride) (l:List Pse):rblk {r with pauses:=l}=rblk r:=by
 unfold rblk Ride.lv Ride.pv;simp only[ob_slice]
theorem rblk_legs (r:Ride) (l:List Leg):rblk {r with legs:=l}=rblk r:=by
 unfold rblk Ride.lv Ride.pv;simp only[ob_slice]
theorem kp_two {S:Nat→Prop} {w:World} {g i j:Nat} {a t:Value} (h:S g):KpS S w ((w.setCell ⟨g,i,none⟩ a).setCell ⟨g,j,none⟩ t):=(KpS.set w _ _ h).step (KpS.set _ _ _ h)
theorem StoM.endP (h:StoM w B p bi gg gs vr vp R s) {k:Nat} {r:Ride} (hr:R[k]? =some r) {init:List Pse} {q:Pse} (hp:r.pauses=init ++ [q]) {g:Nat} (hg:r.pa=some ⟨g,0,none⟩) (a t:Int):
 StoM ((w.setCell ⟨g,init.length*4+2,none⟩ (.int .i64 a)).setCell ⟨g,init.length*4+2+1,none⟩ (.int .i64 t)) B p bi gg gs vr vp (R.set k {r with pauses:=init ++ [q.to a t]}) {s with rs:=s.rs.set k {r with pauses:=init ++ [q.to a t]}.br}∧KpS (StoS p bi gg gs vr vp R) w ((w.setCell ⟨g,init.length*4+2,none⟩ (.int .i64 a)).setCell ⟨g,init.length*4+2+1,none⟩ (.int .i64 t)):=by
 have hrR:r∈R:=List.mem_of_getElem? hr;have hnd:=(h.ap.r k r hr).1;have hgb:g∈rblk r:=List.mem_append_right _ (by unfold Ride.pv;rw[ob_slice,hg];simp);have hgr:g∉ob vr:=fun hv=>(h.ap.r k r hr).2 g hgb (by simp[sblk,hv]);refine⟨h.setRide hr (kp_two (List.mem_append_right _ hgb)) ?_ ((h.rm r hrR).endP hnd hp hg a t) (fun b hb=>.inl (by rw[rblk_pauses]at hb;exact hb)) (by rw[rblk_pauses];exact hnd) rfl rfl rfl rfl rfl,kp_two (.inr ⟨r,hrR,hgb⟩)⟩;rw[flat_same hr (by unfold Ride.cs;rw[hp];simp)];exact own_other (own_other h.rr _ _ hgr) _ _ hgr
theorem StoM.endL (h:StoM w B p bi gg gs vr vp R s) {k:Nat} {r:Ride} (hr:R[k]? =some r) {init:List Leg} {q:Leg} (hp:r.legs=init ++ [q]) {g:Nat} (hg:r.la=some ⟨g,0,none⟩) (a t:Int):
 StoM ((w.setCell ⟨g,init.length*5+3,none⟩ (.int .i64 a)).setCell ⟨g,init.length*5+3+1,none⟩ (.int .i64 t)) B p bi gg gs vr vp (R.set k {r with legs:=init ++ [q.to a t]}) {s with rs:=s.rs.set k {r with legs:=init ++ [q.to a t]}.br}∧KpS (StoS p bi gg gs vr vp R) w ((w.setCell ⟨g,init.length*5+3,none⟩ (.int .i64 a)).setCell ⟨g,init.length*5+3+1,none⟩ (.int .i64 t)):=by
 have hrR:r∈R:=List.mem_of_getElem? hr;have hnd:=(h.ap.r k r hr).1;have hgb:g∈rblk r:=List.mem_append_left _ (by unfold Ride.lv;rw[ob_slice,hg];simp);have hgr:g∉ob vr:=fun hv=>(h.ap.r k r hr).2 g hgb (by simp[sblk,hv]);refine⟨h.setRide hr (kp_two (List.mem_append_right _ hgb)) ?_ ((h.rm r hrR).endL hnd hp hg a t) (fun b hb=>.inl (by rw[rblk_legs]at hb;exact hb)) (by rw[rblk_legs];exact hnd) rfl rfl rfl rfl rfl,kp_two (.inr ⟨r,hrR,hgb⟩)⟩;rw[flat_same hr (by unfold Ride.cs;rw[hp];simp)];exact own_other (own_other h.rr _ _ hgr) _ _ hgr
end
end Go.Proofs.YtmmlmhnjjfnpnaaGreat
