/- Texts that belong together. -/
import Derived.Test.YtmmlmhnjjfnpnaaGreatTpQa
import Derived.Shelf.SlSortCmp.NoneTotal
set_option linter.all false
namespace Go.Proofs.YtmmlmhnjjfnpnaaGreat
section
open Go.RowKit Go.Sort
theorem kD {α:Type} [Inhabited α] (enc:α→List Value) (k:Nat) (w:World) (g n:Nat) (d:Array α) (os:Array Obj):w.grownBy (sortWorldK enc k w g 0 n d os) (some g):=by
 refine⟨rfl,rfl,rfl,by simp[sortWorldK,putRowK,grow,putRow,mapBlock,Sort.ahead],fun j hj hne=>?_⟩;have hne':g≠j:=fun e=>hne (by rw[e]);have hj':j<(putRowK enc k (Sort.ahead w n) g 0 d).heap.size:=by simpa[putRowK,putRow,mapBlock,Sort.ahead]using hj
 show((putRowK enc k (Sort.ahead w n) g 0 d).heap ++ os)[j]? = _;rw[Array.getElem?_append_left hj'];simp[putRowK,putRow,mapBlock,Sort.ahead,Array.getElem?_modify,hne']
theorem Aa1 {α:Type} [Inhabited α] {enc:α→List Value} {k:Nat} (hk:∀x,(enc x).length=k) (h0:0<k) (l:List α) (j:Nat) (hj:j<l.length*k):(B4 enc l)[j]? =some ((enc l.toArray[j/k]!)[j % k]!):=by
 have hi:j/k<l.length:=Nat.div_lt_of_lt_mul (by rw[Nat.mul_comm];exact hj);have hm:j % k<k:=Nat.mod_lt _ h0;have e1:l[j/k]? =some (l.toArray[j/k]!):=by
  rw[A4 hi];simp[hi]
 have e2:(enc l.toArray[j/k]!)[j % k]? =some ((enc l.toArray[j/k]!)[j % k]!):=by
  have hlen:j % k<(enc l.toArray[j/k]!).length:=by rw[hk];exact hm
  rw[A4 hlen];exact congrArg some (getElem!_pos (enc l.toArray[j/k]!) (j % k) hlen).symm
 have:=H7 hk l (j/k) _ (j % k) _ e1 e2;rwa[Nat.mul_comm,Nat.div_add_mod]at this
theorem kE {α:Type} [Inhabited α] {enc:α→List Value} {k:Nat} (hk:∀x,(enc x).length=k) (h0:0<k) {w:World} {base:Nat} {e:TypeId} {g n cap:Nat} {l:List α} (h:w.ownsRow base e k (.slice (some ⟨g,0,none⟩) n cap) n (B4 enc l)):HoldsK enc k w g 0 l.toArray:=by
 have hn:=(O9 hk h0 h).1;obtain⟨hl,⟨hbad,_⟩|⟨g',cap',cur,he,hg,hh,h1,h2,h3,h4⟩⟩:=h
 ·cases hbad
 ·obtain⟨rfl,rfl⟩:g=g'∧cap=cap':=by simpa using he
  intro j hj;rw[size_flatK]at hj;have hj':j<l.length*k:=by simpa using hj
  have hf:=Aa1 hk h0 l j hj';rw[←h4,List.getElem?_take]at hf;split at hf
  ·refine⟨?_,by simp[World.frozen?,hh]⟩
   rw[get_flatK enc k _ _ hj];simp only[World.cell?,hh,Nat.zero_add,Option.isSome_none,Bool.false_eq_true,if_false,id];rw[←Array.getElem?_toList];exact hf
  ·cases hf
theorem AE8 {α:Type} [Inhabited α] {enc:α→List Value} {k:Nat} (hk:∀x,(enc x).length=k) {w:World} {g:Nat} {d:Array α} (h:HoldsK enc k w g 0 d) (hg:g<w.heap.size):D0 enc k w (some ⟨g,0,none⟩) d.toList:=by
 intro i x hx;have hi:i<d.size:=by have:=(A5 hx).1;simpa using this
 refine⟨g,0,rfl,hg,fun c v hv=>?_⟩;have hxd:d[i]! =x:=by
  rw[getElem!_pos d i hi];rw[A4 (by simpa using hi)]at hx;simpa using hx
 have:=HoldsK.cells h hk hi c v (by rw[hxd];exact hv);rw[Addr.add_lit]at this;exact this
end
section
open Go.RowKit Go.Sort
theorem oT {α:Type} [Inhabited α] {enc:α→List Value} {k:Nat} (hk:∀x,(enc x).length=k) (h0:0<k) {w:World} {base:Nat} {e:TypeId} {g n cap:Nat} {l:List α} (h:w.ownsRow base e k (.slice (some ⟨g,0,none⟩) n cap) n (B4 enc l)) (d:Array α) (hd:d.size=l.length) (m:Nat) (os:Array Obj):
 (sortWorldK enc k w g 0 m d os).ownsRow base e k (.slice (some ⟨g,0,none⟩) n cap) n (B4 enc d.toList):=by
 have hH:=kE hk h0 h;have hn:=(O9 hk h0 h).1;have hfl:(B4 enc d.toList).length=n*k:=by rw[U7 hk,Array.length_toList,hd,hn]
 obtain⟨hl,⟨hbad,_⟩|⟨g',cap',cur,he,hg,hh,h1,h2,h3,h4⟩⟩:=h
 ·cases hbad
 ·obtain⟨rfl,rfl⟩:g=g'∧cap=cap':=by simpa using he
  have hgl:g<w.heap.size:=(Array.getElem?_eq_some_iff.1 hh).1;have Bx5:=holdsK_sortWorldK_c enc k w g 0 l.toArray d m os hH hgl (by simp[hd]);obtain⟨cur2,hc2,hs2⟩:∃cur2:Array Value,(sortWorldK enc k w g 0 m d os).heap[g]? =some (.cells cur2 e (0,0))∧cur2.size=cur.size:=by
   refine⟨putCells id 0 (flatK enc k d) cur,?_,by simp[putCells]⟩;have hj':g<(putRowK enc k (Sort.ahead w m) g 0 d).heap.size:=by simpa[putRowK,putRow,mapBlock,Sort.ahead]using hgl
   show((putRowK enc k (Sort.ahead w m) g 0 d).heap ++ os)[g]? = _;rw[Array.getElem?_append_left hj'];simp[putRowK,putRow,mapBlock,Sort.ahead,Array.getElem?_modify,hh,onCells]
  refine⟨hfl,.inr ⟨g,cap,cur2,rfl,hg,hc2,h1,h2,by rw[hs2,h3],?_⟩⟩;refine List.ext_getElem? fun j=>?_;have hnk:n*k≤cap*k:=Nat.mul_le_mul_right k h1;by_cases hj:j<n*k
  ·rw[List.getElem?_take,if_pos hj]
   have hjd:j<d.size*k:=by rw[hd,←hn];exact hj
   have hb:=(Bx5 j (by rw[size_flatK];exact hjd)).1;rw[get_flatK enc k _ _ hjd]at hb;have hf:=Aa1 hk h0 d.toList j (by rw[Array.length_toList,hd,←hn];exact hj);rw[hf];simp only[World.cell?,hc2,Nat.zero_add,Option.isSome_none,Bool.false_eq_true,if_false,id]at hb;rw[Array.getElem?_toList];simpa using hb
  ·rw[List.getElem?_eq_none (by rw[List.length_take];omega),List.getElem?_eq_none (by omega)]
end
end Go.Proofs.YtmmlmhnjjfnpnaaGreat
