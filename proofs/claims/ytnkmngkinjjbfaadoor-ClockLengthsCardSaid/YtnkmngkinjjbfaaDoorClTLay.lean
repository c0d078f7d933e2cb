/- The library's functions that the program of texts calls, laid over its translation; what they read. -/
import Derived.Test.YtnkmngkinjjbfaaDoorProg
import Derived.Shelf.Lay
import Derived.Shelf.Strconv.Itoa3
import Derived.Shelf.Strconv.AtoiAll
import Derived.Shelf.Strconv.ErrVarAll
import Derived.Ground.NamesProg
import Derived.Lib.AppendIntMem
import Derived.Lib.SmallJoins
import Derived.Test.YtnkmngkinjjbfaaDoorClT1
namespace Go.Proofs.YtnkmngkinjjbfaaDoor
open Go.Shelf Go.RowKit Go.Lib Go.Sort

shelf_lay LaysM.n171 Nm 171 at Tryd as Tryd.laysItoa
shelf_lay LaysC.n172 Nm 172 at Tryd as Tryd.laysAtoi
theorem gPow : Tryd.prog.globalNamed "internal/strconv.uint64pow10" = some 2 := by kernel_rfl
theorem gSyn : Tryd.prog.globalNamed "strconv.ErrSyntax" = some 0 := by kernel_rfl
theorem gRan : Tryd.prog.globalNamed "strconv.ErrRange" = some 1 := by kernel_rfl
/-- what the library reads of its variables -/
structure Tabs (w : World) : Prop where
  tab : Lib.TabIs Tryd.prog w "internal/strconv.uint64pow10" .u64 Lib.pow10Tab
  es : ∃ tp p, w.var? Tryd.prog "strconv.ErrSyntax" = some #[.iface tp p]
  er : ∃ tp p, w.var? Tryd.prog "strconv.ErrRange" = some #[.iface tp p]
theorem Tabs.to {w : World} (h : Tabs w) (x : Since w) : Tabs x.w := by
  obtain ⟨t1, p1, h1⟩ := h.es
  obtain ⟨t2, p2, h2⟩ := h.er
  exact ⟨Go.Joins.tab_stays gPow h.tab x.b (Nat.le_refl _), ⟨t1, p1, Go.Joins.var_stays gSyn h1 x.b (Nat.le_refl _)⟩, ⟨t2, p2, Go.Joins.var_stays gRan h2 x.b (Nat.le_refl _)⟩⟩
/-- a string and what it is -/
def StrRes (w : World) (l : List UInt8) (o : Ending) (w' : World) : Prop := ∃ (S : ByteArray) (y : Since w), o = .returned (.string S) ∧ w' = y.w ∧ S.data.toList = l ∧ S.size = l.length
theorem strRes {w : World} {l : List UInt8} {o : Ending} {w' : World} (h : o = .returned (.string ⟨l.toArray⟩)) (hy : ∃ y : Since w, w' = y.w) : StrRes w l o w' := by
  obtain ⟨y, rfl⟩ := hy
  exact ⟨⟨l.toArray⟩, y, h, rfl, by simp, by simp [ByteArray.size]⟩
theorem itoa_s (w : World) (x : Since w) (h : Tabs w) (n : Nat) (hn : n ≤ 100000) : Calls Tryd.prog 39 #[.int .i64 (n : Int)] x.w (StrRes w (decDigits n)) := by
  refine (Any.strconv_Itoa Tryd.laysItoa (n : Int) (by omega) (by omega) x.w (h.to x).tab).mono ?_
  rintro o w' ⟨ho, k, os, rfl⟩
  have hi : Lib.itoa (n : Int) = decDigits n := by unfold Lib.itoa; rw [if_neg (by omega)]; simp
  rw [hi] at ho
  exact strRes ho (x.step (below_grow _ _ (Nat.le_refl _) k os))
theorem itoa_i (w : World) (x : Since w) (h : Tabs w) (n : Int) (m : Nat) (hm : n = m) (hn : m ≤ 100000) : Calls Tryd.prog 39 #[.int .i64 n] x.w (StrRes w (decDigits m)) := by
  subst hm; exact itoa_s w x h m hn
theorem two_s (w : World) (x : Since w) (n : Int) (m : Nat) (hm : n = m) (hn : m < 100) : Calls Tryd.prog 40 #[.int .i64 n] x.w (StrRes w (two2 m)) := by
  subst hm
  exact (two_calls w x m hn).mono fun o w' ⟨h1, h2⟩ => strRes h1 h2
theorem rtwo_s (w : World) (x : Since w) (n : Int) (m : Nat) (hm : n = m) (hn : m < 100) : Calls Tryd.prog 42 #[.int .i64 n] x.w (StrRes w (two2 m)) := by
  subst hm
  exact (rtwo_calls w x m hn).mono fun o w' ⟨h1, h2⟩ => strRes h1 h2
end Go.Proofs.YtnkmngkinjjbfaaDoor
