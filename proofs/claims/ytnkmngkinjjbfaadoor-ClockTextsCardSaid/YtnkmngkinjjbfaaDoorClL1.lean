/- The laws of windows, first part: contracts at later worlds; the chapter's examples. -/
import Derived.Test.YtnkmngkinjjbfaaDoorClR4
import Derived.Test.YtnkmngkinjjbfaaDoorClR6
import Derived.Test.YtnkmngkinjjbfaaDoorClR7
import Derived.Test.YtnkmngkinjjbfaaDoorClR2
import Derived.Test.YtnkmngkinjjbfaaDoorClCnt
import Derived.Test.YtnkmngkinjjbfaaDoorClT5
import Derived.Test.YtnkmngkinjjbfaaDoorLater
set_option linter.all false
namespace Go.Proofs.YtnkmngkinjjbfaaDoor
open Go.RowKit

/-- as SetRes, in a world that is later than W -/
def SetS (W w : World) (Q : List Win → Prop) (e : Int) (o : Ending) (w' : World) : Prop :=
  ∃ (a : Option Addr) (cap : Nat) (u : List Win) (z : Since W), o = .returned (.tuple #[.slice a u.length cap, .int .i64 e]) ∧ w' = z.w ∧ (∃ v : Since w, z.w = v.w) ∧ WinRow z.w a u ∧ u.length ≤ cap ∧ Q u
theorem setS {W w : World} (h : IsSince W w) {Q : List Win → Prop} {e : Int} {o : Ending} {w' : World} (k : SetRes w Q e o w') : SetS W w Q e o w' := by
  obtain ⟨a, cap, u, y, ho, hw, hr, hc, hq⟩ := k
  obtain ⟨z, hz⟩ := h
  subst hz
  obtain ⟨v, hv⟩ := z.trans y
  exact ⟨a, cap, u, v, ho, hw.trans hv, ⟨y, hv.symm⟩, hv ▸ hr, hc, hq⟩
def LenS (W w : World) (l : List Win) (o : Ending) (w' : World) : Prop := ∃ (u : List Win) (z : Since W), o = .returned (.tuple #[.int .i64 (lenW u), .int .i64 (unE l)]) ∧ w' = z.w ∧ (∃ v : Since w, z.w = v.w) ∧ UnOk l u
theorem lenS' {W w : World} (h : IsSince W w) {l : List Win} {o : Ending} {w' : World} (k : LenRes w l o w') : LenS W w l o w' := by
  obtain ⟨u, y, ho, hw, hq⟩ := k
  obtain ⟨z, hz⟩ := h
  subst hz
  obtain ⟨v, hv⟩ := z.trans y
  exact ⟨u, v, ho, hw.trans hv, ⟨y, hv.symm⟩, hq⟩
theorem union_c {W : World} (w' : World) (hw : IsSince W w') (pa : Option Addr) (a : List Win) (n ca : Nat) (hn : a.length = n) (h : WinRow w' pa a) (hl : n ≤ 100000) : Calls Tryd.prog 25 #[.slice pa n ca] w' (SetS W w' (UnOk a) (unE a)) := by
  subst hn; exact (union_calls w' (Since.self w') pa a ca h hl).mono fun _ _ k => setS hw k
theorem runion_c {W : World} (w' : World) (hw : IsSince W w') (pa : Option Addr) (a : List Win) (n ca : Nat) (hn : a.length = n) (h : WinRow w' pa a) (hl : n ≤ 100000) : Calls Tryd.prog 26 #[.slice pa n ca] w' (SetS W w' (UnOk a) (unE a)) := by
  subst hn; exact (runion_calls w' (Since.self w') pa a ca h hl).mono fun _ _ k => setS hw k
theorem length_c {W : World} (w' : World) (hw : IsSince W w') (pa : Option Addr) (a : List Win) (n ca : Nat) (hn : a.length = n) (h : WinRow w' pa a) (hl : n ≤ 100000) : Calls Tryd.prog 31 #[.slice pa n ca] w' (LenS W w' a) := by
  subst hn; exact (length_calls w' (Since.self w') pa a ca h hl).mono fun _ _ k => lenS' hw k
theorem rlength_c {W : World} (w' : World) (hw : IsSince W w') (pa : Option Addr) (a : List Win) (n ca : Nat) (hn : a.length = n) (h : WinRow w' pa a) (hl : n ≤ 100000) : Calls Tryd.prog 32 #[.slice pa n ca] w' (LenS W w' a) := by
  subst hn; exact (rlength_calls w' (Since.self w') pa a ca h hl).mono fun _ _ k => lenS' hw k
theorem common_c {W : World} (w' : World) (hw : IsSince W w') (pa : Option Addr) (a : List Win) (n ca : Nat) (pb : Option Addr) (b : List Win) (m cb : Nat) (hn : a.length = n) (hm : b.length = m) (h : WinRow w' pa a) (hb : WinRow w' pb b) (hl : n ≤ 100000) (hl2 : m ≤ 100000) : Calls Tryd.prog 27 #[.slice pa n ca, .slice pb m cb] w' (SetS W w' (ComOk a b) (setE a b)) := by
  subst hn; subst hm; exact (common_calls w' (Since.self w') pa a ca pb b cb h hb hl hl2).mono fun _ _ k => setS hw k
theorem rcommon_c {W : World} (w' : World) (hw : IsSince W w') (pa : Option Addr) (a : List Win) (n ca : Nat) (pb : Option Addr) (b : List Win) (m cb : Nat) (hn : a.length = n) (hm : b.length = m) (h : WinRow w' pa a) (hb : WinRow w' pb b) (hl : n ≤ 100000) (hl2 : m ≤ 100000) : Calls Tryd.prog 28 #[.slice pa n ca, .slice pb m cb] w' (SetS W w' (RComOk a b) (setE a b)) := by
  subst hn; subst hm; exact (rcommon_calls w' (Since.self w') pa a ca pb b cb h hb hl hl2).mono fun _ _ k => setS hw k
theorem minus_c {W : World} (w' : World) (hw : IsSince W w') (pa : Option Addr) (a : List Win) (n ca : Nat) (pb : Option Addr) (b : List Win) (m cb : Nat) (hn : a.length = n) (hm : b.length = m) (h : WinRow w' pa a) (hb : WinRow w' pb b) (hl : n ≤ 100000) (hl2 : m ≤ 100000) : Calls Tryd.prog 29 #[.slice pa n ca, .slice pb m cb] w' (SetS W w' (MinOk a b) (setE a b)) := by
  subst hn; subst hm; exact (minus_calls w' (Since.self w') pa a ca pb b cb h hb hl hl2).mono fun _ _ k => setS hw k
theorem rminus_c {W : World} (w' : World) (hw : IsSince W w') (pa : Option Addr) (a : List Win) (n ca : Nat) (pb : Option Addr) (b : List Win) (m cb : Nat) (hn : a.length = n) (hm : b.length = m) (h : WinRow w' pa a) (hb : WinRow w' pb b) (hl : n ≤ 100000) (hl2 : m ≤ 100000) : Calls Tryd.prog 30 #[.slice pa n ca, .slice pb m cb] w' (SetS W w' (MinOk a b) (setE a b)) := by
  subst hn; subst hm; exact (rminus_calls w' (Since.self w') pa a ca pb b cb h hb hl hl2).mono fun _ _ k => setS hw k
theorem same_c {W : World} (w' : World) (hw : IsSince W w') (pa : Option Addr) (a : List Win) (n ca : Nat) (pb : Option Addr) (b : List Win) (m cb : Nat) (hn : a.length = n) (hm : b.length = m) (h : WinRow w' pa a) (hb : WinRow w' pb b) (hl : n ≤ 100000) (hl2 : m ≤ 100000) (v : Bool) (he : decide (a = b) = v) : Calls Tryd.prog 33 #[.slice pa n ca, .slice pb m cb] w' (Ends W w' (fun o => o = .returned (.bool v))) := by
  subst hn; subst hm; subst he; exact later hw fun x => sameW_calls w' x pa a ca pb b cb h hb (by omega) (by omega)
theorem has_c {W : World} (w' : World) (hw : IsSince W w') (pa : Option Addr) (a : List Win) (n ca : Nat) (t : Int) (hn : a.length = n) (h : WinRow w' pa a) (hl : n ≤ 100000) : Calls Tryd.prog 35 #[.slice pa n ca, .int .i64 t] w' (Ends W w' (fun o => o = .returned (.bool (hasW a t)))) := by
  subst hn; exact later hw fun x => hasW_calls w' x pa a ca t h (by omega)
theorem check_c {W : World} (w' : World) (hw : IsSince W w') (pa : Option Addr) (a : List Win) (n ca : Nat) (hn : a.length = n) (h : WinRow w' pa a) (hl : n ≤ 100000) : Calls Tryd.prog 34 #[.slice pa n ca] w' (Ends W w' (fun o => o = .returned (.int .i64 (unE a)))) := by
  subst hn; exact later hw fun x => rcheckW_calls w' x pa a ca h (by omega)
theorem normal_c {W : World} (w' : World) (hw : IsSince W w') (pa : Option Addr) (a : List Win) (n ca : Nat) (hn : a.length = n) (h : WinRow w' pa a) (hl : n ≤ 100000) (hN : Norm a) : Calls Tryd.prog 36 #[.slice pa n ca] w' (Ends W w' (fun o => o = .returned (.bool true))) := by
  subst hn; exact later hw fun x => normal_calls w' x pa a ca h (by omega) hN
theorem win_calls (w : World) (x : Since w) (a b : Int) :
    Calls Tryd.prog 37 #[.int .i64 a, .int .i64 b] x.w fun o w' => o = .returned (.agg #[.int .i64 a, .int .i64 b]) ∧ ∃ y : Since w, w' = y.w := by
  go_enter Tryd.func37, Tryd.ntmps37
  go_wp2_with fail
  exact bodyPost_ret (v := .agg #[.int .i64 a, .int .i64 b]) (by simp [results, Tryd.results37, go_sem]) rfl ⟨rfl, Since.allocs x [.cells #[.int .i64 a, .int .i64 b] 30]⟩
theorem win_c {W : World} (w' : World) (hw : IsSince W w') (a b : Int) : Calls Tryd.prog 37 #[.int .i64 a, .int .i64 b] w' (Ends W w' (fun o => o = .returned (.agg #[.int .i64 a, .int .i64 b]))) :=
  later hw fun x => win_calls w' x a b
end Go.Proofs.YtnkmngkinjjbfaaDoor
