/- The walks of replicas, first part: the key of a map, how a replica lies in memory, New. -/
import Derived.Test.YtcpfogbjbinjcaaGsHor
import Derived.Test.YtcpfogbjbinjcaaMap
import Derived.Test.YtcpfogbjbinjcaaProg
import Derived.Test.YtcpfogbjbinjcaaEls
import Derived.Laws.StructEq
set_option linter.all false
namespace Go.Proofs.Ytcpfogbjbinjcaa
open Go.RowKit Go.ChangeMaps

/-- the key of an event in memory -/
def ekey (x : Int × Int) : Value := .agg #[.int .i64 x.1, .int .i64 x.2]
theorem keyOps : KeyOps Try.prog 71 ekey false where
  chk em w x := by
    unfold ekey
    obtain ⟨N, hN⟩ : ∃ N, 10000 = N + 2 := ⟨9998, rfl⟩
    rw [hN]
    simp [Instr.checkKey, Sem.run_bind, run_underlying Try.underlying71, run_underlying Try.underlying3, go_sem]
  eq w x y := by
    have hS : Try.prog.underlying 71 = some (.struct (Try.prog.fieldsOf 71)) := by kernel_rfl
    have hp : Try.prog.stoodInHeld 71 = false := by kernel_rfl
    have u3 := Try.underlying3
    have a3 := Try.isAgg3
    have z3 := Try.sizeOf3
    unfold ekey
    show (Op.equalIn (9999 + 1) _ _ _).run _ _ = _
    rw [run_equalIn_struct w 9999 71 _ _ hS hp]
    simp only [Program.fieldsOf, Try.underlying71]
    go_simp
    by_cases h1 : x.1 = y.1 <;> by_cases h2 : x.2 = y.2 <;> simp [h1, h2, Prod.ext_iff]
  und := ⟨_, Try.underlying71, fun x y => rfl⟩
  bits x := by
    unfold ekey
    rw [show (10000 : Nat) = 9999 + 1 from rfl]
    simp [Instr.sameBits]
/-- an event as the entry of a map -/
def evP (e : Ev) : (Int × Int) × Value := ((e.d, e.q), e.ag)
/-- a replica for n devices with these events lies behind the pointer to block p; its map is block bm -/
structure RepAt (w : World) (p bm : Nat) (n : Int) (l : List Ev) : Prop where
  c0 : w.cell? ⟨p, 0, none⟩ = some (.int .i64 n)
  c1 : w.cell? ⟨p, 1, none⟩ = some (.map (some bm))
  m : MapAt ekey w bm (l.map evP)
theorem RepAt.lt {w : World} {p bm : Nat} {n : Int} {l : List Ev} (h : RepAt w p bm n l) : p < w.heap.size ∧ bm < w.heap.size :=
  ⟨World.block_lt_of_cell? w _ h.c0, (Array.getElem?_eq_some_iff.1 h.m).1⟩
theorem RepAt.since {w : World} {p bm : Nat} {n : Int} {l : List Ev} (h : RepAt w p bm n l) (y : Since w) : RepAt y.w p bm n l :=
  ⟨Since.cell h.c0 h.lt.1 y, Since.cell h.c1 h.lt.1 y, Since.heap h.m y⟩
theorem RepAt.to {w W : World} {p bm : Nat} {n : Int} {l : List Ev} (h : RepAt w p bm n l) (hW : ∃ z : Since w, W = z.w) : RepAt W p bm n l := by
  obtain ⟨z, rfl⟩ := hW; exact h.since z
/-- the block of a map holds no cells -/
theorem map_no_cell {w : World} {b o : Nat} {v : Value} {es : Array MapEntry} {c : Nat} (h : w.heap[b]? = some (.map es c)) (hc : w.cell? ⟨b, o, none⟩ = some v) : False := by
  simp [World.cell?, h] at hc
theorem RepAt.ne {w : World} {p bm bm' : Nat} {n : Int} {l : List Ev} {es : Array MapEntry} {c : Nat} (h : RepAt w p bm n l) (h' : w.heap[bm']? = some (.map es c)) : p ≠ bm' := by
  rintro rfl; exact map_no_cell h' h.c0
theorem RepAt.keep {w w' : World} {p bm bm' : Nat} {n : Int} {l : List Ev} {es : Array MapEntry} {c : Nat} (h : RepAt w p bm n l) (h' : w.heap[bm']? = some (.map es c)) (hne : bm ≠ bm') (hg : w.grownBy w' (some bm')) : RepAt w' p bm n l := by
  have hp := hg.block p h.lt.1 (by simpa using h.ne h')
  have hb := hg.block bm h.lt.2 (by simpa using hne)
  exact ⟨by rw [World.cell?_of_block (w := w) (a := ⟨p, 0, none⟩) hp]; exact h.c0, by rw [World.cell?_of_block (w := w) (a := ⟨p, 1, none⟩) hp]; exact h.c1, hb.trans h.m⟩
theorem Els.keepMap {α : Type} {enc : α → List Value} {k : Nat} (hk : ∀ x, 0 < (enc x).length) {w w' : World} {a : Option Addr} {l : List α} {bm : Nat} {es : Array MapEntry} {c : Nat} (h : Els enc k w a l) (h' : w.heap[bm]? = some (.map es c)) (hg : w.grownBy w' (some bm)) : Els enc k w' a l := by
  intro i x hx
  obtain ⟨b, off, ha, hlt, hc⟩ := h i x hx
  have hne : b ≠ bm := by
    rintro rfl
    exact map_no_cell h' (hc 0 ((enc x)[0]'(hk x)) (List.getElem?_eq_getElem (hk x)))
  have hb := hg.block b hlt (by simpa using hne)
  exact ⟨b, off, ha, Nat.lt_of_lt_of_le hlt hg.size, fun j v hv => by rw [World.cell?_of_block (w := w) (a := ⟨b, off + i * k + j, none⟩) hb]; exact hc j v hv⟩
abbrev EvRow (w : World) (a : Option Addr) (l : List Ev) : Prop := Els Ev.cs 9 w a l
theorem cs_len (x : Ev) : x.cs.length = 9 := rfl

theorem lk_ev (e : Ev) : ∀ (l : List Ev) (i : Nat), (lkF (e.d, e.q) (l.map evP) i).map (·.2) = (findE l e).map fun x => x.ag
  | [], _ => rfl
  | x :: l, i => by
    simp only [List.map_cons, lkF, findE, List.find?_cons]
    by_cases h : (e.d, e.q) = (evP x).1
    · have hs : sk x e = true := by rw [sk_iff]; simp [evP] at h; omega
      rw [if_pos h, hs]
      rfl
    · have hs : sk x e = false := by
        cases hh : sk x e
        · rfl
        · rw [sk_iff] at hh; exact (h (by simp [evP, hh.1, hh.2])).elim
      rw [if_neg h, hs]
      exact lk_ev e l (i + 1)
theorem lk_none {e : Ev} {l : List Ev} (h : findE l e = none) : lkF (e.d, e.q) (l.map evP) 0 = none := by
  have := lk_ev e l 0
  rw [h] at this
  simpa using this
theorem lkB_ev (e : Ev) (l : List Ev) : lkB (e.d, e.q) (l.map evP) = (findE l e).isSome := by
  have := lk_ev e l 0
  unfold lkB
  cases h : findE l e <;> rw [h] at this <;> cases h2 : lkF (e.d, e.q) (l.map evP) 0 <;> rw [h2] at this <;> simp_all
theorem lkV_ev (e : Ev) (l : List Ev) (z : Value) : lkV (e.d, e.q) (l.map evP) z = match findE l e with | some x => x.ag | none => z := by
  have := lk_ev e l 0
  unfold lkV
  cases h : findE l e <;> rw [h] at this <;> cases h2 : lkF (e.d, e.q) (l.map evP) 0 <;> rw [h2] at this <;> simp_all

/-- what New gives back -/
def NewPost (w : World) (n : Int) (e : Ending) (w' : World) : Prop :=
  if 1 ≤ n ∧ n ≤ 256 then ∃ (p bm : Nat) (y : Since w), e = .returned (.tuple #[.pointer (some ⟨p, 0, none⟩), .int .i64 0]) ∧ w' = y.w ∧ w.heap.size ≤ p ∧ w.heap.size ≤ bm ∧ RepAt y.w p bm n []
  else e = .returned (.tuple #[.pointer none, .int .i64 1]) ∧ ∃ y : Since w, w' = y.w
set_option maxHeartbeats 1000000 in
theorem new_calls (w : World) (x : Since w) (n : Int) :
    Calls Try.prog 13 #[.int .i64 n] x.w (NewPost w n) := by
  by_cases hn : 1 ≤ n ∧ n ≤ 256
  · have hm : NewPost w n = fun e w' => ∃ (p bm : Nat) (y : Since w), e = .returned (.tuple #[.pointer (some ⟨p, 0, none⟩), .int .i64 0]) ∧ w' = y.w ∧ w.heap.size ≤ p ∧ w.heap.size ≤ bm ∧ RepAt y.w p bm n [] := by funext e w'; unfold NewPost; rw [if_pos hn]
    obtain ⟨h1, h2⟩ := hn
    have HM := Lib.hid hm; clear hm
    have hmm := @run_makeMap Try.prog
    go_enter Try.func13, Try.ntmps13
    go_wp2_with fail
    rw [HM.out]
    go_ret2
    obtain ⟨y, e⟩ := Since.allocs x [.map #[] 0, .cells #[.int .i64 n, .map (some x.w.heap.size)] 69]
    simp only [List.foldl_cons, List.foldl_nil] at e
    refine ⟨_, _, y, rfl, e, ?_, x.b.size, ?_⟩
    · have := x.b.size; omega
    · rw [← e]
      refine ⟨by simp [go_sem], by simp [go_sem], ?_⟩
      show (((x.w.heap.push _).push _)[x.w.heap.size]?) = _
      simp [entF, Array.getElem?_push]
  · have hm : NewPost w n = fun e w' => e = .returned (.tuple #[.pointer none, .int .i64 1]) ∧ ∃ y : Since w, w' = y.w := by funext e w'; unfold NewPost; rw [if_neg hn]
    have HM := Lib.hid hm; clear hm
    rcases (by omega : n < 1 ∨ (1 ≤ n ∧ 256 < n)) with h | ⟨h, h'⟩
    all_goals
      clear hn
      go_enter Try.func13, Try.ntmps13
      go_wp2_with fail
      rw [HM.out]
      go_ret2
      exact ⟨rfl, x, rfl⟩
theorem rnew_calls (w : World) (x : Since w) (n : Int) :
    Calls Try.prog 14 #[.int .i64 n] x.w fun e w' => e = .returned (.int .i64 (if 1 ≤ n ∧ n ≤ 256 then 0 else 1)) ∧ ∃ y : Since w, w' = y.w := by
  by_cases hn : 1 ≤ n ∧ n ≤ 256
  · rw [if_pos hn]
    obtain ⟨h1, h2⟩ := hn
    go_enter Try.func14, Try.ntmps14
    go_wp2_with fail
    go_ret
    exact ⟨rfl, x, rfl⟩
  · rw [if_neg hn]
    rcases (by omega : n < 1 ∨ (1 ≤ n ∧ 256 < n)) with h | ⟨h, h'⟩
    all_goals
      clear hn
      go_enter Try.func14, Try.ntmps14
      go_wp2_with fail
      go_ret
      exact ⟨rfl, x, rfl⟩
end Go.Proofs.Ytcpfogbjbinjcaa
