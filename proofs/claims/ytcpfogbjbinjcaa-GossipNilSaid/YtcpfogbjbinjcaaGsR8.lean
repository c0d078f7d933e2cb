/- The walks of replicas, the references, eighth part: Merge. -/
import Derived.Test.YtcpfogbjbinjcaaGsR4
import Derived.Test.YtcpfogbjbinjcaaGsR2
import Derived.Test.YtcpfogbjbinjcaaGsHor
set_option linter.all false
namespace Go.Proofs.Ytcpfogbjbinjcaa
open Go.RowKit Go.ChangeMaps

/-- the first error, one after the other -/
def firstE (a b : Int) : Int := if a = 0 then b else a
theorem mergeE_take {N : Int} : ∀ (m l : List Ev) (k : Nat) (e : Ev), m[k]? = some e → mergeE N l (m.take (k + 1)) = firstE (mergeE N l (m.take k)) (addE N (addAll N l (m.take k)) e) ∧ addAll N l (m.take (k + 1)) = addL N (addAll N l (m.take k)) e
  | [], _, _, _, h => by simp at h
  | x :: m, l, 0, e, h => by
    simp at h; subst h
    simp only [List.take_succ_cons, List.take_zero, mergeE, addAll, firstE, if_true]
    by_cases h0 : addE N l x = 0
    · simp [h0]
    · simp [h0]
  | x :: m, l, k + 1, e, h => by
    have ih := mergeE_take (N := N) m (addL N l x) k e (by simpa using h)
    simp only [List.take_succ_cons, mergeE, addAll]
    by_cases h0 : addE N l x = 0
    · rw [if_pos h0, if_pos h0]; exact ih
    · rw [if_neg h0, if_neg h0]
      exact ⟨by unfold firstE; rw [if_neg h0], ih.2⟩
theorem addL_len (n : Int) (l : List Ev) (e : Ev) : (addL n l e).length ≤ l.length + 1 := by
  unfold addL; split <;> simp
theorem addAll_len {N : Int} : ∀ (m l : List Ev), (addAll N l m).length ≤ l.length + m.length
  | [], l => by simp [addAll]
  | e :: m, l => by
    have := addAll_len (N := N) m (addL N l e)
    have := addL_len N l e
    simp only [addAll, List.length_cons]; omega
/-- what the reference's Merge gives back -/
def RMergePost (w : World) (l : List Ev) (f : Int) (o : Ending) (w' : World) : Prop :=
  ∃ (a : Option Addr) (cap : Nat) (y : Since w), o = .returned (.tuple #[.slice a l.length cap, .int .i64 f]) ∧ w' = y.w ∧ l.length ≤ cap ∧ (a = none → cap = 0) ∧ EvRow y.w a l
set_option maxRecDepth 100000 in
set_option maxHeartbeats 4000000 in
theorem rmerge_calls (w : World) (x : Since w) (n : Int) (a b : Option Addr) (l m : List Ev) (ca cb : Nat) (hr : EvRow w a l) (hc : l.length ≤ ca) (hn : a = none → ca = 0) (hl : l.length ≤ 100000) (hr' : EvRow w b m) (hm : m.length ≤ 100000) :
    Calls Try.prog 29 #[.int .i64 n, .slice a l.length ca, .slice b m.length cb] x.w (RMergePost w (addAll n l (sortE m)) (mergeE n l (sortE m))) := by
  have hec := Lib.hid (revents_calls w x b m cb hr' hm)
  have hsl : (sortE m).length = m.length := sortE_length m
  go_enter Try.func29, Try.ntmps29
  go_wp2_with fail
  refine hec.out.mono ?_
  rintro _ w2 ⟨a2, cap2, y1, rfl, rfl, hcap, hn2, hels⟩
  generalize sortE m = ms at *
  have Hr := Lib.hid hr; have Hels := Lib.hid hels; have Hn := Lib.hid hn
  clear hr hr' hels hn2 hcap hn
  go_wp2_with fail
  go_loopw [1, 8, 10] (fun v f i wr => ∃ (k : Nat) (a' : Option Addr) (c' : Nat) (y : Since y1.w), k ≤ ms.length ∧ i = .int .i64 k ∧ f = .int .i64 (mergeE n l (ms.take k)) ∧ v = .slice a' (addAll n l (ms.take k)).length c' ∧ wr = y.w ∧ (addAll n l (ms.take k)).length ≤ c' ∧ (a' = none → c' = 0) ∧ EvRow wr a' (addAll n l (ms.take k))) (fun _ _ i _ => ms.length - (intOf i).toNat)
  case atStart => exact ⟨0, a, ca, Since.self _, by omega, rfl, rfl, rfl, rfl, hc, Hn.out, Hr.out.to ⟨y1, rfl⟩⟩
  case round =>
    obtain ⟨k, a', c', y, hk, rfl, rfl, rfl, rfl, hc', hn', hel'⟩ := hrel
    by_cases hlt : k < ms.length
    · obtain ⟨e, he⟩ : ∃ e, ms[k]? = some e := ⟨_, List.getElem?_eq_getElem hlt⟩
      obtain ⟨b1, off1, rfl, h1⟩ := Els.ev Hels.out he
      have p0 := h1.c0
      have p1 := h1.c1
      have p2 := h1.c2
      have p3 := h1.c3
      have p4 := h1.c4
      have p5 := h1.c5
      have p6 := h1.c6
      have p7 := h1.c7
      have p8 := h1.c8
      have hk0 : (0 : Int) ≤ (k : Int) := by omega
      have hkl : (k : Int) < (ms.length : Int) := by omega
      obtain ⟨hm1, hm2⟩ := mergeE_take (N := n) ms l k e he
      have hlen := addAll_len (N := n) (ms.take k) l
      have htk : (ms.take k).length = k := by rw [List.length_take]; omega
      generalize addAll n l (ms.take k) = L at *
      generalize mergeE n l (ms.take k) = f at *
      have hadd := radd_calls y.w (Since.self y.w) n a' L c' e hel' hc' hn' (by omega)
      have hag : e.ag = .agg #[.int .i64 e.d, .int .i64 e.q, .int .i64 e.a, .int .i64 e.t, .int .i64 e.k, .int .i64 e.b, .int .i64 e.p, .int .i64 e.r, .int .i64 e.i] := rfl
      rw [hag] at hadd
      have Hadd := Lib.hid hadd
      have Hm1 := Lib.hid hm1
      have Hm2 := Lib.hid hm2
      have He := Lib.hid he
      clear hadd hag hm1 hm2 hlen htk h1 he hel' hn' hc'
      by_cases hf : f = 0
      · subst hf
        go_wp2_with (go_at_call 15; refine Hadd.out.mono ?_; rintro _ _ ⟨a3, c3, y3, rfl, rfl, hc3, hn3, hel3⟩; have Hc3 := Lib.hid hc3; have Hn3 := Lib.hid hn3; have Hel3 := Lib.hid hel3; clear hc3 hn3 hel3)
        go_roundw
        case rel =>
          obtain ⟨y4, e4⟩ := y.trans y3
          refine ⟨k + 1, a3, c3, y4, by omega, by go_num, ?_, ?_, e4, ?_, Hn3.out, ?_⟩
          · rw [Hm1.out]; rfl
          · rw [Hm2.out]
          · rw [Hm2.out]; exact Hc3.out
          · rw [Hm2.out]; exact Hel3.out
        case measure => simp [intOf]; omega
      · have hfb : (f == 0) = false := by simpa using hf
        have Hf := Lib.hid hf
        clear hf
        go_wp2_with (go_at_call 15; refine Hadd.out.mono ?_; rintro _ _ ⟨a3, c3, y3, rfl, rfl, hc3, hn3, hel3⟩; have Hc3 := Lib.hid hc3; have Hn3 := Lib.hid hn3; have Hel3 := Lib.hid hel3; clear hc3 hn3 hel3)
        go_roundw
        case rel =>
          obtain ⟨y4, e4⟩ := y.trans y3
          refine ⟨k + 1, a3, c3, y4, by omega, by go_num, ?_, ?_, e4, ?_, Hn3.out, ?_⟩
          · rw [Hm1.out]; unfold firstE; rw [if_neg Hf.out]
          · rw [Hm2.out]
          · rw [Hm2.out]; exact Hc3.out
          · rw [Hm2.out]; exact Hel3.out
        case measure => simp [intOf]; omega
    · obtain rfl : k = ms.length := by omega
      rw [List.take_length] at *
      have Hel := Lib.hid hel'
      have Hn' := Lib.hid hn'
      clear hel' hn'
      go_wp2_with fail
      go_ret2
      obtain ⟨y4, e4⟩ := y1.trans y
      exact ⟨a', c', y4, rfl, e4, hc', Hn'.out, by rw [← e4]; exact Hel.out⟩
end Go.Proofs.Ytcpfogbjbinjcaa
