/- The laws of replicas: GossipMergeCalls. -/
import Derived.Test.YtcpfogbjbinjcaaGsL4
set_option linter.all false
namespace Go.Proofs.Ytcpfogbjbinjcaa
open Go.RowKit Go.ChangeMaps

theorem is0_s (w : World) (y : Since w) (p bm N : Nat) (L : List Ev) (la : Option Addr) (lc : Nat) (hR : RepAt y.w p bm N L) (hI : Inv N L) (hN : N ≤ 256) (hl : EvRow y.w la L) :
    Calls Try.prog 17 #[.pointer (some ⟨p, 0, none⟩), .int .i64 N, .slice la L.length lc, .slice none 0 0] y.w fun o w' => o = .returned (.bool true) ∧ ∃ y' : Since w, w' = y'.w ∧ IsSince y.w y'.w :=
  is_s w y p bm N L la lc none [] 0 hR hI hN hl (fun i hi => by simp at hi) (by simp)
theorem mergeNe_s (w : World) (y : Since w) (p bm p2 bm2 : Nat) (n n2 : Int) (l m : List Ev) (hR : RepAt y.w p bm n l) (hR2 : RepAt y.w p2 bm2 n2 m) (hn : n ≠ n2) :
    Calls Try.prog 28 #[.pointer (some ⟨p, 0, none⟩), .pointer (some ⟨p2, 0, none⟩)] y.w fun o w' => o = .returned (.int .i64 12) ∧ ∃ y' : Since w, w' = y'.w ∧ IsSince y.w y'.w := by
  refine (merge_ne y.w (Since.self y.w) p bm p2 bm2 n n2 l m hR hR2 hn).mono ?_
  rintro _ w' ⟨rfl, hz⟩
  exact ⟨rfl, lift1 y hz⟩
theorem mergeSelf_s (w : World) (y : Since w) (p bm : Nat) (n : Int) (l : List Ev) (hb : w.heap.size ≤ bm) (hR : RepAt y.w p bm n l) (hI : Inv n l) :
    Calls Try.prog 28 #[.pointer (some ⟨p, 0, none⟩), .pointer (some ⟨p, 0, none⟩)] y.w fun o w' => o = .returned (.int .i64 0) ∧ ∃ y' : Since w, w' = y'.w ∧ RepAt y'.w p bm n l ∧ y.w.grownBy y'.w (some bm) := by
  have := merge_s w y p bm p bm n l l hb hR hR hI
  rwa [(merge_self hI).1, (merge_self hI).2] at this
theorem Els.kept {w w' : World} {a : Option Addr} {l : List Ev} {p bm : Nat} {n : Int} {m : List Ev} (h : EvRow w a l) (hR : RepAt w p bm n m) (hg : w.grownBy w' (some bm)) : EvRow w' a l :=
  Els.keepMap (fun x => by simp [Ev.cs]) h hR.m hg
set_option maxRecDepth 100000 in
set_option maxHeartbeats 16000000 in
theorem gossipMergeCalls_calls (w : World) (x : Since w) (n o : Int) (la : Option Addr) (l : List Ev) (lc : Nat) (ma : Option Addr) (m : List Ev) (mc : Nat) (hl : EvRow w la l) (hll : l.length ≤ 9223372036854775807) (hm : EvRow w ma m) (hml : m.length ≤ 9223372036854775807) :
    Calls Try.prog 8 #[.int .i64 n, .int .i64 o, .slice la l.length lc, .slice ma m.length mc] x.w fun o w' => o = .returned (.bool true) ∧ ∃ y : Since w, w' = y.w := by
  have HL := Lib.hid hl; have HM := Lib.hid hm
  clear hl hm
  by_cases hbad : 30 < l.length ∨ 30 < m.length ∨ 20 < n ∨ 20 < o
  · rcases (by omega : (30 < l.length) ∨ (l.length ≤ 30 ∧ 30 < m.length) ∨ (l.length ≤ 30 ∧ m.length ≤ 30 ∧ 20 < n) ∨ (l.length ≤ 30 ∧ m.length ≤ 30 ∧ n ≤ 20 ∧ 20 < o)) with h | ⟨h, h'⟩ | ⟨h, h', h''⟩ | ⟨h, h', h'', h'''⟩
    all_goals
      clear hbad
      go_enter Try.func8, Try.ntmps8
      go_wp2_with (go_at_call 12; refine (awake_s w _).mono ?_; rintro _ _ ⟨rfl, y1, rfl, -⟩)
      go_ret
      exact ⟨rfl, _, rfl⟩
  have hl30 : l.length ≤ 30 := by omega
  have hm30 : m.length ≤ 30 := by omega
  have hn20 : n ≤ 20 := by omega
  have ho20 : o ≤ 20 := by omega
  clear hbad hll hml
  by_cases hn : 1 ≤ n
  · obtain ⟨N, rfl⟩ : ∃ N : Nat, n = N := ⟨n.toNat, by omega⟩
    have hfl := filled_calls w x N la l lc HL.out (by omega) hn (by omega)
    unfold FilledPost at hfl
    have Hfl := Lib.hid hfl
    clear hfl
    have HIa := Lib.hid (inv_addAll (N := N) l [] (inv_nil N))
    have hla := HIa.out.len
    by_cases ho : 1 ≤ o
    · obtain ⟨O, rfl⟩ : ∃ O : Nat, o = O := ⟨o.toNat, by omega⟩
      have hfm := fun y : Since w => filled_calls y.w (Since.self y.w) O ma m mc (Since.els HM.out y) (by omega) ho (by omega)
      unfold FilledPost at hfm
      have Hfm := Lib.hid hfm
      clear hfm
      have HIb := Lib.hid (inv_addAll (N := O) m [] (inv_nil O))
      have hlb := HIb.out.len
      by_cases he : N = O
      · subst he
        have HIc := Lib.hid (inv_addAll (N := N) (sortE (addAll N [] m)) _ HIa.out)
        have Hself := Lib.hid (merge_self HIc.out)
        generalize hLa : addAll N [] l = La at *
        generalize hLb : addAll N [] m = Lb at *
        have HE := Lib.hid (And.intro hLa hLb)
        clear hLa hLb
        go_enter Try.func8, Try.ntmps8
        go_upto_region 4 with (go_at_call 27; refine Hfl.out.mono ?_; rintro _ _ ⟨p, bm, a, ac, y1, rfl, rfl, hb, hR, hrow, hcap, hnil⟩; have HR := Lib.hid hR; have Ha := Lib.hid hrow; have Hb := Lib.hid hb; have Hnil := Lib.hid hnil; clear hR hrow hb hnil)
        go_upto_region 5 with (go_at_call 27; refine (Hfm.out _).mono ?_; rintro _ _ ⟨p2, bm2, b, bc, z, rfl, rfl, hb, hR, hrow, hcap2, hnil⟩; have Hne := Lib.hid (show bm ≠ bm2 by have := HR.out.lt.2; omega); replace HR := Lib.hid (HR.out.since z); replace Ha := Lib.hid (Since.els Ha.out z); obtain ⟨y2, e2⟩ := y1.trans z; rw [e2] at hR hrow ⊢; rw [e2] at HR Ha; have HR2 := Lib.hid hR; have Hb2 := Lib.hid hrow; clear hR hrow e2 hb hnil)
        clear Hfl Hfm
        have hrm := fun (y : Since w) h1 h2 => rmerge_s w y N a b La Lb ac bc h1 hcap Hnil.out (by omega) h2 (by omega)
        have hmm := fun (y : Since w) h1 h2 => merge_s w y p bm p2 bm2 N La Lb Hb.out h1 h2 HIb.out
        generalize mergeE N La (sortE Lb) = me at *
        generalize addAll N La (sortE Lb) = Lc at *
        have Hrm := Lib.hid hrm
        have Hmm := Lib.hid hmm
        clear hrm hmm
        go_wp2_with (first
          | (go_at_call 29; refine (Hrm.out _ Ha.out Hb2.out).mono ?_; rintro _ _ ⟨wa, wc, y3, rfl, rfl, hz, hrow⟩; have Hw := Lib.hid hrow; replace HR := Lib.hid (HR.out.to hz); replace HR2 := Lib.hid (HR2.out.to hz); replace Hb2 := Lib.hid (Hb2.out.to hz); clear hz hrow)
          | (go_at_call 28; ((with_reducible refine (Hmm.out _ HR.out HR2.out).mono ?_); rintro _ _ ⟨rfl, y4, rfl, hR, hg⟩; replace HR2 := Lib.hid (HR2.out.keep HR.out.m Hne.out.symm hg); replace Hw := Lib.hid (Els.kept Hw.out HR.out hg); replace Hb2 := Lib.hid (Els.kept Hb2.out HR.out hg); replace HR := Lib.hid hR; clear hR hg))
          | (go_at_call 17; ((with_reducible refine (is0_s w _ p bm N Lc wa wc HR.out HIc.out (by omega) Hw.out).mono ?_); rintro _ _ ⟨rfl, y5, rfl, hz⟩; replace HR := Lib.hid (HR.out.to hz); (try replace HR2 := Lib.hid (HR2.out.to hz)); (try replace Hb2 := Lib.hid (Hb2.out.to hz)); replace Hw := Lib.hid (Hw.out.to hz); clear hz))
          | (go_at_call 17; ((with_reducible refine (is0_s w _ p2 bm2 N Lb b bc HR2.out HIb.out (by omega) Hb2.out).mono ?_); rintro _ _ ⟨rfl, y6, rfl, hz⟩; replace HR := Lib.hid (HR.out.to hz); replace Hw := Lib.hid (Hw.out.to hz); clear hz))
          | (go_at_call 28; ((with_reducible refine (mergeSelf_s w _ p bm N Lc Hb.out HR.out HIc.out).mono ?_); rintro _ _ ⟨rfl, y7, rfl, hR, hg⟩; replace Hw := Lib.hid (Els.kept Hw.out HR.out hg); replace HR := Lib.hid hR; clear hR hg))
          | (go_at_call 12; refine (awake_s w _).mono ?_; rintro _ _ ⟨rfl, y1, rfl, -⟩))
        go_ret
        exact ⟨rfl, _, rfl⟩
      · have hno : ((N : Int) == (O : Int)) = false := by simp; omega
        generalize hLa : addAll N [] l = La at *
        generalize hLb : addAll O [] m = Lb at *
        have HE := Lib.hid (And.intro hLa hLb)
        have Hno := Lib.hid (show (N : Int) ≠ (O : Int) by omega)
        clear hLa hLb he
        go_enter Try.func8, Try.ntmps8
        go_upto_region 4 with (go_at_call 27; refine Hfl.out.mono ?_; rintro _ _ ⟨p, bm, a, ac, y1, rfl, rfl, hb, hR, hrow, hcap, hnil⟩; have HR := Lib.hid hR; have Ha := Lib.hid hrow; have Hb := Lib.hid hb; have Hnil := Lib.hid hnil; clear hR hrow hb hnil)
        go_upto_region 5 with (go_at_call 27; refine (Hfm.out _).mono ?_; rintro _ _ ⟨p2, bm2, b, bc, z, rfl, rfl, hb, hR, hrow, hcap2, hnil⟩; have Hne := Lib.hid (show bm ≠ bm2 by have := HR.out.lt.2; omega); replace HR := Lib.hid (HR.out.since z); replace Ha := Lib.hid (Since.els Ha.out z); obtain ⟨y2, e2⟩ := y1.trans z; rw [e2] at hR hrow ⊢; rw [e2] at HR Ha; have HR2 := Lib.hid hR; have Hb2 := Lib.hid hrow; clear hR hrow e2 hb hnil)
        clear Hfl Hfm
        go_wp2_with (first
          | (go_at_call 28; ((with_reducible refine (mergeNe_s w _ p bm p2 bm2 N O La Lb HR.out HR2.out Hno.out).mono ?_); rintro _ _ ⟨rfl, y3, rfl, hz⟩; replace HR := Lib.hid (HR.out.to hz); replace HR2 := Lib.hid (HR2.out.to hz); replace Ha := Lib.hid (Ha.out.to hz); replace Hb2 := Lib.hid (Hb2.out.to hz); clear hz))
          | (go_at_call 17; ((with_reducible refine (is0_s w _ p bm N La a ac HR.out HIa.out (by omega) Ha.out).mono ?_); rintro _ _ ⟨rfl, y5, rfl, hz⟩; replace HR := Lib.hid (HR.out.to hz); (try replace HR2 := Lib.hid (HR2.out.to hz)); (try replace Hb2 := Lib.hid (Hb2.out.to hz)); replace Ha := Lib.hid (Ha.out.to hz); clear hz))
          | (go_at_call 17; ((with_reducible refine (is0_s w _ p2 bm2 O Lb b bc HR2.out HIb.out (by omega) Hb2.out).mono ?_); rintro _ _ ⟨rfl, y6, rfl, hz⟩; replace HR := Lib.hid (HR.out.to hz); replace Ha := Lib.hid (Ha.out.to hz); clear hz))
          | (go_at_call 28; ((with_reducible refine (mergeSelf_s w _ p bm N La Hb.out HR.out HIa.out).mono ?_); rintro _ _ ⟨rfl, y7, rfl, hR, hg⟩; replace Ha := Lib.hid (Els.kept Ha.out HR.out hg); replace HR := Lib.hid hR; clear hR hg))
          | (go_at_call 12; refine (awake_s w _).mono ?_; rintro _ _ ⟨rfl, y1, rfl, -⟩))
        go_ret
        exact ⟨rfl, _, rfl⟩
    · have Hno := Lib.hid (show ¬ (1 ≤ o ∧ o ≤ 256) by omega)
      generalize addAll N [] l = La at *
      go_enter Try.func8, Try.ntmps8
      go_upto_region 4 with (go_at_call 27; refine Hfl.out.mono ?_; rintro _ _ ⟨p, bm, a, ac, y1, rfl, rfl, hb, hR, hrow, hcap, hnil⟩)
      clear Hfl
      go_wp2_with (first
        | (go_at_call 27; refine (filled_no w _ o ma m mc Hno.out).mono ?_; rintro _ _ ⟨rfl, y2, rfl, -⟩)
        | (go_at_call 28; ((with_reducible refine (nil_merge2 w _ _).mono ?_); rintro _ _ ⟨rfl, y3, rfl⟩))
        | (go_at_call 28; ((with_reducible refine (nil_merge w _ _).mono ?_); rintro _ _ ⟨rfl, y3, rfl⟩))
        | (go_at_call 12; refine (awake_s w _).mono ?_; rintro _ _ ⟨rfl, y1, rfl, -⟩))
      go_ret
      exact ⟨rfl, _, rfl⟩
  · have Hno := Lib.hid (show ¬ (1 ≤ n ∧ n ≤ 256) by omega)
    by_cases ho : 1 ≤ o
    · obtain ⟨O, rfl⟩ : ∃ O : Nat, o = O := ⟨o.toNat, by omega⟩
      have hfm := fun y : Since w => filled_calls y.w (Since.self y.w) O ma m mc (Since.els HM.out y) (by omega) ho (by omega)
      unfold FilledPost at hfm
      have Hfm := Lib.hid hfm
      clear hfm
      generalize addAll O [] m = Lb at *
      go_enter Try.func8, Try.ntmps8
      go_upto_region 4 with (go_at_call 27; refine (filled_no w _ n la l lc Hno.out).mono ?_; rintro _ _ ⟨rfl, y1, rfl, -⟩)
      go_upto_region 5 with (go_at_call 27; refine (Hfm.out _).mono ?_; rintro _ _ ⟨p2, bm2, b, bc, z, rfl, rfl, hb, hR, hrow, hcap2, hnil⟩; obtain ⟨y2, e2⟩ := y1.trans z; rw [e2]; clear e2 hb hnil hR hrow)
      clear Hfm
      go_wp2_with (first
        | (go_at_call 28; ((with_reducible refine (nil_merge2 w _ _).mono ?_); rintro _ _ ⟨rfl, y3, rfl⟩))
        | (go_at_call 28; ((with_reducible refine (nil_merge w _ _).mono ?_); rintro _ _ ⟨rfl, y3, rfl⟩))
        | (go_at_call 12; refine (awake_s w _).mono ?_; rintro _ _ ⟨rfl, y1, rfl, -⟩))
      go_ret
      exact ⟨rfl, _, rfl⟩
    · have Hno2 := Lib.hid (show ¬ (1 ≤ o ∧ o ≤ 256) by omega)
      go_enter Try.func8, Try.ntmps8
      go_wp2_with (first
        | (go_at_call 27; ((with_reducible refine (filled_no w _ n la l lc Hno.out).mono ?_); rintro _ _ ⟨rfl, y2, rfl, -⟩))
        | (go_at_call 27; ((with_reducible refine (filled_no w _ o ma m mc Hno2.out).mono ?_); rintro _ _ ⟨rfl, y2, rfl, -⟩))
        | (go_at_call 28; ((with_reducible refine (nil_merge w _ _).mono ?_); rintro _ _ ⟨rfl, y3, rfl⟩))
        | (go_at_call 12; refine (awake_s w _).mono ?_; rintro _ _ ⟨rfl, y1, rfl, -⟩))
      go_ret
      exact ⟨rfl, _, rfl⟩
end Go.Proofs.Ytcpfogbjbinjcaa
