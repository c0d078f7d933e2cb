/- The laws of replicas: GossipAdds. -/
import Derived.Test.YtcpfogbjbinjcaaGsL3
import Derived.IntWalk
set_option linter.all false
namespace Go.Proofs.Ytcpfogbjbinjcaa
open Go.RowKit Go.ChangeMaps

theorem addAll_take {N : Int} {l : List Ev} {k : Nat} {e : Ev} (h : l[k]? = some e) : addAll N [] (l.take (k + 1)) = addL N (addAll N [] (l.take k)) e := by
  have hlt := (List.getElem?_eq_some_iff.1 h).1
  have he : l[k] = e := (List.getElem?_eq_some_iff.1 h).2
  rw [List.take_succ_eq_append_getElem hlt, addAll_append, he]
  rfl
set_option maxRecDepth 100000 in
set_option maxHeartbeats 8000000 in
theorem gossipAdds_calls (w : World) (x : Since w) (n : Int) (la : Option Addr) (l : List Ev) (lc : Nat) (sa : Option Addr) (seen : List Int) (sc : Nat) (hl : EvRow w la l) (hll : l.length ≤ 9223372036854775807) (hs : IntRow w sa seen) (hsl : seen.length ≤ 9223372036854775807) :
    Calls Try.prog 3 #[.int .i64 n, .slice la l.length lc, .slice sa seen.length sc] x.w fun o w' => o = .returned (.bool true) ∧ ∃ y : Since w, w' = y.w := by
  by_cases hbad : 60 < l.length ∨ 300 < seen.length ∨ (20 < n ∧ n ≤ 256)
  · have HL := Lib.hid hl; have HS := Lib.hid hs
    clear hl hs
    rcases (by omega : (60 < l.length) ∨ (l.length ≤ 60 ∧ 300 < seen.length) ∨ (l.length ≤ 60 ∧ seen.length ≤ 300 ∧ 20 < n ∧ n ≤ 256)) with h | ⟨h, h'⟩ | ⟨h, h', h'', h'''⟩
    all_goals
      clear hbad
      go_enter Try.func3, Try.ntmps3
      go_wp2_with (go_at_call 12; refine (awake_s w _).mono ?_; rintro _ _ ⟨rfl, y1, rfl, -⟩)
      go_ret
      exact ⟨rfl, _, rfl⟩
  have h60 : l.length ≤ 60 := by omega
  have h300 : seen.length ≤ 300 := by omega
  have hn20 : n ≤ 20 ∨ 256 < n := by omega
  clear hbad hll hsl
  by_cases hn : 1 ≤ n ∧ n ≤ 20
  · obtain ⟨h1, h2⟩ := hn
    obtain ⟨N, rfl⟩ : ∃ N : Nat, n = N := ⟨n.toNat, by omega⟩
    have HL := Lib.hid hl; have HS := Lib.hid hs
    clear hl hs hn20
    have Hrn := Lib.hid (fun y : Since w => rnew_calls w y (N : Int))
    have hif : (if 1 ≤ (N : Int) ∧ (N : Int) ≤ 256 then (0 : Int) else 1) = 0 := if_pos (by omega)
    rw [hif] at Hrn
    clear hif
    go_enter Try.func3, Try.ntmps3
    go_wp2_with (first
      | (go_at_call 13; refine (new_s w _ (N : Int) h1 (by omega)).mono ?_; rintro _ _ ⟨p, bm, y0, rfl, rfl, hz, hb, hR⟩; have HR := Lib.hid hR; have Hb := Lib.hid (Nat.le_trans x.b.size hb); clear hR hb hz)
      | (go_at_call 14; refine (rnew_calls y0.w (Since.self y0.w) (N : Int)).mono ?_; rintro _ _ ⟨rfl, z1, rfl⟩; rw [if_pos (show 1 ≤ (N : Int) ∧ (N : Int) ≤ 256 from ⟨h1, by omega⟩)]; replace HR := Lib.hid (HR.out.since z1); obtain ⟨y2, e2⟩ := y0.trans z1; rw [e2] at HR ⊢; clear e2))
    go_loopw [9, 10] (fun m i wr => ∃ (k : Nat) (a : Option Addr) (cap : Nat) (y : Since w), k ≤ l.length ∧ i = .int .i64 k ∧ m = .slice a (addAll N [] (l.take k)).length cap ∧ wr = y.w ∧ RepAt y.w p bm N (addAll N [] (l.take k)) ∧ EvRow y.w a (addAll N [] (l.take k)) ∧ (addAll N [] (l.take k)).length ≤ cap ∧ (a = none → cap = 0)) (fun _ i _ => l.length - (intOf i).toNat)
    case atStart => exact ⟨0, none, 0, _, by omega, rfl, rfl, rfl, HR.out, els_nil _ _, Nat.le_refl _, fun _ => rfl⟩
    case round =>
      obtain ⟨k, a, cap, y, hk, rfl, rfl, rfl, hR, hrow, hcap, hnil⟩ := hrel
      have HI := Lib.hid (inv_addAll (N := N) (l.take k) [] (inv_nil N))
      have hI5 := HI.out.len
      replace HR := Lib.hid hR; have Hrow := Lib.hid hrow; have Hnil := Lib.hid hnil
      clear hR hrow hnil
      by_cases hlt : k < l.length
      · obtain ⟨e, he⟩ : ∃ e, l[k]? = some e := ⟨_, List.getElem?_eq_getElem hlt⟩
        obtain ⟨b1, off1, rfl, h1'⟩ := Els.ev HL.out he
        have p0 := h1'.c0
        have p1 := h1'.c1
        have p2 := h1'.c2
        have p3 := h1'.c3
        have p4 := h1'.c4
        have p5 := h1'.c5
        have p6 := h1'.c6
        have p7 := h1'.c7
        have p8 := h1'.c8
        have Hnext := Lib.hid (addAll_take (N := N) he)
        have HI2 := Lib.hid (inv_addAll (N := N) (l.take (k + 1)) [] (inv_nil N))
        have hk0 : (0 : Int) ≤ (k : Int) := by omega
        have hkl : (k : Int) < (l.length : Int) := by omega
        clear h1' he
        generalize addAll N [] (l.take k) = Lk at *
        by_cases hk8 : (k : Int) % 8 = 7
        · have hk8' : ((k : Int) % 8 == 7) = true := by simpa using hk8
          have Hk8 := Lib.hid hk8
          clear hk8
          go_wp2_with (first
            | (go_at_call 15; refine (radd_s w _ N a Lk cap e Hrow.out hcap Hnil.out (by omega)).mono ?_; rintro _ _ ⟨a2, cap2, y1, rfl, rfl, hz, hc2, hn2, hrow⟩; replace HR := Lib.hid (HR.out.to hz); have Hrow2 := Lib.hid hrow; have Hnil2 := Lib.hid hn2; clear hz hrow hn2)
            | (go_at_call 16; refine (add_u w _ p bm N Lk e Hb.out HR.out).mono ?_; rintro _ _ ⟨rfl, y2, rfl, hR, hg⟩; replace Hrow2 := Lib.hid (Els.keepMap (fun x => by simp [Ev.cs]) Hrow2.out HR.out.m hg); replace HR := Lib.hid hR; clear hR hg)
            | (go_at_call 17; refine (is_s w _ p bm N (addL N Lk e) a2 cap2 sa seen sc HR.out (by rw [← Hnext.out]; exact HI2.out) (by omega) Hrow2.out (Since.row HS.out _) (by omega)).mono ?_; rintro _ _ ⟨rfl, y3, rfl, hz⟩; replace HR := Lib.hid (HR.out.to hz); replace Hrow2 := Lib.hid (Hrow2.out.to hz); clear hz))
          go_roundw
          case rel => exact ⟨k + 1, _, _, _, by omega, by go_num, by rw [Hnext.out], rfl, by rw [Hnext.out]; exact HR.out, by rw [Hnext.out]; exact Hrow2.out, by rw [Hnext.out]; exact hc2, Hnil2.out⟩
          case measure => simp [intOf]; omega
        · have hk8' : ((k : Int) % 8 == 7) = false := by simpa using hk8
          have Hk8 := Lib.hid hk8
          clear hk8
          go_wp2_with (first
            | (go_at_call 15; refine (radd_s w _ N a Lk cap e Hrow.out hcap Hnil.out (by omega)).mono ?_; rintro _ _ ⟨a2, cap2, y1, rfl, rfl, hz, hc2, hn2, hrow⟩; replace HR := Lib.hid (HR.out.to hz); have Hrow2 := Lib.hid hrow; have Hnil2 := Lib.hid hn2; clear hz hrow hn2)
            | (go_at_call 16; refine (add_u w _ p bm N Lk e Hb.out HR.out).mono ?_; rintro _ _ ⟨rfl, y2, rfl, hR, hg⟩; replace Hrow2 := Lib.hid (Els.keepMap (fun x => by simp [Ev.cs]) Hrow2.out HR.out.m hg); replace HR := Lib.hid hR; clear hR hg))
          go_roundw
          case rel => exact ⟨k + 1, _, _, _, by omega, by go_num, by rw [Hnext.out], rfl, by rw [Hnext.out]; exact HR.out, by rw [Hnext.out]; exact Hrow2.out, by rw [Hnext.out]; exact hc2, Hnil2.out⟩
          case measure => simp [intOf]; omega
      · obtain rfl : k = l.length := by omega
        generalize addAll N [] (l.take l.length) = Lk at *
        go_wp2_with (first
          | (go_at_call 17; refine (is_s w _ p bm N Lk a cap sa seen sc HR.out HI.out (by omega) Hrow.out (Since.row HS.out _) (by omega)).mono ?_; rintro _ _ ⟨rfl, y3, rfl, -⟩)
          | (go_at_call 12; refine (awake_s w _).mono ?_; rintro _ _ ⟨rfl, y4, rfl, -⟩))
        go_ret
        exact ⟨rfl, _, rfl⟩
  · have hno : ¬ (1 ≤ n ∧ n ≤ 256) := by omega
    have Hno := Lib.hid hno
    have HL := Lib.hid hl; have HS := Lib.hid hs
    have hn' : n < 1 ∨ 256 < n := by omega
    clear hl hs hn hno hn20
    rcases hn' with hn' | hn'
    all_goals
      rcases (by omega : l.length = 0 ∨ 0 < l.length) with h0 | h0
      all_goals
        have H0 := Lib.hid h0
        go_enter Try.func3, Try.ntmps3
        go_wp2_with (first
          | (go_at_call 13; refine (new_no w _ n Hno.out).mono ?_; rintro _ _ ⟨rfl, y1, rfl, -⟩)
          | (go_at_call 14; refine (rnew_calls w _ n).mono ?_; rintro _ _ ⟨rfl, y2, rfl⟩; rw [if_neg Hno.out])
          | (go_at_call 12; refine (awake_s w _).mono ?_; rintro _ _ ⟨rfl, y4, rfl, -⟩))
        go_loopw [10] (fun i wr => ∃ y : Since w, i = .int .i64 0 ∧ wr = y.w) (fun _ _ => 0)
        case atStart => exact ⟨_, rfl, rfl⟩
        case round =>
          obtain ⟨y, rfl, rfl⟩ := hrel
          go_wp2_with (go_at_call 12; refine (awake_s w _).mono ?_; rintro _ _ ⟨rfl, y4, rfl, -⟩)
          go_ret
          exact ⟨rfl, _, rfl⟩
end Go.Proofs.Ytcpfogbjbinjcaa
