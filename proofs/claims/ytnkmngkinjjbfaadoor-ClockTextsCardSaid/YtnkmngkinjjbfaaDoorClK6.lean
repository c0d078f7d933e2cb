/- The laws of texts, walked: ClockTexts and ClockRoundTrip. -/
import Derived.Test.YtnkmngkinjjbfaaDoorClL2
set_option linter.all false
namespace Go.Proofs.YtnkmngkinjjbfaaDoor
open Go.RowKit

theorem text_u (w : World) (x : Since w) (hT : Tabs w) (t : Int) (S : ByteArray) (hS : S.data.toList = textL t) :
    Calls Tryd.prog 12 #[.int .i64 t] x.w fun o w' => o = .returned (.tuple #[.string S, .int .i64 (momE t)]) ∧ ∃ y : Since w, w' = y.w := by
  refine (text_calls w x hT t).mono ?_
  rintro _ _ ⟨R, y, rfl, rfl, hR⟩
  have : R = S := by
    rw [bytes_eq hR, bytes_eq hS]
  subst this
  exact ⟨rfl, y, rfl⟩
theorem rtext_u (w : World) (x : Since w) (t : Int) (S : ByteArray) (hS : S.data.toList = textL t) :
    Calls Tryd.prog 13 #[.int .i64 t] x.w fun o w' => o = .returned (.tuple #[.string S, .int .i64 (momE t)]) ∧ ∃ y : Since w, w' = y.w := by
  refine (rtext_calls w x t).mono ?_
  rintro _ _ ⟨R, y, rfl, rfl, hR⟩
  have : R = S := by
    rw [bytes_eq hR, bytes_eq hS]
  subst this
  exact ⟨rfl, y, rfl⟩
theorem textL_is (t : Int) : ∃ S : ByteArray, S.data.toList = textL t := ⟨⟨(textL t).toArray⟩, by simp⟩
set_option maxRecDepth 100000 in
set_option maxHeartbeats 8000000 in
theorem clockTexts_calls (w : World) (x : Since w) (hT : Tabs w) (t : Int) (s : ByteArray) (hs : s.size ≤ 9223372036854775807) :
    Calls Tryd.prog 3 #[.int .i64 t, .string s] x.w fun o w' => o = .returned (.bool true) ∧ ∃ y : Since w, w' = y.w := by
  have HT := Lib.hid hT
  clear hT
  by_cases hl : s.size ≤ 100
  · obtain ⟨S, hS⟩ := textL_is t
    have he2 : (momE t == momE t) = true := by simp
    have C1 := Lib.hid (fun y : Since w => text_u w y HT.out t S hS)
    have C2 := Lib.hid (fun y : Since w => rtext_u w y t S hS)
    have C3 := Lib.hid (fun y : Since w => parse_calls w y HT.out s hl)
    have C4 := Lib.hid (fun y : Since w => rparse_calls w y s hl)
    clear hS
    go_enter Tryd.func3, Tryd.ntmps3
    go_wp2_with fail
    refine (C1.out x).mono ?_
    rintro _ _ ⟨rfl, y1, rfl⟩
    go_wp2_with fail
    refine (C2.out y1).mono ?_
    rintro _ _ ⟨rfl, y2, rfl⟩
    go_wp2_with fail
    refine (C3.out y2).mono ?_
    rintro _ _ ⟨n, e, y3, rfl, rfl, hp⟩
    have Hp := Lib.hid hp
    clear hp
    go_wp2_with fail
    refine (C4.out y3).mono ?_
    rintro _ _ ⟨m, f, y4, rfl, rfl, hp⟩
    obtain ⟨rfl, rfl⟩ := hp.unique Hp.out
    have he3 : (m == m) = true := by simp
    have he4 : (f == f) = true := by simp
    clear hp Hp
    go_wp2_with (go_at_call 11; ((with_reducible refine (awake_calls w y4 HT.out).mono ?_); rintro _ _ ⟨rfl, yz, rfl⟩))
    go_ret
    exact ⟨rfl, yz, rfl⟩
  · have hl2 : (100 : Int) < (s.size : Int) := by omega
    clear hl
    go_enter Tryd.func3, Tryd.ntmps3
    go_wp2_with (go_at_call 11; ((with_reducible refine (awake_calls w x HT.out).mono ?_); rintro _ _ ⟨rfl, yz, rfl⟩))
    go_ret
    exact ⟨rfl, yz, rfl⟩
theorem textN_small {n : Nat} (h : n ≤ 4294943999) : (textN n).length ≤ 100 := by
  rw [textN_length]
  have := nDigits_le (n := n / 86400) (by omega)
  omega
theorem par_text {t : Int} (h0 : 0 ≤ t) (h1 : t ≤ 4294943999) {n e : Int} (hp : ParOk (textL t) n e) : n = t ∧ e = 0 := by
  have h2 : textL t = textN t.toNat := if_pos ⟨h0, h1⟩
  obtain ⟨a, b⟩ := hp.ok t.toNat (by omega) h2.symm
  exact ⟨by omega, b⟩
set_option maxRecDepth 100000 in
set_option maxHeartbeats 8000000 in
theorem clockRoundTrip_calls (w : World) (x : Since w) (hT : Tabs w) (t : Int) (s : ByteArray) (hs : s.size ≤ 9223372036854775807) :
    Calls Tryd.prog 4 #[.int .i64 t, .string s] x.w fun o w' => o = .returned (.bool true) ∧ ∃ y : Since w, w' = y.w := by
  have HT := Lib.hid hT
  clear hT
  by_cases hl : s.size ≤ 100
  · obtain ⟨S, hS⟩ := textL_is t
    have C1 := Lib.hid (fun y : Since w => text_u w y HT.out t S hS)
    have C3 := Lib.hid (fun y : Since w => parse_calls w y HT.out s hl)
    have Cend := Lib.hid (fun y : Since w => awake_calls w y HT.out)
    have HS := Lib.hid hS
    clear hS
    go_enter Tryd.func4, Tryd.ntmps4
    go_wp2_with fail
    refine (C1.out x).mono ?_
    rintro _ _ ⟨rfl, y1, rfl⟩
    by_cases hr : 0 ≤ t ∧ t ≤ 4294943999
    case' pos =>
      have he : momE t = 0 := if_pos hr
      rw [he]
      have C2 := Lib.hid (parse_calls w y1 HT.out S (by
        have h2 : textL t = textN t.toNat := if_pos hr
        have h3 := textN_small (n := t.toNat) (by omega)
        rw [← h2, ← HS.out] at h3
        simpa using h3))
      have Hr := Lib.hid hr
      clear he hr
      go_wp2_with fail
      refine C2.out.mono ?_
      rintro _ _ ⟨n, e, y2, rfl, rfl, hp⟩
      obtain ⟨rfl, rfl⟩ := par_text Hr.out.1 Hr.out.2 (HS.out ▸ hp)
      clear hp C2 Hr
      have hne : (n != n) = false := by simp
      go_wp2_with fail
    case' neg =>
      have he : momE t = 1 := if_neg hr
      rw [he]
      clear he hr
      obtain ⟨y2, hy2⟩ : ∃ z : Since w, z = y1 := ⟨_, rfl⟩
      subst hy2
      go_wp2_with fail
    all_goals
      refine (C3.out y2).mono ?_
      rintro _ _ ⟨m, f, y3, rfl, rfl, hp⟩
      clear C3 C1 HS
      by_cases hx : ∃ k : Nat, k ≤ 4294943999 ∧ textN k = s.data.toList
      · obtain ⟨k, hk, hks⟩ := hx
        obtain ⟨rfl, rfl⟩ := hp.ok k hk hks
        have C5 := Lib.hid (text_u w y3 HT.out (k : Int) s (by rw [textL_yes hk, hks]))
        have hm : momE (k : Int) = 0 := if_pos ⟨by omega, by omega⟩
        rw [hm] at C5
        clear hp hm hks
        go_wp2_with (first | (go_at_call 12; ((with_reducible refine C5.out.mono ?_); rintro _ _ ⟨rfl, y4, rfl⟩)) | (go_at_call 11; ((with_reducible refine (Cend.out y4).mono ?_); rintro _ _ ⟨rfl, yz, rfl⟩)))
        go_ret
        exact ⟨rfl, yz, rfl⟩
      · obtain ⟨rfl, rfl⟩ := hp.no fun k hk hks => hx ⟨k, hk, hks⟩
        clear hp hx
        go_wp2_with (go_at_call 11; ((with_reducible refine (Cend.out y3).mono ?_); rintro _ _ ⟨rfl, yz, rfl⟩))
        go_ret
        exact ⟨rfl, yz, rfl⟩
  · have hl2 : (100 : Int) < (s.size : Int) := by omega
    clear hl
    go_enter Tryd.func4, Tryd.ntmps4
    go_wp2_with (go_at_call 11; ((with_reducible refine (awake_calls w x HT.out).mono ?_); rintro _ _ ⟨rfl, yz, rfl⟩))
    go_ret
    exact ⟨rfl, yz, rfl⟩
end Go.Proofs.YtnkmngkinjjbfaaDoor
