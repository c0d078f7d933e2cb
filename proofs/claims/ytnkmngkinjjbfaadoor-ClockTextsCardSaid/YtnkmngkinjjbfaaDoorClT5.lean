/- Texts of moments, fifth part: Parse by the reference. -/
import Derived.Test.YtnkmngkinjjbfaaDoorClT4
set_option linter.all false
namespace Go.Proofs.YtnkmngkinjjbfaaDoor
open Go.RowKit

theorem dig_text {l a b c d : List UInt8} (p : Parts l a b c d) {n : Nat} (hn : n ≤ 4294943999) (hl : textN n = l) : digV a = ((n / 86400 : Nat) : Int) ∧ digV b = ((n % 86400 / 3600 : Nat) : Int) ∧ digV c = ((n % 86400 / 60 % 60 : Nat) : Int) ∧ digV d = ((n % 86400 % 60 : Nat) : Int) := by
  obtain ⟨rfl, rfl, rfl, rfl⟩ := parts_text p hl
  exact ⟨digV_dec _ (by omega), digV_two _ (by omega), digV_two _ (by omega), digV_two _ (by omega)⟩
theorem long_text {l : List UInt8} (h : 14 < l.length) : ∀ n : Nat, n ≤ 4294943999 → textN n ≠ l := fun n hn hl => by
  have h1 := textN_length n
  have h2 : (Lib.decDigits (n / 86400)).length ≤ 5 := by
    rw [Lib.decDigits_length]
    have : n / 86400 ≤ 49709 := by omega
    have h3 : Lib.nDigits (n / 86400) < 6 := by
      rcases Nat.lt_or_ge (Lib.nDigits (n / 86400)) 6 with h | h
      · exact h
      · exfalso
        rcases (by omega : n / 86400 < 10 ∨ (10 ≤ n / 86400 ∧ n / 86400 < 100) ∨ (100 ≤ n / 86400 ∧ n / 86400 < 1000) ∨ (1000 ≤ n / 86400 ∧ n / 86400 < 10000) ∨ (10000 ≤ n / 86400 ∧ n / 86400 < 100000)) with k | k | k | k | k
        · rw [Lib.nDigits_small k] at h; omega
        · rw [Lib.nDigits_unique 1 _ (by omega) (by omega)] at h; omega
        · rw [Lib.nDigits_unique 2 _ (by omega) (by omega)] at h; omega
        · rw [Lib.nDigits_unique 3 _ (by omega) (by omega)] at h; omega
        · rw [Lib.nDigits_unique 4 _ (by omega) (by omega)] at h; omega
    omega
  rw [hl] at h1
  omega
set_option maxRecDepth 100000 in
set_option maxHeartbeats 8000000 in
theorem rparse_calls (w : World) (x : Since w) (s : ByteArray) (hs : s.size ≤ 100) :
    Calls Tryd.prog 15 #[.string s] x.w (ParRes w s.data.toList) := by
  have Hno := Lib.hid (fun (h : ∀ n : Nat, n ≤ 4294943999 → textN n ≠ s.data.toList) (y : Since w) => parRes 0 3 y (parOk_no h))
  have Hyes := Lib.hid (fun (n : Nat) (h : n ≤ 4294943999) (hl : textN n = s.data.toList) (t : Int) (ht : t = n) (y : Since w) => show ParRes w s.data.toList (.returned (.tuple #[.int .i64 t, .int .i64 0])) y.w by subst ht; rw [← hl]; exact parRes n 0 y (parOk_yes h))
  have Hlen := Lib.hid (show s.data.toList.length = s.size by simp)
  rcases (by omega : s.size < 10 ∨ 14 < s.size ∨ (10 ≤ s.size ∧ s.size ≤ 14)) with h9 | h9 | ⟨h9, h14⟩
  · have Hn := Lib.hid (Hno.out (short_text (by rw [Hlen.out]; exact h9)))
    have h2 : (s.size : Int) - 9 < 1 := by omega
    generalize ParRes w s.data.toList = PO at *
    clear Hno Hyes
    go_enter Tryd.func15, Tryd.ntmps15
    go_wp2_with fail
    exact Hn.out x
  · have Hn := Lib.hid (Hno.out (long_text (by rw [Hlen.out]; exact h9)))
    have h2 : ¬ (s.size : Int) - 9 < 1 := by omega
    have h3 : 5 < (s.size : Int) - 9 := by omega
    generalize ParRes w s.data.toList = PO at *
    clear Hno Hyes
    go_enter Tryd.func15, Tryd.ntmps15
    go_wp2_with fail
    exact Hn.out x
  · obtain ⟨m, hm⟩ : ∃ m : Nat, s.size = m + 9 := ⟨s.size - 9, by omega⟩
    have Hm := Lib.hid hm
    have HP := Lib.hid (parts_of s m hm (by omega))
    have hm0 : (0 : Int) ≤ (m : Int) := by omega
    have hm1 : (1 : Int) ≤ (m : Int) := by omega
    have hm5 : (m : Int) ≤ 5 := by omega
    have hm9 : (m : Int) ≤ (s.size : Int) := by omega
    have hmm : (m : Int) ≤ (m : Int) + 9 := by omega
    have w1 : IntKind.i64.wrap ((m : Int) + 1) = (m : Int) + 1 := IntWalk.i64_in _ (by omega)
    have w3 : IntKind.i64.wrap ((m : Int) + 3) = (m : Int) + 3 := IntWalk.i64_in _ (by omega)
    have w4 : IntKind.i64.wrap ((m : Int) + 4) = (m : Int) + 4 := IntWalk.i64_in _ (by omega)
    have w6 : IntKind.i64.wrap ((m : Int) + 6) = (m : Int) + 6 := IntWalk.i64_in _ (by omega)
    have w7 : IntKind.i64.wrap ((m : Int) + 7) = (m : Int) + 7 := IntWalk.i64_in _ (by omega)
    have p1 : (0 : Int) ≤ (m : Int) + 1 := by omega
    have p3 : (0 : Int) ≤ (m : Int) + 3 := by omega
    have p4 : (0 : Int) ≤ (m : Int) + 4 := by omega
    have p6 : (0 : Int) ≤ (m : Int) + 6 := by omega
    have p7 : (0 : Int) ≤ (m : Int) + 7 := by omega
    have z0 : (s.extract 0 m).size ≤ 5 := by rw [ByteArray.size_extract]; omega
    have z1 : (s.extract (m + 1) (m + 3)).size ≤ 5 := by rw [ByteArray.size_extract]; omega
    have z2 : (s.extract (m + 4) (m + 6)).size ≤ 5 := by rw [ByteArray.size_extract]; omega
    have z3 : (s.extract (m + 7) (m + 9)).size ≤ 5 := by rw [ByteArray.size_extract]; omega
    have hc : ∀ (A : ByteArray), A.size ≤ 5 → ∀ y : Since x.w, Calls Tryd.prog 44 #[.string A] y.w fun o w' => o = .returned (.int .i64 (digV A.data.toList)) ∧ ∃ z : Since x.w, w' = z.w := fun A hA y => (digits_calls y.w A hA).mono fun o w' ⟨h1, h2⟩ => ⟨h1, y, h2.symm⟩
    have Hc := Lib.hid hc
    clear hc
    have Ha := Lib.hid (Hc.out _ z0)
    have Hb := Lib.hid (Hc.out _ z1)
    have Hcc := Lib.hid (Hc.out _ z2)
    have Hd := Lib.hid (Hc.out _ z3)
    have Hdig := Lib.hid (fun (n : Nat) (hn : n ≤ 4294943999) (hl : textN n = s.data.toList) => dig_text HP.out hn hl)
    clear z0 z1 z2 z3 Hc HP
    generalize digV (s.extract 0 m).data.toList = da at *
    generalize digV (s.extract (m + 1) (m + 3)).data.toList = db at *
    generalize digV (s.extract (m + 4) (m + 6)).data.toList = dc at *
    generalize digV (s.extract (m + 7) (m + 9)).data.toList = dd at *
    generalize ParRes w s.data.toList = PO at *
    go_enter Tryd.func15, Tryd.ntmps15
    go_wp2_with fail
    obtain ⟨q0, hq0⟩ := Since.refl x.w
    rw [hq0]
    clear hq0
    refine wp_region_since (by kernel_rfl) (by kernel_rfl) ?_
    repeat (go_big_quiet_step ((go_at_call 44; (first | (with_reducible exact Ha.out _) | (with_reducible exact Hb.out _) | (with_reducible exact Hcc.out _) | (with_reducible exact Hd.out _)))))
    refine wpQuiet_nil ?_
    rintro _ ⟨y1, rfl⟩
    obtain ⟨y2, h2⟩ := x.trans y1
    rw [h2]
    clear h2 w1 w3 w4 w6 w7 p1 p3 p4 p6 p7 hm Ha Hb Hcc Hd
    by_cases hg : (0 ≤ da ∧ da ≤ 49709) ∧ (0 ≤ db ∧ db ≤ 23) ∧ (0 ≤ dc ∧ dc ≤ 59) ∧ (0 ≤ dd ∧ dd ≤ 59)
    · obtain ⟨⟨a1, a2⟩, ⟨b1, b2⟩, ⟨c1, c2⟩, ⟨d1, d2⟩⟩ := hg
      have a3 : ¬ da < 0 := by omega
      have b3 : ¬ db < 0 := by omega
      have c3 : ¬ dc < 0 := by omega
      have d3 : ¬ dd < 0 := by omega
      have He : momE (da * 86400 + db * 3600 + dc * 60 + dd) = 0 := if_pos ⟨by omega, by omega⟩
      have Hr := Lib.hid (show 0 ≤ da * 86400 + db * 3600 + dc * 60 + dd ∧ da * 86400 + db * 3600 + dc * 60 + dd ≤ 4294943999 from ⟨by omega, by omega⟩)
      have Hs := Lib.hid (fun (n : Nat) (hn : n ≤ 4294943999) (hl : textN n = s.data.toList) => show da * 86400 + db * 3600 + dc * 60 + dd = (n : Int) by
        obtain ⟨e1, e2, e3, e4⟩ := Hdig.out n hn hl
        rw [e1, e2, e3, e4]; exact text_time n)
      have Htx := Lib.hid (rtext_calls w y2 (da * 86400 + db * 3600 + dc * 60 + dd))
      unfold TextRes at Htx
      rw [He] at Htx
      clear He Hdig
      go_wp2_with (go_at_call 13; ((with_reducible refine Htx.out.mono ?_); rintro _ _ ⟨S, y3, rfl, rfl, hS⟩; have HS := Lib.hid hS; clear hS))
      · rename_i hne
        refine Hno.out (fun n hn hl => ?_) y3
        have hT := Hs.out n hn hl
        have h2 := HS.out
        rw [hT, textL_yes hn, hl] at h2
        have h3 : S = s := by cases S; cases s; simp at h2; simp [h2]
        rw [h3] at hne
        simp at hne
      · rename_i heq
        have h3 : S.data.toList = s.data.toList := by rw [← toL, ← toL]; simpa using heq
        have hr := Hr.out
        refine Hyes.out (da * 86400 + db * 3600 + dc * 60 + dd).toNat (by omega) ?_ _ (by omega) y3
        rw [← h3, HS.out]
        unfold textL
        rw [if_pos hr]
    · have HB := Lib.hid (Hno.out (fun n hn hl => by obtain ⟨e1, e2, e3, e4⟩ := Hdig.out n hn hl; omega))
      clear Hdig
      rcases (by omega : da < 0 ∨ (0 ≤ da ∧ 49709 < da) ∨ ((0 ≤ da ∧ da ≤ 49709) ∧ db < 0) ∨ ((0 ≤ da ∧ da ≤ 49709) ∧ 23 < db) ∨ ((0 ≤ da ∧ da ≤ 49709) ∧ (0 ≤ db ∧ db ≤ 23) ∧ dc < 0) ∨ ((0 ≤ da ∧ da ≤ 49709) ∧ (0 ≤ db ∧ db ≤ 23) ∧ 59 < dc) ∨ ((0 ≤ da ∧ da ≤ 49709) ∧ (0 ≤ db ∧ db ≤ 23) ∧ (0 ≤ dc ∧ dc ≤ 59) ∧ dd < 0) ∨ ((0 ≤ da ∧ da ≤ 49709) ∧ (0 ≤ db ∧ db ≤ 23) ∧ (0 ≤ dc ∧ dc ≤ 59) ∧ 59 < dd)) with h | ⟨h, h'⟩ | ⟨⟨h, h'⟩, h2⟩ | ⟨⟨h, h'⟩, h2⟩ | ⟨⟨h, h'⟩, ⟨i, i'⟩, h2⟩ | ⟨⟨h, h'⟩, ⟨i, i'⟩, h2⟩ | ⟨⟨h, h'⟩, ⟨i, i'⟩, ⟨j, j'⟩, h2⟩ | ⟨⟨h, h'⟩, ⟨i, i'⟩, ⟨j, j'⟩, h2⟩
      all_goals
        clear hg
        try have h3 : ¬ da < 0 := by omega
        try have i3 : ¬ db < 0 := by omega
        try have j3 : ¬ dc < 0 := by omega
        try have k3 : ¬ dd < 0 := by omega
        go_wp2_with fail
        exact HB.out y2
end Go.Proofs.YtnkmngkinjjbfaaDoor
