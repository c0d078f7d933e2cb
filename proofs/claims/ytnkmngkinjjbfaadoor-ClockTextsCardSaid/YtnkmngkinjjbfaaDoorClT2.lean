/- Texts of moments, second part: numerals by the reference. -/
import Derived.Test.YtnkmngkinjjbfaaDoorClT1
set_option linter.all false
namespace Go.Proofs.YtnkmngkinjjbfaaDoor
open Go.RowKit

theorem bytes_eq {S : ByteArray} {l : List UInt8} (h : S.data.toList = l) : S = ⟨l.toArray⟩ := by
  subst h; rfl
theorem bytes_cons (c : UInt8) (S : ByteArray) : ((⟨#[c]⟩ : ByteArray) ++ S).data.toList = c :: S.data.toList := by
  simp
set_option maxRecDepth 100000 in
set_option maxHeartbeats 4000000 in
theorem decimal_calls (w : World) (x : Since w) (n : Nat) (hn : n ≤ 100000) :
    Calls Tryd.prog 41 #[.int .i64 (n : Int)] x.w fun o w' => o = .returned (.string ⟨(Lib.decDigits n).toArray⟩) ∧ ∃ y : Since w, w' = y.w := by
  go_enter Tryd.func41, Tryd.ntmps41
  go_wp2_with fail
  go_loopw [0, 3, 4] (fun sn ss si wr => ∃ (m i : Nat) (S : ByteArray) (y : Since w), i ≤ 20 ∧ sn = .int .i64 (m : Int) ∧ ss = .string S ∧ si = .int .i64 (i : Int) ∧ wr = y.w ∧ DecInv n i m S.data.toList ∧ S.size ≤ i) (fun _ _ si _ => 20 - (intOf si).toNat)
  case atStart => exact ⟨n, 0, ⟨#[]⟩, x, by omega, rfl, rfl, rfl, rfl, decInv_start n, by simp [ByteArray.size]⟩
  case round =>
    obtain ⟨m, i, S, y, hi, rfl, rfl, rfl, rfl, hd, hsz⟩ := hrel
    have HD := Lib.hid hd
    have hm := hd.le
    clear hd
    have hm0 : (0 : Int) ≤ (m : Int) := by omega
    have hm1 : (m : Int) ≤ 100000 := by omega
    by_cases hc : i < 20 ∧ (0 < m ∨ i = 0)
    · have Hst := Lib.hid (HD.out.step hc.2)
      have hi0 : (0 : Int) ≤ (i : Int) := by omega
      have hi1 : (i : Int) < 20 := by omega
      have hcv := conv_one (P := Tryd.prog) y.w 59 9 5 (48 + m % 10) (by omega) Tryd.underlying59 Tryd.underlying5 Tryd.underlying9
      simp only [Int.natCast_add, Int.natCast_emod, Int.cast_ofNat_Int] at hcv
      obtain ⟨T, hT⟩ : ∃ T : ByteArray, T = ⟨#[UInt8.ofNat (48 + m % 10)]⟩ := ⟨_, rfl⟩
      rw [← hT] at hcv
      have HS := Lib.hid (show DecInv n (i + 1) (m / 10) (T ++ S).data.toList by rw [hT, bytes_cons]; exact Hst.out)
      have Hcv := Lib.hid hcv
      have w2 : IntKind.u8.wrap (48 + (m : Int) % 10) = 48 + (m : Int) % 10 := by unfold IntKind.wrap; simp [IntKind.signed, IntKind.bits]; omega
      clear hcv Hst
      have hts : T.size + S.size ≤ 9223372036854775807 := by rw [hT]; show 1 + S.size ≤ _; omega
      have hts2 : (T ++ S).size ≤ i + 1 := by rw [ByteArray.size_append, hT]; show 1 + S.size ≤ _; omega
      have Hts := Lib.hid hts2
      clear hT hts2 hsz
      by_cases h0 : 0 < m
      · have hb2 : (0 : Int) < (m : Int) := by omega
        clear h0 hc
        go_wp2_with fail
        rw [Hcv.out]
        go_wp2_with fail
        obtain ⟨y5, h5⟩ := y.alloc (.cells #[.int .u8 (48 + (m : Int) % 10)] 5)
        rw [h5]
        clear h5
        go_roundw
        case rel => exact ⟨m / 10, i + 1, T ++ S, y5, by omega, by go_num, rfl, by go_num, rfl, HS.out, Hts.out⟩
        case measure => simp [intOf] <;> omega
      · obtain rfl : m = 0 := by omega
        obtain rfl : i = 0 := by omega
        clear h0 hc
        have hcv := Hcv.out
        simp only [Int.natCast_zero, Int.zero_emod, Int.add_zero] at hcv
        clear Hcv w2
        have Hcv := Lib.hid hcv
        clear hcv
        go_wp2_with fail
        rw [Hcv.out]
        go_wp2_with fail
        obtain ⟨y5, h5⟩ := y.alloc (.cells #[.int .u8 48] 5)
        rw [h5]
        clear h5
        go_roundw
        case rel => exact ⟨0 / 10, 0 + 1, T ++ S, y5, by omega, by go_num, rfl, by go_num, rfl, HS.out, Hts.out⟩
        case measure => simp [intOf] <;> omega
    · have hmz : m = 0 := by
        rcases Nat.lt_or_ge i 20 with h | h
        · omega
        · obtain rfl : i = 20 := by omega
          exact HD.out.low hn
      subst hmz
      have hip : 0 < i := by omega
      have HE := Lib.hid (show Ending.returned (.string S) = .returned (.string ⟨(Lib.decDigits n).toArray⟩) by rw [bytes_eq (HD.out.done hip)])
      have hi0 : (0 : Int) < (i : Int) := by omega
      have hiz : ((i : Int) == 0) = false := by simp; omega
      clear hc HD
      by_cases h20 : (i : Int) < 20
      all_goals
        go_wp2_with fail
        go_ret
        exact ⟨HE.out, y, rfl⟩
set_option maxRecDepth 100000 in
set_option maxHeartbeats 4000000 in
theorem digits_calls (w : World) (s : ByteArray) (hs : s.size ≤ 5) :
    Calls Tryd.prog 44 #[.string s] w fun o w' => o = .returned (.int .i64 (digV s.data.toList)) ∧ w = w' := by
  have Hl := Lib.hid (show s.data.toList.length = s.size from by simp)
  go_enter Tryd.func44, Tryd.ntmps44
  go_wp2_with fail
  go_loop [3, 4] (fun sn si => ∃ (acc k : Nat), k ≤ s.size ∧ sn = .int .i64 (acc : Int) ∧ si = .int .i64 (k : Int) ∧ DigInv s.data.toList k acc) (fun _ si => s.size - (intOf si).toNat)
  case atStart => exact ⟨0, 0, by omega, rfl, rfl, digInv_start _⟩
  case round =>
    obtain ⟨acc, k, hk, rfl, rfl, hd⟩ := hrel
    have HD := Lib.hid hd
    have hab := hd.bound (by omega)
    clear hd
    by_cases hlt : k < s.size
    · have hg : s.data.toList[k]? = some s[k] := by
        rw [List.getElem?_eq_getElem (by simpa using hlt)]; rfl
      have Hbad := Lib.hid (HD.out.bad hg)
      have Hst := Lib.hid (HD.out.step hg (by omega))
      have hc8 : (s[k].toNat : Int) < 256 := by have := UInt8.toNat_lt s[k]; omega
      clear hg HD
      have hk0 : (0 : Int) ≤ (k : Int) := by omega
      have hkl : (k : Int) < (s.size : Int) := by omega
      rcases (by omega : s[k].toNat < 48 ∨ 57 < s[k].toNat ∨ (48 ≤ s[k].toNat ∧ s[k].toNat ≤ 57)) with h | h | ⟨h, h'⟩
      · have Hv := Lib.hid (Hbad.out (Or.inl h))
        have h2 : (s[k].toNat : Int) < 48 := by omega
        clear Hbad Hst
        go_wp2_with fail
        go_ret
        exact ⟨ret_int Hv.out.symm, rfl⟩
      · have Hv := Lib.hid (Hbad.out (Or.inr h))
        have h2 : 57 < (s[k].toNat : Int) := by omega
        have h3 : ¬ (s[k].toNat : Int) < 48 := by omega
        clear Hbad Hst
        go_wp2_with fail
        go_ret
        exact ⟨ret_int Hv.out.symm, rfl⟩
      · have HS := Lib.hid (Hst.out h h')
        have h2 : 48 ≤ (s[k].toNat : Int) := by omega
        have h3 : (s[k].toNat : Int) ≤ 57 := by omega
        clear Hbad Hst
        go_wp2_with fail
        go_round
        case rel => exact ⟨acc * 10 + (s[k].toNat - 48), k + 1, by omega, by go_num, by go_num, HS.out⟩
        case measure => simp [intOf] <;> omega
    · obtain rfl : k = s.size := by omega
      have HE := Lib.hid (show Ending.returned (.int .i64 (acc : Int)) = .returned (.int .i64 (digV s.data.toList)) by rw [DigInv.done (by rw [Hl.out]; exact HD.out)])
      clear HD
      go_wp2_with fail
      go_ret
      exact ⟨HE.out, rfl⟩
end Go.Proofs.YtnkmngkinjjbfaaDoor
