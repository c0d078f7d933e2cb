/- Texts of moments, third part: Text, by the program and by the reference. -/
import Derived.Test.YtnkmngkinjjbfaaDoorClTLay
import Derived.Test.YtnkmngkinjjbfaaDoorClT2
set_option linter.all false
namespace Go.Proofs.YtnkmngkinjjbfaaDoor
open Go.RowKit

/-- the text of a moment, none if it is none -/
def textL (t : Int) : List UInt8 := if 0 ≤ t ∧ t ≤ 4294943999 then textN t.toNat else []
theorem textL_yes {n : Nat} (h : n ≤ 4294943999) : textL (n : Int) = textN n := by
  unfold textL; rw [if_pos ⟨by omega, by omega⟩, Int.toNat_natCast]
theorem textL_no {t : Int} (h : ¬ (0 ≤ t ∧ t ≤ 4294943999)) : textL t = [] := if_neg h
def TextRes (w : World) (t : Int) (o : Ending) (w' : World) : Prop := ∃ (S : ByteArray) (y : Since w), o = .returned (.tuple #[.string S, .int .i64 (momE t)]) ∧ w' = y.w ∧ S.data.toList = textL t
theorem textRes {w : World} {t : Int} (S : ByteArray) (e : Int) (y : Since w) (h : S.data.toList = textL t) (he : momE t = e) : TextRes w t (.returned (.tuple #[.string S, .int .i64 e])) y.w := by
  subst he; exact ⟨S, y, rfl, rfl, h⟩
theorem nDigits_le {n : Nat} (h : n < 1000000) : (Lib.decDigits n).length ≤ 6 := by
  rw [Lib.decDigits_length]
  rcases (by omega : n < 10 ∨ (10 ≤ n ∧ n < 100) ∨ (100 ≤ n ∧ n < 1000) ∨ (1000 ≤ n ∧ n < 10000) ∨ (10000 ≤ n ∧ n < 100000) ∨ (100000 ≤ n ∧ n < 1000000)) with h | h | h | h | h | h
  · rw [Lib.nDigits_small h]; decide
  · rw [Lib.nDigits_unique 1 n (by omega) (by omega)]; decide
  · rw [Lib.nDigits_unique 2 n (by omega) (by omega)]; decide
  · rw [Lib.nDigits_unique 3 n (by omega) (by omega)]; decide
  · rw [Lib.nDigits_unique 4 n (by omega) (by omega)]; decide
  · rw [Lib.nDigits_unique 5 n (by omega) (by omega)]; decide
theorem bytes_app (S T : ByteArray) : (S ++ T).data.toList = S.data.toList ++ T.data.toList := by simp
set_option maxRecDepth 100000 in
set_option maxHeartbeats 4000000 in
theorem text_calls (w : World) (x : Since w) (hT : Tabs w) (t : Int) :
    Calls Tryd.prog 12 #[.int .i64 t] x.w (TextRes w t) := by
  have Hp := Lib.hid (fun (S : ByteArray) (e : Int) (y : Since w) (h : S.data.toList = textL t) (he : momE t = e) => textRes S e y h he)
  have HT := Lib.hid hT
  clear hT
  rcases (by omega : t < 0 ∨ 4294943999 < t ∨ (0 ≤ t ∧ t ≤ 4294943999)) with h | h | ⟨h, h'⟩
  case inl =>
    have He := Lib.hid (show momE t = 1 from if_neg (by omega))
    have Ht := Lib.hid (show (⟨#[]⟩ : ByteArray).data.toList = textL t by rw [textL_no (by omega)])
    generalize TextRes w t = PO at *
    go_enter Tryd.func12, Tryd.ntmps12
    go_wp2_with (go_at_call 38; ((with_reducible refine (moment_calls _ _ false (decide_eq_false (by omega))).mono ?_); rintro _ _ ⟨rfl, rfl⟩))
    exact Hp.out _ _ x Ht.out He.out
  case inr.inl =>
    have He := Lib.hid (show momE t = 1 from if_neg (by omega))
    have Ht := Lib.hid (show (⟨#[]⟩ : ByteArray).data.toList = textL t by rw [textL_no (by omega)])
    generalize TextRes w t = PO at *
    go_enter Tryd.func12, Tryd.ntmps12
    go_wp2_with (go_at_call 38; ((with_reducible refine (moment_calls _ _ false (decide_eq_false (by omega))).mono ?_); rintro _ _ ⟨rfl, rfl⟩))
    exact Hp.out _ _ x Ht.out He.out
  case inr.inr =>
    have He := Lib.hid (show momE t = 0 from if_pos ⟨h, h'⟩)
    generalize TextRes w t = PO at *
    go_enter Tryd.func12, Tryd.ntmps12
    go_upto_region 4 with (go_at_call 38; ((with_reducible refine (moment_calls _ _ true (decide_eq_true ⟨h, h'⟩)).mono ?_); rintro _ _ ⟨rfl, rfl⟩))
    obtain ⟨n, hn⟩ : ∃ n : Nat, t = n := ⟨t.toNat, by omega⟩
    have hn9 : n ≤ 4294943999 := by omega
    have Hn := Lib.hid hn
    clear hn
    go_wp2_with fail
    refine (itoa_i w x HT.out (t / 86400) (n / 86400) (by have := Hn.out; omega) (by omega)).mono ?_
    rintro _ _ ⟨S0, y1, rfl, rfl, hS0, hq0⟩
    have HS0 := Lib.hid hS0
    have hz0 : S0.size ≤ 6 := by rw [hq0]; exact nDigits_le (by omega)
    clear hS0 hq0
    go_wp2_with fail
    refine (two_s w y1 (t % 86400 / 3600) (n % 86400 / 3600) (by have := Hn.out; omega) (by omega)).mono ?_
    rintro _ _ ⟨S1, y2, rfl, rfl, hS1, hq1⟩
    have HS1 := Lib.hid hS1
    have hz1 : S1.size ≤ 2 := by rw [hq1]; simp [two2]
    clear hS1 hq1
    go_wp2_with fail
    refine (two_s w y2 (t % 3600 / 60) (n % 86400 / 60 % 60) (by have := Hn.out; omega) (by omega)).mono ?_
    rintro _ _ ⟨S2, y3, rfl, rfl, hS2, hq2⟩
    have HS2 := Lib.hid hS2
    have hz2 : S2.size ≤ 2 := by rw [hq2]; simp [two2]
    clear hS2 hq2
    go_wp2_with fail
    refine (two_s w y3 (t % 60) (n % 86400 % 60) (by have := Hn.out; omega) (by omega)).mono ?_
    rintro _ _ ⟨S3, y4, rfl, rfl, hS3, hq3⟩
    have HS3 := Lib.hid hS3
    have hz3 : S3.size ≤ 2 := by rw [hq3]; simp [two2]
    clear hS3 hq3
    go_wp2_with fail
    refine Hp.out _ _ y4 ?_ He.out
    rw [Hn.out, textL_yes hn9]
    simp only [bytes_app, HS0.out, HS1.out, HS2.out, HS3.out]
    unfold textN
    simp
theorem decimal_i (w : World) (x : Since w) (n : Int) (m : Nat) (hm : n = m) (hn : m ≤ 100000) : Calls Tryd.prog 41 #[.int .i64 n] x.w (StrRes w (Lib.decDigits m)) := by
  subst hm
  exact (decimal_calls w x m hn).mono fun o w' ⟨h1, h2⟩ => strRes h1 h2
set_option maxRecDepth 100000 in
set_option maxHeartbeats 4000000 in
theorem rtext_calls (w : World) (x : Since w) (t : Int) :
    Calls Tryd.prog 13 #[.int .i64 t] x.w (TextRes w t) := by
  have Hp := Lib.hid (fun (S : ByteArray) (e : Int) (y : Since w) (h : S.data.toList = textL t) (he : momE t = e) => textRes S e y h he)
  rcases (by omega : t < 0 ∨ 4294943999 < t ∨ (0 ≤ t ∧ t ≤ 4294943999)) with h | h | ⟨h, h'⟩
  case inl =>
    have He := Lib.hid (show momE t = 1 from if_neg (by omega))
    have Ht := Lib.hid (show (⟨#[]⟩ : ByteArray).data.toList = textL t by rw [textL_no (by omega)])
    generalize TextRes w t = PO at *
    go_enter Tryd.func13, Tryd.ntmps13
    go_wp2_with fail
    exact Hp.out _ _ x Ht.out He.out
  case inr.inl =>
    have He := Lib.hid (show momE t = 1 from if_neg (by omega))
    have Ht := Lib.hid (show (⟨#[]⟩ : ByteArray).data.toList = textL t by rw [textL_no (by omega)])
    generalize TextRes w t = PO at *
    go_enter Tryd.func13, Tryd.ntmps13
    go_wp2_with fail
    exact Hp.out _ _ x Ht.out He.out
  case inr.inr =>
    have He := Lib.hid (show momE t = 0 from if_pos ⟨h, h'⟩)
    generalize TextRes w t = PO at *
    go_enter Tryd.func13, Tryd.ntmps13
    go_upto_region 4 with fail
    obtain ⟨n, hn⟩ : ∃ n : Nat, t = n := ⟨t.toNat, by omega⟩
    have hn9 : n ≤ 4294943999 := by omega
    have Hn := Lib.hid hn
    clear hn
    go_wp2_with fail
    refine (decimal_i w x (t / 86400) (n / 86400) (by have := Hn.out; omega) (by omega)).mono ?_
    rintro _ _ ⟨S0, y1, rfl, rfl, hS0, hq0⟩
    have HS0 := Lib.hid hS0
    have hz0 : S0.size ≤ 6 := by rw [hq0]; exact nDigits_le (by omega)
    clear hS0 hq0
    go_wp2_with fail
    refine (rtwo_s w y1 (t % 86400 / 3600) (n % 86400 / 3600) (by have := Hn.out; omega) (by omega)).mono ?_
    rintro _ _ ⟨S1, y2, rfl, rfl, hS1, hq1⟩
    have HS1 := Lib.hid hS1
    have hz1 : S1.size ≤ 2 := by rw [hq1]; simp [two2]
    clear hS1 hq1
    go_wp2_with fail
    refine (rtwo_s w y2 (t % 86400 / 60 % 60) (n % 86400 / 60 % 60) (by have := Hn.out; omega) (by omega)).mono ?_
    rintro _ _ ⟨S2, y3, rfl, rfl, hS2, hq2⟩
    have HS2 := Lib.hid hS2
    have hz2 : S2.size ≤ 2 := by rw [hq2]; simp [two2]
    clear hS2 hq2
    go_wp2_with fail
    refine (rtwo_s w y3 (t % 60) (n % 86400 % 60) (by have := Hn.out; omega) (by omega)).mono ?_
    rintro _ _ ⟨S3, y4, rfl, rfl, hS3, hq3⟩
    have HS3 := Lib.hid hS3
    have hz3 : S3.size ≤ 2 := by rw [hq3]; simp [two2]
    clear hS3 hq3
    go_wp2_with fail
    refine Hp.out _ _ y4 ?_ He.out
    rw [Hn.out, textL_yes hn9]
    simp only [bytes_app, HS0.out, HS1.out, HS2.out, HS3.out]
    unfold textN
    simp
end Go.Proofs.YtnkmngkinjjbfaaDoor
