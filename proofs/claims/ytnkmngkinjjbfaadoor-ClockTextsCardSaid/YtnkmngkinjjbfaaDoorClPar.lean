/- What the reading of a text keeps: plain mathematics, no program in sight. -/
import Derived.Test.YtnkmngkinjjbfaaDoorClDec
set_option linter.all false
namespace Go.Proofs.YtnkmngkinjjbfaaDoor
open Go.Lib

theorem ext_list (s : ByteArray) (i j : Nat) : (s.extract i j).data.toList = (s.data.toList.drop i).take (j - i) := by
  simp [ByteArray.data_extract, Array.toList_extract, List.extract_eq_take_drop]
/-- the four parts of a string that is long enough -/
theorem parts_of (s : ByteArray) (m : Nat) (hm : s.size = m + 9) (h1 : 1 ≤ m) : Parts s.data.toList (s.extract 0 m).data.toList (s.extract (m + 1) (m + 3)).data.toList (s.extract (m + 4) (m + 6)).data.toList (s.extract (m + 7) (m + 9)).data.toList := by
  have hl : s.data.toList.length = m + 9 := by rw [← hm]; simp
  have h9 : s.data.toList.length - 9 = m := by omega
  refine ⟨by omega, ?_, ?_, ?_, ?_⟩ <;> rw [ext_list, h9]
  · simp
  · rw [show m + 3 - (m + 1) = 2 by omega]
  · rw [show m + 6 - (m + 4) = 2 by omega]
  · rw [List.take_of_length_le (by rw [List.length_drop]; omega)]
/-- a part that is read as a number of a day -/
def ROk (l : List UInt8) (v : Int) : Prop := atoiAll l = .ok v ∧ 0 ≤ v ∧ v ≤ 49709
/-- how far the reading has come, and the sum -/
inductive PInv (a b c d : List UInt8) : Int → Int → Prop
  | p0 : PInv a b c d 0 0
  | p1 (v0 : Int) (h0 : ROk a v0) : PInv a b c d 1 (v0 * 86400)
  | p2 (v0 v1 : Int) (h0 : ROk a v0) (h1 : ROk b v1) : PInv a b c d 2 (v0 * 86400 + v1 * 3600)
  | p3 (v0 v1 v2 : Int) (h0 : ROk a v0) (h1 : ROk b v1) (h2 : ROk c v2) : PInv a b c d 3 (v0 * 86400 + v1 * 3600 + v2 * 60)
  | p4 (v0 v1 v2 v3 : Int) (h0 : ROk a v0) (h1 : ROk b v1) (h2 : ROk c v2) (h3 : ROk d v3) : PInv a b c d 4 (v0 * 86400 + v1 * 3600 + v2 * 60 + v3)
theorem textN_ok {n : Nat} (h : n ≤ 4294943999) : ROk (decDigits (n / 86400)) ((n / 86400 : Nat) : Int) ∧ ROk (two2 (n % 86400 / 3600)) ((n % 86400 / 3600 : Nat) : Int) ∧ ROk (two2 (n % 86400 / 60 % 60)) ((n % 86400 / 60 % 60 : Nat) : Int) ∧ ROk (two2 (n % 86400 % 60)) ((n % 86400 % 60 : Nat) : Int) :=
  ⟨⟨atoi_dec _ (by omega), by omega, by omega⟩, ⟨atoi_two _ (by omega), by omega, by omega⟩, ⟨atoi_two _ (by omega), by omega, by omega⟩, ⟨atoi_two _ (by omega), by omega, by omega⟩⟩
theorem ROk.same {l : List UInt8} {u v : Int} (h : ROk l u) (k : ROk l v) : u = v := by
  have := h.1.symm.trans k.1
  injection this
theorem parts_text {l a b c d : List UInt8} (p : Parts l a b c d) {n : Nat} (hl : textN n = l) : a = decDigits (n / 86400) ∧ b = two2 (n % 86400 / 3600) ∧ c = two2 (n % 86400 / 60 % 60) ∧ d = two2 (n % 86400 % 60) := by
  subst hl
  have q := textN_parts n
  exact ⟨p.a.symm.trans q.a, p.b.symm.trans q.b, p.c.symm.trans q.c, p.d.symm.trans q.d⟩
/-- a part that is no number of a day: the string is no text -/
theorem bad_a {l a b c d : List UInt8} (p : Parts l a b c d) (h : ∀ v, ¬ ROk a v) : ∀ n : Nat, n ≤ 4294943999 → textN n ≠ l := fun n hn hl => by
  obtain ⟨rfl, _⟩ := parts_text p hl
  exact h _ (textN_ok hn).1
theorem bad_b {l a b c d : List UInt8} (p : Parts l a b c d) (h : ∀ v, ¬ ROk b v) : ∀ n : Nat, n ≤ 4294943999 → textN n ≠ l := fun n hn hl => by
  obtain ⟨_, rfl, _⟩ := parts_text p hl
  exact h _ (textN_ok hn).2.1
theorem bad_c {l a b c d : List UInt8} (p : Parts l a b c d) (h : ∀ v, ¬ ROk c v) : ∀ n : Nat, n ≤ 4294943999 → textN n ≠ l := fun n hn hl => by
  obtain ⟨_, _, rfl, _⟩ := parts_text p hl
  exact h _ (textN_ok hn).2.2.1
theorem bad_d {l a b c d : List UInt8} (p : Parts l a b c d) (h : ∀ v, ¬ ROk d v) : ∀ n : Nat, n ≤ 4294943999 → textN n ≠ l := fun n hn hl => by
  obtain ⟨_, _, _, rfl⟩ := parts_text p hl
  exact h _ (textN_ok hn).2.2.2
theorem rok_no {l : List UInt8} (h : ∀ v, atoiAll l ≠ .ok v) : ∀ v, ¬ ROk l v := fun v k => h v k.1
theorem rok_out {l : List UInt8} {u : Int} (h : atoiAll l = .ok u) (hu : u < 0 ∨ 49709 < u) : ∀ v, ¬ ROk l v := fun v k => by
  have := h.symm.trans k.1
  injection this with e
  have := k.2
  omega
/-- a text's parts give its moment -/
theorem sum_text {l a b c d : List UInt8} (p : Parts l a b c d) {t : Int} (h : PInv a b c d 4 t) {n : Nat} (hn : n ≤ 4294943999) (hl : textN n = l) : t = n := by
  obtain ⟨rfl, rfl, rfl, rfl⟩ := parts_text p hl
  obtain ⟨k0, k1, k2, k3⟩ := textN_ok hn
  cases h with
  | p4 v0 v1 v2 v3 h0 h1 h2 h3 =>
    rw [h0.same k0, h1.same k1, h2.same k2, h3.same k3]
    exact text_time n
theorem pinv_range {a b c d : List UInt8} {k t : Int} (h : PInv a b c d k t) : 0 ≤ t ∧ t ≤ 5000000000 := by
  cases h with
  | p0 => exact ⟨by omega, by omega⟩
  | p1 v0 h0 => have := h0.2; exact ⟨by omega, by omega⟩
  | p2 v0 v1 h0 h1 => have := h0.2; have := h1.2; exact ⟨by omega, by omega⟩
  | p3 v0 v1 v2 h0 h1 h2 => have := h0.2; have := h1.2; have := h2.2; exact ⟨by omega, by omega⟩
  | p4 v0 v1 v2 v3 h0 h1 h2 h3 => have := h0.2; have := h1.2; have := h2.2; have := h3.2; exact ⟨by omega, by omega⟩
theorem short_text {l : List UInt8} (h : l.length < 10) : ∀ n : Nat, n ≤ 4294943999 → textN n ≠ l := fun n _ hl => by
  have := (textN_parts n).n
  rw [hl] at this; omega
end Go.Proofs.YtnkmngkinjjbfaaDoor
