/- The text of a moment and what it is read as: plain mathematics, no program in sight. -/
import Derived.Lib.AtoiAll
import Derived.Lib.ItoaNum
set_option linter.all false
namespace Go.Proofs.YtnkmngkinjjbfaaDoor
open Go.Lib

/-- a number below 100 with two digits -/
def two2 (n : Nat) : List UInt8 := [UInt8.ofNat (48 + n / 10), UInt8.ofNat (48 + n % 10)]
/-- a moment as its day and its time of the day -/
def textN (t : Nat) : List UInt8 := decDigits (t / 86400) ++ (32 :: (two2 (t % 86400 / 3600) ++ (58 :: (two2 (t % 86400 / 60 % 60) ++ (58 :: two2 (t % 86400 % 60))))))
theorem dig_nat (u : Nat) (h : u < 10) : (UInt8.ofNat (48 + u)).toNat = 48 + u := by
  rw [UInt8.toNat_ofNat']; omega
theorem parse_dig (acc u : Nat) (h : u < 10) (ha : acc * 10 + u < 1000000000000000000) (l : List UInt8) : parseUint10 acc (UInt8.ofNat (48 + u) :: l) = parseUint10 (acc * 10 + u) l := by
  rw [parseUint10, dig_nat u h, if_pos (by omega), if_neg (by omega), if_neg (by omega), show 48 + u - 48 = u by omega]
/-- digits are read as the number that they write -/
theorem parse_dec : ∀ (u : Nat) (l : List UInt8), u < 1000000000000000 → parseUint10 0 (decDigits u ++ l) = parseUint10 u l := by
  intro u
  induction u using Nat.strongRecOn with
  | _ u ih =>
    intro l hu
    by_cases h : u < 10
    · rw [decDigits_one h, List.singleton_append, parse_dig 0 u h (by omega), Nat.zero_mul, Nat.zero_add]
    · rw [decDigits, dif_neg h, List.append_assoc, ih (u / 10) (by omega) _ (by omega), List.singleton_append, parse_dig _ _ (by omega) (by omega)]
      congr 1; omega
theorem dec_ne (u : Nat) : decDigits u ≠ [] := fun h => by
  have := congrArg List.length h
  rw [decDigits_length] at this
  have := nDigits_pos u
  simp at *; omega
theorem dec_head (u : Nat) : ∀ c ∈ decDigits u, 48 ≤ c.toNat ∧ c.toNat ≤ 57 := by
  induction u using Nat.strongRecOn with
  | _ u ih =>
    by_cases h : u < 10
    · intro c hc
      rw [decDigits_one h] at hc
      obtain rfl := List.mem_singleton.1 hc
      rw [dig_nat u h]; omega
    · intro c hc
      rw [decDigits, dif_neg h] at hc
      rcases List.mem_append.1 hc with hc | hc
      · exact ih (u / 10) (by omega) c hc
      · obtain rfl := List.mem_singleton.1 hc
        rw [dig_nat (u % 10) (by omega)]; omega
theorem atoi_num {l : List UInt8} {u : Nat} (hne : l ≠ []) (hd : ∀ c ∈ l, 48 ≤ c.toNat ∧ c.toNat ≤ 57) (hp : parseUint10 0 l = .ok u) (hu : u < 1000000000000000) : atoiAll l = .ok (u : Int) := by
  cases l with
  | nil => exact (hne rfl).elim
  | cons c r =>
    have := hd c (by simp)
    unfold atoiAll
    simp only
    rw [if_neg (by omega)]
    unfold parseMag
    rw [if_neg hne, hp]
    simp only
    rw [if_neg (by omega), if_neg (by omega), if_neg (by omega)]
theorem atoi_dec (u : Nat) (hu : u < 1000000000000000) : atoiAll (decDigits u) = .ok (u : Int) :=
  atoi_num (dec_ne u) (dec_head u) (by have := parse_dec u [] hu; rw [List.append_nil] at this; rw [this, parseUint10]) hu
theorem two_mem (u : Nat) (h : u < 100) : ∀ c ∈ two2 u, 48 ≤ c.toNat ∧ c.toNat ≤ 57 := by
  intro c hc
  simp only [two2, List.mem_cons, List.not_mem_nil, or_false] at hc
  rcases hc with rfl | rfl <;> rw [dig_nat _ (by omega)] <;> omega
theorem parse_two (u : Nat) (h : u < 100) : parseUint10 0 (two2 u) = .ok u := by
  unfold two2
  rw [parse_dig 0 _ (by omega) (by omega), parse_dig _ _ (by omega) (by omega), parseUint10]
  congr 1; omega
theorem atoi_two (u : Nat) (h : u < 100) : atoiAll (two2 u) = .ok (u : Int) :=
  atoi_num (by simp [two2]) (two_mem u h) (parse_two u h) (by omega)
theorem textN_length (t : Nat) : (textN t).length = (decDigits (t / 86400)).length + 9 := by simp [textN, two2]
/-- the parts of a text -/
structure Parts (l a b c d : List UInt8) : Prop where
  n : 10 ≤ l.length
  a : l.take (l.length - 9) = a
  b : (l.drop (l.length - 9 + 1)).take 2 = b
  c : (l.drop (l.length - 9 + 4)).take 2 = c
  d : l.drop (l.length - 9 + 7) = d
theorem textN_parts (t : Nat) : Parts (textN t) (decDigits (t / 86400)) (two2 (t % 86400 / 3600)) (two2 (t % 86400 / 60 % 60)) (two2 (t % 86400 % 60)) := by
  have hl := textN_length t
  have h0 : 1 ≤ (decDigits (t / 86400)).length := by rw [decDigits_length]; exact nDigits_pos _
  have hk : (textN t).length - 9 = (decDigits (t / 86400)).length := by omega
  refine ⟨by omega, ?_, ?_, ?_, ?_⟩ <;> rw [hk] <;> unfold textN
  · exact List.take_left' rfl
  · rw [← List.drop_drop, List.drop_left' rfl]; rfl
  · rw [← List.drop_drop, List.drop_left' rfl]; rfl
  · rw [← List.drop_drop, List.drop_left' rfl]; rfl
/-- the time of a text by its parts -/
theorem text_time (t : Nat) : ((t / 86400 : Nat) : Int) * 86400 + ((t % 86400 / 3600 : Nat) : Int) * 3600 + ((t % 86400 / 60 % 60 : Nat) : Int) * 60 + ((t % 86400 % 60 : Nat) : Int) = (t : Int) := by omega
/-- what a text is read as: the moment and no error, or an error -/
structure ParOk (l : List UInt8) (n e : Int) : Prop where
  ok : ∀ t : Nat, t ≤ 4294943999 → textN t = l → n = t ∧ e = 0
  no : (∀ t : Nat, t ≤ 4294943999 → textN t ≠ l) → n = 0 ∧ e = 3
theorem textN_inj {s t : Nat} (h : textN s = textN t) (hs : s ≤ 4294943999) (ht : t ≤ 4294943999) : s = t := by
  have p := textN_parts s
  have q := textN_parts t
  rw [h] at p
  have e1 := p.a.symm.trans q.a
  have e2 := p.b.symm.trans q.b
  have e3 := p.c.symm.trans q.c
  have e4 := p.d.symm.trans q.d
  have a1 := atoi_dec (s / 86400) (by omega)
  rw [e1, atoi_dec (t / 86400) (by omega)] at a1
  have a2 := atoi_two (s % 86400 / 3600) (by omega)
  rw [e2, atoi_two (t % 86400 / 3600) (by omega)] at a2
  have a3 := atoi_two (s % 86400 / 60 % 60) (by omega)
  rw [e3, atoi_two (t % 86400 / 60 % 60) (by omega)] at a3
  have a4 := atoi_two (s % 86400 % 60) (by omega)
  rw [e4, atoi_two (t % 86400 % 60) (by omega)] at a4
  injection a1 with a1
  injection a2 with a2
  injection a3 with a3
  injection a4 with a4
  omega
theorem parOk_yes {t : Nat} (ht : t ≤ 4294943999) : ParOk (textN t) t 0 :=
  ⟨fun s hs h => by rw [textN_inj h hs ht]; exact ⟨rfl, rfl⟩, fun h => (h t ht rfl).elim⟩
theorem parOk_no {l : List UInt8} (h : ∀ t : Nat, t ≤ 4294943999 → textN t ≠ l) : ParOk l 0 3 := ⟨fun t ht k => (h t ht k).elim, fun _ => ⟨rfl, rfl⟩⟩
theorem ParOk.unique {l : List UInt8} {n e m f : Int} (h : ParOk l n e) (k : ParOk l m f) : n = m ∧ e = f := by
  by_cases hx : ∃ t : Nat, t ≤ 4294943999 ∧ textN t = l
  · obtain ⟨t, ht, hl⟩ := hx
    obtain ⟨a, b⟩ := h.ok t ht hl
    obtain ⟨c, d⟩ := k.ok t ht hl
    exact ⟨a.trans c.symm, b.trans d.symm⟩
  · have hx' : ∀ t : Nat, t ≤ 4294943999 → textN t ≠ l := fun t ht hl => hx ⟨t, ht, hl⟩
    obtain ⟨a, b⟩ := h.no hx'
    obtain ⟨c, d⟩ := k.no hx'
    exact ⟨a.trans c.symm, b.trans d.symm⟩
/-- if the parts are no text's parts, there is no text -/
theorem no_text {l : List UInt8} (h : ∀ t : Nat, t ≤ 4294943999 → Parts l (decDigits (t / 86400)) (two2 (t % 86400 / 3600)) (two2 (t % 86400 / 60 % 60)) (two2 (t % 86400 % 60)) → False) : ∀ t : Nat, t ≤ 4294943999 → textN t ≠ l := fun t ht hl => h t ht (hl ▸ textN_parts t)
end Go.Proofs.YtnkmngkinjjbfaaDoor
