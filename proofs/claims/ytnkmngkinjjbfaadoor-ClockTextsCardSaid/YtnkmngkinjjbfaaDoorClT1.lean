/- Texts of moments, first walks: bytes that become strings; two digits; days and hours. -/
import Derived.Test.YtnkmngkinjjbfaaDoorLater
import Derived.Test.YtnkmngkinjjbfaaDoorClDec
import Derived.Laws.IdiomStrings
import Derived.IntWalk
import Derived.Test.YtnkmngkinjjbfaaDoorProg
import Derived.Test.YtnkmngkinjjbfaaDoorChecked
set_option linter.all false
namespace Go.Proofs.YtnkmngkinjjbfaaDoor
open Go.RowKit

/-- bytes that were made are a string -/
theorem conv_bytes {P : Program} (w : World) (src dst e : TypeId) (l : List UInt8) (hs : P.underlying src = some (.slice e)) (he : P.underlying e = some (.int .u8)) (hd : P.underlying dst = some .string) :
    (convert src dst (.slice (some ⟨w.heap.size, 0, none⟩) l.length l.length)).run P (w.alloc (.cells (l.map fun b => Value.int .u8 (b.toNat : Int)).toArray e)) = .ok (.string ⟨l.toArray⟩) (w.alloc (.cells (l.map fun b => Value.int .u8 (b.toNat : Int)).toArray e)) := by
  refine run_convert_bytes_back _ src dst e ⟨w.heap.size, 0, none⟩ l.length l hs he hd fun j hj => ?_
  refine cell_new_at w _ e j _ ?_
  simp [List.getElem?_eq_getElem hj]
theorem conv_two {P : Program} (w : World) (src dst e : TypeId) (a b : Nat) (ha : a < 256) (hb : b < 256) (hs : P.underlying src = some (.slice e)) (he : P.underlying e = some (.int .u8)) (hd : P.underlying dst = some .string) :
    (convert src dst (.slice (some ⟨w.heap.size, 0, none⟩) 2 2)).run P (w.alloc (.cells #[.int .u8 (a : Int), .int .u8 (b : Int)] e)) = .ok (.string ⟨#[UInt8.ofNat a, UInt8.ofNat b]⟩) (w.alloc (.cells #[.int .u8 (a : Int), .int .u8 (b : Int)] e)) := by
  have := conv_bytes (P := P) w src dst e [UInt8.ofNat a, UInt8.ofNat b] hs he hd
  simp only [List.map_cons, List.map_nil, UInt8.toNat_ofNat', List.length_cons, List.length_nil] at this
  rw [Nat.mod_eq_of_lt ha, Nat.mod_eq_of_lt hb] at this
  exact this
theorem conv_one {P : Program} (w : World) (src dst e : TypeId) (a : Nat) (ha : a < 256) (hs : P.underlying src = some (.slice e)) (he : P.underlying e = some (.int .u8)) (hd : P.underlying dst = some .string) :
    (convert src dst (.slice (some ⟨w.heap.size, 0, none⟩) 1 1)).run P (w.alloc (.cells #[.int .u8 (a : Int)] e)) = .ok (.string ⟨#[UInt8.ofNat a]⟩) (w.alloc (.cells #[.int .u8 (a : Int)] e)) := by
  have := conv_bytes (P := P) w src dst e [UInt8.ofNat a] hs he hd
  simp only [List.map_cons, List.map_nil, UInt8.toNat_ofNat', List.length_cons, List.length_nil] at this
  rw [Nat.mod_eq_of_lt ha] at this
  exact this
set_option maxRecDepth 100000 in
set_option maxHeartbeats 1000000 in
theorem two_calls (w : World) (x : Since w) (n : Nat) (hn : n < 100) :
    Calls Tryd.prog 40 #[.int .i64 (n : Int)] x.w fun o w' => o = .returned (.string ⟨(two2 n).toArray⟩) ∧ ∃ y : Since w, w' = y.w := by
  have hc := conv_two (P := Tryd.prog) x.w 59 9 5 (48 + n / 10) (48 + n % 10) (by omega) (by omega) Tryd.underlying59 Tryd.underlying5 Tryd.underlying9
  simp only [Int.natCast_add, Int.natCast_ediv, Int.natCast_emod, Int.cast_ofNat_Int] at hc
  obtain ⟨S, hS⟩ : ∃ S : ByteArray, S = ⟨#[UInt8.ofNat (48 + n / 10), UInt8.ofNat (48 + n % 10)]⟩ := ⟨_, rfl⟩
  rw [← hS] at hc
  have HS := Lib.hid (show Ending.returned (.string S) = .returned (.string ⟨(two2 n).toArray⟩) by rw [hS]; rfl)
  have Hc := Lib.hid hc
  have w1 : IntKind.u8.wrap (48 + (n : Int) / 10) = 48 + (n : Int) / 10 := by unfold IntKind.wrap; simp [IntKind.signed, IntKind.bits]; omega
  have w2 : IntKind.u8.wrap (48 + (n : Int) % 10) = 48 + (n : Int) % 10 := by unfold IntKind.wrap; simp [IntKind.signed, IntKind.bits]; omega
  have h1 : (0 : Int) ≤ (n : Int) := by omega
  have h2 : (n : Int) < 100 := by omega
  clear hc hS
  go_enter Tryd.func40, Tryd.ntmps40
  go_wp2_with fail
  rw [Hc.out]
  go_wp2_with fail
  go_ret
  exact ⟨HS.out, x.alloc _⟩
set_option maxRecDepth 100000 in
set_option maxHeartbeats 1000000 in
theorem rtwo_calls (w : World) (x : Since w) (n : Nat) (hn : n < 100) :
    Calls Tryd.prog 42 #[.int .i64 (n : Int)] x.w fun o w' => o = .returned (.string ⟨(two2 n).toArray⟩) ∧ ∃ y : Since w, w' = y.w := by
  have hc := conv_two (P := Tryd.prog) x.w 59 9 5 (48 + n / 10) (48 + n % 10) (by omega) (by omega) Tryd.underlying59 Tryd.underlying5 Tryd.underlying9
  simp only [Int.natCast_add, Int.natCast_ediv, Int.natCast_emod, Int.cast_ofNat_Int] at hc
  obtain ⟨S, hS⟩ : ∃ S : ByteArray, S = ⟨#[UInt8.ofNat (48 + n / 10), UInt8.ofNat (48 + n % 10)]⟩ := ⟨_, rfl⟩
  rw [← hS] at hc
  have HS := Lib.hid (show Ending.returned (.string S) = .returned (.string ⟨(two2 n).toArray⟩) by rw [hS]; rfl)
  have Hc := Lib.hid hc
  have w1 : IntKind.u8.wrap (48 + (n : Int) / 10) = 48 + (n : Int) / 10 := by unfold IntKind.wrap; simp [IntKind.signed, IntKind.bits]; omega
  have w2 : IntKind.u8.wrap (48 + (n : Int) % 10) = 48 + (n : Int) % 10 := by unfold IntKind.wrap; simp [IntKind.signed, IntKind.bits]; omega
  have h1 : (0 : Int) ≤ (n : Int) := by omega
  have h2 : (n : Int) < 100 := by omega
  clear hc hS
  go_enter Tryd.func42, Tryd.ntmps42
  go_wp2_with fail
  rw [Hc.out]
  go_wp2_with fail
  go_ret
  exact ⟨HS.out, x.alloc _⟩
set_option maxHeartbeats 1000000 in
theorem moment_calls (t : Int) (w : World) (b : Bool) (hb : decide (0 ≤ t ∧ t ≤ 4294943999) = b) : Calls Tryd.prog 38 #[.int .i64 t] w fun o w' => o = .returned (.bool b) ∧ w = w' := by
  subst hb
  rcases (by omega : t < 0 ∨ 4294943999 < t ∨ (0 ≤ t ∧ t ≤ 4294943999)) with h | h | ⟨h, h'⟩
  · obtain hd : decide (0 ≤ t ∧ t ≤ 4294943999) = false := decide_eq_false (by omega)
    rw [hd]
    clear hd
    go_enter Tryd.func38, Tryd.ntmps38
    go_wp2_with fail
    go_ret
    exact ⟨rfl, rfl⟩
  · obtain hd : decide (0 ≤ t ∧ t ≤ 4294943999) = false := decide_eq_false (by omega)
    rw [hd]
    clear hd
    have h0 : 0 ≤ t := by omega
    go_enter Tryd.func38, Tryd.ntmps38
    go_wp2_with fail
    go_ret
    exact ⟨ret_bool (by first | rfl | (simp; done) | (simp; omega)), rfl⟩
  · obtain hd : decide (0 ≤ t ∧ t ≤ 4294943999) = true := decide_eq_true ⟨h, h'⟩
    rw [hd]
    clear hd
    go_enter Tryd.func38, Tryd.ntmps38
    go_wp2_with fail
    go_ret
    exact ⟨ret_bool (by first | rfl | (simp; done) | (simp; omega)), rfl⟩
/-- a moment's day, hour of the week, error; a day's weekday, error -/
def dayV (t : Int) : Int := if 0 ≤ t ∧ t ≤ 4294943999 then t / 86400 else 0
def slotV (t : Int) : Int := if 0 ≤ t ∧ t ≤ 4294943999 then t / 3600 % 168 else 0
def momE (t : Int) : Int := if 0 ≤ t ∧ t ≤ 4294943999 then 0 else 1
def wdV (d : Int) : Int := if 0 ≤ d ∧ d ≤ 49709 then d % 7 else 0
def wdE (d : Int) : Int := if 0 ≤ d ∧ d ≤ 49709 then 0 else 1
def Two (a b : Int) (w : World) (o : Ending) (w' : World) : Prop := o = .returned (.tuple #[.int .i64 a, .int .i64 b]) ∧ w = w'
theorem two_mk {a b c d : Int} (h1 : a = c) (h2 : b = d) (w : World) : Two a b w (.returned (.tuple #[.int .i64 c, .int .i64 d])) w := by subst h1; subst h2; exact ⟨rfl, rfl⟩
set_option maxRecDepth 100000 in
set_option maxHeartbeats 1000000 in
theorem day_calls (t : Int) (w : World) : Calls Tryd.prog 16 #[.int .i64 t] w (Two (dayV t) (momE t) w) := by
  have Hp := Lib.hid (fun (va vb : Int) (h1 : dayV t = va) (h2 : momE t = vb) => two_mk h1 h2 w)
  have Hv : (0 ≤ t ∧ t ≤ 4294943999) → dayV t = t / 86400 := fun h => by unfold dayV; rw [if_pos h]
  have Hn : ¬ (0 ≤ t ∧ t ≤ 4294943999) → dayV t = 0 := fun h => by unfold dayV; rw [if_neg h]
  have He : (0 ≤ t ∧ t ≤ 4294943999) → momE t = 0 := fun h => by unfold momE; rw [if_pos h]
  have Hm : ¬ (0 ≤ t ∧ t ≤ 4294943999) → momE t = 1 := fun h => by unfold momE; rw [if_neg h]
  have Hall := Lib.hid (And.intro (And.intro Hv Hn) (And.intro He Hm))
  clear Hv Hn He Hm
  generalize Two (dayV t) (momE t) w = PO at *
  rcases (by omega : t < 0 ∨ 4294943999 < t ∨ (0 ≤ t ∧ t ≤ 4294943999)) with h | h | ⟨h, h'⟩
  all_goals
    go_enter Tryd.func16, Tryd.ntmps16
    go_wp2_with (go_at_call 38; ((with_reducible refine (moment_calls _ _ _ (by first | exact decide_eq_true ⟨h, h'⟩ | exact decide_eq_false (by omega))).mono ?_); rintro _ _ ⟨rfl, rfl⟩))
    try go_ret2
    first | exact Hp.out _ _ (by first | (rw [Hall.out.1.2 (by omega)]; done) | (rw [Hall.out.1.1 ⟨h, h'⟩]; done) | (rw [Hall.out.1.1 ⟨h, h'⟩]; omega)) (by first | (rw [Hall.out.2.2 (by omega)]; done) | (rw [Hall.out.2.1 ⟨h, h'⟩]; done))
set_option maxRecDepth 100000 in
set_option maxHeartbeats 1000000 in
theorem rday_calls (t : Int) (w : World) : Calls Tryd.prog 17 #[.int .i64 t] w (Two (dayV t) (momE t) w) := by
  have Hp := Lib.hid (fun (va vb : Int) (h1 : dayV t = va) (h2 : momE t = vb) => two_mk h1 h2 w)
  have Hv : (0 ≤ t ∧ t ≤ 4294943999) → dayV t = t / 86400 := fun h => by unfold dayV; rw [if_pos h]
  have Hn : ¬ (0 ≤ t ∧ t ≤ 4294943999) → dayV t = 0 := fun h => by unfold dayV; rw [if_neg h]
  have He : (0 ≤ t ∧ t ≤ 4294943999) → momE t = 0 := fun h => by unfold momE; rw [if_pos h]
  have Hm : ¬ (0 ≤ t ∧ t ≤ 4294943999) → momE t = 1 := fun h => by unfold momE; rw [if_neg h]
  have Hall := Lib.hid (And.intro (And.intro Hv Hn) (And.intro He Hm))
  clear Hv Hn He Hm
  generalize Two (dayV t) (momE t) w = PO at *
  rcases (by omega : t < 0 ∨ 4294943999 < t ∨ (0 ≤ t ∧ t ≤ 4294943999)) with h | h | ⟨h, h'⟩
  all_goals
    go_enter Tryd.func17, Tryd.ntmps17
    go_wp2_with (go_at_call 38; ((with_reducible refine (moment_calls _ _ _ (by first | exact decide_eq_true ⟨h, h'⟩ | exact decide_eq_false (by omega))).mono ?_); rintro _ _ ⟨rfl, rfl⟩))
    try go_ret2
    first | exact Hp.out _ _ (by first | (rw [Hall.out.1.2 (by omega)]; done) | (rw [Hall.out.1.1 ⟨h, h'⟩]; done) | (rw [Hall.out.1.1 ⟨h, h'⟩]; omega)) (by first | (rw [Hall.out.2.2 (by omega)]; done) | (rw [Hall.out.2.1 ⟨h, h'⟩]; done))
set_option maxRecDepth 100000 in
set_option maxHeartbeats 1000000 in
theorem slot_calls (t : Int) (w : World) : Calls Tryd.prog 18 #[.int .i64 t] w (Two (slotV t) (momE t) w) := by
  have Hp := Lib.hid (fun (va vb : Int) (h1 : slotV t = va) (h2 : momE t = vb) => two_mk h1 h2 w)
  have Hv : (0 ≤ t ∧ t ≤ 4294943999) → slotV t = t / 3600 % 168 := fun h => by unfold slotV; rw [if_pos h]
  have Hn : ¬ (0 ≤ t ∧ t ≤ 4294943999) → slotV t = 0 := fun h => by unfold slotV; rw [if_neg h]
  have He : (0 ≤ t ∧ t ≤ 4294943999) → momE t = 0 := fun h => by unfold momE; rw [if_pos h]
  have Hm : ¬ (0 ≤ t ∧ t ≤ 4294943999) → momE t = 1 := fun h => by unfold momE; rw [if_neg h]
  have Hall := Lib.hid (And.intro (And.intro Hv Hn) (And.intro He Hm))
  clear Hv Hn He Hm
  generalize Two (slotV t) (momE t) w = PO at *
  rcases (by omega : t < 0 ∨ 4294943999 < t ∨ (0 ≤ t ∧ t ≤ 4294943999)) with h | h | ⟨h, h'⟩
  all_goals
    go_enter Tryd.func18, Tryd.ntmps18
    go_wp2_with (go_at_call 38; ((with_reducible refine (moment_calls _ _ _ (by first | exact decide_eq_true ⟨h, h'⟩ | exact decide_eq_false (by omega))).mono ?_); rintro _ _ ⟨rfl, rfl⟩))
    try go_ret2
    first | exact Hp.out _ _ (by first | (rw [Hall.out.1.2 (by omega)]; done) | (rw [Hall.out.1.1 ⟨h, h'⟩]; done) | (rw [Hall.out.1.1 ⟨h, h'⟩]; omega)) (by first | (rw [Hall.out.2.2 (by omega)]; done) | (rw [Hall.out.2.1 ⟨h, h'⟩]; done))
set_option maxRecDepth 100000 in
set_option maxHeartbeats 1000000 in
theorem rslot_calls (t : Int) (w : World) : Calls Tryd.prog 19 #[.int .i64 t] w (Two (slotV t) (momE t) w) := by
  have Hp := Lib.hid (fun (va vb : Int) (h1 : slotV t = va) (h2 : momE t = vb) => two_mk h1 h2 w)
  have Hv : (0 ≤ t ∧ t ≤ 4294943999) → slotV t = t / 3600 % 168 := fun h => by unfold slotV; rw [if_pos h]
  have Hn : ¬ (0 ≤ t ∧ t ≤ 4294943999) → slotV t = 0 := fun h => by unfold slotV; rw [if_neg h]
  have He : (0 ≤ t ∧ t ≤ 4294943999) → momE t = 0 := fun h => by unfold momE; rw [if_pos h]
  have Hm : ¬ (0 ≤ t ∧ t ≤ 4294943999) → momE t = 1 := fun h => by unfold momE; rw [if_neg h]
  have Hall := Lib.hid (And.intro (And.intro Hv Hn) (And.intro He Hm))
  clear Hv Hn He Hm
  generalize Two (slotV t) (momE t) w = PO at *
  rcases (by omega : t < 0 ∨ 4294943999 < t ∨ (0 ≤ t ∧ t ≤ 4294943999)) with h | h | ⟨h, h'⟩
  all_goals
    go_enter Tryd.func19, Tryd.ntmps19
    go_wp2_with (go_at_call 38; ((with_reducible refine (moment_calls _ _ _ (by first | exact decide_eq_true ⟨h, h'⟩ | exact decide_eq_false (by omega))).mono ?_); rintro _ _ ⟨rfl, rfl⟩))
    try go_ret2
    first | exact Hp.out _ _ (by first | (rw [Hall.out.1.2 (by omega)]; done) | (rw [Hall.out.1.1 ⟨h, h'⟩]; done) | (rw [Hall.out.1.1 ⟨h, h'⟩]; omega)) (by first | (rw [Hall.out.2.2 (by omega)]; done) | (rw [Hall.out.2.1 ⟨h, h'⟩]; done))
set_option maxRecDepth 100000 in
set_option maxHeartbeats 1000000 in
theorem wd_calls (d : Int) (w : World) : Calls Tryd.prog 20 #[.int .i64 d] w (Two (wdV d) (wdE d) w) := by
  have Hp := Lib.hid (fun (va vb : Int) (h1 : wdV d = va) (h2 : wdE d = vb) => two_mk h1 h2 w)
  have Hv : (0 ≤ d ∧ d ≤ 49709) → wdV d = d % 7 := fun h => by unfold wdV; rw [if_pos h]
  have Hn : ¬ (0 ≤ d ∧ d ≤ 49709) → wdV d = 0 := fun h => by unfold wdV; rw [if_neg h]
  have He : (0 ≤ d ∧ d ≤ 49709) → wdE d = 0 := fun h => by unfold wdE; rw [if_pos h]
  have Hm : ¬ (0 ≤ d ∧ d ≤ 49709) → wdE d = 1 := fun h => by unfold wdE; rw [if_neg h]
  have Hall := Lib.hid (And.intro (And.intro Hv Hn) (And.intro He Hm))
  clear Hv Hn He Hm
  generalize Two (wdV d) (wdE d) w = PO at *
  rcases (by omega : d < 0 ∨ 49709 < d ∨ (0 ≤ d ∧ d ≤ 49709)) with h | h | ⟨h, h'⟩
  all_goals
    go_enter Tryd.func20, Tryd.ntmps20
    go_wp2_with (go_at_call 38; ((with_reducible refine (moment_calls _ _ _ (by first | exact decide_eq_true ⟨h, h'⟩ | exact decide_eq_false (by omega))).mono ?_); rintro _ _ ⟨rfl, rfl⟩))
    try go_ret2
    first | exact Hp.out _ _ (by first | (rw [Hall.out.1.2 (by omega)]; done) | (rw [Hall.out.1.1 ⟨h, h'⟩]; done) | (rw [Hall.out.1.1 ⟨h, h'⟩]; omega)) (by first | (rw [Hall.out.2.2 (by omega)]; done) | (rw [Hall.out.2.1 ⟨h, h'⟩]; done))
set_option maxRecDepth 100000 in
set_option maxHeartbeats 1000000 in
theorem rwd_calls (d : Int) (w : World) : Calls Tryd.prog 21 #[.int .i64 d] w (Two (wdV d) (wdE d) w) := by
  have Hp := Lib.hid (fun (va vb : Int) (h1 : wdV d = va) (h2 : wdE d = vb) => two_mk h1 h2 w)
  have Hv : (0 ≤ d ∧ d ≤ 49709) → wdV d = d % 7 := fun h => by unfold wdV; rw [if_pos h]
  have Hn : ¬ (0 ≤ d ∧ d ≤ 49709) → wdV d = 0 := fun h => by unfold wdV; rw [if_neg h]
  have He : (0 ≤ d ∧ d ≤ 49709) → wdE d = 0 := fun h => by unfold wdE; rw [if_pos h]
  have Hm : ¬ (0 ≤ d ∧ d ≤ 49709) → wdE d = 1 := fun h => by unfold wdE; rw [if_neg h]
  have Hall := Lib.hid (And.intro (And.intro Hv Hn) (And.intro He Hm))
  clear Hv Hn He Hm
  generalize Two (wdV d) (wdE d) w = PO at *
  rcases (by omega : d < 0 ∨ 49709 < d ∨ (0 ≤ d ∧ d ≤ 49709)) with h | h | ⟨h, h'⟩
  all_goals
    go_enter Tryd.func21, Tryd.ntmps21
    go_wp2_with (go_at_call 38; ((with_reducible refine (moment_calls _ _ _ (by first | exact decide_eq_true ⟨h, h'⟩ | exact decide_eq_false (by omega))).mono ?_); rintro _ _ ⟨rfl, rfl⟩))
    try go_ret2
    first | exact Hp.out _ _ (by first | (rw [Hall.out.1.2 (by omega)]; done) | (rw [Hall.out.1.1 ⟨h, h'⟩]; done) | (rw [Hall.out.1.1 ⟨h, h'⟩]; omega)) (by first | (rw [Hall.out.2.2 (by omega)]; done) | (rw [Hall.out.2.1 ⟨h, h'⟩]; done))
end Go.Proofs.YtnkmngkinjjbfaaDoor
