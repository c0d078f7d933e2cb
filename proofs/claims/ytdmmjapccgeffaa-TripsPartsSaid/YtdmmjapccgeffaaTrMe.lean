/- Trips between zones, the program: Each. -/
import Derived.Test.YtdmmjapccgeffaaTrMd
set_option linter.all false
namespace Go.Proofs.Ytdmmjapccgeffaa
open Go.RowKit

theorem rideE_rng {r : Ride} (h : rideE r = 0) : rangedB r = true := by
  unfold rideE at h
  cases hr : rangedB r
  · rw [hr] at h; simp at h
  · rfl
theorem rangedB_head {r : Ride} (h : rangedB r = true) : 1 ≤ r.id ∧ r.id ≤ 1000000 ∧ 0 ≤ r.rd ∧ r.rd ≤ 127 ∧ 0 ≤ r.s0 ∧ r.s0 ≤ r.s1 ∧ r.s1 ≤ 4294943999 ∧ 0 ≤ r.e0 ∧ r.e0 ≤ r.e1 ∧ r.e1 ≤ 4294943999 := by
  unfold rangedB headV at h
  simp only [Bool.and_eq_true, decide_eq_true_eq, vldS_iff] at h
  omega
theorem firstErr_zero {l : List Ride} (h : firstErr l = 0) : ∀ r ∈ l, rideE r = 0 := by
  intro r hr
  unfold firstErr at h
  cases hf : l.find? (fun r => rideE r != 0) with
  | none =>
    rw [List.find?_eq_none] at hf
    simpa using hf r hr
  | some x =>
    rw [hf] at h
    have := List.find?_some hf
    simp at this
    exact (this h).elim
theorem ridesE_zero {R : List Ride} (h : ridesE R = 0) : R.length ≤ 256 ∧ (R.map fun r : Ride => r.id).Nodup ∧ ∀ r ∈ R, rideE r = 0 := by
  unfold ridesE at h
  by_cases h1 : 256 < R.length
  · rw [if_pos h1] at h; cases h
  · rw [if_neg h1] at h
    by_cases h2 : firstErr R = 0
    · rw [if_neg (by simpa using h2)] at h
      rcases dupB_cases (R.map fun r : Ride => r.id) with ⟨hd, _⟩ | ⟨_, hn⟩
      · rw [hd] at h; simp at h
      · exact ⟨by omega, hn, firstErr_zero h2⟩
    · rw [if_pos h2] at h; exact (h2 h).elim
theorem rides_s0 {R : List Ride} (h : ridesE R = 0) : ∀ r ∈ R, 0 ≤ r.s0 ∧ r.s0 ≤ 4294943999 := fun r hr => by
  have := rangedB_head (rideE_rng ((ridesE_zero h).2.2 r hr)); omega
/-- as CloneRes, in a world that is later than W -/
def CloneS (W w : World) (T : TypeId) (k n : Nat) (xs : List Value) (o : Ending) (w' : World) : Prop :=
  ∃ (a : Option Addr) (c : Nat) (z : Since W), o = .returned (.slice a n c) ∧ w' = z.w ∧ (∃ v : Since w, z.w = v.w) ∧ z.w.ownsRow w.heap.size T k (.slice a n c) n xs
theorem cloneS {W w : World} (h : IsSince W w) {T : TypeId} {k n : Nat} {xs : List Value} {o : Ending} {w' : World} (hc : CloneRes w T k n xs o w') : CloneS W w T k n xs o w' := by
  obtain ⟨a, c, y, ho, hw, hr⟩ := hc
  obtain ⟨z, hz⟩ := h
  subst hz
  obtain ⟨v, hv⟩ := z.trans y
  exact ⟨a, c, v, ho, hw.trans hv, ⟨y, hv.symm⟩, hv ▸ hr⟩
/-- a box, not written yet -/
structure BoxF (w : World) (g : Nat) (vs : List Value) : Prop where
  lt : g < w.heap.size
  c : ∀ j v, vs[j]? = some v → w.cell? ⟨g, j, none⟩ = some v
  f : ∀ o, w.frozen? ⟨g, o, none⟩ = false
theorem BoxF.new (w : World) (vs : List Value) (T : TypeId) : BoxF (w.alloc (.cells vs.toArray T)) w.heap.size vs :=
  ⟨by simp, fun j v hv => by have := cell_new_at w vs T j v hv; rwa [Addr.add_lit, Nat.zero_add] at this, fun o => by simp [go_sem]⟩
theorem BoxF.to {w W : World} {g : Nat} {vs : List Value} (h : BoxF w g vs) (hW : ∃ z : Since w, W = z.w) : BoxF W g vs := by
  obtain ⟨z, rfl⟩ := hW
  exact ⟨Nat.lt_of_lt_of_le h.lt z.b.size, fun j v hv => Since.cell (h.c j v hv) h.lt z, fun o => Since.free (h.f o) h.lt z⟩
theorem BoxF.set {w : World} {g j : Nat} {vs : List Value} (h : BoxF w g vs) (hj : j < vs.length) (u : Value) : BoxF (w.setCell ⟨g, j, none⟩ u) g (vs.set j u) := by
  refine ⟨by simpa [World.setCell] using h.lt, fun i v hv => ?_, fun o => by rw [World.frozen?_setCell]; exact h.f o⟩
  rw [List.getElem?_set] at hv
  by_cases hji : j = i
  · subst hji
    rw [if_pos rfl, if_pos hj] at hv
    cases hv
    exact World.cell?_setCell_same _ _ _ (h.c j _ (List.getElem?_eq_getElem hj))
  · rw [if_neg hji] at hv
    show ((w.setCells g j [u]).cell? _) = _
    rw [World.cell?_setCells_out g [u] j w ⟨g, i, none⟩ (fun _ _ => by simp; omega), h.c i v hv]
theorem own_lt {w : World} {B e k n : Nat} {v : Value} {xs : List Value} (h : w.ownsRow B e k v n xs) : ∀ b, v.ownBlock = some b → b < w.heap.size := by
  obtain ⟨_, ⟨rfl, _⟩ | ⟨g, cap, cur, rfl, _, hh, _⟩⟩ := h
  · intro b hb; simp [Value.ownBlock] at hb
  · intro b hb
    obtain rfl : g = b := by simpa [Value.ownBlock] using hb
    exact (Array.getElem?_eq_some_iff.1 hh).1
theorem own_set_ne {w : World} {B e k n : Nat} {v : Value} {xs : List Value} (h : w.ownsRow B e k v n xs) (p : Addr) (u : Value) (hne : ∀ b, v.ownBlock = some b → b ≠ p.block) : (w.setCell p u).ownsRow B e k v n xs := by
  obtain ⟨hl, h | ⟨g, cap, cur, rfl, hB, hh, r⟩⟩ := h
  · exact ⟨hl, .inl h⟩
  · exact ⟨hl, .inr ⟨g, cap, cur, rfl, hB, (Below.heap_setCell w p u g (hne g rfl)).trans hh, r⟩⟩
/-- the blocks of a ride's legs and pauses lie below -/
structure OwnLt (N : Nat) (r : Ride) : Prop where
  l : ∀ b, (Value.slice r.la r.legs.length r.lc).ownBlock = some b → b < N
  p : ∀ b, (Value.slice r.pa r.pauses.length r.pc).ownBlock = some b → b < N
theorem OwnAt.lt {w : World} {r : Ride} (h : OwnAt w r) : OwnLt w.heap.size r := by
  obtain ⟨_, hl⟩ := h.l
  obtain ⟨_, hp⟩ := h.p
  exact ⟨own_lt hl, own_lt hp⟩
theorem OwnAt.setAt {w : World} {r : Ride} {g : Nat} (h : OwnAt w r) (hl : OwnLt g r) (j : Nat) (u : Value) : OwnAt (w.setCell ⟨g, j, none⟩ u) r := by
  obtain ⟨B, h1⟩ := h.l
  obtain ⟨C, h2⟩ := h.p
  exact ⟨⟨B, own_set_ne h1 _ u fun b hb e => by have := hl.l b hb; have e' : b = g := e; omega⟩, ⟨C, own_set_ne h2 _ u fun b hb e => by have := hl.p b hb; have e' : b = g := e; omega⟩⟩
/-- a ride whose legs and pauses lie elsewhere -/
def Ride.with (r : Ride) (a1 : Option Addr) (c1 : Nat) (a2 : Option Addr) (c2 : Nat) : Ride := { r with la := a1, lc := c1, pa := a2, pc := c2 }
theorem with_bare (r : Ride) (a1 : Option Addr) (c1 : Nat) (a2 : Option Addr) (c2 : Nat) : (r.with a1 c1 a2 c2).bare = r.bare := rfl
/-- a list of rides of the call's own and an error -/
def EachRes (w : World) (L : List Ride) (e : Int) (o : Ending) (w' : World) : Prop :=
  ∃ (a : Option Addr) (c : Nat) (L' : List Ride) (y : Since w), o = .returned (.tuple #[.slice a L'.length c, .int .i64 e]) ∧ w' = y.w ∧ RideRow y.w a L' ∧ L'.length ≤ c ∧ L'.map Ride.bare = L.map Ride.bare
def eachV (R : List Ride) (each : Int) : List Ride := if eachE R each = 0 then eachL R each else []
theorem eachE_zero {R : List Ride} {each : Int} (h : eachE R each = 0) : 0 ≤ each ∧ each ≤ 256 ∧ ridesE R = 0 := by
  unfold eachE at h
  by_cases h1 : each < 0 ∨ 256 < each
  · rw [if_pos h1] at h; cases h
  · rw [if_neg h1] at h; exact ⟨by omega, by omega, h⟩
theorem pick_take (R : List Ride) (p : Ride → Bool) (k : Nat) (e : Ride) (h : R[k]? = some e) : ((R.take (k + 1)).filter p) = (R.take k).filter p ++ if p e = true then [e] else [] := by
  rw [List.take_add_one, h, List.filter_append]
  cases hp : p e <;> simp [hp]
set_option maxRecDepth 100000 in
set_option maxHeartbeats 16000000 in
theorem each_calls (w : World) (x : Since w) (a : Option Addr) (R : List Ride) (c : Nat) (each : Int) (h : RideRow w a R) (hl : R.length ≤ 9223372036854775807) (hlp : ∀ r ∈ R, r.legs.length ≤ 100000 ∧ r.pauses.length ≤ 100000) :
    Calls Try.prog 13 #[.slice a R.length c, .int .i64 each] x.w (EachRes w (eachV R each) (eachE R each)) := by
  have HR := Lib.hid h
  have Hck := Lib.hid (checked_calls w x a R c each h hl)
  have Hlp := Lib.hid hlp
  clear h hlp
  by_cases he : eachE R each = 0
  case neg =>
    have hne : (eachE R each != 0) = true := by simpa using he
    have HP := Lib.hid (fun y : Since w => show EachRes w (eachV R each) (eachE R each) (.returned (.tuple #[.slice none 0 0, .int .i64 (eachE R each)])) y.w from ⟨none, 0, [], y, rfl, rfl, ⟨els_nil _ _, fun r hr => by cases hr⟩, Nat.le_refl _, by unfold eachV; rw [if_neg he]⟩)
    generalize EachRes w (eachV R each) (eachE R each) = PO at *
    clear he
    generalize eachE R each = E at *
    go_enter Try.func13, Try.ntmps13
    go_wp2_with (go_at_call 30; ((with_reducible refine Hck.out.mono ?_); rintro _ _ ⟨rfl, y1, rfl⟩))
    exact HP.out y1
  case pos =>
    obtain ⟨e0, e1, hrz⟩ := eachE_zero he
    obtain ⟨hr256, hid, hre⟩ := ridesE_zero hrz
    have Hct := Lib.hid (fun y : Since w => counted_calls w y a R c each HR.out hr256 e0 e1 hid (rides_s0 hrz))
    have HP := Lib.hid (fun (a' : Option Addr) (c' : Nat) (L' : List Ride) (y : Since w) (h1 : RideRow y.w a' L') (h2 : L'.length ≤ c') (h3 : L'.map Ride.bare = (eachL R each).map Ride.bare) => show EachRes w (eachV R each) (eachE R each) (.returned (.tuple #[.slice a' L'.length c', .int .i64 0])) y.w from ⟨a', c', L', y, by rw [he], rfl, h1, h2, by unfold eachV; rw [if_pos he]; exact h3⟩)
    rw [he] at Hck
    generalize EachRes w (eachV R each) (eachE R each) = PO at *
    clear he hrz hid hre
    go_enter Try.func13, Try.ntmps13
    go_wp2_with fail
    refine Hck.out.mono ?_
    rintro _ _ ⟨rfl, y1, rfl⟩
    go_wp2_with fail
    refine (Hct.out y1).mono ?_
    rintro _ _ ⟨g, y2, rfl, rfl, _, hB⟩
    have HB := Lib.hid hB
    clear hB Hck Hct
    obtain ⟨n, hn⟩ : ∃ n, n = R.length := ⟨_, rfl⟩
    rw [← hn] at HB hr256 ⊢
    have Hn := Lib.hid hn
    have HR2 := Lib.hid (HR.out.since y2)
    have HU := Lib.hid (fun q : Since y2.w => y2.trans q)
    clear hn hl
    go_wp2_with fail
    go_loopw [7, 21] (fun v si wr => ∃ (k : Nat) (L' : List Ride) (y : Since y2.w), k ≤ n ∧ si = .int .i64 (k : Int) ∧ wr = y.w ∧ y.w.ownsRow y2.w.heap.size 52 13 v L'.length (flat Ride.cs L') ∧ L'.map Ride.bare = ((R.take k).filter (ctd R each)).map Ride.bare ∧ (∀ r ∈ L', OwnAt y.w r) ∧ L'.length ≤ k) (fun _ si _ => n - (intOf si).toNat)
    case atStart => exact ⟨0, [], Since.self _, by omega, rfl, rfl, ⟨rfl, .inl ⟨rfl, rfl⟩⟩, rfl, fun r hr => (by cases hr), by simp⟩
    case round =>
      obtain ⟨k, L', y, hk, rfl, rfl, hown, hL, hat, hlk⟩ := hrel
      have Hown := Lib.hid hown; have HL := Lib.hid hL; have Hat := Lib.hid hat
      clear hown hL hat
      by_cases hlt : k < n
      · obtain ⟨e, he⟩ : ∃ e, R[k]? = some e := ⟨_, List.getElem?_eq_getElem (by have := Hn.out; omega)⟩
        have hk0 : (0 : Int) ≤ (k : Int) := by omega
        have hkl : (k : Int) < (n : Int) := by omega
        have hbc := (HB.out.since y).c k hlt
        rw [rAt_eq he] at hbc
        have Htk := Lib.hid (pick_take R (ctd R each) k e he)
        obtain ⟨hl1, hl2⟩ := Hlp.out e (List.mem_of_getElem? he)
        have Hea := Lib.hid (HR2.out.r e (List.mem_of_getElem? he))
        obtain ⟨b1, off1, rfl, h1'⟩ := Els.ride HR2.out.c he
        cases hb : ctd R each e
        · rw [hb] at hbc Htk
          have HL2 := Lib.hid (show L'.map Ride.bare = ((R.take (k + 1)).filter (ctd R each)).map Ride.bare by rw [Htk.out, HL.out]; simp)
          clear hb h1' he HL Htk
          go_wp2_with fail
          go_roundw
          case rel => exact ⟨k + 1, L', y, by omega, by go_num, rfl, Hown.out, HL2.out, Hat.out, by omega⟩
          case measure => simp [intOf] <;> omega
        · rw [hb] at hbc Htk
          have HL2 := Lib.hid (show L'.map Ride.bare ++ [e.bare] = ((R.take (k + 1)).filter (ctd R each)).map Ride.bare by rw [Htk.out, HL.out]; simp)
          have ra0 := h1'.c0
          have ra1 := h1'.c1
          have ra2 := h1'.c2
          have ra3 := h1'.c3
          have ra4 := h1'.c4
          have ra5 := h1'.c5
          have ra6 := h1'.c6
          have ra7 := h1'.c7
          have ra8 := h1'.c8
          have ra9 := h1'.c9
          have ra10 := h1'.c10
          have ra11 := h1'.c11
          have ra12 := h1'.c12
          clear hb h1' he HL Htk
          have hob := own_lt Hown.out
          have hol := fun r hr => (Hat.out r hr).lt
          go_upto_region 10 with fail
          have hx0 : (y.w.alloc (.cells #[.int .i64 e.id, .int .i64 e.rd, .int .i64 e.s0, .int .i64 e.s1, .int .i64 e.e0, .int .i64 e.e1, .bool e.op, .slice e.la e.legs.length e.lc, .slice e.pa e.pauses.length e.pc, .int .i64 e.fw, .int .i64 e.fp, .int .i64 e.wh, .int .i64 e.pl] 52)).cell? ⟨y.w.heap.size, 0, none⟩ = some (.int .i64 e.id) := by simp [go_sem]
          have hx1 : (y.w.alloc (.cells #[.int .i64 e.id, .int .i64 e.rd, .int .i64 e.s0, .int .i64 e.s1, .int .i64 e.e0, .int .i64 e.e1, .bool e.op, .slice e.la e.legs.length e.lc, .slice e.pa e.pauses.length e.pc, .int .i64 e.fw, .int .i64 e.fp, .int .i64 e.wh, .int .i64 e.pl] 52)).cell? ⟨y.w.heap.size, 1, none⟩ = some (.int .i64 e.rd) := by simp [go_sem]
          have hx2 : (y.w.alloc (.cells #[.int .i64 e.id, .int .i64 e.rd, .int .i64 e.s0, .int .i64 e.s1, .int .i64 e.e0, .int .i64 e.e1, .bool e.op, .slice e.la e.legs.length e.lc, .slice e.pa e.pauses.length e.pc, .int .i64 e.fw, .int .i64 e.fp, .int .i64 e.wh, .int .i64 e.pl] 52)).cell? ⟨y.w.heap.size, 2, none⟩ = some (.int .i64 e.s0) := by simp [go_sem]
          have hx3 : (y.w.alloc (.cells #[.int .i64 e.id, .int .i64 e.rd, .int .i64 e.s0, .int .i64 e.s1, .int .i64 e.e0, .int .i64 e.e1, .bool e.op, .slice e.la e.legs.length e.lc, .slice e.pa e.pauses.length e.pc, .int .i64 e.fw, .int .i64 e.fp, .int .i64 e.wh, .int .i64 e.pl] 52)).cell? ⟨y.w.heap.size, 3, none⟩ = some (.int .i64 e.s1) := by simp [go_sem]
          have hx4 : (y.w.alloc (.cells #[.int .i64 e.id, .int .i64 e.rd, .int .i64 e.s0, .int .i64 e.s1, .int .i64 e.e0, .int .i64 e.e1, .bool e.op, .slice e.la e.legs.length e.lc, .slice e.pa e.pauses.length e.pc, .int .i64 e.fw, .int .i64 e.fp, .int .i64 e.wh, .int .i64 e.pl] 52)).cell? ⟨y.w.heap.size, 4, none⟩ = some (.int .i64 e.e0) := by simp [go_sem]
          have hx5 : (y.w.alloc (.cells #[.int .i64 e.id, .int .i64 e.rd, .int .i64 e.s0, .int .i64 e.s1, .int .i64 e.e0, .int .i64 e.e1, .bool e.op, .slice e.la e.legs.length e.lc, .slice e.pa e.pauses.length e.pc, .int .i64 e.fw, .int .i64 e.fp, .int .i64 e.wh, .int .i64 e.pl] 52)).cell? ⟨y.w.heap.size, 5, none⟩ = some (.int .i64 e.e1) := by simp [go_sem]
          have hx6 : (y.w.alloc (.cells #[.int .i64 e.id, .int .i64 e.rd, .int .i64 e.s0, .int .i64 e.s1, .int .i64 e.e0, .int .i64 e.e1, .bool e.op, .slice e.la e.legs.length e.lc, .slice e.pa e.pauses.length e.pc, .int .i64 e.fw, .int .i64 e.fp, .int .i64 e.wh, .int .i64 e.pl] 52)).cell? ⟨y.w.heap.size, 6, none⟩ = some (.bool e.op) := by simp [go_sem]
          have hx7 : (y.w.alloc (.cells #[.int .i64 e.id, .int .i64 e.rd, .int .i64 e.s0, .int .i64 e.s1, .int .i64 e.e0, .int .i64 e.e1, .bool e.op, .slice e.la e.legs.length e.lc, .slice e.pa e.pauses.length e.pc, .int .i64 e.fw, .int .i64 e.fp, .int .i64 e.wh, .int .i64 e.pl] 52)).cell? ⟨y.w.heap.size, 7, none⟩ = some (.slice e.la e.legs.length e.lc) := by simp [go_sem]
          have hx8 : (y.w.alloc (.cells #[.int .i64 e.id, .int .i64 e.rd, .int .i64 e.s0, .int .i64 e.s1, .int .i64 e.e0, .int .i64 e.e1, .bool e.op, .slice e.la e.legs.length e.lc, .slice e.pa e.pauses.length e.pc, .int .i64 e.fw, .int .i64 e.fp, .int .i64 e.wh, .int .i64 e.pl] 52)).cell? ⟨y.w.heap.size, 8, none⟩ = some (.slice e.pa e.pauses.length e.pc) := by simp [go_sem]
          have hx9 : (y.w.alloc (.cells #[.int .i64 e.id, .int .i64 e.rd, .int .i64 e.s0, .int .i64 e.s1, .int .i64 e.e0, .int .i64 e.e1, .bool e.op, .slice e.la e.legs.length e.lc, .slice e.pa e.pauses.length e.pc, .int .i64 e.fw, .int .i64 e.fp, .int .i64 e.wh, .int .i64 e.pl] 52)).cell? ⟨y.w.heap.size, 9, none⟩ = some (.int .i64 e.fw) := by simp [go_sem]
          have hx10 : (y.w.alloc (.cells #[.int .i64 e.id, .int .i64 e.rd, .int .i64 e.s0, .int .i64 e.s1, .int .i64 e.e0, .int .i64 e.e1, .bool e.op, .slice e.la e.legs.length e.lc, .slice e.pa e.pauses.length e.pc, .int .i64 e.fw, .int .i64 e.fp, .int .i64 e.wh, .int .i64 e.pl] 52)).cell? ⟨y.w.heap.size, 10, none⟩ = some (.int .i64 e.fp) := by simp [go_sem]
          have hx11 : (y.w.alloc (.cells #[.int .i64 e.id, .int .i64 e.rd, .int .i64 e.s0, .int .i64 e.s1, .int .i64 e.e0, .int .i64 e.e1, .bool e.op, .slice e.la e.legs.length e.lc, .slice e.pa e.pauses.length e.pc, .int .i64 e.fw, .int .i64 e.fp, .int .i64 e.wh, .int .i64 e.pl] 52)).cell? ⟨y.w.heap.size, 11, none⟩ = some (.int .i64 e.wh) := by simp [go_sem]
          have hx12 : (y.w.alloc (.cells #[.int .i64 e.id, .int .i64 e.rd, .int .i64 e.s0, .int .i64 e.s1, .int .i64 e.e0, .int .i64 e.e1, .bool e.op, .slice e.la e.legs.length e.lc, .slice e.pa e.pauses.length e.pc, .int .i64 e.fw, .int .i64 e.fp, .int .i64 e.wh, .int .i64 e.pl] 52)).cell? ⟨y.w.heap.size, 12, none⟩ = some (.int .i64 e.pl) := by simp [go_sem]
          have hxf : ∀ o, (y.w.alloc (.cells #[.int .i64 e.id, .int .i64 e.rd, .int .i64 e.s0, .int .i64 e.s1, .int .i64 e.e0, .int .i64 e.e1, .bool e.op, .slice e.la e.legs.length e.lc, .slice e.pa e.pauses.length e.pc, .int .i64 e.fw, .int .i64 e.fp, .int .i64 e.wh, .int .i64 e.pl] 52)).frozen? ⟨y.w.heap.size, o, none⟩ = false := fun o => by simp [go_sem]
          have hlt0 : y.w.heap.size < (y.w.alloc (.cells #[.int .i64 e.id, .int .i64 e.rd, .int .i64 e.s0, .int .i64 e.s1, .int .i64 e.e0, .int .i64 e.e1, .bool e.op, .slice e.la e.legs.length e.lc, .slice e.pa e.pauses.length e.pc, .int .i64 e.fw, .int .i64 e.fp, .int .i64 e.wh, .int .i64 e.pl] 52)).heap.size := by simp
          have hst0 : ∃ zz : Since y.w, (y.w.alloc (.cells #[.int .i64 e.id, .int .i64 e.rd, .int .i64 e.s0, .int .i64 e.s1, .int .i64 e.e0, .int .i64 e.e1, .bool e.op, .slice e.la e.legs.length e.lc, .slice e.pa e.pauses.length e.pc, .int .i64 e.fw, .int .i64 e.fp, .int .i64 e.wh, .int .i64 e.pl] 52)) = zz.w := IsSince.alloc (IsSince.self _) _
          have hsz0 := y.b.size
          obtain ⟨y5, e2⟩ := IsSince.alloc (IsSince.of y) (.cells #[.int .i64 e.id, .int .i64 e.rd, .int .i64 e.s0, .int .i64 e.s1, .int .i64 e.e0, .int .i64 e.e1, .bool e.op, .slice e.la e.legs.length e.lc, .slice e.pa e.pauses.length e.pc, .int .i64 e.fw, .int .i64 e.fp, .int .i64 e.wh, .int .i64 e.pl] 52)
          rw [e2] at hx0 hx1 hx2 hx3 hx4 hx5 hx6 hx7 hx8 hx9 hx10 hx11 hx12 hxf hlt0 hst0 ⊢
          (replace Hown := Lib.hid (own_to Hown.out hst0); replace Hat := Lib.hid (fun r hr => (Hat.out r hr).to hst0); have hbx := BoxF.new y.w [.int .i64 e.id, .int .i64 e.rd, .int .i64 e.s0, .int .i64 e.s1, .int .i64 e.e0, .int .i64 e.e1, .bool e.op, .slice e.la e.legs.length e.lc, .slice e.pa e.pauses.length e.pc, .int .i64 e.fw, .int .i64 e.fp, .int .i64 e.wh, .int .i64 e.pl] 52; rw [e2] at hbx; skip)
          clear e2 hst0
          generalize y.w.heap.size = gr at *
          have Hhx0 : ∀ q : Since y5.w, q.w.cell? ⟨gr, 0, none⟩ = some (.int .i64 e.id) := fun q => Since.cell hx0 (by omega) q
          have Hhx1 : ∀ q : Since y5.w, q.w.cell? ⟨gr, 1, none⟩ = some (.int .i64 e.rd) := fun q => Since.cell hx1 (by omega) q
          have Hhx2 : ∀ q : Since y5.w, q.w.cell? ⟨gr, 2, none⟩ = some (.int .i64 e.s0) := fun q => Since.cell hx2 (by omega) q
          have Hhx3 : ∀ q : Since y5.w, q.w.cell? ⟨gr, 3, none⟩ = some (.int .i64 e.s1) := fun q => Since.cell hx3 (by omega) q
          have Hhx4 : ∀ q : Since y5.w, q.w.cell? ⟨gr, 4, none⟩ = some (.int .i64 e.e0) := fun q => Since.cell hx4 (by omega) q
          have Hhx5 : ∀ q : Since y5.w, q.w.cell? ⟨gr, 5, none⟩ = some (.int .i64 e.e1) := fun q => Since.cell hx5 (by omega) q
          have Hhx6 : ∀ q : Since y5.w, q.w.cell? ⟨gr, 6, none⟩ = some (.bool e.op) := fun q => Since.cell hx6 (by omega) q
          have Hhx7 : ∀ q : Since y5.w, q.w.cell? ⟨gr, 7, none⟩ = some (.slice e.la e.legs.length e.lc) := fun q => Since.cell hx7 (by omega) q
          have Hhx8 : ∀ q : Since y5.w, q.w.cell? ⟨gr, 8, none⟩ = some (.slice e.pa e.pauses.length e.pc) := fun q => Since.cell hx8 (by omega) q
          have Hhx9 : ∀ q : Since y5.w, q.w.cell? ⟨gr, 9, none⟩ = some (.int .i64 e.fw) := fun q => Since.cell hx9 (by omega) q
          have Hhx10 : ∀ q : Since y5.w, q.w.cell? ⟨gr, 10, none⟩ = some (.int .i64 e.fp) := fun q => Since.cell hx10 (by omega) q
          have Hhx11 : ∀ q : Since y5.w, q.w.cell? ⟨gr, 11, none⟩ = some (.int .i64 e.wh) := fun q => Since.cell hx11 (by omega) q
          have Hhx12 : ∀ q : Since y5.w, q.w.cell? ⟨gr, 12, none⟩ = some (.int .i64 e.pl) := fun q => Since.cell hx12 (by omega) q
          have Hhxf : ∀ (q : Since y5.w) (o : Nat), q.w.frozen? ⟨gr, o, none⟩ = false := fun q o => Since.free (hxf o) (by omega) q
          have Hhxg := Lib.hid (And.intro hsz0 hlt0)
          clear hlt0 hsz0
          have Hob := Lib.hid hob
          have Hol := Lib.hid hol
          clear hob hol
          have h5 : IsSince y2.w y5.w := IsSince.of y5
          have h5d : IsSince y2.w y5.w.drew := IsSince.drew' h5
          have HBX := Lib.hid hbx
          have Hgr := Lib.hid Hhxg.out.1
          have hbd : BoxF y5.w.drew gr [.int .i64 e.id, .int .i64 e.rd, .int .i64 e.s0, .int .i64 e.s1, .int .i64 e.e0, .int .i64 e.e1, .bool e.op, .slice e.la e.legs.length e.lc, .slice e.pa e.pauses.length e.pc, .int .i64 e.fw, .int .i64 e.fp, .int .i64 e.wh, .int .i64 e.pl] := ⟨hbx.lt, hbx.c, hbx.f⟩
          have HBD := Lib.hid hbd
          have j7 := hbx.c 7 _ rfl
          have j8 := hbx.c 8 _ rfl
          have j7d := hbd.c 7 _ rfl
          have j8d := hbd.c 8 _ rfl
          have jf := hbx.f
          have jfd := hbd.f
          have HCL := Lib.hid (fun w' (hw : IsSince y2.w w') => show Calls Try.prog 32 #[.slice e.la e.legs.length e.lc] w' (CloneS y2.w w' 63 5 e.legs.length (flat Leg.cs e.legs)) from (cloneL_calls w' (Since.self w') e.la e.legs e.lc (Hea.out.l.to hw) hl1).mono fun _ _ k => cloneS hw k)
          have HCP := Lib.hid (fun w' (hw : IsSince y2.w w') => show Calls Try.prog 33 #[.slice e.pa e.pauses.length e.pc] w' (CloneS y2.w w' 66 4 e.pauses.length (flat Pse.cs e.pauses)) from (cloneP_calls w' (Since.self w') e.pa e.pauses e.pc (Hea.out.p.to hw) hl2).mono fun _ _ k => cloneS hw k)
          clear hbx hbd hx0 hx1 hx2 hx3 hx4 hx5 hx6 hx7 hx8 hx9 hx10 hx11 hx12 hxf Hhx0 Hhx1 Hhx2 Hhx3 Hhx4 Hhx5 Hhx6 Hhx7 Hhx8 Hhx9 Hhx10 Hhx11 Hhx12 Hhxf ra0 ra1 ra2 ra3 ra4 ra5 ra6 ra7 ra8 ra9 ra10 ra11 ra12
          go_region_with (first | (go_at_call 32; ((with_reducible refine (HCL.out _ (by first | assumption | exact IsSince.of _)).mono ?_); rintro _ _ ⟨a1, c1, z1, rfl, rfl, hz1, hown1⟩; (first | have hA := HBX.out.to hz1 | have hA := HBD.out.to hz1); have hA7 := hA.c 7 _ rfl; have hA8 := hA.c 8 _ rfl; have hAf := hA.f; have hs1 := IsSince.of z1; (first | have hO := own_to Hown.out hz1 | have hO := own_to (own_to Hown.out (IsSince.drew' (IsSince.self _))) hz1); (first | have hT := fun r hr => (Hat.out r hr).to hz1 | have hT := fun r hr => ((Hat.out r hr).to (IsSince.drew' (IsSince.self _))).to hz1))) | (go_at_call 33; ((with_reducible refine (HCP.out _ (by first | assumption | exact IsSince.of _)).mono ?_); rintro _ _ ⟨a2, c2, z2, rfl, rfl, hz2, hown2⟩; replace hown1 := own_to hown1 hz2; replace hA := hA.to hz2; replace hA7 := hA.c 7 _ rfl; replace hA8 := hA.c 8 _ rfl; replace hAf := hA.f; replace hO := own_to hO hz2; replace hT := fun r hr => (hT r hr).to hz2)))
          all_goals
            have hX := (hA.set (j := 7) (by simp) (.slice a1 e.legs.length c1)).set (j := 8) (by simp) (.slice a2 e.pauses.length c2)
            have hne1 : ∀ (B : Nat), gr < B → ∀ (T m nn : Nat) (u : Value) (xs : List Value), z2.w.ownsRow B T m u nn xs → ((z2.w.setCell ⟨gr, 7, none⟩ (.slice a1 e.legs.length c1)).setCell ⟨gr, 8, none⟩ (.slice a2 e.pauses.length c2)).ownsRow B T m u nn xs := fun B hB T m nn u xs hh => by
              have hb : ∀ b, u.ownBlock = some b → b ≠ gr := fun b hb e => by have := own_block hh b hb; omega
              exact own_set_ne (own_set_ne hh _ _ hb) _ _ hb
            have o1 := hne1 _ (by have := Hhxg.out.2; first | exact this | exact Nat.lt_of_lt_of_le this (Nat.le_refl _)) _ _ _ _ _ hown1
            have o2 := hne1 _ (by have h1 := hA.lt; have := Hhxg.out.2; first | exact Nat.lt_of_lt_of_le this (by obtain ⟨v, hv⟩ := hz1; rw [hv]; exact v.b.size) | exact h1) _ _ _ _ _ hown2
            have hO2 := own_set_ne (own_set_ne hO ⟨gr, 7, none⟩ (.slice a1 e.legs.length c1) (fun b hb e => by have := Hob.out b hb; have e' : b = gr := e; omega)) ⟨gr, 8, none⟩ (.slice a2 e.pauses.length c2) (fun b hb e => by have := Hob.out b hb; have e' : b = gr := e; omega)
            have hT2 := fun r hr => ((hT r hr).setAt (Hol.out r hr) 7 (.slice a1 e.legs.length c1)).setAt (Hol.out r hr) 8 (.slice a2 e.pauses.length c2)
            obtain ⟨z3, h3⟩ := z2.set ⟨gr, 7, none⟩ Hgr.out (.slice a1 e.legs.length c1)
            obtain ⟨y7, h7⟩ := z3.set ⟨gr, 8, none⟩ Hgr.out (.slice a2 e.pauses.length c2)
            rw [← h3] at h7
            rw [h7] at hX o1 o2 hO2 hT2 ⊢
            have HX := Lib.hid hX
            have Hnew := Lib.hid (show OwnAt y7.w (e.with a1 c1 a2 c2) from ⟨⟨_, o1⟩, ⟨_, o2⟩⟩)
            have Hold := Lib.hid hT2
            have HO := Lib.hid hO2
            have kx0 := HX.out.c 0 _ rfl
            have kx1 := HX.out.c 1 _ rfl
            have kx2 := HX.out.c 2 _ rfl
            have kx3 := HX.out.c 3 _ rfl
            have kx4 := HX.out.c 4 _ rfl
            have kx5 := HX.out.c 5 _ rfl
            have kx6 := HX.out.c 6 _ rfl
            have kx7 := HX.out.c 7 _ rfl
            have kx8 := HX.out.c 8 _ rfl
            have kx9 := HX.out.c 9 _ rfl
            have kx10 := HX.out.c 10 _ rfl
            have kx11 := HX.out.c 11 _ rfl
            have kx12 := HX.out.c 12 _ rfl
            clear hX hO2 hT2 h3 h7 o1 o2 hne1 hA hA7 hA8 hAf hO hT hown1 hown2 hz1 hz2 hs1 HCL HCP jf jfd j7 j8 j7d j8d h5 h5d
            go_wp2_with (at_builtin; (refine wpList_appendK (w0 := y2.w) ?hw rfl _ _ 22 rfl y2.w.heap.size (Nat.le_refl _) ?hb 52 zeroRide 136 sRide u7 L'.length (flat Ride.cs L') rfl ?hown ⟨y7.w.heap.size, 0, none⟩ 1 1 (e.with a1 c1 a2 c2).cs rfl rfl ?hc (ride_one _) ?h63 ?hbytes ?_; rotate_right 1; intro v2 q2 hown4 _ hg4; refine Hid.out ?_))
            case hw => exact IsSince.alloc (IsSince.of y7) _
            case hb => have := y7.b.size; simp; omega
            case hown => exact own_to HO.out (IsSince.alloc (IsSince.self _) _)
            case hc => exact cell_new_at y7.w (e.with a1 c1 a2 c2).cs _
            case h63 => unfold maxLen; omega
            case hbytes => omega
            have Hown5 := Lib.hid (show q2.w.ownsRow y2.w.heap.size 52 13 v2 (L' ++ [e.with a1 c1 a2 c2]).length (flat Ride.cs (L' ++ [e.with a1 c1 a2 c2])) by rw [flat_append, flat_one, List.length_append]; exact hown4)
            have hcur := own_to HO.out (IsSince.alloc (IsSince.self y7.w) (.cells (e.with a1 c1 a2 c2).cs.toArray 52))
            have Hat5 := Lib.hid (fun r (hr : r ∈ L' ++ [e.with a1 c1 a2 c2]) => show OwnAt q2.w r by
              rcases List.mem_append.1 hr with h | h
              · exact ((Hold.out r h).to (IsSince.alloc (IsSince.self y7.w) _)).keep hg4 hcur
              · have : r = e.with a1 c1 a2 c2 := by simpa using h
                subst this
                exact (Hnew.out.to (IsSince.alloc (IsSince.self y7.w) _)).keep hg4 hcur)
            clear hown4 hg4 hcur
            refine Lib.hid ?_
            go_wp2_with fail
            go_roundw
            case rel => exact ⟨k + 1, L' ++ [e.with a1 c1 a2 c2], q2, by omega, by go_num, rfl, Hown5.out, by rw [List.map_append]; exact HL2.out, Hat5.out, by simp; omega⟩
            case measure => simp [intOf] <;> omega
      · obtain rfl : k = n := by omega
        obtain ⟨_, a5, c5, rfl, hc5, he5, _, _⟩ := own_els Ride.len (by decide) Hown.out
        obtain ⟨z, hz⟩ := HU.out y
        have HF := Lib.hid (HP.out a5 c5 L' z (hz ▸ ⟨he5, fun r hr => (Hat.out r hr).at⟩) hc5 (by rw [HL.out, List.take_of_length_le (by have := Hn.out; omega)]; rfl))
        rw [hz]
        clear hc5 he5 hz
        go_wp2_with fail
        exact HF.out
end Go.Proofs.Ytdmmjapccgeffaa
