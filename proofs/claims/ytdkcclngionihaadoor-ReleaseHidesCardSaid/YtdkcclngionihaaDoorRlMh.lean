/- Trips between zones, the program: zones. -/
import Derived.Test.YtdkcclngionihaaDoorRlMg
import Derived.IntWalk
set_option linter.all false
namespace Go.Proofs.YtdkcclngionihaaDoor
open Go.RowKit

def badz1 (z : Int) : Bool := decide (z < 0) || decide (8 ≤ z)
theorem badZ_of {zs : List Int} {k : Nat} {z : Int} (hz : zs[k]? = some z) (h : badz1 z = true) : badZ zs = true := by
  unfold badZ; rw [List.any_eq_true]; exact ⟨z, List.mem_of_getElem? hz, h⟩
theorem badZ_no {zs : List Int} (h : ∀ j, j < zs.length → ∀ z, zs[j]? = some z → badz1 z = false) : badZ zs = false := by
  unfold badZ
  rw [List.any_eq_false]
  intro z hz
  obtain ⟨j, hj⟩ := List.mem_iff_getElem?.1 hz
  have := h j (List.getElem?_eq_some_iff.1 hj).1 z hj
  unfold badz1 at this
  rw [this]; simp
theorem zone_bad {zs : List Int} (h : zlenB zs = false ∨ badZ zs = true) (wh pl : Int) : zoneE zs wh pl = 3 ∧ zoneV zs wh pl = 0 := by
  have he : zoneE zs wh pl = 3 := if_pos h
  exact ⟨he, by unfold zoneV; rw [if_neg (by rw [he]; decide)]⟩
section
variable {zs : List Int} (h1 : zlenB zs = true) (h2 : badZ zs = false)
include h1 h2
theorem zone_st {pl : Int} (h : 0 ≤ pl ∧ pl < 64) : zoneE zs 2 pl = 0 ∧ zoneV zs 2 pl = at0 zs pl.toNat := by
  have he : zoneE zs 2 pl = 0 := by unfold zoneE; rw [if_neg (by rw [h1, h2]; simp), if_pos rfl, if_pos h]
  exact ⟨he, by unfold zoneV; rw [if_pos he, if_pos rfl]⟩
theorem zone_st_no {pl : Int} (h : ¬ (0 ≤ pl ∧ pl < 64)) : zoneE zs 2 pl = 7 ∧ zoneV zs 2 pl = 0 := by
  have he : zoneE zs 2 pl = 7 := by unfold zoneE; rw [if_neg (by rw [h1, h2]; simp), if_pos rfl, if_neg h]
  exact ⟨he, by unfold zoneV; rw [if_neg (by rw [he]; decide)]⟩
theorem zone_dk {pl : Int} (h : 0 ≤ pl ∧ pl / 32 < (zs.length : Int) - 64) : zoneE zs 1 pl = 0 ∧ zoneV zs 1 pl = at0 zs (64 + pl / 32).toNat := by
  have he : zoneE zs 1 pl = 0 := by unfold zoneE; rw [if_neg (by rw [h1, h2]; simp), if_neg (by decide), if_pos rfl, if_pos h]
  exact ⟨he, by unfold zoneV; rw [if_pos he, if_neg (by decide)]⟩
theorem zone_dk_no {pl : Int} (h : ¬ (0 ≤ pl ∧ pl / 32 < (zs.length : Int) - 64)) : zoneE zs 1 pl = 7 ∧ zoneV zs 1 pl = 0 := by
  have he : zoneE zs 1 pl = 7 := by unfold zoneE; rw [if_neg (by rw [h1, h2]; simp), if_neg (by decide), if_pos rfl, if_neg h]
  exact ⟨he, by unfold zoneV; rw [if_neg (by rw [he]; decide)]⟩
theorem zone_kind {wh pl : Int} (ha : wh ≠ 1) (hb : wh ≠ 2) : zoneE zs wh pl = 14 ∧ zoneV zs wh pl = 0 := by
  have he : zoneE zs wh pl = 14 := by unfold zoneE; rw [if_neg (by rw [h1, h2]; simp), if_neg hb, if_neg ha]
  exact ⟨he, by unfold zoneV; rw [if_neg (by rw [he]; decide)]⟩
end
theorem badz1_calls (z : Int) (w : World) : Calls Tryd.prog 87 #[.int .i64 z] w fun o w' => o = .returned (.bool (badz1 z)) ∧ w = w' := by
  rcases (by omega : z < 0 ∨ (¬ z < 0 ∧ 8 ≤ z) ∨ (¬ z < 0 ∧ z < 8)) with h | ⟨h, h'⟩ | ⟨h, h'⟩
  · have Hr := Lib.hid (show badz1 z = true by unfold badz1; rw [decide_eq_true h]; rfl)
    go_enter Tryd.func87, Tryd.ntmps87
    go_wp2_with fail
    go_ret
    exact ⟨ret_bool (by first | (rw [Hr.out]; done) | (rw [Hr.out]; rfl) | (rw [Hr.out]; simp; done) | (rw [Hr.out]; simp; omega)), rfl⟩
  · have Hr := Lib.hid (show badz1 z = true by unfold badz1; rw [decide_eq_true h']; simp)
    go_enter Tryd.func87, Tryd.ntmps87
    go_wp2_with fail
    go_ret
    exact ⟨ret_bool (by first | (rw [Hr.out]; done) | (rw [Hr.out]; rfl) | (rw [Hr.out]; simp; done) | (rw [Hr.out]; simp; omega)), rfl⟩
  · have Hr := Lib.hid (show badz1 z = false by unfold badz1; rw [decide_eq_false h, decide_eq_false (by omega)]; rfl)
    go_enter Tryd.func87, Tryd.ntmps87
    go_wp2_with fail
    go_ret
    exact ⟨ret_bool (by first | (rw [Hr.out]; done) | (rw [Hr.out]; rfl) | (rw [Hr.out]; simp; done) | (rw [Hr.out]; simp; omega)), rfl⟩
def IdxZ (zs : List Int) (w : World) (o : Ending) (w' : World) : Prop := ∃ n : Int, o = .returned (.int .i64 n) ∧ w = w' ∧ (0 ≤ n ↔ badZ zs = true)
set_option maxHeartbeats 4000000 in
theorem idxZ_calls (w : World) (a : Option Addr) (zs : List Int) (c : Nat) (h : IntRow w a zs) (hl : zs.length ≤ 9223372036854775807) :
    Calls Tryd.prog 107 #[.slice a zs.length c, .func (.func 87) #[] #[]] w (IdxZ zs w) := by
  have H := Lib.hid h
  have Hpost := Lib.hid (fun (n : Int) (hn : 0 ≤ n ↔ badZ zs = true) => show IdxZ zs w (.returned (.int .i64 n)) w from ⟨n, rfl, rfl, hn⟩)
  generalize IdxZ zs w = PO at *
  clear h
  go_enter Tryd.func107, Tryd.ntmps107
  go_wp2_with fail
  go_loop [8] (fun i => ∃ k : Nat, k ≤ zs.length ∧ i = .int .i64 k ∧ ∀ j, j < k → ∀ z, zs[j]? = some z → badz1 z = false) (fun i => zs.length - (intOf i).toNat)
  case atStart => exact ⟨0, by omega, rfl, fun j hj => by omega⟩
  case round =>
    obtain ⟨k, hk, rfl, hok⟩ := hrel
    have Hok := Lib.hid hok; clear hok
    by_cases hlt : k < zs.length
    · obtain ⟨b, off, rfl, hb, hc⟩ := H.out k hlt
      change w.cell? ⟨b, off + k, none⟩ = some (.int .i64 (at0 zs k)) at hc
      have hk0 : (0 : Int) ≤ (k : Int) := by omega
      have hkl : (k : Int) < (zs.length : Int) := by omega
      have Hx := Lib.hid (show zs[k]? = some (at0 zs k) by unfold at0; rw [List.getD_eq_getElem?_getD, List.getElem?_eq_getElem hlt]; rfl)
      generalize at0 zs k = z at *
      have Hc := Lib.hid (fun w => badz1_calls z w)
      clear hb
      cases hz : badz1 z
      · rw [hz] at Hc
        have Hn := Lib.hid (upto_next (P := fun z => badz1 z = false) Hok.out Hx.out hz)
        clear hz
        go_wp2_with (go_at_call 87; ((with_reducible refine (Hc.out _).mono ?_); rintro _ _ ⟨rfl, rfl⟩))
        go_round
        case rel => exact ⟨k + 1, by omega, by go_num, Hn.out⟩
        case measure => simp [intOf] <;> omega
      · rw [hz] at Hc
        have Hr := Lib.hid (Hpost.out k ⟨fun _ => badZ_of Hx.out hz, fun _ => by omega⟩)
        clear hz
        go_wp2_with (go_at_call 87; ((with_reducible refine (Hc.out _).mono ?_); rintro _ _ ⟨rfl, rfl⟩))
        exact Hr.out
    · obtain rfl : k = zs.length := by omega
      have Hr := Lib.hid (Hpost.out (-1) ⟨fun h => by omega, fun h => by rw [badZ_no Hok.out] at h; cases h⟩)
      go_wp2_with fail
      exact Hr.out
theorem anyZ_calls (w : World) (a : Option Addr) (zs : List Int) (c : Nat) (h : IntRow w a zs) (hl : zs.length ≤ 9223372036854775807) :
    Calls Tryd.prog 86 #[.slice a zs.length c, .func (.func 87) #[] #[]] w fun o w' => o = .returned (.bool (badZ zs)) ∧ w = w' := by
  have Hc := Lib.hid (idxZ_calls w a zs c h hl)
  clear h
  go_enter Tryd.func86, Tryd.ntmps86
  go_wp2_with fail
  refine Hc.out.mono ?_
  rintro _ _ ⟨n, rfl, rfl, hn⟩
  have Hn := Lib.hid hn
  clear hn
  by_cases h0 : 0 ≤ n
  · have Hr := Lib.hid (Hn.out.1 h0)
    go_wp2_with fail
    go_ret
    exact ⟨ret_bool (by first | (rw [Hr.out]; done) | (rw [Hr.out]; rfl) | (rw [Hr.out]; simp; done) | (rw [Hr.out]; simp; omega)), rfl⟩
  · have Hr := Lib.hid (show badZ zs = false by cases hb : badZ zs; rfl; exact (h0 (Hn.out.2 hb)).elim)
    go_wp2_with fail
    go_ret
    exact ⟨ret_bool (by first | (rw [Hr.out]; done) | (rw [Hr.out]; rfl) | (rw [Hr.out]; simp; done) | (rw [Hr.out]; simp; omega)), rfl⟩
def ZRes (zs : List Int) (wh pl : Int) (w : World) (o : Ending) (w' : World) : Prop := o = .returned (.tuple #[.int .i64 (zoneV zs wh pl), .int .i64 (zoneE zs wh pl)]) ∧ w = w'
theorem zRes {zs : List Int} {wh pl v e : Int} (h : zoneE zs wh pl = e ∧ zoneV zs wh pl = v) (w : World) : ZRes zs wh pl w (.returned (.tuple #[.int .i64 v, .int .i64 e])) w := by
  obtain ⟨rfl, rfl⟩ := h; exact ⟨rfl, rfl⟩
set_option maxRecDepth 100000 in
set_option maxHeartbeats 4000000 in
theorem zone_calls (w : World) (a : Option Addr) (zs : List Int) (c : Nat) (wh pl : Int) (h : IntRow w a zs) (hl : zs.length ≤ 9223372036854775807) (hpl : pl ≤ 9223372036854775807) :
    Calls Tryd.prog 66 #[.slice a zs.length c, .int .i64 wh, .int .i64 pl] w (ZRes zs wh pl w) := by
  have H := Lib.hid h
  have Hc := Lib.hid (anyZ_calls w a zs c h hl)
  have Hp := Lib.hid (fun (v e : Int) (h : zoneE zs wh pl = e ∧ zoneV zs wh pl = v) => zRes h w)
  generalize ZRes zs wh pl w = PO at *
  clear h
  by_cases hz : 64 ≤ zs.length ∧ zs.length ≤ 96
  case neg =>
    have HB := Lib.hid (Hp.out _ _ (zone_bad (Or.inl (show zlenB zs = false by unfold zlenB; rw [← Bool.decide_and]; exact decide_eq_false hz)) wh pl))
    rcases (by omega : zs.length < 64 ∨ (64 ≤ zs.length ∧ 96 < zs.length)) with h | ⟨h, h'⟩
    all_goals
      clear hz
      go_enter Tryd.func66, Tryd.ntmps66
      go_wp2_with fail
      exact HB.out
  obtain ⟨z1, z2⟩ := hz
  have hzl : zlenB zs = true := by unfold zlenB; rw [decide_eq_true z1, decide_eq_true z2]; rfl
  cases hb : badZ zs
  case true =>
    have HB := Lib.hid (Hp.out _ _ (zone_bad (Or.inr hb) wh pl))
    rw [hb] at Hc
    clear hb hzl
    go_enter Tryd.func66, Tryd.ntmps66
    go_wp2_with (go_at_call 86; ((with_reducible refine Hc.out.mono ?_); rintro _ _ ⟨rfl, rfl⟩))
    exact HB.out
  case false =>
    rw [hb] at Hc
    have Hzl := Lib.hid hzl
    have Hb := Lib.hid hb
    clear hzl hb
    by_cases h2 : wh = 2
    · subst h2
      by_cases hp : 0 ≤ pl ∧ pl < 64
      · obtain ⟨p, rfl⟩ : ∃ p : Nat, pl = p := ⟨pl.toNat, by omega⟩
        obtain ⟨b, off, rfl, hbl, hcell⟩ := H.out p (by omega)
        change w.cell? ⟨b, off + p, none⟩ = some (.int .i64 (at0 zs p)) at hcell
        have HB := Lib.hid (Hp.out _ _ (zone_st Hzl.out Hb.out hp))
        rw [Int.toNat_natCast] at HB
        obtain ⟨p1, p2⟩ := hp
        have p3 : (p : Int) < (zs.length : Int) := by omega
        clear hbl
        generalize at0 zs p = v at *
        go_enter Tryd.func66, Tryd.ntmps66
        go_wp2_with (go_at_call 86; ((with_reducible refine Hc.out.mono ?_); rintro _ _ ⟨rfl, rfl⟩))
        exact HB.out
      · have HB := Lib.hid (Hp.out _ _ (zone_st_no Hzl.out Hb.out hp))
        rcases (by omega : pl < 0 ∨ (0 ≤ pl ∧ 64 ≤ pl)) with h | ⟨h, h'⟩
        all_goals
          clear hp
          go_enter Tryd.func66, Tryd.ntmps66
          go_wp2_with (go_at_call 86; ((with_reducible refine Hc.out.mono ?_); rintro _ _ ⟨rfl, rfl⟩))
          exact HB.out
    · by_cases h1 : wh = 1
      · subst h1
        by_cases hp : 0 ≤ pl ∧ pl / 32 < (zs.length : Int) - 64
        · obtain ⟨p, rfl⟩ : ∃ p : Nat, pl = p := ⟨pl.toNat, by omega⟩
          obtain ⟨b, off, rfl, hbl, hcell⟩ := H.out (64 + p / 32) (by omega)
          change w.cell? ⟨b, off + (64 + p / 32), none⟩ = some (.int .i64 (at0 zs (64 + p / 32))) at hcell
          have HB := Lib.hid (Hp.out _ _ (zone_dk Hzl.out Hb.out hp))
          rw [show (64 + (p : Int) / 32).toNat = 64 + p / 32 by omega] at HB
          obtain ⟨p1, p2⟩ := hp
          have p3 : (0 : Int) ≤ 64 + (p : Int) / 32 := by omega
          have p4 : 64 + (p : Int) / 32 < (zs.length : Int) := by omega
          have p5 : (64 + (p : Int) / 32).toNat = 64 + p / 32 := by omega
          clear hbl h2
          generalize at0 zs (64 + p / 32) = v at *
          go_enter Tryd.func66, Tryd.ntmps66
          go_wp2_with (go_at_call 86; ((with_reducible refine Hc.out.mono ?_); rintro _ _ ⟨rfl, rfl⟩))
          exact HB.out
        · have HB := Lib.hid (Hp.out _ _ (zone_dk_no Hzl.out Hb.out hp))
          rcases (by omega : pl < 0 ∨ (0 ≤ pl ∧ ¬ pl / 32 < (zs.length : Int) - 64)) with h | ⟨h, h'⟩
          all_goals
            clear hp h2
            go_enter Tryd.func66, Tryd.ntmps66
            go_wp2_with (go_at_call 86; ((with_reducible refine Hc.out.mono ?_); rintro _ _ ⟨rfl, rfl⟩))
            exact HB.out
      · have HB := Lib.hid (Hp.out _ _ (zone_kind Hzl.out Hb.out h1 h2))
        have e1 : (wh == 1) = false := by simpa using h1
        have e2 : (wh == 2) = false := by simpa using h2
        clear h1 h2
        go_enter Tryd.func66, Tryd.ntmps66
        go_wp2_with (go_at_call 86; ((with_reducible refine Hc.out.mono ?_); rintro _ _ ⟨rfl, rfl⟩))
        exact HB.out
end Go.Proofs.YtdkcclngionihaaDoor
/- Trips between zones, the program: the ends of a ride; tables, their error, how far they are apart. -/
namespace Go.Proofs.YtdkcclngionihaaDoor
open Go.RowKit

def endA (zs : List Int) (r : Ride) : Int := if zoneE zs r.fw r.fp = 0 then fromZ zs r else 0
def endB (zs : List Int) (r : Ride) : Int := if zoneE zs r.fw r.fp = 0 then toZ zs r else 0
def EndRes (zs : List Int) (r : Ride) (w : World) (o : Ending) (w' : World) : Prop := o = .returned (.tuple #[.int .i64 (endA zs r), .int .i64 (endB zs r), .int .i64 (endE zs r)]) ∧ ∃ y : Since w, w' = y.w
theorem endRes {zs : List Int} {r : Ride} {w : World} {a b e : Int} (h : endA zs r = a ∧ endB zs r = b ∧ endE zs r = e) (y : Since w) : EndRes zs r w (.returned (.tuple #[.int .i64 a, .int .i64 b, .int .i64 e])) y.w := by
  obtain ⟨rfl, rfl, rfl⟩ := h; exact ⟨rfl, y, rfl⟩
set_option maxRecDepth 100000 in
set_option maxHeartbeats 4000000 in
theorem ends_calls (w : World) (x : Since w) (a : Option Addr) (zs : List Int) (c : Nat) (sz : Int) (r : Ride) (h : IntRow w a zs) (hl : zs.length ≤ 9223372036854775807) (hf : r.fp ≤ 9223372036854775807) (hp : r.pl ≤ 9223372036854775807) :
    Calls Tryd.prog 45 #[.slice a zs.length c, .int .i64 sz, .agg #[.int .i64 r.id, .int .i64 r.rd, .int .i64 r.s0, .int .i64 r.s1, .int .i64 r.e0, .int .i64 r.e1, .bool r.op, .slice r.la r.legs.length r.lc, .slice r.pa r.pauses.length r.pc, .int .i64 r.fw, .int .i64 r.fp, .int .i64 r.wh, .int .i64 r.pl]] x.w (EndRes zs r w) := by
  have H := Lib.hid h
  have Hp := Lib.hid (fun (a b e : Int) (h : endA zs r = a ∧ endB zs r = b ∧ endE zs r = e) (y : Since w) => endRes h y)
  generalize EndRes zs r w = PO at *
  clear h
  go_enter Tryd.func45, Tryd.ntmps45
  go_upto_region 1 with fail
  have hb0_0 : ∀ y : Since (x.w.alloc (.cells #[.int .i64 r.id, .int .i64 r.rd, .int .i64 r.s0, .int .i64 r.s1, .int .i64 r.e0, .int .i64 r.e1, .bool r.op, .slice r.la r.legs.length r.lc, .slice r.pa r.pauses.length r.pc, .int .i64 r.fw, .int .i64 r.fp, .int .i64 r.wh, .int .i64 r.pl] 73)), y.w.cell? ⟨x.w.heap.size, 0, none⟩ = some (.int .i64 r.id) := fun y => Since.cell (by simp [go_sem]) (by first | (simp; done) | (simp; omega)) y
  have hb0_1 : ∀ y : Since (x.w.alloc (.cells #[.int .i64 r.id, .int .i64 r.rd, .int .i64 r.s0, .int .i64 r.s1, .int .i64 r.e0, .int .i64 r.e1, .bool r.op, .slice r.la r.legs.length r.lc, .slice r.pa r.pauses.length r.pc, .int .i64 r.fw, .int .i64 r.fp, .int .i64 r.wh, .int .i64 r.pl] 73)), y.w.cell? ⟨x.w.heap.size, 1, none⟩ = some (.int .i64 r.rd) := fun y => Since.cell (by simp [go_sem]) (by first | (simp; done) | (simp; omega)) y
  have hb0_2 : ∀ y : Since (x.w.alloc (.cells #[.int .i64 r.id, .int .i64 r.rd, .int .i64 r.s0, .int .i64 r.s1, .int .i64 r.e0, .int .i64 r.e1, .bool r.op, .slice r.la r.legs.length r.lc, .slice r.pa r.pauses.length r.pc, .int .i64 r.fw, .int .i64 r.fp, .int .i64 r.wh, .int .i64 r.pl] 73)), y.w.cell? ⟨x.w.heap.size, 2, none⟩ = some (.int .i64 r.s0) := fun y => Since.cell (by simp [go_sem]) (by first | (simp; done) | (simp; omega)) y
  have hb0_3 : ∀ y : Since (x.w.alloc (.cells #[.int .i64 r.id, .int .i64 r.rd, .int .i64 r.s0, .int .i64 r.s1, .int .i64 r.e0, .int .i64 r.e1, .bool r.op, .slice r.la r.legs.length r.lc, .slice r.pa r.pauses.length r.pc, .int .i64 r.fw, .int .i64 r.fp, .int .i64 r.wh, .int .i64 r.pl] 73)), y.w.cell? ⟨x.w.heap.size, 3, none⟩ = some (.int .i64 r.s1) := fun y => Since.cell (by simp [go_sem]) (by first | (simp; done) | (simp; omega)) y
  have hb0_4 : ∀ y : Since (x.w.alloc (.cells #[.int .i64 r.id, .int .i64 r.rd, .int .i64 r.s0, .int .i64 r.s1, .int .i64 r.e0, .int .i64 r.e1, .bool r.op, .slice r.la r.legs.length r.lc, .slice r.pa r.pauses.length r.pc, .int .i64 r.fw, .int .i64 r.fp, .int .i64 r.wh, .int .i64 r.pl] 73)), y.w.cell? ⟨x.w.heap.size, 4, none⟩ = some (.int .i64 r.e0) := fun y => Since.cell (by simp [go_sem]) (by first | (simp; done) | (simp; omega)) y
  have hb0_5 : ∀ y : Since (x.w.alloc (.cells #[.int .i64 r.id, .int .i64 r.rd, .int .i64 r.s0, .int .i64 r.s1, .int .i64 r.e0, .int .i64 r.e1, .bool r.op, .slice r.la r.legs.length r.lc, .slice r.pa r.pauses.length r.pc, .int .i64 r.fw, .int .i64 r.fp, .int .i64 r.wh, .int .i64 r.pl] 73)), y.w.cell? ⟨x.w.heap.size, 5, none⟩ = some (.int .i64 r.e1) := fun y => Since.cell (by simp [go_sem]) (by first | (simp; done) | (simp; omega)) y
  have hb0_6 : ∀ y : Since (x.w.alloc (.cells #[.int .i64 r.id, .int .i64 r.rd, .int .i64 r.s0, .int .i64 r.s1, .int .i64 r.e0, .int .i64 r.e1, .bool r.op, .slice r.la r.legs.length r.lc, .slice r.pa r.pauses.length r.pc, .int .i64 r.fw, .int .i64 r.fp, .int .i64 r.wh, .int .i64 r.pl] 73)), y.w.cell? ⟨x.w.heap.size, 6, none⟩ = some (.bool r.op) := fun y => Since.cell (by simp [go_sem]) (by first | (simp; done) | (simp; omega)) y
  have hb0_7 : ∀ y : Since (x.w.alloc (.cells #[.int .i64 r.id, .int .i64 r.rd, .int .i64 r.s0, .int .i64 r.s1, .int .i64 r.e0, .int .i64 r.e1, .bool r.op, .slice r.la r.legs.length r.lc, .slice r.pa r.pauses.length r.pc, .int .i64 r.fw, .int .i64 r.fp, .int .i64 r.wh, .int .i64 r.pl] 73)), y.w.cell? ⟨x.w.heap.size, 7, none⟩ = some (.slice r.la r.legs.length r.lc) := fun y => Since.cell (by simp [go_sem]) (by first | (simp; done) | (simp; omega)) y
  have hb0_8 : ∀ y : Since (x.w.alloc (.cells #[.int .i64 r.id, .int .i64 r.rd, .int .i64 r.s0, .int .i64 r.s1, .int .i64 r.e0, .int .i64 r.e1, .bool r.op, .slice r.la r.legs.length r.lc, .slice r.pa r.pauses.length r.pc, .int .i64 r.fw, .int .i64 r.fp, .int .i64 r.wh, .int .i64 r.pl] 73)), y.w.cell? ⟨x.w.heap.size, 8, none⟩ = some (.slice r.pa r.pauses.length r.pc) := fun y => Since.cell (by simp [go_sem]) (by first | (simp; done) | (simp; omega)) y
  have hb0_9 : ∀ y : Since (x.w.alloc (.cells #[.int .i64 r.id, .int .i64 r.rd, .int .i64 r.s0, .int .i64 r.s1, .int .i64 r.e0, .int .i64 r.e1, .bool r.op, .slice r.la r.legs.length r.lc, .slice r.pa r.pauses.length r.pc, .int .i64 r.fw, .int .i64 r.fp, .int .i64 r.wh, .int .i64 r.pl] 73)), y.w.cell? ⟨x.w.heap.size, 9, none⟩ = some (.int .i64 r.fw) := fun y => Since.cell (by simp [go_sem]) (by first | (simp; done) | (simp; omega)) y
  have hb0_10 : ∀ y : Since (x.w.alloc (.cells #[.int .i64 r.id, .int .i64 r.rd, .int .i64 r.s0, .int .i64 r.s1, .int .i64 r.e0, .int .i64 r.e1, .bool r.op, .slice r.la r.legs.length r.lc, .slice r.pa r.pauses.length r.pc, .int .i64 r.fw, .int .i64 r.fp, .int .i64 r.wh, .int .i64 r.pl] 73)), y.w.cell? ⟨x.w.heap.size, 10, none⟩ = some (.int .i64 r.fp) := fun y => Since.cell (by simp [go_sem]) (by first | (simp; done) | (simp; omega)) y
  have hb0_11 : ∀ y : Since (x.w.alloc (.cells #[.int .i64 r.id, .int .i64 r.rd, .int .i64 r.s0, .int .i64 r.s1, .int .i64 r.e0, .int .i64 r.e1, .bool r.op, .slice r.la r.legs.length r.lc, .slice r.pa r.pauses.length r.pc, .int .i64 r.fw, .int .i64 r.fp, .int .i64 r.wh, .int .i64 r.pl] 73)), y.w.cell? ⟨x.w.heap.size, 11, none⟩ = some (.int .i64 r.wh) := fun y => Since.cell (by simp [go_sem]) (by first | (simp; done) | (simp; omega)) y
  have hb0_12 : ∀ y : Since (x.w.alloc (.cells #[.int .i64 r.id, .int .i64 r.rd, .int .i64 r.s0, .int .i64 r.s1, .int .i64 r.e0, .int .i64 r.e1, .bool r.op, .slice r.la r.legs.length r.lc, .slice r.pa r.pauses.length r.pc, .int .i64 r.fw, .int .i64 r.fp, .int .i64 r.wh, .int .i64 r.pl] 73)), y.w.cell? ⟨x.w.heap.size, 12, none⟩ = some (.int .i64 r.pl) := fun y => Since.cell (by simp [go_sem]) (by first | (simp; done) | (simp; omega)) y
  have hf0 : ∀ (y : Since (x.w.alloc (.cells #[.int .i64 r.id, .int .i64 r.rd, .int .i64 r.s0, .int .i64 r.s1, .int .i64 r.e0, .int .i64 r.e1, .bool r.op, .slice r.la r.legs.length r.lc, .slice r.pa r.pauses.length r.pc, .int .i64 r.fw, .int .i64 r.fp, .int .i64 r.wh, .int .i64 r.pl] 73))) (o : Nat), y.w.frozen? ⟨x.w.heap.size, o, none⟩ = false := fun y o => Since.free (by simp [go_sem]) (by first | (simp; done) | (simp; omega)) y
  have hWup : ∃ z : Since w, (x.w.alloc (.cells #[.int .i64 r.id, .int .i64 r.rd, .int .i64 r.s0, .int .i64 r.s1, .int .i64 r.e0, .int .i64 r.e1, .bool r.op, .slice r.la r.legs.length r.lc, .slice r.pa r.pauses.length r.pc, .int .i64 r.fw, .int .i64 r.fp, .int .i64 r.wh, .int .i64 r.pl] 73)) = z.w := x.alloc _
  obtain ⟨y0, hy0⟩ := Since.refl (x.w.alloc (.cells #[.int .i64 r.id, .int .i64 r.rd, .int .i64 r.s0, .int .i64 r.s1, .int .i64 r.e0, .int .i64 r.e1, .bool r.op, .slice r.la r.legs.length r.lc, .slice r.pa r.pauses.length r.pc, .int .i64 r.fw, .int .i64 r.fp, .int .i64 r.wh, .int .i64 r.pl] 73))
  have Hbx := Lib.hid (And.intro x.b.size (show x.w.heap.size + 1 = (x.w.alloc (.cells #[.int .i64 r.id, .int .i64 r.rd, .int .i64 r.s0, .int .i64 r.s1, .int .i64 r.e0, .int .i64 r.e1, .bool r.op, .slice r.la r.legs.length r.lc, .slice r.pa r.pauses.length r.pc, .int .i64 r.fw, .int .i64 r.fp, .int .i64 r.wh, .int .i64 r.pl] 73)).heap.size from by simp))
  generalize hW : (x.w.alloc (.cells #[.int .i64 r.id, .int .i64 r.rd, .int .i64 r.s0, .int .i64 r.s1, .int .i64 r.e0, .int .i64 r.e1, .bool r.op, .slice r.la r.legs.length r.lc, .slice r.pa r.pauses.length r.pc, .int .i64 r.fw, .int .i64 r.fp, .int .i64 r.wh, .int .i64 r.pl] 73)) = W at *
  clear hW
  generalize x.w.heap.size = bx at *
  have Hup := Lib.hid (Since.up hWup)
  rw [hy0]
  clear hy0
  replace H := Lib.hid (H.out.to hWup)
  clear hWup hf0
  have Z1 := Lib.hid (zone_calls y0.w a zs c r.fw r.fp (Since.row H.out y0) hl hf)
  have Z2 := Lib.hid (zone_calls y0.w a zs c r.wh r.pl (Since.row H.out y0) hl hp)
  by_cases he : zoneE zs r.fw r.fp = 0
  · have Hend := Lib.hid (fun y => Hp.out (zoneV zs r.fw r.fp) (zoneV zs r.wh r.pl) (zoneE zs r.wh r.pl) ⟨if_pos he, if_pos he, if_neg (by rw [he]; simp)⟩ y)
    unfold ZRes at Z1 Z2
    rw [he] at Z1
    clear he Hp
    generalize zoneV zs r.fw r.fp = v1 at *
    generalize zoneV zs r.wh r.pl = v2 at *
    generalize zoneE zs r.wh r.pl = e2 at *
    go_wp2_with fail
    refine Z1.out.mono ?_
    rintro _ _ ⟨rfl, rfl⟩
    go_wp2_with fail
    refine Z2.out.mono ?_
    rintro _ _ ⟨rfl, rfl⟩
    go_wp2_with fail
    obtain ⟨y, hy⟩ := Hup.out y0
    rw [hy]
    exact bodyPost_ret (v := .tuple #[.int .i64 v1, .int .i64 v2, .int .i64 e2]) (by simp [results, Tryd.results45, go_sem]) rfl (Hend.out y)
  · have hne : (zoneE zs r.fw r.fp != 0) = true := by simpa using he
    have Hend := Lib.hid (fun y => Hp.out 0 0 (zoneE zs r.fw r.fp) ⟨if_neg he, if_neg he, if_pos he⟩ y)
    unfold ZRes at Z1
    clear he Hp Z2
    generalize zoneV zs r.fw r.fp = v1 at *
    generalize zoneE zs r.fw r.fp = e1 at *
    go_wp2_with fail
    refine Z1.out.mono ?_
    rintro _ _ ⟨rfl, rfl⟩
    go_wp2_with fail
    obtain ⟨y, hy⟩ := Hup.out y0
    rw [hy]
    exact bodyPost_ret (v := .tuple #[.int .i64 0, .int .i64 0, .int .i64 e1]) (by simp [results, Tryd.results45, go_sem]) rfl (Hend.out y)
def badc1 (n : Int) : Bool := decide (n < -1000000) || decide (1000000 < n)
theorem chk_range {t : Tab} (h : t.r < 1 ∨ 8 < t.r ∨ t.c < 1 ∨ 8 < t.c) : chkE t = 1 := if_pos h
theorem chk_len {t : Tab} (h : ¬ (t.r < 1 ∨ 8 < t.r ∨ t.c < 1 ∨ 8 < t.c)) (h2 : (t.l.length : Int) ≠ t.r * t.c) : chkE t = 3 := by unfold chkE; rw [if_neg h, if_pos h2]
theorem chk_cell {t : Tab} (h : ¬ (t.r < 1 ∨ 8 < t.r ∨ t.c < 1 ∨ 8 < t.c)) (h2 : ¬ (t.l.length : Int) ≠ t.r * t.c) {k : Nat} {z : Int} (hz : t.l[k]? = some z) (hb : badc1 z = true) : chkE t = 1 := by
  unfold chkE; rw [if_neg h, if_neg h2]; exact if_pos (List.any_eq_true.2 ⟨z, List.mem_of_getElem? hz, hb⟩)
theorem chk_ok {t : Tab} (h : ¬ (t.r < 1 ∨ 8 < t.r ∨ t.c < 1 ∨ 8 < t.c)) (h2 : ¬ (t.l.length : Int) ≠ t.r * t.c) (hn : ∀ j, j < t.l.length → ∀ z, t.l[j]? = some z → badc1 z = false) : chkE t = 0 := by
  unfold chkE
  rw [if_neg h, if_neg h2, if_neg]
  intro hh
  obtain ⟨z, hz, hb⟩ := List.any_eq_true.1 hh
  obtain ⟨j, hj⟩ := List.mem_iff_getElem?.1 hz
  have := hn j (List.getElem?_eq_some_iff.1 hj).1 z hj
  unfold badc1 at this
  rw [this] at hb; cases hb
theorem tab_mul {a b : Int} (h : ¬ (a < 1 ∨ 8 < a ∨ b < 1 ∨ 8 < b)) : 1 ≤ a * b ∧ a * b ≤ 64 := by
  have h1 : 1 * 1 ≤ a * b := Int.mul_le_mul (by omega) (by omega) (by omega) (by omega)
  have h2 : a * b ≤ 8 * 8 := Int.mul_le_mul (by omega) (by omega) (by omega) (by omega)
  exact ⟨h1, h2⟩
set_option maxRecDepth 100000 in
set_option maxHeartbeats 4000000 in
theorem tcheck_calls (w : World) (x : Since w) (t : Tab) (a : Option Addr) (c : Nat) (h : IntRow w a t.l) (hl : t.l.length ≤ 9223372036854775807) :
    Calls Tryd.prog 36 #[.agg #[.int .i64 t.r, .int .i64 t.c, .slice a t.l.length c]] x.w fun o w' => o = .returned (.int .i64 (chkE t)) ∧ ∃ y : Since w, w' = y.w := by
  have H := Lib.hid h
  clear h
  generalize ha : a = a0 at *
  subst ha
  by_cases hr : t.r < 1 ∨ 8 < t.r ∨ t.c < 1 ∨ 8 < t.c
  · have Hr := Lib.hid (chk_range hr)
    rcases (by omega : t.r < 1 ∨ (¬ t.r < 1 ∧ 8 < t.r) ∨ (¬ t.r < 1 ∧ ¬ 8 < t.r ∧ t.c < 1) ∨ (¬ t.r < 1 ∧ ¬ 8 < t.r ∧ ¬ t.c < 1 ∧ 8 < t.c)) with h1 | ⟨h1, h2⟩ | ⟨h1, h2, h3⟩ | ⟨h1, h2, h3, h4⟩
    all_goals
      clear hr
      go_enter Tryd.func36, Tryd.ntmps36
      go_upto_region 1 with fail
      have hb0_0 : ∀ y : Since (x.w.alloc (.cells #[.int .i64 t.r, .int .i64 t.c, .slice a t.l.length c] 31)), y.w.cell? ⟨x.w.heap.size, 0, none⟩ = some (.int .i64 t.r) := fun y => Since.cell (by simp [go_sem]) (by first | (simp; done) | (simp; omega)) y
      have hb0_1 : ∀ y : Since (x.w.alloc (.cells #[.int .i64 t.r, .int .i64 t.c, .slice a t.l.length c] 31)), y.w.cell? ⟨x.w.heap.size, 1, none⟩ = some (.int .i64 t.c) := fun y => Since.cell (by simp [go_sem]) (by first | (simp; done) | (simp; omega)) y
      have hb0_2 : ∀ y : Since (x.w.alloc (.cells #[.int .i64 t.r, .int .i64 t.c, .slice a t.l.length c] 31)), y.w.cell? ⟨x.w.heap.size, 2, none⟩ = some (.slice a t.l.length c) := fun y => Since.cell (by simp [go_sem]) (by first | (simp; done) | (simp; omega)) y
      have hf0 : ∀ (y : Since (x.w.alloc (.cells #[.int .i64 t.r, .int .i64 t.c, .slice a t.l.length c] 31))) (o : Nat), y.w.frozen? ⟨x.w.heap.size, o, none⟩ = false := fun y o => Since.free (by simp [go_sem]) (by first | (simp; done) | (simp; omega)) y
      have hWup : ∃ z : Since w, (x.w.alloc (.cells #[.int .i64 t.r, .int .i64 t.c, .slice a t.l.length c] 31)) = z.w := x.alloc _
      obtain ⟨y0, hy0⟩ := Since.refl (x.w.alloc (.cells #[.int .i64 t.r, .int .i64 t.c, .slice a t.l.length c] 31))
      have Hbx := Lib.hid (And.intro x.b.size (show x.w.heap.size + 1 = (x.w.alloc (.cells #[.int .i64 t.r, .int .i64 t.c, .slice a t.l.length c] 31)).heap.size from by simp))
      generalize hW : (x.w.alloc (.cells #[.int .i64 t.r, .int .i64 t.c, .slice a t.l.length c] 31)) = W at *
      clear hW
      generalize x.w.heap.size = bx at *
      have Hup := Lib.hid (Since.up hWup)
      rw [hy0]
      clear hy0
      clear hWup
      go_wp2_with fail
      go_ret
      exact ⟨ret_int Hr.out.symm, Hup.out _⟩
  · have Hr := Lib.hid hr
    obtain ⟨m1, m2⟩ := tab_mul hr
    obtain ⟨r1, r2, r3, r4⟩ : ¬ t.r < 1 ∧ ¬ 8 < t.r ∧ ¬ t.c < 1 ∧ ¬ 8 < t.c := ⟨by omega, by omega, by omega, by omega⟩
    by_cases hn : (t.l.length : Int) ≠ t.r * t.c
    · have Hq := Lib.hid (chk_len Hr.out hn)
      have hb : ((t.l.length : Int) != t.r * t.c) = true := by simpa using hn
      clear hn hr
      go_enter Tryd.func36, Tryd.ntmps36
      go_upto_region 1 with fail
      have hb0_0 : ∀ y : Since (x.w.alloc (.cells #[.int .i64 t.r, .int .i64 t.c, .slice a t.l.length c] 31)), y.w.cell? ⟨x.w.heap.size, 0, none⟩ = some (.int .i64 t.r) := fun y => Since.cell (by simp [go_sem]) (by first | (simp; done) | (simp; omega)) y
      have hb0_1 : ∀ y : Since (x.w.alloc (.cells #[.int .i64 t.r, .int .i64 t.c, .slice a t.l.length c] 31)), y.w.cell? ⟨x.w.heap.size, 1, none⟩ = some (.int .i64 t.c) := fun y => Since.cell (by simp [go_sem]) (by first | (simp; done) | (simp; omega)) y
      have hb0_2 : ∀ y : Since (x.w.alloc (.cells #[.int .i64 t.r, .int .i64 t.c, .slice a t.l.length c] 31)), y.w.cell? ⟨x.w.heap.size, 2, none⟩ = some (.slice a t.l.length c) := fun y => Since.cell (by simp [go_sem]) (by first | (simp; done) | (simp; omega)) y
      have hf0 : ∀ (y : Since (x.w.alloc (.cells #[.int .i64 t.r, .int .i64 t.c, .slice a t.l.length c] 31))) (o : Nat), y.w.frozen? ⟨x.w.heap.size, o, none⟩ = false := fun y o => Since.free (by simp [go_sem]) (by first | (simp; done) | (simp; omega)) y
      have hWup : ∃ z : Since w, (x.w.alloc (.cells #[.int .i64 t.r, .int .i64 t.c, .slice a t.l.length c] 31)) = z.w := x.alloc _
      obtain ⟨y0, hy0⟩ := Since.refl (x.w.alloc (.cells #[.int .i64 t.r, .int .i64 t.c, .slice a t.l.length c] 31))
      have Hbx := Lib.hid (And.intro x.b.size (show x.w.heap.size + 1 = (x.w.alloc (.cells #[.int .i64 t.r, .int .i64 t.c, .slice a t.l.length c] 31)).heap.size from by simp))
      generalize hW : (x.w.alloc (.cells #[.int .i64 t.r, .int .i64 t.c, .slice a t.l.length c] 31)) = W at *
      clear hW
      generalize x.w.heap.size = bx at *
      have Hup := Lib.hid (Since.up hWup)
      rw [hy0]
      clear hy0
      clear hWup
      go_wp2_with fail
      go_ret
      exact ⟨ret_int Hq.out.symm, Hup.out _⟩
    · have Hn := Lib.hid hn
      have hb : ((t.l.length : Int) != t.r * t.c) = false := by simpa using hn
      have hl64 : t.l.length ≤ 64 := by omega
      clear hn hr
      go_enter Tryd.func36, Tryd.ntmps36
      go_upto_region 1 with fail
      have hb0_0 : ∀ y : Since (x.w.alloc (.cells #[.int .i64 t.r, .int .i64 t.c, .slice a t.l.length c] 31)), y.w.cell? ⟨x.w.heap.size, 0, none⟩ = some (.int .i64 t.r) := fun y => Since.cell (by simp [go_sem]) (by first | (simp; done) | (simp; omega)) y
      have hb0_1 : ∀ y : Since (x.w.alloc (.cells #[.int .i64 t.r, .int .i64 t.c, .slice a t.l.length c] 31)), y.w.cell? ⟨x.w.heap.size, 1, none⟩ = some (.int .i64 t.c) := fun y => Since.cell (by simp [go_sem]) (by first | (simp; done) | (simp; omega)) y
      have hb0_2 : ∀ y : Since (x.w.alloc (.cells #[.int .i64 t.r, .int .i64 t.c, .slice a t.l.length c] 31)), y.w.cell? ⟨x.w.heap.size, 2, none⟩ = some (.slice a t.l.length c) := fun y => Since.cell (by simp [go_sem]) (by first | (simp; done) | (simp; omega)) y
      have hf0 : ∀ (y : Since (x.w.alloc (.cells #[.int .i64 t.r, .int .i64 t.c, .slice a t.l.length c] 31))) (o : Nat), y.w.frozen? ⟨x.w.heap.size, o, none⟩ = false := fun y o => Since.free (by simp [go_sem]) (by first | (simp; done) | (simp; omega)) y
      have hWup : ∃ z : Since w, (x.w.alloc (.cells #[.int .i64 t.r, .int .i64 t.c, .slice a t.l.length c] 31)) = z.w := x.alloc _
      obtain ⟨y0, hy0⟩ := Since.refl (x.w.alloc (.cells #[.int .i64 t.r, .int .i64 t.c, .slice a t.l.length c] 31))
      have Hbx := Lib.hid (And.intro x.b.size (show x.w.heap.size + 1 = (x.w.alloc (.cells #[.int .i64 t.r, .int .i64 t.c, .slice a t.l.length c] 31)).heap.size from by simp))
      generalize hW : (x.w.alloc (.cells #[.int .i64 t.r, .int .i64 t.c, .slice a t.l.length c] 31)) = W at *
      clear hW
      generalize x.w.heap.size = bx at *
      have Hup := Lib.hid (Since.up hWup)
      rw [hy0]
      clear hy0
      replace H := Lib.hid (H.out.to hWup)
      clear hWup
      go_wp2_with fail
      go_loop [35] (fun i => ∃ k : Nat, k ≤ t.l.length ∧ i = .int .i64 k ∧ ∀ j, j < k → ∀ z, t.l[j]? = some z → badc1 z = false) (fun i => t.l.length - (intOf i).toNat)
      case atStart => exact ⟨0, by omega, rfl, fun j hj => by omega⟩
      case round =>
        obtain ⟨k, hk, rfl, hok⟩ := hrel
        have Hok := Lib.hid hok; clear hok
        by_cases hlt : k < t.l.length
        · obtain ⟨b, off, rfl, hbl, hc⟩ := Since.row H.out y0 k hlt
          change y0.w.cell? ⟨b, off + k, none⟩ = some (.int .i64 (at0 t.l k)) at hc
          have hk0 : (0 : Int) ≤ (k : Int) := by omega
          have hkl : (k : Int) < (t.l.length : Int) := by omega
          have Hx := Lib.hid (show t.l[k]? = some (at0 t.l k) by unfold at0; rw [List.getD_eq_getElem?_getD, List.getElem?_eq_getElem hlt]; rfl)
          generalize at0 t.l k = z at *
          clear hbl
          rcases (by omega : z < -1000000 ∨ (¬ z < -1000000 ∧ 1000000 < z) ∨ (¬ z < -1000000 ∧ ¬ 1000000 < z)) with h1 | ⟨h1, h2⟩ | ⟨h1, h2⟩
          · have Hq := Lib.hid (chk_cell Hr.out Hn.out Hx.out (by unfold badc1; rw [decide_eq_true h1]; rfl))
            go_wp2_with fail
            go_ret
            exact ⟨ret_int Hq.out.symm, Hup.out _⟩
          · have Hq := Lib.hid (chk_cell Hr.out Hn.out Hx.out (by unfold badc1; rw [decide_eq_true h2]; simp))
            go_wp2_with fail
            go_ret
            exact ⟨ret_int Hq.out.symm, Hup.out _⟩
          · have Hnx := Lib.hid (upto_next (P := fun z => badc1 z = false) Hok.out Hx.out (by unfold badc1; rw [decide_eq_false h1, decide_eq_false h2]; rfl))
            go_wp2_with fail
            go_round
            case rel => exact ⟨k + 1, by omega, by go_num, Hnx.out⟩
            case measure => simp [intOf] <;> omega
        · obtain rfl : k = t.l.length := by omega
          have Hq := Lib.hid (chk_ok Hr.out Hn.out Hok.out)
          go_wp2_with fail
          go_ret
          exact ⟨ret_int Hq.out.symm, Hup.out _⟩
end Go.Proofs.YtdkcclngionihaaDoor
/- Trips between zones, the program: how far two tables are apart. -/
namespace Go.Proofs.YtdkcclngionihaaDoor
open Go.RowKit

/-- what an accepted table is -/
structure TabOk (t : Tab) : Prop where
  r : 1 ≤ t.r ∧ t.r ≤ 8
  c : 1 ≤ t.c ∧ t.c ≤ 8
  n : (t.l.length : Int) = t.r * t.c
  v : ∀ k, k < t.l.length → -1000000 ≤ at0 t.l k ∧ at0 t.l k ≤ 1000000
theorem TabOk.len {t : Tab} (h : TabOk t) : t.l.length ≤ 64 := by
  have := (tab_mul (a := t.r) (b := t.c) (by have := h.r; have := h.c; omega)).2
  have := h.n
  omega
end Go.Proofs.YtdkcclngionihaaDoor
/- Trips between zones, the reference: Zone and Check, after the program's (TrW5, TrW6). -/
namespace Go.Proofs.YtdkcclngionihaaDoor
open Go.RowKit

set_option maxRecDepth 100000 in
set_option maxHeartbeats 4000000 in
theorem rtcheck_calls (w : World) (x : Since w) (t : Tab) (a : Option Addr) (c : Nat) (h : IntRow w a t.l) (hl : t.l.length ≤ 9223372036854775807) :
    Calls Tryd.prog 39 #[.agg #[.int .i64 t.r, .int .i64 t.c, .slice a t.l.length c]] x.w fun o w' => o = .returned (.int .i64 (chkE t)) ∧ ∃ y : Since w, w' = y.w := by
  have H := Lib.hid h
  clear h
  generalize ha : a = a0 at *
  subst ha
  by_cases hr : t.r < 1 ∨ 8 < t.r ∨ t.c < 1 ∨ 8 < t.c
  · have Hr := Lib.hid (chk_range hr)
    rcases (by omega : t.r < 1 ∨ (¬ t.r < 1 ∧ 8 < t.r) ∨ (¬ t.r < 1 ∧ ¬ 8 < t.r ∧ t.c < 1) ∨ (¬ t.r < 1 ∧ ¬ 8 < t.r ∧ ¬ t.c < 1 ∧ 8 < t.c)) with h1 | ⟨h1, h2⟩ | ⟨h1, h2, h3⟩ | ⟨h1, h2, h3, h4⟩
    all_goals
      clear hr
      go_enter Tryd.func39, Tryd.ntmps39
      go_upto_region 1 with fail
      have hb0_0 : ∀ y : Since (x.w.alloc (.cells #[.int .i64 t.r, .int .i64 t.c, .slice a t.l.length c] 31)), y.w.cell? ⟨x.w.heap.size, 0, none⟩ = some (.int .i64 t.r) := fun y => Since.cell (by simp [go_sem]) (by first | (simp; done) | (simp; omega)) y
      have hb0_1 : ∀ y : Since (x.w.alloc (.cells #[.int .i64 t.r, .int .i64 t.c, .slice a t.l.length c] 31)), y.w.cell? ⟨x.w.heap.size, 1, none⟩ = some (.int .i64 t.c) := fun y => Since.cell (by simp [go_sem]) (by first | (simp; done) | (simp; omega)) y
      have hb0_2 : ∀ y : Since (x.w.alloc (.cells #[.int .i64 t.r, .int .i64 t.c, .slice a t.l.length c] 31)), y.w.cell? ⟨x.w.heap.size, 2, none⟩ = some (.slice a t.l.length c) := fun y => Since.cell (by simp [go_sem]) (by first | (simp; done) | (simp; omega)) y
      have hf0 : ∀ (y : Since (x.w.alloc (.cells #[.int .i64 t.r, .int .i64 t.c, .slice a t.l.length c] 31))) (o : Nat), y.w.frozen? ⟨x.w.heap.size, o, none⟩ = false := fun y o => Since.free (by simp [go_sem]) (by first | (simp; done) | (simp; omega)) y
      have hWup : ∃ z : Since w, (x.w.alloc (.cells #[.int .i64 t.r, .int .i64 t.c, .slice a t.l.length c] 31)) = z.w := x.alloc _
      obtain ⟨y0, hy0⟩ := Since.refl (x.w.alloc (.cells #[.int .i64 t.r, .int .i64 t.c, .slice a t.l.length c] 31))
      have Hbx := Lib.hid (And.intro x.b.size (show x.w.heap.size + 1 = (x.w.alloc (.cells #[.int .i64 t.r, .int .i64 t.c, .slice a t.l.length c] 31)).heap.size from by simp))
      generalize hW : (x.w.alloc (.cells #[.int .i64 t.r, .int .i64 t.c, .slice a t.l.length c] 31)) = W at *
      clear hW
      generalize x.w.heap.size = bx at *
      have Hup := Lib.hid (Since.up hWup)
      rw [hy0]
      clear hy0
      clear hWup
      go_wp2_with fail
      go_ret
      exact ⟨ret_int Hr.out.symm, Hup.out _⟩
  · have Hr := Lib.hid hr
    obtain ⟨m1, m2⟩ := tab_mul hr
    obtain ⟨r1, r2, r3, r4⟩ : ¬ t.r < 1 ∧ ¬ 8 < t.r ∧ ¬ t.c < 1 ∧ ¬ 8 < t.c := ⟨by omega, by omega, by omega, by omega⟩
    by_cases hn : (t.l.length : Int) ≠ t.r * t.c
    · have Hq := Lib.hid (chk_len Hr.out hn)
      have hb : ((t.l.length : Int) != t.r * t.c) = true := by simpa using hn
      clear hn hr
      go_enter Tryd.func39, Tryd.ntmps39
      go_upto_region 1 with fail
      have hb0_0 : ∀ y : Since (x.w.alloc (.cells #[.int .i64 t.r, .int .i64 t.c, .slice a t.l.length c] 31)), y.w.cell? ⟨x.w.heap.size, 0, none⟩ = some (.int .i64 t.r) := fun y => Since.cell (by simp [go_sem]) (by first | (simp; done) | (simp; omega)) y
      have hb0_1 : ∀ y : Since (x.w.alloc (.cells #[.int .i64 t.r, .int .i64 t.c, .slice a t.l.length c] 31)), y.w.cell? ⟨x.w.heap.size, 1, none⟩ = some (.int .i64 t.c) := fun y => Since.cell (by simp [go_sem]) (by first | (simp; done) | (simp; omega)) y
      have hb0_2 : ∀ y : Since (x.w.alloc (.cells #[.int .i64 t.r, .int .i64 t.c, .slice a t.l.length c] 31)), y.w.cell? ⟨x.w.heap.size, 2, none⟩ = some (.slice a t.l.length c) := fun y => Since.cell (by simp [go_sem]) (by first | (simp; done) | (simp; omega)) y
      have hf0 : ∀ (y : Since (x.w.alloc (.cells #[.int .i64 t.r, .int .i64 t.c, .slice a t.l.length c] 31))) (o : Nat), y.w.frozen? ⟨x.w.heap.size, o, none⟩ = false := fun y o => Since.free (by simp [go_sem]) (by first | (simp; done) | (simp; omega)) y
      have hWup : ∃ z : Since w, (x.w.alloc (.cells #[.int .i64 t.r, .int .i64 t.c, .slice a t.l.length c] 31)) = z.w := x.alloc _
      obtain ⟨y0, hy0⟩ := Since.refl (x.w.alloc (.cells #[.int .i64 t.r, .int .i64 t.c, .slice a t.l.length c] 31))
      have Hbx := Lib.hid (And.intro x.b.size (show x.w.heap.size + 1 = (x.w.alloc (.cells #[.int .i64 t.r, .int .i64 t.c, .slice a t.l.length c] 31)).heap.size from by simp))
      generalize hW : (x.w.alloc (.cells #[.int .i64 t.r, .int .i64 t.c, .slice a t.l.length c] 31)) = W at *
      clear hW
      generalize x.w.heap.size = bx at *
      have Hup := Lib.hid (Since.up hWup)
      rw [hy0]
      clear hy0
      clear hWup
      go_wp2_with fail
      go_ret
      exact ⟨ret_int Hq.out.symm, Hup.out _⟩
    · have Hn := Lib.hid hn
      have hb : ((t.l.length : Int) != t.r * t.c) = false := by simpa using hn
      have hl64 : t.l.length ≤ 64 := by omega
      clear hn hr
      go_enter Tryd.func39, Tryd.ntmps39
      go_upto_region 1 with fail
      have hb0_0 : ∀ y : Since (x.w.alloc (.cells #[.int .i64 t.r, .int .i64 t.c, .slice a t.l.length c] 31)), y.w.cell? ⟨x.w.heap.size, 0, none⟩ = some (.int .i64 t.r) := fun y => Since.cell (by simp [go_sem]) (by first | (simp; done) | (simp; omega)) y
      have hb0_1 : ∀ y : Since (x.w.alloc (.cells #[.int .i64 t.r, .int .i64 t.c, .slice a t.l.length c] 31)), y.w.cell? ⟨x.w.heap.size, 1, none⟩ = some (.int .i64 t.c) := fun y => Since.cell (by simp [go_sem]) (by first | (simp; done) | (simp; omega)) y
      have hb0_2 : ∀ y : Since (x.w.alloc (.cells #[.int .i64 t.r, .int .i64 t.c, .slice a t.l.length c] 31)), y.w.cell? ⟨x.w.heap.size, 2, none⟩ = some (.slice a t.l.length c) := fun y => Since.cell (by simp [go_sem]) (by first | (simp; done) | (simp; omega)) y
      have hf0 : ∀ (y : Since (x.w.alloc (.cells #[.int .i64 t.r, .int .i64 t.c, .slice a t.l.length c] 31))) (o : Nat), y.w.frozen? ⟨x.w.heap.size, o, none⟩ = false := fun y o => Since.free (by simp [go_sem]) (by first | (simp; done) | (simp; omega)) y
      have hWup : ∃ z : Since w, (x.w.alloc (.cells #[.int .i64 t.r, .int .i64 t.c, .slice a t.l.length c] 31)) = z.w := x.alloc _
      obtain ⟨y0, hy0⟩ := Since.refl (x.w.alloc (.cells #[.int .i64 t.r, .int .i64 t.c, .slice a t.l.length c] 31))
      have Hbx := Lib.hid (And.intro x.b.size (show x.w.heap.size + 1 = (x.w.alloc (.cells #[.int .i64 t.r, .int .i64 t.c, .slice a t.l.length c] 31)).heap.size from by simp))
      generalize hW : (x.w.alloc (.cells #[.int .i64 t.r, .int .i64 t.c, .slice a t.l.length c] 31)) = W at *
      clear hW
      generalize x.w.heap.size = bx at *
      have Hup := Lib.hid (Since.up hWup)
      rw [hy0]
      clear hy0
      replace H := Lib.hid (H.out.to hWup)
      clear hWup
      go_wp2_with fail
      go_loop [3] (fun i => ∃ k : Nat, k ≤ t.l.length ∧ i = .int .i64 k ∧ ∀ j, j < k → ∀ z, t.l[j]? = some z → badc1 z = false) (fun i => t.l.length - (intOf i).toNat)
      case atStart => exact ⟨0, by omega, rfl, fun j hj => by omega⟩
      case round =>
        obtain ⟨k, hk, rfl, hok⟩ := hrel
        have Hok := Lib.hid hok; clear hok
        by_cases hlt : k < t.l.length
        · obtain ⟨b, off, rfl, hbl, hc⟩ := Since.row H.out y0 k hlt
          change y0.w.cell? ⟨b, off + k, none⟩ = some (.int .i64 (at0 t.l k)) at hc
          have hk0 : (0 : Int) ≤ (k : Int) := by omega
          have hkl : (k : Int) < (t.l.length : Int) := by omega
          have Hx := Lib.hid (show t.l[k]? = some (at0 t.l k) by unfold at0; rw [List.getD_eq_getElem?_getD, List.getElem?_eq_getElem hlt]; rfl)
          generalize at0 t.l k = z at *
          clear hbl
          rcases (by omega : z < -1000000 ∨ (¬ z < -1000000 ∧ 1000000 < z) ∨ (¬ z < -1000000 ∧ ¬ 1000000 < z)) with h1 | ⟨h1, h2⟩ | ⟨h1, h2⟩
          · have Hq := Lib.hid (chk_cell Hr.out Hn.out Hx.out (by unfold badc1; rw [decide_eq_true h1]; rfl))
            go_wp2_with fail
            go_ret
            exact ⟨ret_int Hq.out.symm, Hup.out _⟩
          · have Hq := Lib.hid (chk_cell Hr.out Hn.out Hx.out (by unfold badc1; rw [decide_eq_true h2]; simp))
            go_wp2_with fail
            go_ret
            exact ⟨ret_int Hq.out.symm, Hup.out _⟩
          · have Hnx := Lib.hid (upto_next (P := fun z => badc1 z = false) Hok.out Hx.out (by unfold badc1; rw [decide_eq_false h1, decide_eq_false h2]; rfl))
            go_wp2_with fail
            go_round
            case rel => exact ⟨k + 1, by omega, by go_num, Hnx.out⟩
            case measure => simp [intOf] <;> omega
        · obtain rfl : k = t.l.length := by omega
          have Hq := Lib.hid (chk_ok Hr.out Hn.out Hok.out)
          go_wp2_with fail
          go_ret
          exact ⟨ret_int Hq.out.symm, Hup.out _⟩
set_option maxRecDepth 100000 in
set_option maxHeartbeats 8000000 in
theorem rzone_calls (w : World) (a : Option Addr) (zs : List Int) (c : Nat) (wh pl : Int) (h : IntRow w a zs) (hl : zs.length ≤ 9223372036854775807) (hpl : pl ≤ 9223372036854775807) :
    Calls Tryd.prog 55 #[.slice a zs.length c, .int .i64 wh, .int .i64 pl] w (ZRes zs wh pl w) := by
  have H := Lib.hid h
  have Hp := Lib.hid (fun (v e : Int) (h : zoneE zs wh pl = e ∧ zoneV zs wh pl = v) => zRes h w)
  generalize ZRes zs wh pl w = PO at *
  clear h
  by_cases hz : 64 ≤ zs.length ∧ zs.length ≤ 96
  case neg =>
    have HB := Lib.hid (Hp.out _ _ (zone_bad (Or.inl (show zlenB zs = false by unfold zlenB; rw [← Bool.decide_and]; exact decide_eq_false hz)) wh pl))
    rcases (by omega : zs.length < 64 ∨ (64 ≤ zs.length ∧ 96 < zs.length)) with h | ⟨h, h'⟩
    all_goals
      clear hz
      go_enter Tryd.func55, Tryd.ntmps55
      go_wp2_with fail
      exact HB.out
  obtain ⟨z1, z2⟩ := hz
  have Hzl := Lib.hid (show zlenB zs = true by unfold zlenB; rw [decide_eq_true z1, decide_eq_true z2]; rfl)
  go_enter Tryd.func55, Tryd.ntmps55
  go_wp2_with fail
  go_loop [8] (fun i => ∃ k : Nat, k ≤ zs.length ∧ i = .int .i64 k ∧ ∀ j, j < k → ∀ z, zs[j]? = some z → badz1 z = false) (fun i => zs.length - (intOf i).toNat)
  case atStart => exact ⟨0, by omega, rfl, fun j hj => by omega⟩
  case round =>
    obtain ⟨k, hk, rfl, hok⟩ := hrel
    have Hok := Lib.hid hok; clear hok
    by_cases hlt : k < zs.length
    · obtain ⟨b, off, rfl, hbl, hc⟩ := H.out k hlt
      change w.cell? ⟨b, off + k, none⟩ = some (.int .i64 (at0 zs k)) at hc
      have hk0 : (0 : Int) ≤ (k : Int) := by omega
      have hkl : (k : Int) < (zs.length : Int) := by omega
      have Hx := Lib.hid (show zs[k]? = some (at0 zs k) by unfold at0; rw [List.getD_eq_getElem?_getD, List.getElem?_eq_getElem hlt]; rfl)
      generalize at0 zs k = z at *
      clear hbl
      rcases (by omega : z < 0 ∨ (¬ z < 0 ∧ 8 ≤ z) ∨ (¬ z < 0 ∧ ¬ 8 ≤ z)) with h1 | ⟨h1, h2⟩ | ⟨h1, h2⟩
      · have HB := Lib.hid (Hp.out _ _ (zone_bad (Or.inr (badZ_of Hx.out (by unfold badz1; rw [decide_eq_true h1]; rfl))) wh pl))
        go_wp2_with fail
        exact HB.out
      · have HB := Lib.hid (Hp.out _ _ (zone_bad (Or.inr (badZ_of Hx.out (by unfold badz1; rw [decide_eq_true h2]; simp))) wh pl))
        go_wp2_with fail
        exact HB.out
      · have Hnx := Lib.hid (upto_next (P := fun z => badz1 z = false) Hok.out Hx.out (by unfold badz1; rw [decide_eq_false h1, decide_eq_false h2]; rfl))
        go_wp2_with fail
        go_round
        case rel => exact ⟨k + 1, by omega, by go_num, Hnx.out⟩
        case measure => simp [intOf] <;> omega
    · obtain rfl : k = zs.length := by omega
      have Hb := Lib.hid (badZ_no Hok.out)
      clear Hok
      by_cases h2 : wh = 2
      · subst h2
        by_cases hp : 0 ≤ pl ∧ pl < 64
        · obtain ⟨p, rfl⟩ : ∃ p : Nat, pl = p := ⟨pl.toNat, by omega⟩
          obtain ⟨b, off, rfl, hbl, hcell⟩ := H.out p (by omega)
          change w.cell? ⟨b, off + p, none⟩ = some (.int .i64 (at0 zs p)) at hcell
          have HB := Lib.hid (Hp.out _ _ (zone_st Hzl.out Hb.out hp))
          rw [Int.toNat_natCast] at HB
          obtain ⟨p1, p2⟩ := hp
          have p3 : (p : Int) < (zs.length : Int) := by omega
          clear hbl
          generalize at0 zs p = v at *
          go_wp2_with fail
          exact HB.out
        · have HB := Lib.hid (Hp.out _ _ (zone_st_no Hzl.out Hb.out hp))
          rcases (by omega : pl < 0 ∨ (0 ≤ pl ∧ 64 ≤ pl)) with h | ⟨h, h'⟩
          all_goals
            clear hp
            go_wp2_with fail
            exact HB.out
      · by_cases h1 : wh = 1
        · subst h1
          by_cases hp : 0 ≤ pl ∧ pl / 32 < (zs.length : Int) - 64
          · obtain ⟨p, rfl⟩ : ∃ p : Nat, pl = p := ⟨pl.toNat, by omega⟩
            obtain ⟨b, off, rfl, hbl, hcell⟩ := H.out (64 + p / 32) (by omega)
            change w.cell? ⟨b, off + (64 + p / 32), none⟩ = some (.int .i64 (at0 zs (64 + p / 32))) at hcell
            have HB := Lib.hid (Hp.out _ _ (zone_dk Hzl.out Hb.out hp))
            rw [show (64 + (p : Int) / 32).toNat = 64 + p / 32 by omega] at HB
            obtain ⟨p1, p2⟩ := hp
            have p3 : (0 : Int) ≤ 64 + (p : Int) / 32 := by omega
            have p4 : 64 + (p : Int) / 32 < (zs.length : Int) := by omega
            have p5 : (64 + (p : Int) / 32).toNat = 64 + p / 32 := by omega
            clear hbl h2
            generalize at0 zs (64 + p / 32) = v at *
            go_wp2_with fail
            exact HB.out
          · have HB := Lib.hid (Hp.out _ _ (zone_dk_no Hzl.out Hb.out hp))
            rcases (by omega : pl < 0 ∨ (0 ≤ pl ∧ ¬ pl / 32 < (zs.length : Int) - 64)) with h | ⟨h, h'⟩
            all_goals
              clear hp h2
              go_wp2_with fail
              exact HB.out
        · have HB := Lib.hid (Hp.out _ _ (zone_kind Hzl.out Hb.out h1 h2))
          have e1 : (wh == 1) = false := by simpa using h1
          have e2 : (wh == 2) = false := by simpa using h2
          clear h1 h2
          go_wp2_with fail
          exact HB.out
end Go.Proofs.YtdkcclngionihaaDoor
/- Trips between zones: cells, zones, errors: plain mathematics for the walks of tables. -/
namespace Go.Proofs.YtdkcclngionihaaDoor
open Go.RowKit

theorem celN_snoc (zs : List Int) (size : Int) (L : List Ride) (e : Ride) (i : Nat) : celN zs size (L ++ [e]) i = celN zs size L i + if (!bigR zs size e && decide (celR zs size e = (i : Int))) = true then 1 else 0 := by
  unfold celN
  rw [List.filter_append, List.length_append]
  cases h : (!bigR zs size e && decide (celR zs size e = (i : Int)))
  · simp [h]
  · simp [h]
theorem celN_range (zs : List Int) (size : Int) (L : List Ride) (i : Nat) : 0 ≤ celN zs size L i ∧ celN zs size L i ≤ L.length := by
  unfold celN
  have := List.length_filter_le (fun r => !bigR zs size r && decide (celR zs size r = (i : Int))) L
  omega
theorem zone_range {zs : List Int} {wh pl : Int} (h : zoneE zs wh pl = 0) : 0 ≤ zoneV zs wh pl ∧ zoneV zs wh pl < 8 := by
  have hg : zlenB zs = true ∧ badZ zs = false := by
    unfold zoneE at h
    by_cases hb : zlenB zs = false ∨ badZ zs = true
    · rw [if_pos hb] at h; cases h
    · constructor
      · cases hz : zlenB zs
        · exact (hb (Or.inl hz)).elim
        · rfl
      · cases hz : badZ zs
        · rfl
        · exact (hb (Or.inr hz)).elim
  have hel : ∀ k, k < zs.length → 0 ≤ at0 zs k ∧ at0 zs k < 8 := fun k hk => by
    have hx : zs[k]? = some (at0 zs k) := by unfold at0; rw [List.getD_eq_getElem?_getD, List.getElem?_eq_getElem hk]; rfl
    cases hb : badz1 (at0 zs k)
    · unfold badz1 at hb
      simp at hb; omega
    · rw [badZ_of hx hb] at hg; cases hg.2
  have hl : 64 ≤ zs.length ∧ zs.length ≤ 96 := by
    have := hg.1
    unfold zlenB at this
    simpa using this
  by_cases h2 : wh = 2
  · subst h2
    by_cases hp : 0 ≤ pl ∧ pl < 64
    · rw [(zone_st hg.1 hg.2 hp).2]; exact hel _ (by omega)
    · rw [(zone_st_no hg.1 hg.2 hp).1] at h; cases h
  · by_cases h1 : wh = 1
    · subst h1
      by_cases hp : 0 ≤ pl ∧ pl / 32 < (zs.length : Int) - 64
      · rw [(zone_dk hg.1 hg.2 hp).2]; exact hel _ (by omega)
      · rw [(zone_dk_no hg.1 hg.2 hp).1] at h; cases h
    · rw [(zone_kind hg.1 hg.2 h1 h2).1] at h; cases h
theorem ends_zero {zs : List Int} {r : Ride} (h : endE zs r = 0) : endA zs r = fromZ zs r ∧ endB zs r = toZ zs r ∧ (0 ≤ fromZ zs r ∧ fromZ zs r < 8) ∧ (0 ≤ toZ zs r ∧ toZ zs r < 8) := by
  unfold endE at h
  by_cases h1 : zoneE zs r.fw r.fp = 0
  · rw [if_neg (by simpa using h1)] at h
    exact ⟨if_pos h1, if_pos h1, zone_range h1, zone_range h⟩
  · rw [if_pos h1] at h; exact (h1 h).elim
/-- which rides a table counts -/
def cP (R : List Ride) (each f t : Int) (r : Ride) : Bool := ctd R each r && inT f t r
theorem cntL_eq (R : List Ride) (each f t : Int) : cntL R each f t = R.filter (cP R each f t) := by
  unfold cntL eachL
  rw [List.filter_filter]
  exact List.filter_congr fun r _ => by unfold cP; exact Bool.and_comm _ _
theorem take_split {R : List Ride} {k : Nat} {e : Ride} (h : R[k]? = some e) : R = R.take k ++ e :: R.drop (k + 1) := by
  obtain ⟨hk, he⟩ := List.getElem?_eq_some_iff.1 h
  rw [← he, ← List.drop_eq_getElem_cons hk, List.take_append_drop]
theorem endsE_at {zs : List Int} {R : List Ride} {p : Ride → Bool} {k : Nat} {e : Ride} (h : R[k]? = some e) (hp : p e = true) (he : endE zs e ≠ 0) (hn : ∀ r ∈ (R.take k).filter p, endE zs r = 0) : endsE zs (R.filter p) = endE zs e := by
  unfold endsE
  have : (R.filter p).find? (fun r => endE zs r != 0) = some e := by
    rw [take_split h, List.filter_append, List.find?_append, List.find?_eq_none.2 (fun r hr => by rw [hn r (by simpa using hr)]; simp), List.filter_cons_of_pos hp]
    simp [he]
  rw [this]
theorem endsE_no {zs : List Int} {L : List Ride} (hn : ∀ r ∈ L, endE zs r = 0) : endsE zs L = 0 := by
  unfold endsE
  rw [List.find?_eq_none.2 (fun r hr => by rw [hn r hr]; simp)]
theorem tab_idx {a b s : Int} (h1 : 0 ≤ a) (h2 : a < s) (h3 : 0 ≤ b) (h4 : b < s) (h5 : s ≤ 8) : 0 ≤ a * s + b ∧ a * s + b < s * s ∧ a * s ≤ 64 ∧ 0 ≤ a * s := by
  have k1 : 0 ≤ a * s := Int.mul_nonneg h1 (by omega)
  have k2 : a * s ≤ (s - 1) * s := Int.mul_le_mul_of_nonneg_right (by omega) (by omega)
  have k3 : (s - 1) * s = s * s - s := by rw [Int.sub_mul, Int.one_mul]
  have k4 : a * s ≤ 8 * 8 := Int.mul_le_mul (by omega) h5 (by omega) (by omega)
  omega
theorem rideE_rng {r : Ride} (h : rideE r = 0) : rangedB r = true := by
  unfold rideE at h
  cases hr : rangedB r
  · rw [hr] at h; simp at h
  · rfl
theorem rangedB_head {r : Ride} (h : rangedB r = true) : 1 ≤ r.id ∧ r.id ≤ 1000000 ∧ 0 ≤ r.rd ∧ r.rd ≤ 127 ∧ 0 ≤ r.s0 ∧ r.s0 ≤ r.s1 ∧ r.s1 ≤ 4294943999 ∧ 0 ≤ r.e0 ∧ r.e0 ≤ r.e1 ∧ r.e1 ≤ 4294943999 := by
  unfold rangedB headV at h
  simp only [Bool.and_eq_true, decide_eq_true_eq, vldS_iff] at h
  omega
theorem firstErr_zero {l : List Ride} (h : firstErr l = 0) : ∀ r ∈ l, rideE r = 0 := by
  intro r hr
  unfold firstErr at h
  cases hf : l.find? (fun r => rideE r != 0) with
  | none =>
    rw [List.find?_eq_none] at hf
    simpa using hf r hr
  | some x =>
    rw [hf] at h
    have := List.find?_some hf
    simp at this
    exact (this h).elim
theorem ridesE_zero {R : List Ride} (h : ridesE R = 0) : R.length ≤ 256 ∧ (R.map fun r : Ride => r.id).Nodup ∧ ∀ r ∈ R, rideE r = 0 := by
  unfold ridesE at h
  by_cases h1 : 256 < R.length
  · rw [if_pos h1] at h; cases h
  · rw [if_neg h1] at h
    by_cases h2 : firstErr R = 0
    · rw [if_neg (by simpa using h2)] at h
      rcases dupB_cases (R.map fun r : Ride => r.id) with ⟨hd, _⟩ | ⟨_, hn⟩
      · rw [hd] at h; simp at h
      · exact ⟨by omega, hn, firstErr_zero h2⟩
    · rw [if_pos h2] at h; exact (h2 h).elim
theorem rides_s0 {R : List Ride} (h : ridesE R = 0) : ∀ r ∈ R, 0 ≤ r.s0 ∧ r.s0 ≤ 4294943999 := fun r hr => by
  have := rangedB_head (rideE_rng ((ridesE_zero h).2.2 r hr)); omega
def eachV (R : List Ride) (each : Int) : List Ride := if eachE R each = 0 then eachL R each else []
theorem eachE_zero {R : List Ride} {each : Int} (h : eachE R each = 0) : 0 ≤ each ∧ each ≤ 256 ∧ ridesE R = 0 := by
  unfold eachE at h
  by_cases h1 : each < 0 ∨ 256 < each
  · rw [if_pos h1] at h; cases h
  · rw [if_neg h1] at h; exact ⟨by omega, by omega, h⟩
theorem pick_take (R : List Ride) (p : Ride → Bool) (k : Nat) (e : Ride) (h : R[k]? = some e) : ((R.take (k + 1)).filter p) = (R.take k).filter p ++ if p e = true then [e] else [] := by
  rw [List.take_add_one, h, List.filter_append]
  cases hp : p e <;> simp [hp]
def OneB (w : World) (b : Bool) (o : Ending) (w' : World) : Prop := o = .returned (.bool b) ∧ ∃ y : Since w, w' = y.w
end Go.Proofs.YtdkcclngionihaaDoor
/- Trips between zones: what is counted depends on the bare rides alone: plain mathematics. -/
namespace Go.Proofs.YtdkcclngionihaaDoor
open Go.RowKit

theorem bare_e (r : Ride) : rideE r.bare = rideE r := rfl
theorem firstErr_bare (R : List Ride) : firstErr (R.map Ride.bare) = firstErr R := by
  unfold firstErr
  induction R with
  | nil => rfl
  | cons r R ih =>
    simp only [List.map_cons, List.find?_cons, bare_e]
    cases rideE r != 0
    · exact ih
    · rfl
theorem ridesE_bare (R : List Ride) : ridesE (R.map Ride.bare) = ridesE R := by
  unfold ridesE
  rw [firstErr_bare, List.length_map, List.map_map]; rfl
theorem filter_bare (R : List Ride) (p q : Ride → Bool) (h : ∀ r, p r.bare = q r) : (R.map Ride.bare).filter p = (R.filter q).map Ride.bare := by
  rw [List.filter_map]
  congr 1
  exact List.filter_congr fun r _ => h r
theorem ahd_bare (R : List Ride) (x : Ride) : ahd (R.map Ride.bare) x.bare = ahd R x := by
  unfold ahd
  rw [filter_bare R _ (fun r => ofK (key x) r && bf r x) (fun r => rfl), List.length_map]
theorem ctd_bare (R : List Ride) (each : Int) (x : Ride) : ctd (R.map Ride.bare) each x.bare = ctd R each x := by
  unfold ctd
  rw [ahd_bare]; rfl
theorem eachL_bare (R : List Ride) (each : Int) : eachL (R.map Ride.bare) each = (eachL R each).map Ride.bare := filter_bare R _ _ (ctd_bare R each)
theorem eachE_bare (R : List Ride) (each : Int) : eachE (R.map Ride.bare) each = eachE R each := by
  unfold eachE
  rw [ridesE_bare]
theorem cntL_bare (R : List Ride) (each f t : Int) : cntL (R.map Ride.bare) each f t = (cntL R each f t).map Ride.bare := by
  unfold cntL
  rw [eachL_bare]
  exact filter_bare _ _ _ fun r => rfl
theorem endsE_bare (zs : List Int) (L : List Ride) : endsE zs (L.map Ride.bare) = endsE zs L := by
  unfold endsE
  rw [List.find?_map]
  have : ((fun r => endE zs r != 0) ∘ Ride.bare) = fun r => endE zs r != 0 := rfl
  rw [this]
  cases L.find? (fun r => endE zs r != 0) <;> rfl
theorem celN_bare (zs : List Int) (size : Int) (L : List Ride) (i : Nat) : celN zs size (L.map Ride.bare) i = celN zs size L i := by
  unfold celN
  rw [filter_bare L _ (fun r => !bigR zs size r && decide (celR zs size r = (i : Int))) (fun r => rfl), List.length_map]
theorem any_bare (zs : List Int) (size : Int) (L : List Ride) : (L.map Ride.bare).any (bigR zs size) = L.any (bigR zs size) := by
  rw [List.any_map]; rfl
theorem tabE_bare (zs : List Int) (size : Int) (R : List Ride) (f t each : Int) : tabE zs size (R.map Ride.bare) f t each = tabE zs size R f t each := by
  unfold tabE
  rw [eachE_bare, cntL_bare, endsE_bare, any_bare]
theorem tabV_bare (zs : List Int) (size : Int) (R : List Ride) (f t each : Int) : tabV zs size (R.map Ride.bare) f t each = tabV zs size R f t each := by
  unfold tabV
  rw [tabE_bare, cntL_bare]
  have : cells zs size ((cntL R each f t).map Ride.bare) = cells zs size (cntL R each f t) := by
    unfold cells
    exact List.map_congr_left fun i _ => celN_bare zs size _ i
  rw [this]
end Go.Proofs.YtdkcclngionihaaDoor
/- Trips between zones: tables of a part of the rides, of the rides in another order, of a part of the window; sums of cells: plain mathematics of the laws. -/
namespace Go.Proofs.YtdkcclngionihaaDoor
open Go.RowKit

end Go.Proofs.YtdkcclngionihaaDoor
/- Tables without a rider's day: plain mathematics. -/
namespace Go.Proofs.YtdkcclngionihaaDoor
open Go.RowKit

end Go.Proofs.YtdkcclngionihaaDoor
/- Trips between zones, the reference: the check of rides, before, ahead. -/
namespace Go.Proofs.YtdkcclngionihaaDoor
open Go.RowKit Go.ChangeMaps

set_option maxRecDepth 100000 in
set_option maxHeartbeats 4000000 in
theorem rrides_calls (w : World) (x : Since w) (a : Option Addr) (l : List Ride) (c : Nat) (h : RideRow w a l) (hl : l.length ≤ 9223372036854775807) :
    Calls Tryd.prog 92 #[.slice a l.length c] x.w fun o w' => o = .returned (.int .i64 (ridesE l)) ∧ ∃ y : Since w, w' = y.w := by
  have HL := Lib.hid h
  clear h
  by_cases hbig : 256 < l.length
  · have Hr := Lib.hid (show ridesE l = 8 by unfold ridesE; rw [if_pos hbig])
    go_enter Tryd.func92, Tryd.ntmps92
    go_wp2_with fail
    go_ret
    exact ⟨ret_int Hr.out.symm, _, rfl⟩
  have hl256 : l.length ≤ 256 := by omega
  have HP := Lib.hid (fun hok : (∀ j, j < l.length → ∀ e, l[j]? = some e → rideE e = 0) => ridesE_ok hl256 hok)
  clear hbig hl
  go_enter Tryd.func92, Tryd.ntmps92
  go_wp2_with fail
  go_loopw [3] (fun i wr => ∃ (k : Nat) (y : Since w), k ≤ l.length ∧ i = .int .i64 k ∧ wr = y.w ∧ ∀ j, j < k → ∀ e, l[j]? = some e → rideE e = 0) (fun i _ => l.length - (intOf i).toNat)
  case atStart => exact ⟨0, _, by omega, rfl, rfl, fun j hj => by omega⟩
  case round =>
    obtain ⟨k, y, hk, rfl, rfl, hok⟩ := hrel
    have Hok := Lib.hid hok; clear hok
    by_cases hlt : k < l.length
    · obtain ⟨e, he⟩ : ∃ e, l[k]? = some e := ⟨_, List.getElem?_eq_getElem hlt⟩
      obtain ⟨b1, off1, rfl, h1'⟩ := Els.ride HL.out.c he
      have ra0 := h1'.c0
      have ra1 := h1'.c1
      have ra2 := h1'.c2
      have ra3 := h1'.c3
      have ra4 := h1'.c4
      have ra5 := h1'.c5
      have ra6 := h1'.c6
      have ra7 := h1'.c7
      have ra8 := h1'.c8
      have ra9 := h1'.c9
      have ra10 := h1'.c10
      have ra11 := h1'.c11
      have ra12 := h1'.c12
      have hk0 : (0 : Int) ≤ (k : Int) := by omega
      have hkl : (k : Int) < (l.length : Int) := by omega
      have He := Lib.hid he
      have Hat := Lib.hid (HL.out.r e (List.mem_of_getElem? he))
      clear h1' he
      by_cases hg : rideE e = 0
      · have Hg := Lib.hid hg; clear hg
        go_wp2_with fail
        refine (rcheck_calls w y e Hat.out).mono ?_
        rintro _ _ ⟨rfl, z, rfl⟩
        rw [Hg.out]
        go_wp2_with fail
        go_roundw
        case rel => exact ⟨k + 1, z, by omega, by go_num, rfl, upto_next (P := fun e : Ride => rideE e = 0) Hok.out He.out Hg.out⟩
        case measure => simp [intOf] <;> omega
      · have Hr := Lib.hid (ridesE_err hl256 He.out hg Hok.out)
        have heb : (rideE e != 0) = true := by simpa using hg
        clear hg
        go_wp2_with fail
        refine (rcheck_calls w y e Hat.out).mono ?_
        rintro _ _ ⟨rfl, z, rfl⟩
        generalize rideE e = re at *
        go_wp2_with fail
        go_ret
        exact ⟨ret_int Hr.out.symm, _, rfl⟩
    · obtain rfl : k = l.length := by omega
      have HQ := Lib.hid (HP.out Hok.out)
      clear Hok HP
      go_wp2_with fail
      go_loopw [5] (fun i wr => ∃ (k : Nat) (y : Since w), k ≤ l.length ∧ i = .int .i64 k ∧ wr = y.w ∧ ((l.map fun r : Ride => r.id).take k).Nodup) (fun i _ => l.length - (intOf i).toNat)
      case atStart => exact ⟨0, y, by omega, rfl, rfl, by simp⟩
      case round =>
        obtain ⟨k, y, hk, rfl, rfl, hnd⟩ := hrel
        have Hnd := Lib.hid hnd; clear hnd
        by_cases hlt : k < l.length
        · obtain ⟨e, he⟩ : ∃ e, l[k]? = some e := ⟨_, List.getElem?_eq_getElem hlt⟩
          obtain ⟨b1, off1, rfl, h1'⟩ := Els.ride HL.out.c he
          have ra0 := h1'.c0
          have hk0 : (0 : Int) ≤ (k : Int) := by omega
          have hkl : (k : Int) < (l.length : Int) := by omega
          have He := Lib.hid (map_at (f := fun r : Ride => r.id) he)
          have Hnx := Lib.hid (nodup_take_next He.out)
          clear h1' he
          go_wp2_with fail
          go_loopw [6] (fun i wr => ∃ (m : Nat) (y : Since w), m ≤ k ∧ i = .int .i64 m ∧ wr = y.w ∧ ∀ j, j < m → ∀ v, (l.map fun r : Ride => r.id)[j]? = some v → v ≠ e.id) (fun i _ => k - (intOf i).toNat)
          case atStart => exact ⟨0, y, by omega, rfl, rfl, fun j hj => by omega⟩
          case round =>
            obtain ⟨m, y, hm, rfl, rfl, hno⟩ := hrel
            have Hno := Lib.hid hno; clear hno
            by_cases hlm : m < k
            · obtain ⟨e2, he2⟩ : ∃ e, l[m]? = some e := ⟨_, List.getElem?_eq_getElem (by omega)⟩
              obtain ⟨b2, off2, hbo, h2'⟩ := Els.ride HL.out.c he2
              simp only [Option.some.injEq, Addr.mk.injEq, and_true] at hbo
              obtain ⟨rfl, rfl⟩ := hbo
              have rb0 := h2'.c0
              have hm0 : (0 : Int) ≤ (m : Int) := by omega
              have hml : (m : Int) < (l.length : Int) := by omega
              have hmk : (m : Int) < (k : Int) := by omega
              have He2 := Lib.hid (map_at (f := fun r : Ride => r.id) he2)
              clear h2' he2
              by_cases hee : e.id = e2.id
              · have hb : (e.id == e2.id) = true := by simpa using hee
                have Hr := Lib.hid (show ridesE l = 6 by
                  rw [HQ.out, if_pos (dupB_true fun h => (Hnx.out.1 (nodup_of_take h)).2 (by rw [hee]; exact List.mem_of_getElem? (by rw [List.getElem?_take, if_pos hlm]; exact He2.out)))])
                clear hee
                go_wp2_with fail
                refine wp_region_since (by kernel_rfl) (by kernel_rfl) ?_
                repeat (go_big_quiet_step (fail))
                refine wpQuiet_nil ?_
                rintro _ ⟨z, rfl⟩
                go_wp2_with fail
                go_ret
                exact ⟨ret_int Hr.out.symm, _, rfl⟩
              · have hb : (e.id == e2.id) = false := by simpa using hee
                have Hno2 := Lib.hid (show ∀ j, j < m + 1 → ∀ v, (l.map fun r : Ride => r.id)[j]? = some v → v ≠ e.id from upto_next (P := fun v => v ≠ e.id) Hno.out He2.out (fun h => hee h.symm))
                clear hee
                go_wp2_with fail
                refine wp_region_since (by kernel_rfl) (by kernel_rfl) ?_
                repeat (go_big_quiet_step (fail))
                refine wpQuiet_nil ?_
                rintro _ ⟨z, rfl⟩
                go_wp2_with fail
                go_roundw
                case rel => exact ⟨m + 1, z, by omega, by go_num, rfl, Hno2.out⟩
                case measure => simp [intOf] <;> omega
            · obtain rfl : m = k := by omega
              have Hnd2 := Lib.hid (Hnx.out.2 ⟨Hnd.out, fun hm => by
                obtain ⟨j, hj⟩ := List.mem_iff_getElem?.1 hm
                rw [List.getElem?_take] at hj
                split at hj
                · rename_i hjm; exact Hno.out j hjm _ hj rfl
                · cases hj⟩)
              go_wp2_with fail
              go_roundw
              case rel => exact ⟨m + 1, y, by omega, by go_num, rfl, Hnd2.out⟩
              case measure => simp [intOf] <;> omega
        · obtain rfl : k = l.length := by omega
          have Hr := Lib.hid (show ridesE l = 0 by
            have h1 := Hnd.out
            rw [List.take_of_length_le (by simp)] at h1
            rw [HQ.out, if_neg (by rw [dupB_false h1]; simp)])
          go_wp2_with fail
          go_ret
          exact ⟨ret_int Hr.out.symm, _, rfl⟩
set_option maxRecDepth 100000 in
set_option maxHeartbeats 4000000 in
theorem before_calls (w : World) (x : Since w) (s t : Ride) : Calls Tryd.prog 113 #[.agg #[.int .i64 s.id, .int .i64 s.rd, .int .i64 s.s0, .int .i64 s.s1, .int .i64 s.e0, .int .i64 s.e1, .bool s.op, .slice s.la s.legs.length s.lc, .slice s.pa s.pauses.length s.pc, .int .i64 s.fw, .int .i64 s.fp, .int .i64 s.wh, .int .i64 s.pl], .agg #[.int .i64 t.id, .int .i64 t.rd, .int .i64 t.s0, .int .i64 t.s1, .int .i64 t.e0, .int .i64 t.e1, .bool t.op, .slice t.la t.legs.length t.lc, .slice t.pa t.pauses.length t.pc, .int .i64 t.fw, .int .i64 t.fp, .int .i64 t.wh, .int .i64 t.pl]] x.w (OneB w (bf s t)) := by
  have Hp := Lib.hid (fun (c : Bool) (h : bf s t = c) (y : Since w) => show OneB w (bf s t) (.returned (.bool c)) y.w from ⟨by rw [h], y, rfl⟩)
  have Hi := Lib.hid (bf_iff s t)
  generalize OneB w (bf s t) = PO at *
  go_enter Tryd.func113, Tryd.ntmps113
  go_upto_region 1 with fail
  have hb0_0 : ∀ y : Since ((x.w.alloc (.cells #[.int .i64 s.id, .int .i64 s.rd, .int .i64 s.s0, .int .i64 s.s1, .int .i64 s.e0, .int .i64 s.e1, .bool s.op, .slice s.la s.legs.length s.lc, .slice s.pa s.pauses.length s.pc, .int .i64 s.fw, .int .i64 s.fp, .int .i64 s.wh, .int .i64 s.pl] 73)).alloc (.cells #[.int .i64 t.id, .int .i64 t.rd, .int .i64 t.s0, .int .i64 t.s1, .int .i64 t.e0, .int .i64 t.e1, .bool t.op, .slice t.la t.legs.length t.lc, .slice t.pa t.pauses.length t.pc, .int .i64 t.fw, .int .i64 t.fp, .int .i64 t.wh, .int .i64 t.pl] 73)), y.w.cell? ⟨x.w.heap.size, 0, none⟩ = some (.int .i64 s.id) := fun y => Since.cell (by simp [go_sem]) (by first | (simp; done) | (simp; omega)) y
  have hb0_1 : ∀ y : Since ((x.w.alloc (.cells #[.int .i64 s.id, .int .i64 s.rd, .int .i64 s.s0, .int .i64 s.s1, .int .i64 s.e0, .int .i64 s.e1, .bool s.op, .slice s.la s.legs.length s.lc, .slice s.pa s.pauses.length s.pc, .int .i64 s.fw, .int .i64 s.fp, .int .i64 s.wh, .int .i64 s.pl] 73)).alloc (.cells #[.int .i64 t.id, .int .i64 t.rd, .int .i64 t.s0, .int .i64 t.s1, .int .i64 t.e0, .int .i64 t.e1, .bool t.op, .slice t.la t.legs.length t.lc, .slice t.pa t.pauses.length t.pc, .int .i64 t.fw, .int .i64 t.fp, .int .i64 t.wh, .int .i64 t.pl] 73)), y.w.cell? ⟨x.w.heap.size, 1, none⟩ = some (.int .i64 s.rd) := fun y => Since.cell (by simp [go_sem]) (by first | (simp; done) | (simp; omega)) y
  have hb0_2 : ∀ y : Since ((x.w.alloc (.cells #[.int .i64 s.id, .int .i64 s.rd, .int .i64 s.s0, .int .i64 s.s1, .int .i64 s.e0, .int .i64 s.e1, .bool s.op, .slice s.la s.legs.length s.lc, .slice s.pa s.pauses.length s.pc, .int .i64 s.fw, .int .i64 s.fp, .int .i64 s.wh, .int .i64 s.pl] 73)).alloc (.cells #[.int .i64 t.id, .int .i64 t.rd, .int .i64 t.s0, .int .i64 t.s1, .int .i64 t.e0, .int .i64 t.e1, .bool t.op, .slice t.la t.legs.length t.lc, .slice t.pa t.pauses.length t.pc, .int .i64 t.fw, .int .i64 t.fp, .int .i64 t.wh, .int .i64 t.pl] 73)), y.w.cell? ⟨x.w.heap.size, 2, none⟩ = some (.int .i64 s.s0) := fun y => Since.cell (by simp [go_sem]) (by first | (simp; done) | (simp; omega)) y
  have hb0_3 : ∀ y : Since ((x.w.alloc (.cells #[.int .i64 s.id, .int .i64 s.rd, .int .i64 s.s0, .int .i64 s.s1, .int .i64 s.e0, .int .i64 s.e1, .bool s.op, .slice s.la s.legs.length s.lc, .slice s.pa s.pauses.length s.pc, .int .i64 s.fw, .int .i64 s.fp, .int .i64 s.wh, .int .i64 s.pl] 73)).alloc (.cells #[.int .i64 t.id, .int .i64 t.rd, .int .i64 t.s0, .int .i64 t.s1, .int .i64 t.e0, .int .i64 t.e1, .bool t.op, .slice t.la t.legs.length t.lc, .slice t.pa t.pauses.length t.pc, .int .i64 t.fw, .int .i64 t.fp, .int .i64 t.wh, .int .i64 t.pl] 73)), y.w.cell? ⟨x.w.heap.size, 3, none⟩ = some (.int .i64 s.s1) := fun y => Since.cell (by simp [go_sem]) (by first | (simp; done) | (simp; omega)) y
  have hb0_4 : ∀ y : Since ((x.w.alloc (.cells #[.int .i64 s.id, .int .i64 s.rd, .int .i64 s.s0, .int .i64 s.s1, .int .i64 s.e0, .int .i64 s.e1, .bool s.op, .slice s.la s.legs.length s.lc, .slice s.pa s.pauses.length s.pc, .int .i64 s.fw, .int .i64 s.fp, .int .i64 s.wh, .int .i64 s.pl] 73)).alloc (.cells #[.int .i64 t.id, .int .i64 t.rd, .int .i64 t.s0, .int .i64 t.s1, .int .i64 t.e0, .int .i64 t.e1, .bool t.op, .slice t.la t.legs.length t.lc, .slice t.pa t.pauses.length t.pc, .int .i64 t.fw, .int .i64 t.fp, .int .i64 t.wh, .int .i64 t.pl] 73)), y.w.cell? ⟨x.w.heap.size, 4, none⟩ = some (.int .i64 s.e0) := fun y => Since.cell (by simp [go_sem]) (by first | (simp; done) | (simp; omega)) y
  have hb0_5 : ∀ y : Since ((x.w.alloc (.cells #[.int .i64 s.id, .int .i64 s.rd, .int .i64 s.s0, .int .i64 s.s1, .int .i64 s.e0, .int .i64 s.e1, .bool s.op, .slice s.la s.legs.length s.lc, .slice s.pa s.pauses.length s.pc, .int .i64 s.fw, .int .i64 s.fp, .int .i64 s.wh, .int .i64 s.pl] 73)).alloc (.cells #[.int .i64 t.id, .int .i64 t.rd, .int .i64 t.s0, .int .i64 t.s1, .int .i64 t.e0, .int .i64 t.e1, .bool t.op, .slice t.la t.legs.length t.lc, .slice t.pa t.pauses.length t.pc, .int .i64 t.fw, .int .i64 t.fp, .int .i64 t.wh, .int .i64 t.pl] 73)), y.w.cell? ⟨x.w.heap.size, 5, none⟩ = some (.int .i64 s.e1) := fun y => Since.cell (by simp [go_sem]) (by first | (simp; done) | (simp; omega)) y
  have hb0_6 : ∀ y : Since ((x.w.alloc (.cells #[.int .i64 s.id, .int .i64 s.rd, .int .i64 s.s0, .int .i64 s.s1, .int .i64 s.e0, .int .i64 s.e1, .bool s.op, .slice s.la s.legs.length s.lc, .slice s.pa s.pauses.length s.pc, .int .i64 s.fw, .int .i64 s.fp, .int .i64 s.wh, .int .i64 s.pl] 73)).alloc (.cells #[.int .i64 t.id, .int .i64 t.rd, .int .i64 t.s0, .int .i64 t.s1, .int .i64 t.e0, .int .i64 t.e1, .bool t.op, .slice t.la t.legs.length t.lc, .slice t.pa t.pauses.length t.pc, .int .i64 t.fw, .int .i64 t.fp, .int .i64 t.wh, .int .i64 t.pl] 73)), y.w.cell? ⟨x.w.heap.size, 6, none⟩ = some (.bool s.op) := fun y => Since.cell (by simp [go_sem]) (by first | (simp; done) | (simp; omega)) y
  have hb0_7 : ∀ y : Since ((x.w.alloc (.cells #[.int .i64 s.id, .int .i64 s.rd, .int .i64 s.s0, .int .i64 s.s1, .int .i64 s.e0, .int .i64 s.e1, .bool s.op, .slice s.la s.legs.length s.lc, .slice s.pa s.pauses.length s.pc, .int .i64 s.fw, .int .i64 s.fp, .int .i64 s.wh, .int .i64 s.pl] 73)).alloc (.cells #[.int .i64 t.id, .int .i64 t.rd, .int .i64 t.s0, .int .i64 t.s1, .int .i64 t.e0, .int .i64 t.e1, .bool t.op, .slice t.la t.legs.length t.lc, .slice t.pa t.pauses.length t.pc, .int .i64 t.fw, .int .i64 t.fp, .int .i64 t.wh, .int .i64 t.pl] 73)), y.w.cell? ⟨x.w.heap.size, 7, none⟩ = some (.slice s.la s.legs.length s.lc) := fun y => Since.cell (by simp [go_sem]) (by first | (simp; done) | (simp; omega)) y
  have hb0_8 : ∀ y : Since ((x.w.alloc (.cells #[.int .i64 s.id, .int .i64 s.rd, .int .i64 s.s0, .int .i64 s.s1, .int .i64 s.e0, .int .i64 s.e1, .bool s.op, .slice s.la s.legs.length s.lc, .slice s.pa s.pauses.length s.pc, .int .i64 s.fw, .int .i64 s.fp, .int .i64 s.wh, .int .i64 s.pl] 73)).alloc (.cells #[.int .i64 t.id, .int .i64 t.rd, .int .i64 t.s0, .int .i64 t.s1, .int .i64 t.e0, .int .i64 t.e1, .bool t.op, .slice t.la t.legs.length t.lc, .slice t.pa t.pauses.length t.pc, .int .i64 t.fw, .int .i64 t.fp, .int .i64 t.wh, .int .i64 t.pl] 73)), y.w.cell? ⟨x.w.heap.size, 8, none⟩ = some (.slice s.pa s.pauses.length s.pc) := fun y => Since.cell (by simp [go_sem]) (by first | (simp; done) | (simp; omega)) y
  have hb0_9 : ∀ y : Since ((x.w.alloc (.cells #[.int .i64 s.id, .int .i64 s.rd, .int .i64 s.s0, .int .i64 s.s1, .int .i64 s.e0, .int .i64 s.e1, .bool s.op, .slice s.la s.legs.length s.lc, .slice s.pa s.pauses.length s.pc, .int .i64 s.fw, .int .i64 s.fp, .int .i64 s.wh, .int .i64 s.pl] 73)).alloc (.cells #[.int .i64 t.id, .int .i64 t.rd, .int .i64 t.s0, .int .i64 t.s1, .int .i64 t.e0, .int .i64 t.e1, .bool t.op, .slice t.la t.legs.length t.lc, .slice t.pa t.pauses.length t.pc, .int .i64 t.fw, .int .i64 t.fp, .int .i64 t.wh, .int .i64 t.pl] 73)), y.w.cell? ⟨x.w.heap.size, 9, none⟩ = some (.int .i64 s.fw) := fun y => Since.cell (by simp [go_sem]) (by first | (simp; done) | (simp; omega)) y
  have hb0_10 : ∀ y : Since ((x.w.alloc (.cells #[.int .i64 s.id, .int .i64 s.rd, .int .i64 s.s0, .int .i64 s.s1, .int .i64 s.e0, .int .i64 s.e1, .bool s.op, .slice s.la s.legs.length s.lc, .slice s.pa s.pauses.length s.pc, .int .i64 s.fw, .int .i64 s.fp, .int .i64 s.wh, .int .i64 s.pl] 73)).alloc (.cells #[.int .i64 t.id, .int .i64 t.rd, .int .i64 t.s0, .int .i64 t.s1, .int .i64 t.e0, .int .i64 t.e1, .bool t.op, .slice t.la t.legs.length t.lc, .slice t.pa t.pauses.length t.pc, .int .i64 t.fw, .int .i64 t.fp, .int .i64 t.wh, .int .i64 t.pl] 73)), y.w.cell? ⟨x.w.heap.size, 10, none⟩ = some (.int .i64 s.fp) := fun y => Since.cell (by simp [go_sem]) (by first | (simp; done) | (simp; omega)) y
  have hb0_11 : ∀ y : Since ((x.w.alloc (.cells #[.int .i64 s.id, .int .i64 s.rd, .int .i64 s.s0, .int .i64 s.s1, .int .i64 s.e0, .int .i64 s.e1, .bool s.op, .slice s.la s.legs.length s.lc, .slice s.pa s.pauses.length s.pc, .int .i64 s.fw, .int .i64 s.fp, .int .i64 s.wh, .int .i64 s.pl] 73)).alloc (.cells #[.int .i64 t.id, .int .i64 t.rd, .int .i64 t.s0, .int .i64 t.s1, .int .i64 t.e0, .int .i64 t.e1, .bool t.op, .slice t.la t.legs.length t.lc, .slice t.pa t.pauses.length t.pc, .int .i64 t.fw, .int .i64 t.fp, .int .i64 t.wh, .int .i64 t.pl] 73)), y.w.cell? ⟨x.w.heap.size, 11, none⟩ = some (.int .i64 s.wh) := fun y => Since.cell (by simp [go_sem]) (by first | (simp; done) | (simp; omega)) y
  have hb0_12 : ∀ y : Since ((x.w.alloc (.cells #[.int .i64 s.id, .int .i64 s.rd, .int .i64 s.s0, .int .i64 s.s1, .int .i64 s.e0, .int .i64 s.e1, .bool s.op, .slice s.la s.legs.length s.lc, .slice s.pa s.pauses.length s.pc, .int .i64 s.fw, .int .i64 s.fp, .int .i64 s.wh, .int .i64 s.pl] 73)).alloc (.cells #[.int .i64 t.id, .int .i64 t.rd, .int .i64 t.s0, .int .i64 t.s1, .int .i64 t.e0, .int .i64 t.e1, .bool t.op, .slice t.la t.legs.length t.lc, .slice t.pa t.pauses.length t.pc, .int .i64 t.fw, .int .i64 t.fp, .int .i64 t.wh, .int .i64 t.pl] 73)), y.w.cell? ⟨x.w.heap.size, 12, none⟩ = some (.int .i64 s.pl) := fun y => Since.cell (by simp [go_sem]) (by first | (simp; done) | (simp; omega)) y
  have hf0 : ∀ (y : Since ((x.w.alloc (.cells #[.int .i64 s.id, .int .i64 s.rd, .int .i64 s.s0, .int .i64 s.s1, .int .i64 s.e0, .int .i64 s.e1, .bool s.op, .slice s.la s.legs.length s.lc, .slice s.pa s.pauses.length s.pc, .int .i64 s.fw, .int .i64 s.fp, .int .i64 s.wh, .int .i64 s.pl] 73)).alloc (.cells #[.int .i64 t.id, .int .i64 t.rd, .int .i64 t.s0, .int .i64 t.s1, .int .i64 t.e0, .int .i64 t.e1, .bool t.op, .slice t.la t.legs.length t.lc, .slice t.pa t.pauses.length t.pc, .int .i64 t.fw, .int .i64 t.fp, .int .i64 t.wh, .int .i64 t.pl] 73))) (o : Nat), y.w.frozen? ⟨x.w.heap.size, o, none⟩ = false := fun y o => Since.free (by simp [go_sem]) (by first | (simp; done) | (simp; omega)) y
  have hb1_0 : ∀ y : Since ((x.w.alloc (.cells #[.int .i64 s.id, .int .i64 s.rd, .int .i64 s.s0, .int .i64 s.s1, .int .i64 s.e0, .int .i64 s.e1, .bool s.op, .slice s.la s.legs.length s.lc, .slice s.pa s.pauses.length s.pc, .int .i64 s.fw, .int .i64 s.fp, .int .i64 s.wh, .int .i64 s.pl] 73)).alloc (.cells #[.int .i64 t.id, .int .i64 t.rd, .int .i64 t.s0, .int .i64 t.s1, .int .i64 t.e0, .int .i64 t.e1, .bool t.op, .slice t.la t.legs.length t.lc, .slice t.pa t.pauses.length t.pc, .int .i64 t.fw, .int .i64 t.fp, .int .i64 t.wh, .int .i64 t.pl] 73)), y.w.cell? ⟨x.w.heap.size + 1, 0, none⟩ = some (.int .i64 t.id) := fun y => Since.cell (by simp [go_sem]) (by first | (simp; done) | (simp; omega)) y
  have hb1_1 : ∀ y : Since ((x.w.alloc (.cells #[.int .i64 s.id, .int .i64 s.rd, .int .i64 s.s0, .int .i64 s.s1, .int .i64 s.e0, .int .i64 s.e1, .bool s.op, .slice s.la s.legs.length s.lc, .slice s.pa s.pauses.length s.pc, .int .i64 s.fw, .int .i64 s.fp, .int .i64 s.wh, .int .i64 s.pl] 73)).alloc (.cells #[.int .i64 t.id, .int .i64 t.rd, .int .i64 t.s0, .int .i64 t.s1, .int .i64 t.e0, .int .i64 t.e1, .bool t.op, .slice t.la t.legs.length t.lc, .slice t.pa t.pauses.length t.pc, .int .i64 t.fw, .int .i64 t.fp, .int .i64 t.wh, .int .i64 t.pl] 73)), y.w.cell? ⟨x.w.heap.size + 1, 1, none⟩ = some (.int .i64 t.rd) := fun y => Since.cell (by simp [go_sem]) (by first | (simp; done) | (simp; omega)) y
  have hb1_2 : ∀ y : Since ((x.w.alloc (.cells #[.int .i64 s.id, .int .i64 s.rd, .int .i64 s.s0, .int .i64 s.s1, .int .i64 s.e0, .int .i64 s.e1, .bool s.op, .slice s.la s.legs.length s.lc, .slice s.pa s.pauses.length s.pc, .int .i64 s.fw, .int .i64 s.fp, .int .i64 s.wh, .int .i64 s.pl] 73)).alloc (.cells #[.int .i64 t.id, .int .i64 t.rd, .int .i64 t.s0, .int .i64 t.s1, .int .i64 t.e0, .int .i64 t.e1, .bool t.op, .slice t.la t.legs.length t.lc, .slice t.pa t.pauses.length t.pc, .int .i64 t.fw, .int .i64 t.fp, .int .i64 t.wh, .int .i64 t.pl] 73)), y.w.cell? ⟨x.w.heap.size + 1, 2, none⟩ = some (.int .i64 t.s0) := fun y => Since.cell (by simp [go_sem]) (by first | (simp; done) | (simp; omega)) y
  have hb1_3 : ∀ y : Since ((x.w.alloc (.cells #[.int .i64 s.id, .int .i64 s.rd, .int .i64 s.s0, .int .i64 s.s1, .int .i64 s.e0, .int .i64 s.e1, .bool s.op, .slice s.la s.legs.length s.lc, .slice s.pa s.pauses.length s.pc, .int .i64 s.fw, .int .i64 s.fp, .int .i64 s.wh, .int .i64 s.pl] 73)).alloc (.cells #[.int .i64 t.id, .int .i64 t.rd, .int .i64 t.s0, .int .i64 t.s1, .int .i64 t.e0, .int .i64 t.e1, .bool t.op, .slice t.la t.legs.length t.lc, .slice t.pa t.pauses.length t.pc, .int .i64 t.fw, .int .i64 t.fp, .int .i64 t.wh, .int .i64 t.pl] 73)), y.w.cell? ⟨x.w.heap.size + 1, 3, none⟩ = some (.int .i64 t.s1) := fun y => Since.cell (by simp [go_sem]) (by first | (simp; done) | (simp; omega)) y
  have hb1_4 : ∀ y : Since ((x.w.alloc (.cells #[.int .i64 s.id, .int .i64 s.rd, .int .i64 s.s0, .int .i64 s.s1, .int .i64 s.e0, .int .i64 s.e1, .bool s.op, .slice s.la s.legs.length s.lc, .slice s.pa s.pauses.length s.pc, .int .i64 s.fw, .int .i64 s.fp, .int .i64 s.wh, .int .i64 s.pl] 73)).alloc (.cells #[.int .i64 t.id, .int .i64 t.rd, .int .i64 t.s0, .int .i64 t.s1, .int .i64 t.e0, .int .i64 t.e1, .bool t.op, .slice t.la t.legs.length t.lc, .slice t.pa t.pauses.length t.pc, .int .i64 t.fw, .int .i64 t.fp, .int .i64 t.wh, .int .i64 t.pl] 73)), y.w.cell? ⟨x.w.heap.size + 1, 4, none⟩ = some (.int .i64 t.e0) := fun y => Since.cell (by simp [go_sem]) (by first | (simp; done) | (simp; omega)) y
  have hb1_5 : ∀ y : Since ((x.w.alloc (.cells #[.int .i64 s.id, .int .i64 s.rd, .int .i64 s.s0, .int .i64 s.s1, .int .i64 s.e0, .int .i64 s.e1, .bool s.op, .slice s.la s.legs.length s.lc, .slice s.pa s.pauses.length s.pc, .int .i64 s.fw, .int .i64 s.fp, .int .i64 s.wh, .int .i64 s.pl] 73)).alloc (.cells #[.int .i64 t.id, .int .i64 t.rd, .int .i64 t.s0, .int .i64 t.s1, .int .i64 t.e0, .int .i64 t.e1, .bool t.op, .slice t.la t.legs.length t.lc, .slice t.pa t.pauses.length t.pc, .int .i64 t.fw, .int .i64 t.fp, .int .i64 t.wh, .int .i64 t.pl] 73)), y.w.cell? ⟨x.w.heap.size + 1, 5, none⟩ = some (.int .i64 t.e1) := fun y => Since.cell (by simp [go_sem]) (by first | (simp; done) | (simp; omega)) y
  have hb1_6 : ∀ y : Since ((x.w.alloc (.cells #[.int .i64 s.id, .int .i64 s.rd, .int .i64 s.s0, .int .i64 s.s1, .int .i64 s.e0, .int .i64 s.e1, .bool s.op, .slice s.la s.legs.length s.lc, .slice s.pa s.pauses.length s.pc, .int .i64 s.fw, .int .i64 s.fp, .int .i64 s.wh, .int .i64 s.pl] 73)).alloc (.cells #[.int .i64 t.id, .int .i64 t.rd, .int .i64 t.s0, .int .i64 t.s1, .int .i64 t.e0, .int .i64 t.e1, .bool t.op, .slice t.la t.legs.length t.lc, .slice t.pa t.pauses.length t.pc, .int .i64 t.fw, .int .i64 t.fp, .int .i64 t.wh, .int .i64 t.pl] 73)), y.w.cell? ⟨x.w.heap.size + 1, 6, none⟩ = some (.bool t.op) := fun y => Since.cell (by simp [go_sem]) (by first | (simp; done) | (simp; omega)) y
  have hb1_7 : ∀ y : Since ((x.w.alloc (.cells #[.int .i64 s.id, .int .i64 s.rd, .int .i64 s.s0, .int .i64 s.s1, .int .i64 s.e0, .int .i64 s.e1, .bool s.op, .slice s.la s.legs.length s.lc, .slice s.pa s.pauses.length s.pc, .int .i64 s.fw, .int .i64 s.fp, .int .i64 s.wh, .int .i64 s.pl] 73)).alloc (.cells #[.int .i64 t.id, .int .i64 t.rd, .int .i64 t.s0, .int .i64 t.s1, .int .i64 t.e0, .int .i64 t.e1, .bool t.op, .slice t.la t.legs.length t.lc, .slice t.pa t.pauses.length t.pc, .int .i64 t.fw, .int .i64 t.fp, .int .i64 t.wh, .int .i64 t.pl] 73)), y.w.cell? ⟨x.w.heap.size + 1, 7, none⟩ = some (.slice t.la t.legs.length t.lc) := fun y => Since.cell (by simp [go_sem]) (by first | (simp; done) | (simp; omega)) y
  have hb1_8 : ∀ y : Since ((x.w.alloc (.cells #[.int .i64 s.id, .int .i64 s.rd, .int .i64 s.s0, .int .i64 s.s1, .int .i64 s.e0, .int .i64 s.e1, .bool s.op, .slice s.la s.legs.length s.lc, .slice s.pa s.pauses.length s.pc, .int .i64 s.fw, .int .i64 s.fp, .int .i64 s.wh, .int .i64 s.pl] 73)).alloc (.cells #[.int .i64 t.id, .int .i64 t.rd, .int .i64 t.s0, .int .i64 t.s1, .int .i64 t.e0, .int .i64 t.e1, .bool t.op, .slice t.la t.legs.length t.lc, .slice t.pa t.pauses.length t.pc, .int .i64 t.fw, .int .i64 t.fp, .int .i64 t.wh, .int .i64 t.pl] 73)), y.w.cell? ⟨x.w.heap.size + 1, 8, none⟩ = some (.slice t.pa t.pauses.length t.pc) := fun y => Since.cell (by simp [go_sem]) (by first | (simp; done) | (simp; omega)) y
  have hb1_9 : ∀ y : Since ((x.w.alloc (.cells #[.int .i64 s.id, .int .i64 s.rd, .int .i64 s.s0, .int .i64 s.s1, .int .i64 s.e0, .int .i64 s.e1, .bool s.op, .slice s.la s.legs.length s.lc, .slice s.pa s.pauses.length s.pc, .int .i64 s.fw, .int .i64 s.fp, .int .i64 s.wh, .int .i64 s.pl] 73)).alloc (.cells #[.int .i64 t.id, .int .i64 t.rd, .int .i64 t.s0, .int .i64 t.s1, .int .i64 t.e0, .int .i64 t.e1, .bool t.op, .slice t.la t.legs.length t.lc, .slice t.pa t.pauses.length t.pc, .int .i64 t.fw, .int .i64 t.fp, .int .i64 t.wh, .int .i64 t.pl] 73)), y.w.cell? ⟨x.w.heap.size + 1, 9, none⟩ = some (.int .i64 t.fw) := fun y => Since.cell (by simp [go_sem]) (by first | (simp; done) | (simp; omega)) y
  have hb1_10 : ∀ y : Since ((x.w.alloc (.cells #[.int .i64 s.id, .int .i64 s.rd, .int .i64 s.s0, .int .i64 s.s1, .int .i64 s.e0, .int .i64 s.e1, .bool s.op, .slice s.la s.legs.length s.lc, .slice s.pa s.pauses.length s.pc, .int .i64 s.fw, .int .i64 s.fp, .int .i64 s.wh, .int .i64 s.pl] 73)).alloc (.cells #[.int .i64 t.id, .int .i64 t.rd, .int .i64 t.s0, .int .i64 t.s1, .int .i64 t.e0, .int .i64 t.e1, .bool t.op, .slice t.la t.legs.length t.lc, .slice t.pa t.pauses.length t.pc, .int .i64 t.fw, .int .i64 t.fp, .int .i64 t.wh, .int .i64 t.pl] 73)), y.w.cell? ⟨x.w.heap.size + 1, 10, none⟩ = some (.int .i64 t.fp) := fun y => Since.cell (by simp [go_sem]) (by first | (simp; done) | (simp; omega)) y
  have hb1_11 : ∀ y : Since ((x.w.alloc (.cells #[.int .i64 s.id, .int .i64 s.rd, .int .i64 s.s0, .int .i64 s.s1, .int .i64 s.e0, .int .i64 s.e1, .bool s.op, .slice s.la s.legs.length s.lc, .slice s.pa s.pauses.length s.pc, .int .i64 s.fw, .int .i64 s.fp, .int .i64 s.wh, .int .i64 s.pl] 73)).alloc (.cells #[.int .i64 t.id, .int .i64 t.rd, .int .i64 t.s0, .int .i64 t.s1, .int .i64 t.e0, .int .i64 t.e1, .bool t.op, .slice t.la t.legs.length t.lc, .slice t.pa t.pauses.length t.pc, .int .i64 t.fw, .int .i64 t.fp, .int .i64 t.wh, .int .i64 t.pl] 73)), y.w.cell? ⟨x.w.heap.size + 1, 11, none⟩ = some (.int .i64 t.wh) := fun y => Since.cell (by simp [go_sem]) (by first | (simp; done) | (simp; omega)) y
  have hb1_12 : ∀ y : Since ((x.w.alloc (.cells #[.int .i64 s.id, .int .i64 s.rd, .int .i64 s.s0, .int .i64 s.s1, .int .i64 s.e0, .int .i64 s.e1, .bool s.op, .slice s.la s.legs.length s.lc, .slice s.pa s.pauses.length s.pc, .int .i64 s.fw, .int .i64 s.fp, .int .i64 s.wh, .int .i64 s.pl] 73)).alloc (.cells #[.int .i64 t.id, .int .i64 t.rd, .int .i64 t.s0, .int .i64 t.s1, .int .i64 t.e0, .int .i64 t.e1, .bool t.op, .slice t.la t.legs.length t.lc, .slice t.pa t.pauses.length t.pc, .int .i64 t.fw, .int .i64 t.fp, .int .i64 t.wh, .int .i64 t.pl] 73)), y.w.cell? ⟨x.w.heap.size + 1, 12, none⟩ = some (.int .i64 t.pl) := fun y => Since.cell (by simp [go_sem]) (by first | (simp; done) | (simp; omega)) y
  have hf1 : ∀ (y : Since ((x.w.alloc (.cells #[.int .i64 s.id, .int .i64 s.rd, .int .i64 s.s0, .int .i64 s.s1, .int .i64 s.e0, .int .i64 s.e1, .bool s.op, .slice s.la s.legs.length s.lc, .slice s.pa s.pauses.length s.pc, .int .i64 s.fw, .int .i64 s.fp, .int .i64 s.wh, .int .i64 s.pl] 73)).alloc (.cells #[.int .i64 t.id, .int .i64 t.rd, .int .i64 t.s0, .int .i64 t.s1, .int .i64 t.e0, .int .i64 t.e1, .bool t.op, .slice t.la t.legs.length t.lc, .slice t.pa t.pauses.length t.pc, .int .i64 t.fw, .int .i64 t.fp, .int .i64 t.wh, .int .i64 t.pl] 73))) (o : Nat), y.w.frozen? ⟨x.w.heap.size + 1, o, none⟩ = false := fun y o => Since.free (by simp [go_sem]) (by first | (simp; done) | (simp; omega)) y
  have hWup : ∃ z : Since w, ((x.w.alloc (.cells #[.int .i64 s.id, .int .i64 s.rd, .int .i64 s.s0, .int .i64 s.s1, .int .i64 s.e0, .int .i64 s.e1, .bool s.op, .slice s.la s.legs.length s.lc, .slice s.pa s.pauses.length s.pc, .int .i64 s.fw, .int .i64 s.fp, .int .i64 s.wh, .int .i64 s.pl] 73)).alloc (.cells #[.int .i64 t.id, .int .i64 t.rd, .int .i64 t.s0, .int .i64 t.s1, .int .i64 t.e0, .int .i64 t.e1, .bool t.op, .slice t.la t.legs.length t.lc, .slice t.pa t.pauses.length t.pc, .int .i64 t.fw, .int .i64 t.fp, .int .i64 t.wh, .int .i64 t.pl] 73)) = z.w := Since.allocs x [.cells #[.int .i64 s.id, .int .i64 s.rd, .int .i64 s.s0, .int .i64 s.s1, .int .i64 s.e0, .int .i64 s.e1, .bool s.op, .slice s.la s.legs.length s.lc, .slice s.pa s.pauses.length s.pc, .int .i64 s.fw, .int .i64 s.fp, .int .i64 s.wh, .int .i64 s.pl] 73, .cells #[.int .i64 t.id, .int .i64 t.rd, .int .i64 t.s0, .int .i64 t.s1, .int .i64 t.e0, .int .i64 t.e1, .bool t.op, .slice t.la t.legs.length t.lc, .slice t.pa t.pauses.length t.pc, .int .i64 t.fw, .int .i64 t.fp, .int .i64 t.wh, .int .i64 t.pl] 73]
  obtain ⟨y0, hy0⟩ := Since.refl ((x.w.alloc (.cells #[.int .i64 s.id, .int .i64 s.rd, .int .i64 s.s0, .int .i64 s.s1, .int .i64 s.e0, .int .i64 s.e1, .bool s.op, .slice s.la s.legs.length s.lc, .slice s.pa s.pauses.length s.pc, .int .i64 s.fw, .int .i64 s.fp, .int .i64 s.wh, .int .i64 s.pl] 73)).alloc (.cells #[.int .i64 t.id, .int .i64 t.rd, .int .i64 t.s0, .int .i64 t.s1, .int .i64 t.e0, .int .i64 t.e1, .bool t.op, .slice t.la t.legs.length t.lc, .slice t.pa t.pauses.length t.pc, .int .i64 t.fw, .int .i64 t.fp, .int .i64 t.wh, .int .i64 t.pl] 73))
  have Hbx := Lib.hid (And.intro x.b.size (show x.w.heap.size + 2 = ((x.w.alloc (.cells #[.int .i64 s.id, .int .i64 s.rd, .int .i64 s.s0, .int .i64 s.s1, .int .i64 s.e0, .int .i64 s.e1, .bool s.op, .slice s.la s.legs.length s.lc, .slice s.pa s.pauses.length s.pc, .int .i64 s.fw, .int .i64 s.fp, .int .i64 s.wh, .int .i64 s.pl] 73)).alloc (.cells #[.int .i64 t.id, .int .i64 t.rd, .int .i64 t.s0, .int .i64 t.s1, .int .i64 t.e0, .int .i64 t.e1, .bool t.op, .slice t.la t.legs.length t.lc, .slice t.pa t.pauses.length t.pc, .int .i64 t.fw, .int .i64 t.fp, .int .i64 t.wh, .int .i64 t.pl] 73)).heap.size from by simp))
  generalize hW : ((x.w.alloc (.cells #[.int .i64 s.id, .int .i64 s.rd, .int .i64 s.s0, .int .i64 s.s1, .int .i64 s.e0, .int .i64 s.e1, .bool s.op, .slice s.la s.legs.length s.lc, .slice s.pa s.pauses.length s.pc, .int .i64 s.fw, .int .i64 s.fp, .int .i64 s.wh, .int .i64 s.pl] 73)).alloc (.cells #[.int .i64 t.id, .int .i64 t.rd, .int .i64 t.s0, .int .i64 t.s1, .int .i64 t.e0, .int .i64 t.e1, .bool t.op, .slice t.la t.legs.length t.lc, .slice t.pa t.pauses.length t.pc, .int .i64 t.fw, .int .i64 t.fp, .int .i64 t.wh, .int .i64 t.pl] 73)) = W at *
  clear hW
  generalize x.w.heap.size = bx at *
  have Hup := Lib.hid (Since.up hWup)
  rw [hy0]
  clear hy0
  clear hWup
  clear hb0_1 hb0_3 hb0_4 hb0_5 hb0_6 hb0_7 hb0_8 hb0_9 hb0_10 hb0_11 hb0_12 hb1_1 hb1_3 hb1_4 hb1_5 hb1_6 hb1_7 hb1_8 hb1_9 hb1_10 hb1_11 hb1_12 hf0 hf1
  have hc : (s.s0 < t.s0) ∨ (¬ s.s0 < t.s0 ∧ (s.s0 == t.s0) = false) ∨ (¬ s.s0 < t.s0 ∧ (s.s0 == t.s0) = true ∧ s.id < t.id) ∨ (¬ s.s0 < t.s0 ∧ (s.s0 == t.s0) = true ∧ ¬ s.id < t.id) := by
    by_cases h1 : s.s0 < t.s0
    · exact Or.inl h1
    · by_cases h2 : s.s0 = t.s0
      · have h3 : (s.s0 == t.s0) = true := by simpa using h2
        by_cases h4 : s.id < t.id
        · exact Or.inr (Or.inr (Or.inl ⟨h1, h3, h4⟩))
        · exact Or.inr (Or.inr (Or.inr ⟨h1, h3, h4⟩))
      · exact Or.inr (Or.inl ⟨h1, by simpa using h2⟩)
  have Hc := Lib.hid (show (s.s0 < t.s0 ∨ (s.s0 == t.s0) = true ∧ s.id < t.id) ↔ bf s t = true by rw [Hi.out]; simp)
  clear Hi
  rcases hc with h | ⟨h, h2⟩ | ⟨h, h2, h3⟩ | ⟨h, h2, h3⟩
  · have HB := Lib.hid (Hp.out true (Hc.out.1 (Or.inl h)))
    clear Hc
    go_wp2_with fail
    obtain ⟨z, hz⟩ := Hup.out y0
    rw [hz]
    exact HB.out z
  · have HB := Lib.hid (Hp.out false (by cases hb : bf s t; rfl; have := Hc.out.2 hb; rw [h2] at this; simp at this; omega))
    clear Hc
    go_wp2_with fail
    obtain ⟨z, hz⟩ := Hup.out y0
    rw [hz]
    exact HB.out z
  · have HB := Lib.hid (Hp.out true (Hc.out.1 (Or.inr ⟨h2, h3⟩)))
    clear Hc
    go_wp2_with fail
    obtain ⟨z, hz⟩ := Hup.out y0
    rw [hz]
    exact HB.out z
  · have HB := Lib.hid (Hp.out false (by cases hb : bf s t; rfl; have := Hc.out.2 hb; omega))
    clear Hc
    go_wp2_with fail
    obtain ⟨z, hz⟩ := Hup.out y0
    rw [hz]
    exact HB.out z
/-- which rides come before x -/
def aP (x r : Ride) : Bool := ofK (key x) r && bf r x
theorem ahd_aP (R : List Ride) (x : Ride) : (ahd R x : Int) = ((R.filter (aP x)).length : Nat) := rfl
theorem aP_no {x r : Ride} (h : r.op = true ∨ r.rd ≠ x.rd ∨ r.s0 / 86400 ≠ x.s0 / 86400) : aP x r = false := by
  unfold aP ofK key
  rcases h with h | h | h
  · simp [h]
  · simp [h]
  · have : ¬ day r = day x := h
    simp [this]
theorem aP_yes {x r : Ride} (h1 : r.op = false) (h2 : r.rd = x.rd) (h3 : r.s0 / 86400 = x.s0 / 86400) : aP x r = bf r x := by
  unfold aP ofK key
  have : day r = day x := h3
  simp [h1, h2, this]
def OneI (w : World) (n : Int) (o : Ending) (w' : World) : Prop := o = .returned (.int .i64 n) ∧ ∃ y : Since w, w' = y.w
set_option maxRecDepth 100000 in
set_option maxHeartbeats 8000000 in
theorem ahead_calls (w : World) (x : Since w) (a : Option Addr) (R : List Ride) (c : Nat) (e : Ride) (h : RideRow w a R) (hl : R.length ≤ 256) (hs : ∀ r ∈ R, 0 ≤ r.s0 ∧ r.s0 ≤ 4294943999) (he : 0 ≤ e.s0 ∧ e.s0 ≤ 4294943999) :
    Calls Tryd.prog 93 #[.slice a R.length c, .agg #[.int .i64 e.id, .int .i64 e.rd, .int .i64 e.s0, .int .i64 e.s1, .int .i64 e.e0, .int .i64 e.e1, .bool e.op, .slice e.la e.legs.length e.lc, .slice e.pa e.pauses.length e.pc, .int .i64 e.fw, .int .i64 e.fp, .int .i64 e.wh, .int .i64 e.pl]] x.w (OneI w (ahd R e)) := by
  have HR := Lib.hid h
  have Hs := Lib.hid hs
  rw [ahd_aP]
  obtain ⟨he0, he1⟩ := he
  clear h hs
  go_enter Tryd.func93, Tryd.ntmps93
  go_upto_region 1 with fail
  have hb0_0 : ∀ y : Since (x.w.alloc (.cells #[.int .i64 e.id, .int .i64 e.rd, .int .i64 e.s0, .int .i64 e.s1, .int .i64 e.e0, .int .i64 e.e1, .bool e.op, .slice e.la e.legs.length e.lc, .slice e.pa e.pauses.length e.pc, .int .i64 e.fw, .int .i64 e.fp, .int .i64 e.wh, .int .i64 e.pl] 73)), y.w.cell? ⟨x.w.heap.size, 0, none⟩ = some (.int .i64 e.id) := fun y => Since.cell (by simp [go_sem]) (by first | (simp; done) | (simp; omega)) y
  have hb0_1 : ∀ y : Since (x.w.alloc (.cells #[.int .i64 e.id, .int .i64 e.rd, .int .i64 e.s0, .int .i64 e.s1, .int .i64 e.e0, .int .i64 e.e1, .bool e.op, .slice e.la e.legs.length e.lc, .slice e.pa e.pauses.length e.pc, .int .i64 e.fw, .int .i64 e.fp, .int .i64 e.wh, .int .i64 e.pl] 73)), y.w.cell? ⟨x.w.heap.size, 1, none⟩ = some (.int .i64 e.rd) := fun y => Since.cell (by simp [go_sem]) (by first | (simp; done) | (simp; omega)) y
  have hb0_2 : ∀ y : Since (x.w.alloc (.cells #[.int .i64 e.id, .int .i64 e.rd, .int .i64 e.s0, .int .i64 e.s1, .int .i64 e.e0, .int .i64 e.e1, .bool e.op, .slice e.la e.legs.length e.lc, .slice e.pa e.pauses.length e.pc, .int .i64 e.fw, .int .i64 e.fp, .int .i64 e.wh, .int .i64 e.pl] 73)), y.w.cell? ⟨x.w.heap.size, 2, none⟩ = some (.int .i64 e.s0) := fun y => Since.cell (by simp [go_sem]) (by first | (simp; done) | (simp; omega)) y
  have hb0_3 : ∀ y : Since (x.w.alloc (.cells #[.int .i64 e.id, .int .i64 e.rd, .int .i64 e.s0, .int .i64 e.s1, .int .i64 e.e0, .int .i64 e.e1, .bool e.op, .slice e.la e.legs.length e.lc, .slice e.pa e.pauses.length e.pc, .int .i64 e.fw, .int .i64 e.fp, .int .i64 e.wh, .int .i64 e.pl] 73)), y.w.cell? ⟨x.w.heap.size, 3, none⟩ = some (.int .i64 e.s1) := fun y => Since.cell (by simp [go_sem]) (by first | (simp; done) | (simp; omega)) y
  have hb0_4 : ∀ y : Since (x.w.alloc (.cells #[.int .i64 e.id, .int .i64 e.rd, .int .i64 e.s0, .int .i64 e.s1, .int .i64 e.e0, .int .i64 e.e1, .bool e.op, .slice e.la e.legs.length e.lc, .slice e.pa e.pauses.length e.pc, .int .i64 e.fw, .int .i64 e.fp, .int .i64 e.wh, .int .i64 e.pl] 73)), y.w.cell? ⟨x.w.heap.size, 4, none⟩ = some (.int .i64 e.e0) := fun y => Since.cell (by simp [go_sem]) (by first | (simp; done) | (simp; omega)) y
  have hb0_5 : ∀ y : Since (x.w.alloc (.cells #[.int .i64 e.id, .int .i64 e.rd, .int .i64 e.s0, .int .i64 e.s1, .int .i64 e.e0, .int .i64 e.e1, .bool e.op, .slice e.la e.legs.length e.lc, .slice e.pa e.pauses.length e.pc, .int .i64 e.fw, .int .i64 e.fp, .int .i64 e.wh, .int .i64 e.pl] 73)), y.w.cell? ⟨x.w.heap.size, 5, none⟩ = some (.int .i64 e.e1) := fun y => Since.cell (by simp [go_sem]) (by first | (simp; done) | (simp; omega)) y
  have hb0_6 : ∀ y : Since (x.w.alloc (.cells #[.int .i64 e.id, .int .i64 e.rd, .int .i64 e.s0, .int .i64 e.s1, .int .i64 e.e0, .int .i64 e.e1, .bool e.op, .slice e.la e.legs.length e.lc, .slice e.pa e.pauses.length e.pc, .int .i64 e.fw, .int .i64 e.fp, .int .i64 e.wh, .int .i64 e.pl] 73)), y.w.cell? ⟨x.w.heap.size, 6, none⟩ = some (.bool e.op) := fun y => Since.cell (by simp [go_sem]) (by first | (simp; done) | (simp; omega)) y
  have hb0_7 : ∀ y : Since (x.w.alloc (.cells #[.int .i64 e.id, .int .i64 e.rd, .int .i64 e.s0, .int .i64 e.s1, .int .i64 e.e0, .int .i64 e.e1, .bool e.op, .slice e.la e.legs.length e.lc, .slice e.pa e.pauses.length e.pc, .int .i64 e.fw, .int .i64 e.fp, .int .i64 e.wh, .int .i64 e.pl] 73)), y.w.cell? ⟨x.w.heap.size, 7, none⟩ = some (.slice e.la e.legs.length e.lc) := fun y => Since.cell (by simp [go_sem]) (by first | (simp; done) | (simp; omega)) y
  have hb0_8 : ∀ y : Since (x.w.alloc (.cells #[.int .i64 e.id, .int .i64 e.rd, .int .i64 e.s0, .int .i64 e.s1, .int .i64 e.e0, .int .i64 e.e1, .bool e.op, .slice e.la e.legs.length e.lc, .slice e.pa e.pauses.length e.pc, .int .i64 e.fw, .int .i64 e.fp, .int .i64 e.wh, .int .i64 e.pl] 73)), y.w.cell? ⟨x.w.heap.size, 8, none⟩ = some (.slice e.pa e.pauses.length e.pc) := fun y => Since.cell (by simp [go_sem]) (by first | (simp; done) | (simp; omega)) y
  have hb0_9 : ∀ y : Since (x.w.alloc (.cells #[.int .i64 e.id, .int .i64 e.rd, .int .i64 e.s0, .int .i64 e.s1, .int .i64 e.e0, .int .i64 e.e1, .bool e.op, .slice e.la e.legs.length e.lc, .slice e.pa e.pauses.length e.pc, .int .i64 e.fw, .int .i64 e.fp, .int .i64 e.wh, .int .i64 e.pl] 73)), y.w.cell? ⟨x.w.heap.size, 9, none⟩ = some (.int .i64 e.fw) := fun y => Since.cell (by simp [go_sem]) (by first | (simp; done) | (simp; omega)) y
  have hb0_10 : ∀ y : Since (x.w.alloc (.cells #[.int .i64 e.id, .int .i64 e.rd, .int .i64 e.s0, .int .i64 e.s1, .int .i64 e.e0, .int .i64 e.e1, .bool e.op, .slice e.la e.legs.length e.lc, .slice e.pa e.pauses.length e.pc, .int .i64 e.fw, .int .i64 e.fp, .int .i64 e.wh, .int .i64 e.pl] 73)), y.w.cell? ⟨x.w.heap.size, 10, none⟩ = some (.int .i64 e.fp) := fun y => Since.cell (by simp [go_sem]) (by first | (simp; done) | (simp; omega)) y
  have hb0_11 : ∀ y : Since (x.w.alloc (.cells #[.int .i64 e.id, .int .i64 e.rd, .int .i64 e.s0, .int .i64 e.s1, .int .i64 e.e0, .int .i64 e.e1, .bool e.op, .slice e.la e.legs.length e.lc, .slice e.pa e.pauses.length e.pc, .int .i64 e.fw, .int .i64 e.fp, .int .i64 e.wh, .int .i64 e.pl] 73)), y.w.cell? ⟨x.w.heap.size, 11, none⟩ = some (.int .i64 e.wh) := fun y => Since.cell (by simp [go_sem]) (by first | (simp; done) | (simp; omega)) y
  have hb0_12 : ∀ y : Since (x.w.alloc (.cells #[.int .i64 e.id, .int .i64 e.rd, .int .i64 e.s0, .int .i64 e.s1, .int .i64 e.e0, .int .i64 e.e1, .bool e.op, .slice e.la e.legs.length e.lc, .slice e.pa e.pauses.length e.pc, .int .i64 e.fw, .int .i64 e.fp, .int .i64 e.wh, .int .i64 e.pl] 73)), y.w.cell? ⟨x.w.heap.size, 12, none⟩ = some (.int .i64 e.pl) := fun y => Since.cell (by simp [go_sem]) (by first | (simp; done) | (simp; omega)) y
  have hf0 : ∀ (y : Since (x.w.alloc (.cells #[.int .i64 e.id, .int .i64 e.rd, .int .i64 e.s0, .int .i64 e.s1, .int .i64 e.e0, .int .i64 e.e1, .bool e.op, .slice e.la e.legs.length e.lc, .slice e.pa e.pauses.length e.pc, .int .i64 e.fw, .int .i64 e.fp, .int .i64 e.wh, .int .i64 e.pl] 73))) (o : Nat), y.w.frozen? ⟨x.w.heap.size, o, none⟩ = false := fun y o => Since.free (by simp [go_sem]) (by first | (simp; done) | (simp; omega)) y
  have hWup : ∃ z : Since w, (x.w.alloc (.cells #[.int .i64 e.id, .int .i64 e.rd, .int .i64 e.s0, .int .i64 e.s1, .int .i64 e.e0, .int .i64 e.e1, .bool e.op, .slice e.la e.legs.length e.lc, .slice e.pa e.pauses.length e.pc, .int .i64 e.fw, .int .i64 e.fp, .int .i64 e.wh, .int .i64 e.pl] 73)) = z.w := x.alloc _
  obtain ⟨y0, hy0⟩ := Since.refl (x.w.alloc (.cells #[.int .i64 e.id, .int .i64 e.rd, .int .i64 e.s0, .int .i64 e.s1, .int .i64 e.e0, .int .i64 e.e1, .bool e.op, .slice e.la e.legs.length e.lc, .slice e.pa e.pauses.length e.pc, .int .i64 e.fw, .int .i64 e.fp, .int .i64 e.wh, .int .i64 e.pl] 73))
  have Hbx := Lib.hid (And.intro x.b.size (show x.w.heap.size + 1 = (x.w.alloc (.cells #[.int .i64 e.id, .int .i64 e.rd, .int .i64 e.s0, .int .i64 e.s1, .int .i64 e.e0, .int .i64 e.e1, .bool e.op, .slice e.la e.legs.length e.lc, .slice e.pa e.pauses.length e.pc, .int .i64 e.fw, .int .i64 e.fp, .int .i64 e.wh, .int .i64 e.pl] 73)).heap.size from by simp))
  generalize hW : (x.w.alloc (.cells #[.int .i64 e.id, .int .i64 e.rd, .int .i64 e.s0, .int .i64 e.s1, .int .i64 e.e0, .int .i64 e.e1, .bool e.op, .slice e.la e.legs.length e.lc, .slice e.pa e.pauses.length e.pc, .int .i64 e.fw, .int .i64 e.fp, .int .i64 e.wh, .int .i64 e.pl] 73)) = W at *
  clear hW
  generalize x.w.heap.size = bx at *
  have Hup := Lib.hid (Since.up hWup)
  rw [hy0]
  clear hy0
  replace HR := Lib.hid (HR.out.to hWup)
  clear hWup hf0
  go_wp2_with fail
  go_loopw [5, 6] (fun nv i wr => ∃ (k m : Nat) (y : Since W), k ≤ R.length ∧ i = .int .i64 (k : Int) ∧ nv = .int .i64 (m : Int) ∧ wr = y.w ∧ m = ((R.take k).filter (aP e)).length ∧ m ≤ k) (fun _ i _ => R.length - (intOf i).toNat)
  case atStart => exact ⟨0, 0, y0, by omega, rfl, rfl, rfl, rfl, by omega⟩
  case round =>
    obtain ⟨k, m, y, hk, rfl, rfl, rfl, hm, hmk⟩ := hrel
    have Hm := Lib.hid hm
    clear hm
    by_cases hlt : k < R.length
    · obtain ⟨r, hr⟩ : ∃ r, R[k]? = some r := ⟨_, List.getElem?_eq_getElem hlt⟩
      have hk0 : (0 : Int) ≤ (k : Int) := by omega
      have hkl : (k : Int) < (R.length : Int) := by omega
      have Htk := Lib.hid (pick_take R (aP e) k r hr)
      obtain ⟨hs0, hs1⟩ := Hs.out r (List.mem_of_getElem? hr)
      obtain ⟨b1, off1, rfl, h1'⟩ := Els.ride HR.out.c hr
      have ra0 := h1'.c0
      have ra1 := h1'.c1
      have ra2 := h1'.c2
      have ra3 := h1'.c3
      have ra4 := h1'.c4
      have ra5 := h1'.c5
      have ra6 := h1'.c6
      have ra7 := h1'.c7
      have ra8 := h1'.c8
      have ra9 := h1'.c9
      have ra10 := h1'.c10
      have ra11 := h1'.c11
      have ra12 := h1'.c12
      clear h1' hr
      go_upto_region 6 with fail
      have hx0 : (y.w.alloc (.cells #[.int .i64 r.id, .int .i64 r.rd, .int .i64 r.s0, .int .i64 r.s1, .int .i64 r.e0, .int .i64 r.e1, .bool r.op, .slice r.la r.legs.length r.lc, .slice r.pa r.pauses.length r.pc, .int .i64 r.fw, .int .i64 r.fp, .int .i64 r.wh, .int .i64 r.pl] 73)).cell? ⟨y.w.heap.size, 0, none⟩ = some (.int .i64 r.id) := by simp [go_sem]
      have hx1 : (y.w.alloc (.cells #[.int .i64 r.id, .int .i64 r.rd, .int .i64 r.s0, .int .i64 r.s1, .int .i64 r.e0, .int .i64 r.e1, .bool r.op, .slice r.la r.legs.length r.lc, .slice r.pa r.pauses.length r.pc, .int .i64 r.fw, .int .i64 r.fp, .int .i64 r.wh, .int .i64 r.pl] 73)).cell? ⟨y.w.heap.size, 1, none⟩ = some (.int .i64 r.rd) := by simp [go_sem]
      have hx2 : (y.w.alloc (.cells #[.int .i64 r.id, .int .i64 r.rd, .int .i64 r.s0, .int .i64 r.s1, .int .i64 r.e0, .int .i64 r.e1, .bool r.op, .slice r.la r.legs.length r.lc, .slice r.pa r.pauses.length r.pc, .int .i64 r.fw, .int .i64 r.fp, .int .i64 r.wh, .int .i64 r.pl] 73)).cell? ⟨y.w.heap.size, 2, none⟩ = some (.int .i64 r.s0) := by simp [go_sem]
      have hx3 : (y.w.alloc (.cells #[.int .i64 r.id, .int .i64 r.rd, .int .i64 r.s0, .int .i64 r.s1, .int .i64 r.e0, .int .i64 r.e1, .bool r.op, .slice r.la r.legs.length r.lc, .slice r.pa r.pauses.length r.pc, .int .i64 r.fw, .int .i64 r.fp, .int .i64 r.wh, .int .i64 r.pl] 73)).cell? ⟨y.w.heap.size, 3, none⟩ = some (.int .i64 r.s1) := by simp [go_sem]
      have hx4 : (y.w.alloc (.cells #[.int .i64 r.id, .int .i64 r.rd, .int .i64 r.s0, .int .i64 r.s1, .int .i64 r.e0, .int .i64 r.e1, .bool r.op, .slice r.la r.legs.length r.lc, .slice r.pa r.pauses.length r.pc, .int .i64 r.fw, .int .i64 r.fp, .int .i64 r.wh, .int .i64 r.pl] 73)).cell? ⟨y.w.heap.size, 4, none⟩ = some (.int .i64 r.e0) := by simp [go_sem]
      have hx5 : (y.w.alloc (.cells #[.int .i64 r.id, .int .i64 r.rd, .int .i64 r.s0, .int .i64 r.s1, .int .i64 r.e0, .int .i64 r.e1, .bool r.op, .slice r.la r.legs.length r.lc, .slice r.pa r.pauses.length r.pc, .int .i64 r.fw, .int .i64 r.fp, .int .i64 r.wh, .int .i64 r.pl] 73)).cell? ⟨y.w.heap.size, 5, none⟩ = some (.int .i64 r.e1) := by simp [go_sem]
      have hx6 : (y.w.alloc (.cells #[.int .i64 r.id, .int .i64 r.rd, .int .i64 r.s0, .int .i64 r.s1, .int .i64 r.e0, .int .i64 r.e1, .bool r.op, .slice r.la r.legs.length r.lc, .slice r.pa r.pauses.length r.pc, .int .i64 r.fw, .int .i64 r.fp, .int .i64 r.wh, .int .i64 r.pl] 73)).cell? ⟨y.w.heap.size, 6, none⟩ = some (.bool r.op) := by simp [go_sem]
      have hx7 : (y.w.alloc (.cells #[.int .i64 r.id, .int .i64 r.rd, .int .i64 r.s0, .int .i64 r.s1, .int .i64 r.e0, .int .i64 r.e1, .bool r.op, .slice r.la r.legs.length r.lc, .slice r.pa r.pauses.length r.pc, .int .i64 r.fw, .int .i64 r.fp, .int .i64 r.wh, .int .i64 r.pl] 73)).cell? ⟨y.w.heap.size, 7, none⟩ = some (.slice r.la r.legs.length r.lc) := by simp [go_sem]
      have hx8 : (y.w.alloc (.cells #[.int .i64 r.id, .int .i64 r.rd, .int .i64 r.s0, .int .i64 r.s1, .int .i64 r.e0, .int .i64 r.e1, .bool r.op, .slice r.la r.legs.length r.lc, .slice r.pa r.pauses.length r.pc, .int .i64 r.fw, .int .i64 r.fp, .int .i64 r.wh, .int .i64 r.pl] 73)).cell? ⟨y.w.heap.size, 8, none⟩ = some (.slice r.pa r.pauses.length r.pc) := by simp [go_sem]
      have hx9 : (y.w.alloc (.cells #[.int .i64 r.id, .int .i64 r.rd, .int .i64 r.s0, .int .i64 r.s1, .int .i64 r.e0, .int .i64 r.e1, .bool r.op, .slice r.la r.legs.length r.lc, .slice r.pa r.pauses.length r.pc, .int .i64 r.fw, .int .i64 r.fp, .int .i64 r.wh, .int .i64 r.pl] 73)).cell? ⟨y.w.heap.size, 9, none⟩ = some (.int .i64 r.fw) := by simp [go_sem]
      have hx10 : (y.w.alloc (.cells #[.int .i64 r.id, .int .i64 r.rd, .int .i64 r.s0, .int .i64 r.s1, .int .i64 r.e0, .int .i64 r.e1, .bool r.op, .slice r.la r.legs.length r.lc, .slice r.pa r.pauses.length r.pc, .int .i64 r.fw, .int .i64 r.fp, .int .i64 r.wh, .int .i64 r.pl] 73)).cell? ⟨y.w.heap.size, 10, none⟩ = some (.int .i64 r.fp) := by simp [go_sem]
      have hx11 : (y.w.alloc (.cells #[.int .i64 r.id, .int .i64 r.rd, .int .i64 r.s0, .int .i64 r.s1, .int .i64 r.e0, .int .i64 r.e1, .bool r.op, .slice r.la r.legs.length r.lc, .slice r.pa r.pauses.length r.pc, .int .i64 r.fw, .int .i64 r.fp, .int .i64 r.wh, .int .i64 r.pl] 73)).cell? ⟨y.w.heap.size, 11, none⟩ = some (.int .i64 r.wh) := by simp [go_sem]
      have hx12 : (y.w.alloc (.cells #[.int .i64 r.id, .int .i64 r.rd, .int .i64 r.s0, .int .i64 r.s1, .int .i64 r.e0, .int .i64 r.e1, .bool r.op, .slice r.la r.legs.length r.lc, .slice r.pa r.pauses.length r.pc, .int .i64 r.fw, .int .i64 r.fp, .int .i64 r.wh, .int .i64 r.pl] 73)).cell? ⟨y.w.heap.size, 12, none⟩ = some (.int .i64 r.pl) := by simp [go_sem]
      have hxf : ∀ o, (y.w.alloc (.cells #[.int .i64 r.id, .int .i64 r.rd, .int .i64 r.s0, .int .i64 r.s1, .int .i64 r.e0, .int .i64 r.e1, .bool r.op, .slice r.la r.legs.length r.lc, .slice r.pa r.pauses.length r.pc, .int .i64 r.fw, .int .i64 r.fp, .int .i64 r.wh, .int .i64 r.pl] 73)).frozen? ⟨y.w.heap.size, o, none⟩ = false := fun o => by simp [go_sem]
      have hlt0 : y.w.heap.size < (y.w.alloc (.cells #[.int .i64 r.id, .int .i64 r.rd, .int .i64 r.s0, .int .i64 r.s1, .int .i64 r.e0, .int .i64 r.e1, .bool r.op, .slice r.la r.legs.length r.lc, .slice r.pa r.pauses.length r.pc, .int .i64 r.fw, .int .i64 r.fp, .int .i64 r.wh, .int .i64 r.pl] 73)).heap.size := by simp
      have hst0 : ∃ zz : Since y.w, (y.w.alloc (.cells #[.int .i64 r.id, .int .i64 r.rd, .int .i64 r.s0, .int .i64 r.s1, .int .i64 r.e0, .int .i64 r.e1, .bool r.op, .slice r.la r.legs.length r.lc, .slice r.pa r.pauses.length r.pc, .int .i64 r.fw, .int .i64 r.fp, .int .i64 r.wh, .int .i64 r.pl] 73)) = zz.w := IsSince.alloc (IsSince.self _) _
      have hsz0 := y.b.size
      obtain ⟨y5, e2⟩ := IsSince.alloc (IsSince.of y) (.cells #[.int .i64 r.id, .int .i64 r.rd, .int .i64 r.s0, .int .i64 r.s1, .int .i64 r.e0, .int .i64 r.e1, .bool r.op, .slice r.la r.legs.length r.lc, .slice r.pa r.pauses.length r.pc, .int .i64 r.fw, .int .i64 r.fp, .int .i64 r.wh, .int .i64 r.pl] 73)
      rw [e2] at hx0 hx1 hx2 hx3 hx4 hx5 hx6 hx7 hx8 hx9 hx10 hx11 hx12 hxf hlt0 hst0 ⊢
      skip
      clear e2 hst0
      generalize y.w.heap.size = gr at *
      have Hhx0 : ∀ q : Since y5.w, q.w.cell? ⟨gr, 0, none⟩ = some (.int .i64 r.id) := fun q => Since.cell hx0 (by omega) q
      have Hhx1 : ∀ q : Since y5.w, q.w.cell? ⟨gr, 1, none⟩ = some (.int .i64 r.rd) := fun q => Since.cell hx1 (by omega) q
      have Hhx2 : ∀ q : Since y5.w, q.w.cell? ⟨gr, 2, none⟩ = some (.int .i64 r.s0) := fun q => Since.cell hx2 (by omega) q
      have Hhx3 : ∀ q : Since y5.w, q.w.cell? ⟨gr, 3, none⟩ = some (.int .i64 r.s1) := fun q => Since.cell hx3 (by omega) q
      have Hhx4 : ∀ q : Since y5.w, q.w.cell? ⟨gr, 4, none⟩ = some (.int .i64 r.e0) := fun q => Since.cell hx4 (by omega) q
      have Hhx5 : ∀ q : Since y5.w, q.w.cell? ⟨gr, 5, none⟩ = some (.int .i64 r.e1) := fun q => Since.cell hx5 (by omega) q
      have Hhx6 : ∀ q : Since y5.w, q.w.cell? ⟨gr, 6, none⟩ = some (.bool r.op) := fun q => Since.cell hx6 (by omega) q
      have Hhx7 : ∀ q : Since y5.w, q.w.cell? ⟨gr, 7, none⟩ = some (.slice r.la r.legs.length r.lc) := fun q => Since.cell hx7 (by omega) q
      have Hhx8 : ∀ q : Since y5.w, q.w.cell? ⟨gr, 8, none⟩ = some (.slice r.pa r.pauses.length r.pc) := fun q => Since.cell hx8 (by omega) q
      have Hhx9 : ∀ q : Since y5.w, q.w.cell? ⟨gr, 9, none⟩ = some (.int .i64 r.fw) := fun q => Since.cell hx9 (by omega) q
      have Hhx10 : ∀ q : Since y5.w, q.w.cell? ⟨gr, 10, none⟩ = some (.int .i64 r.fp) := fun q => Since.cell hx10 (by omega) q
      have Hhx11 : ∀ q : Since y5.w, q.w.cell? ⟨gr, 11, none⟩ = some (.int .i64 r.wh) := fun q => Since.cell hx11 (by omega) q
      have Hhx12 : ∀ q : Since y5.w, q.w.cell? ⟨gr, 12, none⟩ = some (.int .i64 r.pl) := fun q => Since.cell hx12 (by omega) q
      have Hhxf : ∀ (q : Since y5.w) (o : Nat), q.w.frozen? ⟨gr, o, none⟩ = false := fun q o => Since.free (hxf o) (by omega) q
      have Hhxg := Lib.hid (And.intro hsz0 hlt0)
      clear hlt0 hsz0
      have Hbf := Lib.hid (show Calls Tryd.prog 113 #[.agg #[.int .i64 r.id, .int .i64 r.rd, .int .i64 r.s0, .int .i64 r.s1, .int .i64 r.e0, .int .i64 r.e1, .bool r.op, .slice r.la r.legs.length r.lc, .slice r.pa r.pauses.length r.pc, .int .i64 r.fw, .int .i64 r.fp, .int .i64 r.wh, .int .i64 r.pl], .agg #[.int .i64 e.id, .int .i64 e.rd, .int .i64 e.s0, .int .i64 e.s1, .int .i64 e.e0, .int .i64 e.e1, .bool e.op, .slice e.la e.legs.length e.lc, .slice e.pa e.pauses.length e.pc, .int .i64 e.fw, .int .i64 e.fp, .int .i64 e.wh, .int .i64 e.pl]] y5.w (OneB y5.w (bf r e)) from before_calls y5.w (Since.self y5.w) r e)
      clear Hhx0 Hhx1 Hhx2 Hhx3 Hhx4 Hhx5 Hhx6 Hhx7 Hhx8 Hhx9 Hhx10 Hhx11 Hhx12 Hhxf ra0 ra1 ra2 ra3 ra4 ra5 ra6 ra7 ra8 ra9 ra10 ra11 ra12
      have Hno := Lib.hid (fun (h : aP e r = false) => show m = ((R.take (k + 1)).filter (aP e)).length by rw [Htk.out, h, Hm.out]; simp)
      have Hye := Lib.hid (fun (h : aP e r = true) => show m + 1 = ((R.take (k + 1)).filter (aP e)).length by rw [Htk.out, h, Hm.out]; simp)
      clear Htk
      have hc : r.op = true ∨ (r.op = false ∧ (r.rd == e.rd) = false) ∨ (r.op = false ∧ (r.rd == e.rd) = true ∧ (r.s0 / 86400 == e.s0 / 86400) = false) ∨ (r.op = false ∧ (r.rd == e.rd) = true ∧ (r.s0 / 86400 == e.s0 / 86400) = true) := by
        cases r.op <;> cases (r.rd == e.rd) <;> cases (r.s0 / 86400 == e.s0 / 86400) <;> simp
      rcases hc with c1 | ⟨c1, c2⟩ | ⟨c1, c2, c3⟩ | ⟨c1, c2, c3⟩
      · have Hn2 := Lib.hid (Hno.out (aP_no (Or.inl c1)))
        rw [c1] at hx6
        clear Hno Hye Hbf c1
        go_wp2_with fail
        go_roundw
        case rel => exact ⟨k + 1, m, y5, by omega, by go_num, rfl, rfl, Hn2.out, by omega⟩
        case measure => simp [intOf] <;> omega
      · have Hn2 := Lib.hid (Hno.out (aP_no (Or.inr (Or.inl (by simpa using c2)))))
        rw [c1] at hx6
        clear Hno Hye Hbf c1
        go_wp2_with fail
        go_roundw
        case rel => exact ⟨k + 1, m, y5, by omega, by go_num, rfl, rfl, Hn2.out, by omega⟩
        case measure => simp [intOf] <;> omega
      · have Hn2 := Lib.hid (Hno.out (aP_no (Or.inr (Or.inr (by simpa using c3)))))
        rw [c1] at hx6
        clear Hno Hye Hbf c1
        go_wp2_with fail
        go_roundw
        case rel => exact ⟨k + 1, m, y5, by omega, by go_num, rfl, rfl, Hn2.out, by omega⟩
        case measure => simp [intOf] <;> omega
      · have hq := aP_yes c1 (by simpa using c2) (by simpa using c3)
        rw [c1] at hx6 Hbf
        cases hb : bf r e
        · have Hn2 := Lib.hid (Hno.out (hq.trans hb))
          rw [hb] at Hbf
          clear Hno Hye c1 hq hb
          go_wp2_with fail
          refine Hbf.out.mono ?_
          rintro _ _ ⟨rfl, z6, rfl⟩
          obtain ⟨y6, h6⟩ := y5.trans z6
          rw [h6]
          go_wp2_with fail
          go_roundw
          case rel => exact ⟨k + 1, m, y6, by omega, by go_num, rfl, rfl, Hn2.out, by omega⟩
          case measure => simp [intOf] <;> omega
        · have Hn2 := Lib.hid (Hye.out (hq.trans hb))
          rw [hb] at Hbf
          clear Hno Hye c1 hq hb
          go_wp2_with fail
          refine Hbf.out.mono ?_
          rintro _ _ ⟨rfl, z6, rfl⟩
          obtain ⟨y6, h6⟩ := y5.trans z6
          rw [h6]
          go_wp2_with fail
          go_roundw
          case rel => exact ⟨k + 1, m + 1, y6, by omega, by go_num, by go_num, rfl, Hn2.out, by omega⟩
          case measure => simp [intOf] <;> omega
    · obtain rfl : k = R.length := by omega
      have Hr := Lib.hid (show (m : Int) = ((R.filter (aP e)).length : Nat) by have := Hm.out; rw [List.take_length] at this; rw [this])
      go_wp2_with fail
      obtain ⟨z, hz⟩ := Hup.out y
      go_ret
      exact ⟨ret_int Hr.out, z, hz⟩
end Go.Proofs.YtdkcclngionihaaDoor
