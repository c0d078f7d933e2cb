/- The walks of replicas, the references, first part: equal lists of events, equal lists of numbers. -/
import Derived.Test.YtcpfogbjbinjcaaGsW3
set_option linter.all false
namespace Go.Proofs.Ytcpfogbjbinjcaa
open Go.RowKit Go.ChangeMaps

/-- the nine cells of an event, whatever comes later -/
structure EvCells (w : World) (b o : Nat) (e : Ev) : Prop where
  c0 : ∀ y : Since w, y.w.cell? ⟨b, o, none⟩ = some (.int .i64 e.d)
  c1 : ∀ y : Since w, y.w.cell? ⟨b, o + 1, none⟩ = some (.int .i64 e.q)
  c2 : ∀ y : Since w, y.w.cell? ⟨b, o + 2, none⟩ = some (.int .i64 e.a)
  c3 : ∀ y : Since w, y.w.cell? ⟨b, o + 3, none⟩ = some (.int .i64 e.t)
  c4 : ∀ y : Since w, y.w.cell? ⟨b, o + 4, none⟩ = some (.int .i64 e.k)
  c5 : ∀ y : Since w, y.w.cell? ⟨b, o + 5, none⟩ = some (.int .i64 e.b)
  c6 : ∀ y : Since w, y.w.cell? ⟨b, o + 6, none⟩ = some (.int .i64 e.p)
  c7 : ∀ y : Since w, y.w.cell? ⟨b, o + 7, none⟩ = some (.int .i64 e.r)
  c8 : ∀ y : Since w, y.w.cell? ⟨b, o + 8, none⟩ = some (.int .i64 e.i)
theorem Els.ev {w : World} {a : Option Addr} {l : List Ev} (h : EvRow w a l) {k : Nat} {x : Ev} (hk : l[k]? = some x) : ∃ b off, a = some ⟨b, off, none⟩ ∧ EvCells w b (off + k * 9) x := by
  obtain ⟨b, off, ha, hb, hc⟩ := h k x hk
  refine ⟨b, off, ha, ?_⟩
  have hh : ∀ j v, x.cs[j]? = some v → ∀ y : Since w, y.w.cell? ⟨b, off + k * 9 + j, none⟩ = some v := fun j v hv => Since.cell (hc j v hv) hb
  exact ⟨hh 0 _ rfl, hh 1 _ rfl, hh 2 _ rfl, hh 3 _ rfl, hh 4 _ rfl, hh 5 _ rfl, hh 6 _ rfl, hh 7 _ rfl, hh 8 _ rfl⟩

set_option maxHeartbeats 2000000 in
theorem esame_calls (w : World) (x : Since w) (a b : Option Addr) (l m : List Ev) (c d : Nat) (hl : l.length ≤ 9223372036854775807) (hm : m.length ≤ 9223372036854775807) (hr : EvRow w a l) (hr' : EvRow w b m) :
    Calls Try.prog 21 #[.slice a l.length c, .slice b m.length d] x.w fun e w' => e = .returned (.bool (decide (l = m))) ∧ ∃ y : Since w, w' = y.w := by
  by_cases hlen : l.length = m.length
  · have hne : ((l.length : Int) != (m.length : Int)) = false := by simp; omega
    have Hlen := Lib.hid hlen; clear hlen
    go_enter Try.func21, Try.ntmps21
    go_wp2_with fail
    go_loopw [5] (fun i wr => ∃ k : Nat, k ≤ l.length ∧ i = .int .i64 k ∧ (∀ j, j < k → l[j]? = m[j]?) ∧ ∃ y : Since w, wr = y.w) (fun i _ => l.length - (intOf i).toNat)
    case atStart => exact ⟨0, by omega, rfl, fun j hj => by omega, _, rfl⟩
    case round =>
      obtain ⟨k, hk, rfl, hok, y, rfl⟩ := hrel
      have Hok := Lib.hid hok; clear hok
      by_cases hlt : k < l.length
      · have hkm' : k < m.length := by rw [← Hlen.out]; exact hlt
        obtain ⟨u, hu⟩ : ∃ u, l[k]? = some u := ⟨_, List.getElem?_eq_getElem hlt⟩
        obtain ⟨v, hv⟩ : ∃ v, m[k]? = some v := ⟨_, List.getElem?_eq_getElem hkm'⟩
        obtain ⟨b1, off1, rfl, h1⟩ := Els.ev hr hu
        obtain ⟨b2, off2, rfl, h2⟩ := Els.ev hr' hv
        have p0 := h1.c0
        have p1 := h1.c1
        have p2 := h1.c2
        have p3 := h1.c3
        have p4 := h1.c4
        have p5 := h1.c5
        have p6 := h1.c6
        have p7 := h1.c7
        have p8 := h1.c8
        have q0 := h2.c0
        have q1 := h2.c1
        have q2 := h2.c2
        have q3 := h2.c3
        have q4 := h2.c4
        have q5 := h2.c5
        have q6 := h2.c6
        have q7 := h2.c7
        have q8 := h2.c8
        have hk0 : (0 : Int) ≤ (k : Int) := by omega
        have hkl : (k : Int) < (l.length : Int) := by omega
        have hkm : (k : Int) < (m.length : Int) := by omega
        have heq := ev_equal u v
        simp only [Ev.ag] at heq
        have hgd := ev_guard
        have Hu := Lib.hid hu
        have Hv := Lib.hid hv
        clear hr hr' h1 h2 hu hv
        by_cases he : u = v
        · rw [decide_eq_true he] at heq
          have He := Lib.hid he; clear he
          go_wp2_with fail
          refine wp_region_since (by kernel_rfl) (by kernel_rfl) ?_
          repeat (go_big_quiet_step (fail))
          refine wpQuiet_nil ?_
          rintro _ ⟨y, rfl⟩
          go_wp2_with fail
          go_roundw
          case rel => exact ⟨k + 1, by omega, by go_num, fun j hj => by
            by_cases hjk : j < k
            · exact Hok.out j hjk
            · obtain rfl : j = k := by omega
              rw [Hu.out, Hv.out, He.out], _, rfl⟩
          case measure => simp [intOf]; omega
        · rw [decide_eq_false he] at heq
          have hno : decide (l = m) = false := decide_eq_false fun h => he (by
            have := Hu.out
            rw [h, Hv.out] at this
            exact (Option.some.inj this).symm)
          have Hno := Lib.hid hno; clear hno he
          go_wp2_with fail
          refine wp_region_since (by kernel_rfl) (by kernel_rfl) ?_
          repeat (go_big_quiet_step (fail))
          refine wpQuiet_nil ?_
          rintro _ ⟨y, rfl⟩
          go_wp2_with fail
          go_ret
          exact ⟨ret_bool Hno.out.symm, _, rfl⟩
      · have hyes : decide (l = m) = true := decide_eq_true (List.ext_getElem? fun i => by
          by_cases hi : i < k
          · exact Hok.out i hi
          · rw [List.getElem?_eq_none (by omega), List.getElem?_eq_none (by have := Hlen.out; omega)])
        have Hyes := Lib.hid hyes; clear hyes
        go_wp2_with fail
        go_ret
        exact ⟨ret_bool Hyes.out.symm, _, rfl⟩
  · have hne : ((l.length : Int) != (m.length : Int)) = true := by simp; omega
    have hno : decide (l = m) = false := decide_eq_false fun h => hlen (by rw [h])
    have Hlen := Lib.hid hlen; clear hlen
    have Hno := Lib.hid hno; clear hno
    go_enter Try.func21, Try.ntmps21
    go_wp2_with fail
    go_ret
    exact ⟨ret_bool Hno.out.symm, _, rfl⟩

theorem at0_ext {l m : List Int} (hl : l.length = m.length) (h : ∀ i, i < l.length → at0 l i = at0 m i) : l = m := by
  apply List.ext_getElem hl
  intro i h1 h2
  have := h i h1
  unfold at0 at this
  simpa [List.getD_eq_getElem?_getD, h1, h2] using this

set_option maxHeartbeats 1000000 in
theorem same_calls (w : World) (x : Since w) (a b : Option Addr) (l m : List Int) (c d : Nat) (hl : l.length ≤ 9223372036854775807) (hm : m.length ≤ 9223372036854775807) (hr : IntRow w a l) (hr' : IntRow w b m) :
    Calls Try.prog 22 #[.slice a l.length c, .slice b m.length d] x.w fun e w' => e = .returned (.bool (decide (l = m))) ∧ ∃ y : Since w, w' = y.w := by
  by_cases hlen : l.length = m.length
  · have hne : ((l.length : Int) != (m.length : Int)) = false := by simp; omega
    have hle : l.length ≤ m.length := by omega
    have Hlen := Lib.hid hlen; clear hlen
    go_enter Try.func22, Try.ntmps22
    go_wp2_with fail
    go_loopw [5] (fun i wr => ∃ k : Nat, k ≤ l.length ∧ i = .int .i64 k ∧ (∀ j, j < k → at0 l j = at0 m j) ∧ ∃ y : Since w, wr = y.w) (fun i _ => l.length - (intOf i).toNat)
    case atStart => exact ⟨0, by omega, rfl, fun j hj => by omega, _, rfl⟩
    case round =>
      obtain ⟨k, hk, rfl, hok, y, rfl⟩ := hrel
      have Hok := Lib.hid hok; clear hok
      by_cases hlt : k < l.length
      · obtain ⟨b1, off1, rfl, _, _⟩ := hr k hlt
        obtain ⟨b2, off2, rfl, _, _⟩ := hr' k (by omega)
        have hcell : ∀ y : Since w, y.w.cell? ⟨b1, off1 + k, none⟩ = some (.int .i64 (at0 l k)) := Since.at hr k hlt
        have hcell' : ∀ y : Since w, y.w.cell? ⟨b2, off2 + k, none⟩ = some (.int .i64 (at0 m k)) := Since.at hr' k (by omega)
        have hk0 : (0 : Int) ≤ (k : Int) := by omega
        have hkl : (k : Int) < (l.length : Int) := by omega
        have hkm : (k : Int) < (m.length : Int) := by omega
        clear hr hr'
        by_cases he : at0 l k = at0 m k
        · have hb : (at0 l k != at0 m k) = false := by simpa using he
          have He := Lib.hid he; clear he
          go_wp2_with fail
          refine wp_region_since (by kernel_rfl) (by kernel_rfl) ?_
          repeat (go_big_quiet_step (fail))
          refine wpQuiet_nil ?_
          rintro _ ⟨y, rfl⟩
          go_wp2_with fail
          go_roundw
          case rel => exact ⟨k + 1, by omega, by go_num, fun j hj => by
            by_cases hjk : j < k
            · exact Hok.out j hjk
            · obtain rfl : j = k := by omega
              exact He.out, _, rfl⟩
          case measure => simp [intOf]; omega
        · have hb : (at0 l k != at0 m k) = true := by simpa using he
          have hno : decide (l = m) = false := decide_eq_false fun h => he (by rw [h])
          have He := Lib.hid he; clear he
          go_wp2_with fail
          refine wp_region_since (by kernel_rfl) (by kernel_rfl) ?_
          repeat (go_big_quiet_step (fail))
          refine wpQuiet_nil ?_
          rintro _ ⟨y, rfl⟩
          go_wp2_with fail
          go_ret
          exact ⟨ret_bool hno.symm, _, rfl⟩
      · have hyes : decide (l = m) = true := decide_eq_true (at0_ext Hlen.out fun i hi => Hok.out i (by omega))
        go_wp2_with fail
        go_ret
        exact ⟨ret_bool hyes.symm, _, rfl⟩
  · have hne : ((l.length : Int) != (m.length : Int)) = true := by simp; omega
    have hno : decide (l = m) = false := decide_eq_false fun h => hlen (by rw [h])
    have Hlen := Lib.hid hlen; clear hlen
    go_enter Try.func22, Try.ntmps22
    go_wp2_with fail
    go_ret
    exact ⟨ret_bool hno.symm, _, rfl⟩
end Go.Proofs.Ytcpfogbjbinjcaa
