/- The reference's check of passes. -/
import Derived.Test.YtbkfcdheckkjaaaPsW2
set_option linter.all false
namespace Go.Proofs.Ytbkfcdheckkjaaa
open Go.RowKit

theorem int_lt_or (a b : Int) : a < b ∨ b ≤ a := by omega
set_option maxRecDepth 100000 in
set_option maxHeartbeats 4000000 in
theorem rgood_calls (w : World) (x : Since w) (p : Pass) :
    Calls Try.prog 26 #[.agg #[.int .i64 p.id, .int .i64 p.rd, .int .i64 p.f, .int .i64 p.t, .int .i64 p.n, .int .i64 p.s]] x.w fun o w' => o = .returned (.bool (goodP p)) ∧ ∃ y : Since w, w' = y.w := by
  have HG := Lib.hid (goodP_iff p)
  go_enter Try.func26, Try.ntmps26
  go_upto_region 1 with fail
  have hb0_0 : ∀ y : Since (x.w.alloc (.cells #[.int .i64 p.id, .int .i64 p.rd, .int .i64 p.f, .int .i64 p.t, .int .i64 p.n, .int .i64 p.s] 49)), y.w.cell? ⟨x.w.heap.size, 0, none⟩ = some (.int .i64 p.id) := fun y => Since.cell (by simp [go_sem]) (by first | (simp; done) | (simp; omega)) y
  have hb0_1 : ∀ y : Since (x.w.alloc (.cells #[.int .i64 p.id, .int .i64 p.rd, .int .i64 p.f, .int .i64 p.t, .int .i64 p.n, .int .i64 p.s] 49)), y.w.cell? ⟨x.w.heap.size, 1, none⟩ = some (.int .i64 p.rd) := fun y => Since.cell (by simp [go_sem]) (by first | (simp; done) | (simp; omega)) y
  have hb0_2 : ∀ y : Since (x.w.alloc (.cells #[.int .i64 p.id, .int .i64 p.rd, .int .i64 p.f, .int .i64 p.t, .int .i64 p.n, .int .i64 p.s] 49)), y.w.cell? ⟨x.w.heap.size, 2, none⟩ = some (.int .i64 p.f) := fun y => Since.cell (by simp [go_sem]) (by first | (simp; done) | (simp; omega)) y
  have hb0_3 : ∀ y : Since (x.w.alloc (.cells #[.int .i64 p.id, .int .i64 p.rd, .int .i64 p.f, .int .i64 p.t, .int .i64 p.n, .int .i64 p.s] 49)), y.w.cell? ⟨x.w.heap.size, 3, none⟩ = some (.int .i64 p.t) := fun y => Since.cell (by simp [go_sem]) (by first | (simp; done) | (simp; omega)) y
  have hb0_4 : ∀ y : Since (x.w.alloc (.cells #[.int .i64 p.id, .int .i64 p.rd, .int .i64 p.f, .int .i64 p.t, .int .i64 p.n, .int .i64 p.s] 49)), y.w.cell? ⟨x.w.heap.size, 4, none⟩ = some (.int .i64 p.n) := fun y => Since.cell (by simp [go_sem]) (by first | (simp; done) | (simp; omega)) y
  have hb0_5 : ∀ y : Since (x.w.alloc (.cells #[.int .i64 p.id, .int .i64 p.rd, .int .i64 p.f, .int .i64 p.t, .int .i64 p.n, .int .i64 p.s] 49)), y.w.cell? ⟨x.w.heap.size, 5, none⟩ = some (.int .i64 p.s) := fun y => Since.cell (by simp [go_sem]) (by first | (simp; done) | (simp; omega)) y
  have hf0 : ∀ (y : Since (x.w.alloc (.cells #[.int .i64 p.id, .int .i64 p.rd, .int .i64 p.f, .int .i64 p.t, .int .i64 p.n, .int .i64 p.s] 49))) (o : Nat), y.w.frozen? ⟨x.w.heap.size, o, none⟩ = false := fun y o => Since.free (by simp [go_sem]) (by first | (simp; done) | (simp; omega)) y
  have hWup : ∃ z : Since w, (x.w.alloc (.cells #[.int .i64 p.id, .int .i64 p.rd, .int .i64 p.f, .int .i64 p.t, .int .i64 p.n, .int .i64 p.s] 49)) = z.w := x.alloc _
  obtain ⟨y0, hy0⟩ := Since.refl (x.w.alloc (.cells #[.int .i64 p.id, .int .i64 p.rd, .int .i64 p.f, .int .i64 p.t, .int .i64 p.n, .int .i64 p.s] 49))
  have Hbx := Lib.hid (And.intro x.b.size (show x.w.heap.size + 1 = (x.w.alloc (.cells #[.int .i64 p.id, .int .i64 p.rd, .int .i64 p.f, .int .i64 p.t, .int .i64 p.n, .int .i64 p.s] 49)).heap.size from by simp))
  generalize hW : (x.w.alloc (.cells #[.int .i64 p.id, .int .i64 p.rd, .int .i64 p.f, .int .i64 p.t, .int .i64 p.n, .int .i64 p.s] 49)) = W at *
  clear hW
  generalize x.w.heap.size = bx at *
  have Hup := Lib.hid (Since.up hWup)
  rw [hy0]
  clear hy0
  clear hWup
  rcases int_lt_or p.id (1) with h0 | h0
  case inl =>
    have Hr := Lib.hid (show goodP p = false by
      cases hg : goodP p
      · rfl
      · have := HG.out.1 hg; omega)
    clear HG
    go_wp2_with fail
    go_ret
    exact ⟨ret_bool (by first | exact Hr.out.symm | (rw [Hr.out]; simp; omega)), Hup.out _⟩
  rcases int_lt_or (1000000) p.id with h1 | h1
  case inl =>
    have Hr := Lib.hid (show goodP p = false by
      cases hg : goodP p
      · rfl
      · have := HG.out.1 hg; omega)
    clear HG
    go_wp2_with fail
    go_ret
    exact ⟨ret_bool (by first | exact Hr.out.symm | (rw [Hr.out]; simp; omega)), Hup.out _⟩
  rcases int_lt_or p.rd (0) with h2 | h2
  case inl =>
    have Hr := Lib.hid (show goodP p = false by
      cases hg : goodP p
      · rfl
      · have := HG.out.1 hg; omega)
    clear HG
    go_wp2_with fail
    go_ret
    exact ⟨ret_bool (by first | exact Hr.out.symm | (rw [Hr.out]; simp; omega)), Hup.out _⟩
  rcases (int_lt_or p.rd 128).symm with h3 | h3
  case inl =>
    have Hr := Lib.hid (show goodP p = false by
      cases hg : goodP p
      · rfl
      · have := HG.out.1 hg; omega)
    clear HG
    go_wp2_with fail
    go_ret
    exact ⟨ret_bool (by first | exact Hr.out.symm | (rw [Hr.out]; simp; omega)), Hup.out _⟩
  rcases int_lt_or p.n (1) with h4 | h4
  case inl =>
    have Hr := Lib.hid (show goodP p = false by
      cases hg : goodP p
      · rfl
      · have := HG.out.1 hg; omega)
    clear HG
    go_wp2_with fail
    go_ret
    exact ⟨ret_bool (by first | exact Hr.out.symm | (rw [Hr.out]; simp; omega)), Hup.out _⟩
  rcases int_lt_or (256) p.n with h5 | h5
  case inl =>
    have Hr := Lib.hid (show goodP p = false by
      cases hg : goodP p
      · rfl
      · have := HG.out.1 hg; omega)
    clear HG
    go_wp2_with fail
    go_ret
    exact ⟨ret_bool (by first | exact Hr.out.symm | (rw [Hr.out]; simp; omega)), Hup.out _⟩
  rcases int_lt_or p.s (0) with h6 | h6
  case inl =>
    have Hr := Lib.hid (show goodP p = false by
      cases hg : goodP p
      · rfl
      · have := HG.out.1 hg; omega)
    clear HG
    go_wp2_with fail
    go_ret
    exact ⟨ret_bool (by first | exact Hr.out.symm | (rw [Hr.out]; simp; omega)), Hup.out _⟩
  rcases int_lt_or (86400) p.s with h7 | h7
  case inl =>
    have Hr := Lib.hid (show goodP p = false by
      cases hg : goodP p
      · rfl
      · have := HG.out.1 hg; omega)
    clear HG
    go_wp2_with fail
    go_ret
    exact ⟨ret_bool (by first | exact Hr.out.symm | (rw [Hr.out]; simp; omega)), Hup.out _⟩
  rcases int_lt_or p.f (0) with h8 | h8
  case inl =>
    have Hr := Lib.hid (show goodP p = false by
      cases hg : goodP p
      · rfl
      · have := HG.out.1 hg; omega)
    clear HG
    go_wp2_with fail
    go_ret
    exact ⟨ret_bool (by first | exact Hr.out.symm | (rw [Hr.out]; simp; omega)), Hup.out _⟩
  rcases (int_lt_or p.f p.t).symm with h9 | h9
  case inl =>
    have Hr := Lib.hid (show goodP p = false by
      cases hg : goodP p
      · rfl
      · have := HG.out.1 hg; omega)
    clear HG
    go_wp2_with fail
    go_ret
    exact ⟨ret_bool (by first | exact Hr.out.symm | (rw [Hr.out]; simp; omega)), Hup.out _⟩
  rcases int_lt_or (49710) p.t with h10 | h10
  case inl =>
    have Hr := Lib.hid (show goodP p = false by
      cases hg : goodP p
      · rfl
      · have := HG.out.1 hg; omega)
    clear HG
    go_wp2_with fail
    go_ret
    exact ⟨ret_bool (by first | exact Hr.out.symm | (rw [Hr.out]; simp; omega)), Hup.out _⟩
  have Hr := Lib.hid (show goodP p = true from HG.out.2 (by omega))
  clear HG
  go_wp2_with fail
  go_ret
  exact ⟨ret_bool (by first | exact Hr.out.symm | (rw [Hr.out]; simp; omega)), Hup.out _⟩
set_option maxRecDepth 100000 in
set_option maxHeartbeats 4000000 in
theorem rpcheck_calls (w : World) (x : Since w) (a : Option Addr) (l : List Pass) (c : Nat) (h : PassRow w a l) (hl : l.length ≤ 9223372036854775807) :
    Calls Try.prog 11 #[.slice a l.length c] x.w fun o w' => o = .returned (.int .i64 (passE l)) ∧ ∃ y : Since w, w' = y.w := by
  have HL := Lib.hid h
  clear h
  by_cases hbig : 64 < l.length
  · have Hr := Lib.hid (show passE l = 8 by unfold passE; rw [if_pos hbig])
    go_enter Try.func11, Try.ntmps11
    go_wp2_with fail
    go_ret
    exact ⟨ret_int Hr.out.symm, _, rfl⟩
  have hl64 : l.length ≤ 64 := by omega
  have HP := Lib.hid (fun hok : (∀ j, j < l.length → ∀ e, l[j]? = some e → goodP e = true) => show passE l = if dupB (l.map fun r : Pass => r.id) = true then 6 else 0 by
    unfold passE; rw [if_neg hbig, if_neg (by rw [all_yes hok]; simp)])
  have HB := Lib.hid (fun (k : Nat) (e : Pass) (he : l[k]? = some e) (hg : goodP e = false) => show passE l = 1 by
    unfold passE; rw [if_neg hbig, if_pos (all_no he hg)])
  clear hbig hl
  go_enter Try.func11, Try.ntmps11
  go_wp2_with fail
  go_loopw [3] (fun i wr => ∃ (k : Nat) (y : Since w), k ≤ l.length ∧ i = .int .i64 k ∧ wr = y.w ∧ ∀ j, j < k → ∀ e, l[j]? = some e → goodP e = true) (fun i _ => l.length - (intOf i).toNat)
  case atStart => exact ⟨0, _, by omega, rfl, rfl, fun j hj => by omega⟩
  case round =>
    obtain ⟨k, y, hk, rfl, rfl, hok⟩ := hrel
    have Hok := Lib.hid hok; clear hok
    by_cases hlt : k < l.length
    · obtain ⟨e, he⟩ : ∃ e, l[k]? = some e := ⟨_, List.getElem?_eq_getElem hlt⟩
      obtain ⟨b1, off1, rfl, h1'⟩ := Els.pass HL.out he
      have ra0 := h1'.c0
      have ra1 := h1'.c1
      have ra2 := h1'.c2
      have ra3 := h1'.c3
      have ra4 := h1'.c4
      have ra5 := h1'.c5
      have hk0 : (0 : Int) ≤ (k : Int) := by omega
      have hkl : (k : Int) < (l.length : Int) := by omega
      have He := Lib.hid he
      clear h1' he
      cases hg : goodP e with
      | true =>
        have Hg := Lib.hid hg; clear hg
        go_wp2_with fail
        refine (rgood_calls w y e).mono ?_
        rintro _ _ ⟨rfl, z, rfl⟩
        rw [Hg.out]
        go_wp2_with fail
        go_roundw
        case rel => exact ⟨k + 1, z, by omega, by go_num, rfl, upto_next (P := fun e : Pass => goodP e = true) Hok.out He.out Hg.out⟩
        case measure => simp [intOf] <;> omega
      | false =>
        have Hr := Lib.hid (HB.out k e He.out hg)
        have Hg := Lib.hid hg; clear hg
        go_wp2_with fail
        refine (rgood_calls w y e).mono ?_
        rintro _ _ ⟨rfl, z, rfl⟩
        rw [Hg.out]
        go_wp2_with fail
        go_ret
        exact ⟨ret_int Hr.out.symm, _, rfl⟩
    · obtain rfl : k = l.length := by omega
      have HQ := Lib.hid (HP.out Hok.out)
      clear Hok HP
      go_wp2_with fail
      go_loopw [4] (fun i wr => ∃ (k : Nat) (y : Since w), k ≤ l.length ∧ i = .int .i64 k ∧ wr = y.w ∧ ((l.map fun r : Pass => r.id).take k).Nodup) (fun i _ => l.length - (intOf i).toNat)
      case atStart => exact ⟨0, y, by omega, rfl, rfl, by simp⟩
      case round =>
        obtain ⟨k, y, hk, rfl, rfl, hnd⟩ := hrel
        have Hnd := Lib.hid hnd; clear hnd
        by_cases hlt : k < l.length
        · obtain ⟨e, he⟩ : ∃ e, l[k]? = some e := ⟨_, List.getElem?_eq_getElem hlt⟩
          obtain ⟨b1, off1, rfl, h1'⟩ := Els.pass HL.out he
          have ra0 := h1'.c0
          have hk0 : (0 : Int) ≤ (k : Int) := by omega
          have hkl : (k : Int) < (l.length : Int) := by omega
          have He := Lib.hid (map_at (f := fun r : Pass => r.id) he)
          have Hnx := Lib.hid (nodup_take_next He.out)
          clear h1' he
          go_wp2_with fail
          go_loopw [5] (fun i wr => ∃ (m : Nat) (y : Since w), m ≤ k ∧ i = .int .i64 m ∧ wr = y.w ∧ ∀ j, j < m → ∀ v, (l.map fun r : Pass => r.id)[j]? = some v → v ≠ e.id) (fun i _ => k - (intOf i).toNat)
          case atStart => exact ⟨0, y, by omega, rfl, rfl, fun j hj => by omega⟩
          case round =>
            obtain ⟨m, y, hm, rfl, rfl, hno⟩ := hrel
            have Hno := Lib.hid hno; clear hno
            by_cases hlm : m < k
            · obtain ⟨e2, he2⟩ : ∃ e, l[m]? = some e := ⟨_, List.getElem?_eq_getElem (by omega)⟩
              obtain ⟨b2, off2, hbo, h2'⟩ := Els.pass HL.out he2
              simp only [Option.some.injEq, Addr.mk.injEq, and_true] at hbo
              obtain ⟨rfl, rfl⟩ := hbo
              have rb0 := h2'.c0
              have hm0 : (0 : Int) ≤ (m : Int) := by omega
              have hml : (m : Int) < (l.length : Int) := by omega
              have hmk : (m : Int) < (k : Int) := by omega
              have He2 := Lib.hid (map_at (f := fun r : Pass => r.id) he2)
              clear h2' he2
              by_cases hee : e.id = e2.id
              · have hb : (e.id == e2.id) = true := by simpa using hee
                have Hr := Lib.hid (show passE l = 6 by
                  rw [HQ.out, if_pos (dupB_true fun h => (Hnx.out.1 (nodup_of_take h)).2 (by rw [hee]; exact List.mem_of_getElem? (by rw [List.getElem?_take, if_pos hlm]; exact He2.out)))])
                clear hee
                go_wp2_with fail
                refine wp_region_since (by kernel_rfl) (by kernel_rfl) ?_
                repeat (go_big_quiet_step (fail))
                refine wpQuiet_nil ?_
                rintro _ ⟨z, rfl⟩
                go_wp2_with fail
                go_ret
                exact ⟨ret_int Hr.out.symm, _, rfl⟩
              · have hb : (e.id == e2.id) = false := by simpa using hee
                have Hno2 := Lib.hid (show ∀ j, j < m + 1 → ∀ v, (l.map fun r : Pass => r.id)[j]? = some v → v ≠ e.id from upto_next (P := fun v => v ≠ e.id) Hno.out He2.out (fun h => hee h.symm))
                clear hee
                go_wp2_with fail
                refine wp_region_since (by kernel_rfl) (by kernel_rfl) ?_
                repeat (go_big_quiet_step (fail))
                refine wpQuiet_nil ?_
                rintro _ ⟨z, rfl⟩
                go_wp2_with fail
                go_roundw
                case rel => exact ⟨m + 1, z, by omega, by go_num, rfl, Hno2.out⟩
                case measure => simp [intOf] <;> omega
            · obtain rfl : m = k := by omega
              have Hnd2 := Lib.hid (Hnx.out.2 ⟨Hnd.out, fun hm => by
                obtain ⟨j, hj⟩ := List.mem_iff_getElem?.1 hm
                rw [List.getElem?_take] at hj
                split at hj
                · rename_i hjm; exact Hno.out j hjm _ hj rfl
                · cases hj⟩)
              go_wp2_with fail
              go_roundw
              case rel => exact ⟨m + 1, y, by omega, by go_num, rfl, Hnd2.out⟩
              case measure => simp [intOf] <;> omega
        · obtain rfl : k = l.length := by omega
          have Hr := Lib.hid (show passE l = 0 by
            have h1 := Hnd.out
            rw [List.take_of_length_le (by simp)] at h1
            rw [HQ.out, if_neg (by rw [dupB_false h1]; simp)])
          go_wp2_with fail
          go_ret
          exact ⟨ret_int Hr.out.symm, _, rfl⟩
end Go.Proofs.Ytbkfcdheckkjaaa
