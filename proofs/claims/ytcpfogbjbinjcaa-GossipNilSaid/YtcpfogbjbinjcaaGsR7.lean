/- The walks of replicas, the references, seventh part: Horizon. -/
import Derived.Test.YtcpfogbjbinjcaaGsR6
import Derived.Test.YtcpfogbjbinjcaaGsW9
set_option linter.all false
namespace Go.Proofs.Ytcpfogbjbinjcaa
open Go.RowKit Go.ChangeMaps

theorem findI_ev {l : List Ev} {d s : Int} (h : hasB l d s = true) : ∃ (i : Nat) (u : Ev), findI l d s = (i : Int) ∧ l[i]? = some u ∧ u.a = atS l d s := by
  unfold hasB at h
  unfold findI atS
  cases hh : l.findIdx? (fun x => decide (x.d = d) && decide (x.q = s)) with
  | none =>
    rw [List.findIdx?_eq_none_iff] at hh
    rw [List.any_eq_true] at h
    obtain ⟨x, hx, h1⟩ := h
    rw [hh x hx] at h1; cases h1
  | some i =>
    rw [List.findIdx?_eq_some_iff_getElem] at hh
    obtain ⟨hi, h1, h2⟩ := hh
    refine ⟨i, l[i], rfl, List.getElem?_eq_getElem hi, ?_⟩
    have : l.find? (fun x => decide (x.d = d) && decide (x.q = s)) = some l[i] := by
      rw [List.find?_eq_some_iff_getElem]
      exact ⟨h1, i, hi, rfl, fun j hj => by
        have h3 := h2 j hj
        simp at h3 ⊢
        by_cases h5 : l[j].d = d
        · exact .inr (h3 h5)
        · exact .inl h5⟩
    rw [this]
set_option maxRecDepth 100000 in
set_option maxHeartbeats 4000000 in
theorem rhorizon_calls (w : World) (x : Since w) (N : Nat) (a : Option Addr) (l : List Ev) (cap : Nat) (hr : EvRow w a l) (hI : Inv N l) (hN : N ≤ 256) :
    Calls Try.prog 36 #[.int .i64 N, .slice a l.length cap] x.w fun o w' => o = .returned (.int .i64 (hor N l)) ∧ ∃ y : Since w, w' = y.w := by
  have HI := Lib.hid hI
  have hlen := hI.len
  have hsc := Lib.hid (rseen_calls w x N a l cap hr (by omega) hN)
  clear hI
  go_enter Try.func36, Try.ntmps36
  go_wp2_with fail
  refine hsc.out.mono ?_
  rintro _ w2 ⟨a2, cap2, y1, rfl, rfl, hcap, hrow⟩
  have hl := seenL_length N l
  have hr1 := Since.els hr y1
  have hat : ∀ i, i < N → at0 (seenL N l) i = seenN l (i : Int) := fun i hi => seenL_at l hi
  generalize seenL N l = sl at *
  have Hat := Lib.hid hat
  have hbound : ∀ d s : Int, 0 ≤ atS l d s ∧ atS l d s ≤ 4294943999 := fun d s => by
    unfold atS
    cases h : l.find? (fun x => decide (x.d = d) && decide (x.q = s)) with
    | none => simp
    | some z =>
      have := (rngB_iff z).1 (HI.out.rng z (List.mem_of_find?_eq_some h)).2.2
      show 0 ≤ z.a ∧ z.a ≤ 4294943999
      omega
  have Hbound := Lib.hid hbound
  have Hl := Lib.hid hl
  have Hr1 := Lib.hid hr1
  clear hat hbound hl hcap hr hr1
  obtain ⟨q0, hq0⟩ := Since.refl y1.w
  rw [hq0]
  clear hq0
  go_wp2_with fail
  go_loopw [6, 7] (fun v i wr => ∃ (k : Nat) (y : Since y1.w), k ≤ N ∧ i = .int .i64 k ∧ v = .int .i64 (horF l k) ∧ wr = y.w ∧ (∀ d : Nat, d < k → 0 < seenN l (d : Int)) ∧ 0 ≤ horF l k ∧ horF l k ≤ 4294943999) (fun _ i _ => N - (intOf i).toNat)
  case atStart => exact ⟨0, q0, by omega, rfl, rfl, rfl, fun d hd => by omega, by simp [horF], by simp [horF]⟩
  case round =>
    obtain ⟨k, y, hk, rfl, rfl, rfl, hpos, hf0, hf1⟩ := hrel
    have Hpos := Lib.hid hpos
    clear hpos
    by_cases hlt : k < N
    · have hkl : k < sl.length := by rw [Hl.out]; exact hlt
      obtain ⟨b, off, rfl, _, _⟩ := hrow k hkl
      have hcell : ∀ y : Since y1.w, y.w.cell? ⟨b, off + k, none⟩ = some (.int .i64 (seenN l (k : Int))) := fun y => by rw [← Hat.out k hlt]; exact Since.at hrow k hkl y
      have hk0 : (0 : Int) ≤ (k : Int) := by omega
      have hkl2 : (k : Int) < (sl.length : Int) := by omega
      have hsl := seen_le l (k : Int)
      by_cases h0 : seenN l (k : Int) = 0
      · have hres : hor N l = 0 := by unfold hor; rw [(horZ_iff N l).2 ⟨k, hlt, h0⟩, if_pos rfl]
        have Hres := Lib.hid hres
        rw [h0] at hcell
        have H0 := Lib.hid h0
        clear hres h0 hrow
        go_wp2_with fail
        go_ret
        exact ⟨ret_int Hres.out.symm, by obtain ⟨u, e⟩ := y1.trans y; exact ⟨u, e⟩⟩
      · have hne : ((seenN l (k : Int) : Int) == 0) = false := by simp; omega
        have hhas : hasB l (k : Int) (seenN l (k : Int)) = true := by
          have := seen_all l (k : Int) (seenN l (k : Int) - 1) (by omega)
          rwa [show ((seenN l (k : Int) - 1 : Nat) : Int) + 1 = (seenN l (k : Int) : Int) by omega] at this
        obtain ⟨i, u, hfi, hu, hua⟩ := findI_ev hhas
        have hil : i < l.length := (List.getElem?_eq_some_iff.1 hu).1
        obtain ⟨b1, off1, rfl, h1⟩ := Els.ev Hr1.out hu
        have hca := h1.c2
        rw [hua] at hca
        have hcall : ∀ y : Since y1.w, Calls Try.prog 41 #[.slice (some ⟨b1, off1, none⟩) l.length cap, .int .i64 (k : Int), .int .i64 (seenN l (k : Int) : Int)] y.w fun o w' => o = .returned (.int .i64 (i : Int)) ∧ ∃ z : Since y1.w, w' = z.w := fun y => by
          have := find_calls y1.w y _ l cap (k : Int) (seenN l (k : Int)) Hr1.out (by omega)
          rwa [hfi] at this
        have hi0 : (0 : Int) ≤ (i : Int) := by omega
        have hil2 : (i : Int) < (l.length : Int) := by omega
        have hpos2 : ∀ d : Nat, d < k + 1 → 0 < seenN l (d : Int) := fun d hd => by
          by_cases hdk : d < k
          · exact Hpos.out d hdk
          · obtain rfl : d = k := by omega
            omega
        have hab := Hbound.out (k : Int) (seenN l (k : Int))
        have hF := Lib.hid (show horF l (k + 1) = min (horF l k) (atS l (k : Int) (seenN l (k : Int))) from rfl)
        have Hpos2 := Lib.hid hpos2
        have Hcall := Lib.hid hcall
        clear hpos2 hfi hu hua h1 hcall hrow hhas
        generalize horF l k = hv at *
        generalize atS l (k : Int) (seenN l (k : Int)) = av at *
        go_wp2_with (go_at_call 41; refine (Hcall.out _).mono ?_; rintro _ _ ⟨rfl, y3, rfl⟩)
        go_roundw
        case rel => exact ⟨k + 1, y3, by omega, by go_num, by rw [hF.out], rfl, Hpos2.out, by rw [hF.out]; omega, by rw [hF.out]; omega⟩
        case measure => simp [intOf]; omega
    · obtain rfl : k = N := by omega
      have hres : hor k l = horF l k := by unfold hor; rw [horZ_false.2 Hpos.out, if_neg (by simp)]
      have Hres := Lib.hid hres
      have hkn : ¬ ((k : Int) < (sl.length : Int)) := by rw [Hl.out]; omega
      clear hres hrow
      generalize horF l k = hv at *
      go_wp2_with fail
      go_ret
      exact ⟨ret_int Hres.out.symm, by obtain ⟨u, e⟩ := y1.trans y; exact ⟨u, e⟩⟩
end Go.Proofs.Ytcpfogbjbinjcaa
