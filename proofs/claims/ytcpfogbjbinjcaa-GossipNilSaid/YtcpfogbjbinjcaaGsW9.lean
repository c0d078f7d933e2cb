/- The walks of replicas, ninth part: Horizon, Copy. -/
import Derived.Test.YtcpfogbjbinjcaaGsW8
import Derived.Test.YtcpfogbjbinjcaaGsLay
set_option linter.all false
namespace Go.Proofs.Ytcpfogbjbinjcaa
open Go.RowKit Go.ChangeMaps Go.Sort

theorem min_if (a b : Int) : min a b = if a < b then a else b := by omega
theorem field_at (w : World) (e : Ev) : (Instr.field 33 e.ag 2).run Try.prog w = .ok (.int .i64 e.a) w := by
  have u3 := Try.underlying3
  have a3 := Try.isAgg3
  have z3 := Try.sizeOf3
  unfold Ev.ag
  simp only [Instr.field, Sem.run_bind, run_underlying Try.underlying33]
  go_simp
  simp [asAgg, Result.andThen]
set_option maxRecDepth 100000 in
set_option maxHeartbeats 4000000 in
theorem horizon_calls (w : World) (x : Since w) (p bm N : Nat) (l : List Ev) (hR : RepAt w p bm N l) (hI : Inv N l) (hN : N ≤ 256) :
    Calls Try.prog 24 #[.pointer (some ⟨p, 0, none⟩)] x.w fun o w' => o = .returned (.int .i64 (hor N l)) ∧ ∃ y : Since w, w' = y.w := by
  have HI := Lib.hid hI
  have hsc := Lib.hid (seen_calls w x p bm N l hR hI hN)
  have hlen := hI.len
  clear hI
  go_enter Try.func24, Try.ntmps24
  go_wp2_with fail
  refine hsc.out.mono ?_
  rintro _ w2 ⟨a, cap, y1, rfl, rfl, hcap, hrow, _, _⟩
  have hl := seenL_length N l
  replace hR := hR.to ⟨y1, rfl⟩
  have hat : ∀ i, i < N → at0 (seenL N l) i = seenN l (i : Int) := fun i hi => seenL_at l hi
  generalize seenL N l = sl at *
  have Hat := Lib.hid hat
  have hbound : ∀ d s : Int, 0 ≤ atS l d s ∧ atS l d s ≤ 4294943999 := fun d s => by
    unfold atS
    cases h : l.find? (fun x => decide (x.d = d) && decide (x.q = s)) with
    | none => simp
    | some z =>
      have := (rngB_iff z).1 (HI.out.rng z (List.mem_of_find?_eq_some h)).2.2
      show 0 ≤ z.a ∧ z.a ≤ 4294943999
      omega
  have Hbound := Lib.hid hbound
  have Hl := Lib.hid hl
  clear hat hbound hl hcap
  obtain ⟨q0, hq0⟩ := Since.refl y1.w
  rw [hq0]
  clear hq0
  go_wp2_with fail
  go_loopw [3, 11] (fun v i wr => ∃ (k : Nat) (y : Since y1.w), k ≤ N ∧ i = .int .i64 k ∧ v = .int .i64 (horF l k) ∧ wr = y.w ∧ (∀ d : Nat, d < k → 0 < seenN l (d : Int)) ∧ 0 ≤ horF l k ∧ horF l k ≤ 4294943999) (fun _ i _ => N - (intOf i).toNat)
  case atStart => exact ⟨0, q0, by omega, rfl, rfl, rfl, fun d hd => by omega, by simp [horF], by simp [horF]⟩
  case round =>
    obtain ⟨k, y, hk, rfl, rfl, rfl, hpos, hf0, hf1⟩ := hrel
    have Hpos := Lib.hid hpos
    clear hpos
    by_cases hlt : k < N
    · have hkl : k < sl.length := by rw [Hl.out]; exact hlt
      obtain ⟨b, off, rfl, _, _⟩ := hrow k hkl
      have hcell : ∀ y : Since y1.w, y.w.cell? ⟨b, off + k, none⟩ = some (.int .i64 (seenN l (k : Int))) := fun y => by rw [← Hat.out k hlt]; exact Since.at hrow k hkl y
      have hk0 : (0 : Int) ≤ (k : Int) := by omega
      have hkl2 : (k : Int) < (sl.length : Int) := by omega
      have hsl := seen_le l (k : Int)
      have hc1 : ∀ y : Since y1.w, y.w.cell? ⟨p, 1, none⟩ = some (.map (some bm)) := fun y => (hR.since y).c1
      obtain ⟨z, hz1, hz2, -⟩ := lk_at l (k : Int) (seenN l (k : Int))
      have hlk : ∀ y : Since y1.w, (Instr.lookup 67 (.map (some bm)) (.agg #[.int .i64 (k : Int), .int .i64 (seenN l (k : Int))]) false).run Try.prog y.w = .ok (.agg #[.int .i64 z.d, .int .i64 z.q, .int .i64 (atS l (k : Int) (seenN l (k : Int))), .int .i64 z.t, .int .i64 z.k, .int .i64 z.b, .int .i64 z.p, .int .i64 z.r, .int .i64 z.i]) y.w := fun y => by
        have := run_look keyOps (hR.since y).m Try.underlying67 (zeroEv _) ((k : Int), (seenN l (k : Int) : Int)) false
        rw [if_neg (by simp), show (⟨0, 0, 0, 0, 0, 0, 0, 0, 0⟩ : Ev) = ev0 from rfl, hz1] at this
        rw [← hz2]
        exact this
      have hab := Hbound.out (k : Int) (seenN l (k : Int))
      have hF := Lib.hid (show horF l (k + 1) = min (horF l k) (atS l (k : Int) (seenN l (k : Int))) from rfl)
      have hfd := fun w => field_at w z
      rw [hz2] at hfd
      simp only [Ev.ag] at hfd
      rw [hz2] at hfd
      clear hz1 hz2 hrow
      by_cases h0 : seenN l (k : Int) = 0
      · have hres : hor N l = 0 := by unfold hor; rw [(horZ_iff N l).2 ⟨k, hlt, h0⟩, if_pos rfl]
        have Hres := Lib.hid hres
        rw [h0] at hcell hlk
        clear hres
        have H0 := Lib.hid h0
        clear h0
        go_wp2_with fail
        go_ret
        exact ⟨ret_int Hres.out.symm, by obtain ⟨u, e⟩ := y1.trans y; exact ⟨u, e⟩⟩
      · have hne : ((seenN l (k : Int) : Int) == 0) = false := by simp; omega
        have hpos2 : ∀ d : Nat, d < k + 1 → 0 < seenN l (d : Int) := fun d hd => by
          by_cases hdk : d < k
          · exact Hpos.out d hdk
          · obtain rfl : d = k := by omega
            omega
        have Hpos2 := Lib.hid hpos2
        clear hpos2
        generalize horF l k = hv at *
        generalize atS l (k : Int) (seenN l (k : Int)) = av at *
        go_wp2_with fail
        go_roundw
        case rel => exact ⟨k + 1, y, by omega, by go_num, by rw [hF.out], rfl, Hpos2.out, by rw [hF.out]; omega, by rw [hF.out]; omega⟩
        case measure => simp [intOf]; omega
    · obtain rfl : k = N := by omega
      have hres : hor k l = horF l k := by unfold hor; rw [horZ_false.2 Hpos.out, if_neg (by simp)]
      have Hres := Lib.hid hres
      have hkn : ¬ ((k : Int) < (sl.length : Int)) := by rw [Hl.out]; omega
      clear hres hrow
      generalize horF l k = hv at *
      go_wp2_with fail
      go_ret
      exact ⟨ret_int Hres.out.symm, by obtain ⟨u, e⟩ := y1.trans y; exact ⟨u, e⟩⟩

/-- what Copy gives back -/
def CopyPost (w : World) (n : Int) (l : List Ev) (o : Ending) (w' : World) : Prop :=
  ∃ (p bm : Nat) (y : Since w), o = .returned (.pointer (some ⟨p, 0, none⟩)) ∧ w' = y.w ∧ w.heap.size ≤ p ∧ w.heap.size ≤ bm ∧ RepAt y.w p bm n l
set_option maxHeartbeats 2000000 in
theorem copy_calls (w : World) (x : Since w) (p bm : Nat) (n : Int) (l : List Ev) (hR : RepAt w p bm n l) :
    Calls Try.prog 26 #[.pointer (some ⟨p, 0, none⟩)] x.w (CopyPost w n l) := by
  have hc0 : ∀ y : Since w, y.w.cell? ⟨p, 0, none⟩ = some (.int .i64 n) := fun y => (hR.since y).c0
  have hc1 : ∀ y : Since w, y.w.cell? ⟨p, 1, none⟩ = some (.map (some bm)) := fun y => (hR.since y).c1
  go_enter Try.func26, Try.ntmps26
  have k0 : ∀ w', IsSince w w' → w'.cell? ⟨p, 0, none⟩ = some (.int .i64 n) := fun _ h => IsSince.cell hc0 h
  have k1 : ∀ w', IsSince w w' → w'.cell? ⟨p, 1, none⟩ = some (.map (some bm)) := fun _ h => IsSince.cell hc1 h
  have hcl : ∀ u, IsSince w u → Calls Try.prog 38 #[.map (some bm)] u fun e w' => e = .returned (.map (some u.heap.size)) ∧ w' = u.alloc (.map (entF ekey (l.map evP) 0).toArray (l.map evP).length) := fun u hu => by
    obtain ⟨y, rfl⟩ := hu
    have := AnyW.maps_Clone Try.cloneEv bm _ _ y.w (hR.since y).m
    change Calls Try.prog 38 _ _ _ at this
    exact this
  obtain ⟨ob, hob⟩ : ∃ ob, ob = Obj.map (entF ekey (l.map evP) 0).toArray (l.map evP).length := ⟨_, rfl⟩
  rw [← hob] at hcl
  have Hob := Lib.hid hob
  clear hob
  have hxs := x.b.size
  go_wp2_with fail
  go_region_held3 (fun w' => IsSince w w') (first | assumption | exact IsSince.drew x | exact IsSince.alloc (by assumption) _ | exact IsSince.alloc (IsSince.drew x) _ | exact IsSince.alloc (IsSince.alloc (IsSince.drew x) _) _) ((go_at_call 38; refine (hcl _ (by assumption)).mono ?_; rintro _ _ ⟨rfl, rfl⟩))
  all_goals
    go_wp2_with fail
    go_ret
    obtain ⟨y, e⟩ := IsSince.drew' (IsSince.alloc (IsSince.alloc (IsSince.of x) ob) (.cells #[.int .i64 n, .map (some x.w.heap.size)] 69))
    refine ⟨_, _, y, rfl, e, by omega, hxs, ?_⟩
    rw [← e]
    refine ⟨by simp [go_sem], by simp [go_sem], ?_⟩
    show (((x.w.heap.push _).push _)[x.w.heap.size]?) = _
    rw [Hob.out]
    simp [Array.getElem?_push]
end Go.Proofs.Ytcpfogbjbinjcaa
