/- The laws of replicas: GossipFull. -/
import Derived.Test.YtcpfogbjbinjcaaGsL2
import Derived.IntWalk
set_option linter.all false
namespace Go.Proofs.Ytcpfogbjbinjcaa
open Go.RowKit Go.ChangeMaps

/-- so many events of device 0 in a row -/
def fullL (t : Int) (i : Nat) : List Ev := (List.range i).map fun (j : Nat) => beatE 0 ((j : Int) + 1) (t + ((j : Int) + 1))
theorem full_len (t : Int) (i : Nat) : (fullL t i).length = i := by simp [fullL]
theorem full_mem {t : Int} {i : Nat} {x : Ev} (h : x ∈ fullL t i) : ∃ j : Nat, j < i ∧ x = beatE 0 ((j : Int) + 1) (t + ((j : Int) + 1)) := by
  unfold fullL at h
  obtain ⟨j, hj, rfl⟩ := List.mem_map.1 h
  exact ⟨j, List.mem_range.1 hj, rfl⟩
theorem full_in {t : Int} {i j : Nat} (h : j < i) : beatE 0 ((j : Int) + 1) (t + ((j : Int) + 1)) ∈ fullL t i := List.mem_map.2 ⟨j, List.mem_range.2 h, rfl⟩
theorem full_succ (t : Int) (i : Nat) : fullL t (i + 1) = fullL t i ++ [beatE 0 ((i : Int) + 1) (t + ((i : Int) + 1))] := by simp [fullL, List.range_succ]
theorem beat_rng {d s t : Int} (h1 : 1 ≤ s) (h2 : s ≤ 1048576) (h3 : 0 ≤ t) (h4 : t ≤ 4294943999) : rngB (beatE d s t) = true := (rngB_iff _).2 ⟨h1, h2, h3, Int.le_refl _, h4⟩
theorem full_add {t : Int} {i : Nat} (h0 : 0 ≤ t) (h1 : t ≤ 4294942999) (hi : i < 512) : freshB 2 (fullL t i) (beatE 0 ((i : Int) + 1) (t + ((i : Int) + 1))) = true ∧ addE 2 (fullL t i) (beatE 0 ((i : Int) + 1) (t + ((i : Int) + 1))) = 0 ∧ addL 2 (fullL t i) (beatE 0 ((i : Int) + 1) (t + ((i : Int) + 1))) = fullL t (i + 1) := by
  have hd : ¬ ((beatE 0 ((i : Int) + 1) (t + ((i : Int) + 1))).d < 0 ∨ 2 ≤ (beatE 0 ((i : Int) + 1) (t + ((i : Int) + 1))).d) := by show ¬ ((0 : Int) < 0 ∨ (2 : Int) ≤ 0); omega
  have hr : rngB (beatE 0 ((i : Int) + 1) (t + ((i : Int) + 1))) = true := beat_rng (by omega) (by omega) (by omega) (by omega)
  have hf : findE (fullL t i) (beatE 0 ((i : Int) + 1) (t + ((i : Int) + 1))) = none := (findE_none _ _).2 fun x hx => by
    obtain ⟨j, hj, rfl⟩ := full_mem hx
    cases hs : sk (beatE 0 ((j : Int) + 1) (t + ((j : Int) + 1))) (beatE 0 ((i : Int) + 1) (t + ((i : Int) + 1)))
    · rfl
    · have h2 : (j : Int) + 1 = (i : Int) + 1 := ((sk_iff _ _).1 hs).2
      omega
  have hb : fitsB (fullL t i) (beatE 0 ((i : Int) + 1) (t + ((i : Int) + 1))) = true := (fitsB_iff _ _).2 fun x hx => by
    obtain ⟨j, hj, rfl⟩ := full_mem hx
    refine late_false.2 ⟨fun _ _ => ?_, fun _ h => ?_⟩
    · show t + ((j : Int) + 1) ≤ t + ((i : Int) + 1); omega
    · have h2 : (i : Int) + 1 < (j : Int) + 1 := h
      omega
  have hl : ¬ 512 ≤ (fullL t i).length := by rw [full_len]; omega
  have hfr : freshB 2 (fullL t i) (beatE 0 ((i : Int) + 1) (t + ((i : Int) + 1))) = true := freshB_iff.2 ⟨hd, hr, hf, hb, hl⟩
  exact ⟨hfr, addE_new hd hr hf hb hl, by rw [addL_fresh hfr, full_succ]⟩
theorem full_inv {t : Int} (h0 : 0 ≤ t) (h1 : t ≤ 4294942999) : ∀ i : Nat, i ≤ 512 → Inv 2 (fullL t i)
  | 0, _ => inv_nil 2
  | i + 1, h => by
    have := inv_add (full_inv h0 h1 i (by omega)) (beatE 0 ((i : Int) + 1) (t + ((i : Int) + 1)))
    rwa [(full_add h0 h1 (by omega)).2.2] at this
/-- what does not come in -/
theorem full_not {t : Int} {e : Ev} {k : Int} (h : addE 2 (fullL t 512) e = k) (hk : k ≠ 0) : freshB 2 (fullL t 512) e = false ∧ addL 2 (fullL t 512) e = fullL t 512 := by
  have h2 : freshB 2 (fullL t 512) e = false := fresh_no (by rw [h]; exact hk)
  exact ⟨h2, addL_same h2⟩
theorem full_8 {t : Int} (h0 : 0 ≤ t) (h1 : t ≤ 4294942999) : addE 2 (fullL t 512) (beatE 1 1 t) = 8 := by
  refine addE_full (by show ¬ ((1 : Int) < 0 ∨ (2 : Int) ≤ 1); omega) (beat_rng (by omega) (by omega) h0 (by omega)) ((findE_none _ _).2 fun x hx => ?_) ((fitsB_iff _ _).2 fun x hx => ?_) (by rw [full_len]; omega)
  · obtain ⟨j, hj, rfl⟩ := full_mem hx
    cases hs : sk (beatE 0 ((j : Int) + 1) (t + ((j : Int) + 1))) (beatE 1 1 t)
    · rfl
    · have h2 : (0 : Int) = 1 := ((sk_iff _ _).1 hs).1
      omega
  · obtain ⟨j, hj, rfl⟩ := full_mem hx
    refine late_false.2 ⟨fun h _ => ?_, fun h _ => ?_⟩
    · have h2 : (0 : Int) = 1 := h
      omega
    · have h2 : (0 : Int) = 1 := h
      omega
theorem full_5 {t : Int} (h0 : 0 ≤ t) (h1 : t ≤ 4294942999) : findE (fullL t 512) (beatE 0 5 (t + 5)) = some (beatE 0 5 (t + 5)) ∧ findE (fullL t 512) (beatE 0 5 (t + 6)) = some (beatE 0 5 (t + 5)) := by
  have hm : beatE 0 5 (t + 5) ∈ fullL t 512 := full_in (t := t) (i := 512) (j := 4) (by omega)
  have hI := full_inv h0 h1 512 (by omega)
  exact ⟨findE_mem hI hm ((sk_iff _ _).2 ⟨rfl, rfl⟩), findE_mem hI hm ((sk_iff _ _).2 ⟨rfl, rfl⟩)⟩
theorem full_0 {t : Int} (h0 : 0 ≤ t) (h1 : t ≤ 4294942999) : addE 2 (fullL t 512) (beatE 0 5 (t + 5)) = 0 ∧ freshB 2 (fullL t 512) (beatE 0 5 (t + 5)) = false := by
  have h := addE_found (n := 2) (by show ¬ ((0 : Int) < 0 ∨ (2 : Int) ≤ 0); omega) (beat_rng (d := 0) (s := 5) (t := t + 5) (by omega) (by omega) (by omega) (by omega)) (full_5 h0 h1).1
  rw [if_pos rfl] at h
  exact ⟨h, by unfold freshB; rw [(full_5 h0 h1).1]; simp⟩
theorem full_21 {t : Int} (h0 : 0 ≤ t) (h1 : t ≤ 4294942999) : addE 2 (fullL t 512) (beatE 0 5 (t + 6)) = 21 := by
  have h := addE_found (n := 2) (by show ¬ ((0 : Int) < 0 ∨ (2 : Int) ≤ 0); omega) (beat_rng (d := 0) (s := 5) (t := t + 6) (by omega) (by omega) (by omega) (by omega)) (full_5 h0 h1).2
  rw [if_neg (fun e => by have h2 : t + 5 = t + 6 := congrArg Ev.a e; omega)] at h
  exact h
theorem full_9 {t : Int} (h0 : 0 ≤ t) (h1 : t ≤ 4294942999) : addE 2 (fullL t 512) (beatE 0 513 t) = 9 := by
  refine addE_order (by show ¬ ((0 : Int) < 0 ∨ (2 : Int) ≤ 0); omega) (beat_rng (by omega) (by omega) h0 (by omega)) ((findE_none _ _).2 fun x hx => ?_) ?_
  · obtain ⟨j, hj, rfl⟩ := full_mem hx
    cases hs : sk (beatE 0 ((j : Int) + 1) (t + ((j : Int) + 1))) (beatE 0 513 t)
    · rfl
    · have h2 : (j : Int) + 1 = 513 := ((sk_iff _ _).1 hs).2
      omega
  · cases hb : fitsB (fullL t 512) (beatE 0 513 t)
    · rfl
    · have h2 := (fitsB_iff _ _).1 hb _ (full_in (t := t) (i := 512) (j := 4) (by omega))
      have h3 := (late_false.1 h2).1 rfl (by show ((4 : Nat) : Int) + 1 < 513; omega)
      have h4 : t + (((4 : Nat) : Int) + 1) ≤ t := h3
      omega
theorem full_7 {t : Int} : addE 2 (fullL t 512) (beatE 2 1 t) = 7 := addE_dev (by show (2 : Int) < 0 ∨ (2 : Int) ≤ 2; omega)
set_option maxRecDepth 100000 in
set_option maxHeartbeats 8000000 in
theorem gossipFull_calls (w : World) (x : Since w) (t : Int) : Calls Try.prog 6 #[.int .i64 t] x.w fun o w' => o = .returned (.bool true) ∧ ∃ y : Since w, w' = y.w := by
  have Haw := Lib.hid (fun y : Since w => awake_calls w y)
  by_cases hbad : t < 0 ∨ 4294942999 < t
  · rcases (by omega : t < 0 ∨ (0 ≤ t ∧ 4294942999 < t)) with h | ⟨h, h'⟩
    all_goals
      clear hbad
      go_enter Try.func6, Try.ntmps6
      go_wp2_with (go_at_call 12; refine (Haw.out _).mono ?_; rintro _ _ ⟨rfl, y1, rfl⟩)
      go_ret
      exact ⟨rfl, _, rfl⟩
  have h0 : 0 ≤ t := by omega
  have h1 : t ≤ 4294942999 := by omega
  clear hbad
  have hnew := new_calls w x 2
  have hN : NewPost w 2 = fun e w' => ∃ (p bm : Nat) (y : Since w), e = .returned (.tuple #[.pointer (some ⟨p, 0, none⟩), .int .i64 0]) ∧ w' = y.w ∧ w.heap.size ≤ p ∧ w.heap.size ≤ bm ∧ RepAt y.w p bm 2 [] := by funext e w'; unfold NewPost; rw [if_pos (by omega)]
  rw [hN] at hnew
  have Hnew := Lib.hid hnew
  clear hnew hN
  go_enter Try.func6, Try.ntmps6
  go_upto_region 6 with (go_at_call 13; refine Hnew.out.mono ?_; rintro _ _ ⟨p, bm, y0, rfl, rfl, hp, hb, hR⟩; have HR := Lib.hid hR; have Hb := Lib.hid hb; clear hR hb)
  clear Hnew
  go_wp2_with fail
  go_loopw [5] (fun i wr => ∃ (s : Int) (y : Since w), 1 ≤ s ∧ s ≤ 513 ∧ i = .int .i64 s ∧ wr = y.w ∧ RepAt y.w p bm 2 (fullL t (s - 1).toNat)) (fun i _ => (513 - intOf i).toNat)
  case atStart => exact ⟨1, _, by omega, by omega, rfl, rfl, HR.out⟩
  case round =>
    obtain ⟨s, y, hs1, hs2, rfl, rfl, hR⟩ := hrel
    by_cases hlt : s ≤ 512
    · obtain ⟨k, rfl⟩ : ∃ k : Nat, s = (k : Int) + 1 := ⟨(s - 1).toNat, by omega⟩
      rw [show ((k : Int) + 1 - 1).toNat = k by omega] at hR
      obtain ⟨hfr, he, hl⟩ := full_add h0 h1 (show k < 512 by omega)
      replace HR := Lib.hid hR
      have Hfr := Lib.hid hfr
      have He := Lib.hid he
      have Hl := Lib.hid hl
      clear hR hfr he hl
      go_wp2_with (first | (go_at_call 25; refine (beat_s w _ _ _ _).mono ?_; rintro _ _ ⟨rfl, y1, rfl, hz⟩; replace HR := Lib.hid (HR.out.to hz); clear hz) | (go_at_call 16; refine (addb_s w _ p bm 2 (fullL t k) (fullL t (k + 1)) 0 ((k : Int) + 1) (t + ((k : Int) + 1)) 0 true Hb.out HR.out Hfr.out He.out Hl.out).mono ?_; rintro _ _ ⟨rfl, y1, rfl, hz⟩; replace HR := Lib.hid hz; clear hz))
      go_roundw
      case rel => exact ⟨(k : Int) + 1 + 1, _, by omega, by omega, rfl, rfl, by rw [show ((k : Int) + 1 + 1 - 1).toNat = k + 1 by omega]; exact HR.out⟩
      case measure => simp [intOf]; omega
    · obtain rfl : s = 513 := by omega
      replace HR := Lib.hid (show RepAt y.w p bm 2 (fullL t 512) from hR)
      clear hR
      have hI := Lib.hid (full_inv h0 h1 512 (by omega))
      have G8 := Lib.hid (full_8 h0 h1)
      have G0 := Lib.hid (full_0 h0 h1)
      have G21 := Lib.hid (full_21 h0 h1)
      have G9 := Lib.hid (full_9 h0 h1)
      have G7 := Lib.hid (full_7 (t := t))
      have N8 := Lib.hid (full_not G8.out (by omega))
      have N21 := Lib.hid (full_not G21.out (by omega))
      have N9 := Lib.hid (full_not G9.out (by omega))
      have N7 := Lib.hid (full_not G7.out (by omega))
      have Hlen := Lib.hid (show (sortE (fullL t 512)).length = 512 by rw [sortE_length, full_len])
      go_upto_region 13 with (first | (go_at_call 25; refine (beat_s w _ _ _ _).mono ?_; rintro _ _ ⟨rfl, y1, rfl, hz⟩; replace HR := Lib.hid (HR.out.to hz); clear hz) | (go_at_call 16; refine (addb_s w _ p bm 2 (fullL t 512) (fullL t 512) 1 1 t 8 false Hb.out HR.out N8.out.1 G8.out N8.out.2).mono ?_; rintro _ _ ⟨rfl, y1, rfl, hz⟩; replace HR := Lib.hid hz; clear hz))
      go_upto_region 14 with (first | (go_at_call 25; refine (beat_s w _ _ _ _).mono ?_; rintro _ _ ⟨rfl, y1, rfl, hz⟩; replace HR := Lib.hid (HR.out.to hz); clear hz) | (go_at_call 16; refine (addb_s w _ p bm 2 (fullL t 512) (fullL t 512) 0 5 (t + 5) 0 false Hb.out HR.out G0.out.2 G0.out.1 (addL_same G0.out.2)).mono ?_; rintro _ _ ⟨rfl, y1, rfl, hz⟩; replace HR := Lib.hid hz; clear hz))
      go_upto_region 15 with (first | (go_at_call 25; refine (beat_s w _ _ _ _).mono ?_; rintro _ _ ⟨rfl, y1, rfl, hz⟩; replace HR := Lib.hid (HR.out.to hz); clear hz) | (go_at_call 16; refine (addb_s w _ p bm 2 (fullL t 512) (fullL t 512) 0 5 (t + 6) 21 false Hb.out HR.out N21.out.1 G21.out N21.out.2).mono ?_; rintro _ _ ⟨rfl, y1, rfl, hz⟩; replace HR := Lib.hid hz; clear hz))
      go_upto_region 16 with (first | (go_at_call 25; refine (beat_s w _ _ _ _).mono ?_; rintro _ _ ⟨rfl, y1, rfl, hz⟩; replace HR := Lib.hid (HR.out.to hz); clear hz) | (go_at_call 16; refine (addb_s w _ p bm 2 (fullL t 512) (fullL t 512) 0 513 t 9 false Hb.out HR.out N9.out.1 G9.out N9.out.2).mono ?_; rintro _ _ ⟨rfl, y1, rfl, hz⟩; replace HR := Lib.hid hz; clear hz))
      go_upto_region 17 with (first | (go_at_call 25; refine (beat_s w _ _ _ _).mono ?_; rintro _ _ ⟨rfl, y1, rfl, hz⟩; replace HR := Lib.hid (HR.out.to hz); clear hz) | (go_at_call 16; refine (addb_s w _ p bm 2 (fullL t 512) (fullL t 512) 2 1 t 7 false Hb.out HR.out N7.out.1 G7.out N7.out.2).mono ?_; rintro _ _ ⟨rfl, y1, rfl, hz⟩; replace HR := Lib.hid hz; clear hz))
      go_wp2_with (first
        | (go_at_call 19; refine (events_s w _ p bm 2 _ HR.out hI.out).mono ?_; rintro _ _ ⟨ea, ec, y1, rfl, rfl, -, -⟩; rw [Hlen.out])
        | (go_at_call 12; refine (Haw.out _).mono ?_; rintro _ _ ⟨rfl, y1, rfl⟩))
      go_ret
      exact ⟨rfl, _, rfl⟩
end Go.Proofs.Ytcpfogbjbinjcaa
