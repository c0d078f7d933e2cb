/- The laws PassChecks, PassUses and PassLeft, walked. -/
import Derived.Test.YtbkfcdheckkjaaaPsL4
set_option linter.all false
namespace Go.Proofs.Ytbkfcdheckkjaaa
open Go.RowKit

theorem passChecks_calls (w : World) (x : Since w) (a : Option Addr) (l : List Pass) (c : Nat) (h : PassRow w a l) (hl : l.length ≤ 9223372036854775807) :
    Calls Try.prog 3 #[.slice a l.length c] x.w fun o w' => o = .returned (.bool true) ∧ ∃ y : Since w, w' = y.w := by
  have Ha := Lib.hid (fun y : Since w => awake_calls w y)
  have Hp := Lib.hid (fun y : Since w => pcheck_calls w y a l c h hl)
  have Hq := Lib.hid (fun y : Since w => rpcheck_calls w y a l c h hl)
  clear h
  generalize passE l = pe at *
  have hee : (pe == pe) = true := by simp
  rcases (by omega : 100 < l.length ∨ l.length ≤ 100) with hb | hb
  · go_enter Try.func3, Try.ntmps3
    go_wp2_with (go_at_call 9; ((with_reducible refine (Ha.out _).mono ?_); rintro _ _ ⟨rfl, y1, rfl⟩))
    go_ret
    exact ⟨rfl, _, rfl⟩
  · go_enter Try.func3, Try.ntmps3
    go_wp2_with (first | (go_at_call 10; ((with_reducible refine (Hp.out _).mono ?_); rintro _ _ ⟨rfl, y1, rfl⟩)) | (go_at_call 11; ((with_reducible refine (Hq.out _).mono ?_); rintro _ _ ⟨rfl, y1, rfl⟩)) | (go_at_call 9; ((with_reducible refine (Ha.out _).mono ?_); rintro _ _ ⟨rfl, y1, rfl⟩)))
    go_ret
    exact ⟨rfl, _, rfl⟩
/-- what all laws but the first begin with -/
theorem few_cases (lp : List Pass) (R : List Ride) : 100 < lp.length ∨ (lp.length ≤ 100 ∧ fewB R 30 = false) ∨ (lp.length ≤ 100 ∧ fewB R 30 = true ∧ R.length ≤ 30) := by
  by_cases h : 100 < lp.length
  · exact .inl h
  · cases hf : fewB R 30
    · exact .inr (.inl ⟨by omega, rfl⟩)
    · refine .inr (.inr ⟨by omega, rfl, ?_⟩)
      unfold fewB at hf
      simp only [Bool.and_eq_true, decide_eq_true_eq] at hf
      omega
set_option maxHeartbeats 4000000 in
theorem passUses_calls (w : World) (x : Since w) (pa : Option Addr) (lp : List Pass) (pc : Nat) (a : Option Addr) (R : List Ride) (c : Nat) (hp : PassRow w pa lp) (hpl : lp.length ≤ 9223372036854775807) (h : RideRow w a R) (hl : R.length ≤ 9223372036854775807) :
    Calls Try.prog 4 #[.slice pa lp.length pc, .slice a R.length c] x.w fun o w' => o = .returned (.bool true) ∧ ∃ y : Since w, w' = y.w := by
  have Ha := Lib.hid (fun y : Since w => awake_calls w y)
  have Hf := Lib.hid (fun y : Since w => few_calls w y a R c 30 h hl)
  have Hp := Lib.hid (fun y : Since w => useX_s w y pa lp pc a R c (Since.els hp y) hpl (h.since y) hl)
  have Hq := Lib.hid (fun y : Since w => ruse_s w y pa lp pc a R c (Since.els hp y) hpl (h.since y) hl)
  clear h hp
  have hee : (usesE lp R == usesE lp R) = true := by simp
  have Hun := Lib.hid (fun (us vs : List Int) (h : UseOk lp R us) (k : UseOk lp R vs) => h.unique k)
  have Hlen := Lib.hid (fun (us : List Int) (h : UseOk lp R us) => show us.length ≤ 256 by
    by_cases hz : usesE lp R = 0
    · rw [(h.ok hz).1]; exact (ridesE_zero (usesE_zero hz).2).1
    · rw [h.no hz]; simp)
  rcases few_cases lp R with hb | ⟨hb, hf⟩ | ⟨hb, hf, hR⟩
  · go_enter Try.func4, Try.ntmps4
    go_wp2_with (go_at_call 9; ((with_reducible refine (Ha.out _).mono ?_); rintro _ _ ⟨rfl, y1, rfl⟩))
    go_ret
    exact ⟨rfl, _, rfl⟩
  · rw [hf] at Hf
    clear hf
    go_enter Try.func4, Try.ntmps4
    go_wp2_with (first | (go_at_call 12; ((with_reducible refine (Hf.out _).mono ?_); rintro _ _ ⟨rfl, y1, rfl⟩)) | (go_at_call 9; ((with_reducible refine (Ha.out _).mono ?_); rintro _ _ ⟨rfl, y1, rfl⟩)))
    go_ret
    exact ⟨rfl, _, rfl⟩
  · rw [hf] at Hf
    clear hf
    go_enter Try.func4, Try.ntmps4
    go_upto_region 3 with (go_at_call 12; ((with_reducible refine (Hf.out _).mono ?_); rintro _ _ ⟨rfl, y1, rfl⟩))
    go_upto_region 4 with (go_at_call 13; ((with_reducible refine (Hp.out _).mono ?_); rintro _ _ ⟨ua, uc, us, y2, rfl, rfl, hz, hu, hU⟩; have HU := Lib.hid hu; have HOk := Lib.hid hU; clear hz hu hU))
    go_upto_region 5 with (go_at_call 14; ((with_reducible refine (Hq.out _).mono ?_); rintro _ _ ⟨va, vc, vs, y3, rfl, rfl, hz, hv, hV⟩; obtain rfl := Hun.out _ _ HOk.out hV; replace HU := Lib.hid (HU.out.to hz); have HV := Lib.hid hv; clear hz hv hV))
    have Hi := Lib.hid (ints_calls y3.w (Since.self _) ua us uc va us vc HU.out HV.out (by have := Hlen.out us HOk.out; omega) (by have := Hlen.out us HOk.out; omega))
    rw [decide_eq_true rfl] at Hi
    generalize hue : usesE lp R = ue at *
    clear hue
    go_wp2_with (first | (go_at_call 15; (refine (Hi.out).mono ?_; rintro _ _ ⟨rfl, z, rfl⟩; obtain ⟨y4, h4⟩ := y3.trans z; rw [h4]; clear h4)) | (go_at_call 9; ((with_reducible refine (Ha.out _).mono ?_); rintro _ _ ⟨rfl, y5, rfl⟩)))
    go_ret
    exact ⟨rfl, _, rfl⟩
set_option maxHeartbeats 4000000 in
theorem passLeft_calls (w : World) (x : Since w) (pa : Option Addr) (lp : List Pass) (pc : Nat) (a : Option Addr) (R : List Ride) (c : Nat) (i d : Int) (hp : PassRow w pa lp) (hpl : lp.length ≤ 9223372036854775807) (h : RideRow w a R) (hl : R.length ≤ 9223372036854775807) :
    Calls Try.prog 5 #[.slice pa lp.length pc, .slice a R.length c, .int .i64 i, .int .i64 d] x.w fun o w' => o = .returned (.bool true) ∧ ∃ y : Since w, w' = y.w := by
  have Ha := Lib.hid (fun y : Since w => awake_calls w y)
  have Hf := Lib.hid (fun y : Since w => few_calls w y a R c 30 h hl)
  have Hp := Lib.hid (fun y : Since w => left_calls w y pa lp pc a R c i d hp hpl h hl)
  have Hq := Lib.hid (fun y : Since w => rleft_calls w y pa lp pc a R c i d hp hpl h hl)
  clear h hp
  have Hun := Lib.hid (fun (us vs : List Int) (h : UseOk lp R us) (k : UseOk lp R vs) => h.unique k)
  rcases few_cases lp R with hb | ⟨hb, hf⟩ | ⟨hb, hf, hR⟩
  · go_enter Try.func5, Try.ntmps5
    go_wp2_with (go_at_call 9; ((with_reducible refine (Ha.out _).mono ?_); rintro _ _ ⟨rfl, y1, rfl⟩))
    go_ret
    exact ⟨rfl, _, rfl⟩
  · rw [hf] at Hf
    clear hf
    go_enter Try.func5, Try.ntmps5
    go_wp2_with (first | (go_at_call 12; ((with_reducible refine (Hf.out _).mono ?_); rintro _ _ ⟨rfl, y1, rfl⟩)) | (go_at_call 9; ((with_reducible refine (Ha.out _).mono ?_); rintro _ _ ⟨rfl, y1, rfl⟩)))
    go_ret
    exact ⟨rfl, _, rfl⟩
  · rw [hf] at Hf
    clear hf
    go_enter Try.func5, Try.ntmps5
    go_upto_region 3 with (go_at_call 12; ((with_reducible refine (Hf.out _).mono ?_); rintro _ _ ⟨rfl, y1, rfl⟩))
    go_upto_region 4 with (go_at_call 16; ((with_reducible refine (Hp.out _).mono ?_); rintro _ _ ⟨us, y2, rfl, rfl, hU⟩; have HOk := Lib.hid hU; clear hU))
    go_upto_region 5 with (go_at_call 17; ((with_reducible refine (Hq.out _).mono ?_); rintro _ _ ⟨vs, y3, rfl, rfl, hV⟩; obtain rfl := Hun.out _ _ HOk.out hV; clear hV))
    clear Hp Hq
    generalize leftV lp R us i d = v at *
    generalize leftE lp R i d = e at *
    have h1 : (v == v) = true := by simp
    have h2 : (e == e) = true := by simp
    go_wp2_with (go_at_call 9; ((with_reducible refine (Ha.out _).mono ?_); rintro _ _ ⟨rfl, y5, rfl⟩))
    go_ret
    exact ⟨rfl, _, rfl⟩
end Go.Proofs.Ytbkfcdheckkjaaa
