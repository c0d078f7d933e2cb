/- The laws of passes, fourth part: awake. -/
import Derived.Test.YtbkfcdheckkjaaaPsL3
set_option linter.all false
namespace Go.Proofs.Ytbkfcdheckkjaaa
open Go.RowKit

set_option maxRecDepth 100000 in
set_option maxHeartbeats 16000000 in
theorem awake_calls (w : World) (x : Since w) : Calls Try.prog 9 #[] x.w fun o w' => o = .returned (.bool true) ∧ ∃ y : Since w, w' = y.w := by
  go_enter Try.func9, Try.ntmps9
  go_upto_region 2 with (first | (go_at_call 22; refine (passes_s w _).mono ?_; rintro _ _ ⟨pa1, pc1, y1, rfl, rfl, hz, hp1⟩; (try replace HA := Lib.hid (HA.out.to hz)); (try replace HB := Lib.hid (HB.out.to hz)); have HP := Lib.hid hp1; clear hp1 hz) | (go_at_call 23; refine (rides_s w _).mono ?_; rintro _ _ ⟨ra1, rc1, R1, y1, rfl, rfl, hz, hr1, hR1⟩; replace HP := Lib.hid (HP.out.to hz); (try replace HA := Lib.hid (HA.out.to hz)); (try replace HB := Lib.hid (HB.out.to hz)); have HR := Lib.hid hr1; have HR1 := Lib.hid hR1; clear hr1 hR1 hz) | (go_at_call 13; refine (use1_s w _ pa1 pc1 ra1 R1 rc1 HP.out HR.out HR1.out).mono ?_; rintro _ _ ⟨ua, uc, y1, rfl, rfl, hz, hu⟩; have HA := Lib.hid hu; clear hz hu))
  clear HP HR HR1
  go_upto_region 3 with (first | (go_at_call 22; refine (passes_s w _).mono ?_; rintro _ _ ⟨pa1, pc1, y1, rfl, rfl, hz, hp1⟩; (try replace HA := Lib.hid (HA.out.to hz)); (try replace HB := Lib.hid (HB.out.to hz)); have HP := Lib.hid hp1; clear hp1 hz) | (go_at_call 23; refine (rides_s w _).mono ?_; rintro _ _ ⟨ra1, rc1, R1, y1, rfl, rfl, hz, hr1, hR1⟩; replace HP := Lib.hid (HP.out.to hz); (try replace HA := Lib.hid (HA.out.to hz)); (try replace HB := Lib.hid (HB.out.to hz)); have HR := Lib.hid hr1; have HR1 := Lib.hid hR1; clear hr1 hR1 hz) | (go_at_call 24; refine (turned_s w _ ra1 R1 rc1 HR.out HR1.out).mono ?_; rintro _ _ ⟨ta1, tc1, T1, y1, rfl, rfl, hz, hr1, HT1⟩; replace HA := Lib.hid (HA.out.to hz); replace HP := Lib.hid (HP.out.to hz); have HT := Lib.hid hr1; clear hz hr1) | (go_at_call 13; refine (use2_s w _ pa1 pc1 ta1 R1 tc1 T1 HT1.out HP.out HT.out HR1.out).mono ?_; rintro _ _ ⟨ub, ud, y1, rfl, rfl, hz, hu⟩; replace HA := Lib.hid (HA.out.to hz); have HB := Lib.hid hu; clear hz hu))
  clear HP HR HR1 HT
  go_upto_region 4 with (first | (go_at_call 22; refine (passes_s w _).mono ?_; rintro _ _ ⟨pa1, pc1, y1, rfl, rfl, hz, hp1⟩; (try replace HA := Lib.hid (HA.out.to hz)); (try replace HB := Lib.hid (HB.out.to hz)); have HP := Lib.hid hp1; clear hp1 hz) | (go_at_call 23; refine (rides_s w _).mono ?_; rintro _ _ ⟨ra1, rc1, R1, y1, rfl, rfl, hz, hr1, hR1⟩; replace HP := Lib.hid (HP.out.to hz); (try replace HA := Lib.hid (HA.out.to hz)); (try replace HB := Lib.hid (HB.out.to hz)); have HR := Lib.hid hr1; have HR1 := Lib.hid hR1; clear hr1 hR1 hz) | (go_at_call 16; refine (left_s w _ pa1 pc1 ra1 R1 rc1 1 0 (by decide) HP.out HR.out HR1.out).mono ?_; rintro _ _ ⟨rfl, y1, rfl, hz⟩; (try replace HA := Lib.hid (HA.out.to hz)); (try replace HB := Lib.hid (HB.out.to hz)); clear hz))
  clear HP HR HR1
  go_upto_region 5 with (first | (go_at_call 22; refine (passes_s w _).mono ?_; rintro _ _ ⟨pa1, pc1, y1, rfl, rfl, hz, hp1⟩; (try replace HA := Lib.hid (HA.out.to hz)); (try replace HB := Lib.hid (HB.out.to hz)); have HP := Lib.hid hp1; clear hp1 hz) | (go_at_call 23; refine (rides_s w _).mono ?_; rintro _ _ ⟨ra1, rc1, R1, y1, rfl, rfl, hz, hr1, hR1⟩; replace HP := Lib.hid (HP.out.to hz); (try replace HA := Lib.hid (HA.out.to hz)); (try replace HB := Lib.hid (HB.out.to hz)); have HR := Lib.hid hr1; have HR1 := Lib.hid hR1; clear hr1 hR1 hz) | (go_at_call 16; refine (left_s w _ pa1 pc1 ra1 R1 rc1 2 2 (by decide) HP.out HR.out HR1.out).mono ?_; rintro _ _ ⟨rfl, y1, rfl, hz⟩; (try replace HA := Lib.hid (HA.out.to hz)); (try replace HB := Lib.hid (HB.out.to hz)); clear hz))
  clear HP HR HR1
  go_upto_region 6 with (first | (go_at_call 22; refine (passes_s w _).mono ?_; rintro _ _ ⟨pa1, pc1, y1, rfl, rfl, hz, hp1⟩; (try replace HA := Lib.hid (HA.out.to hz)); (try replace HB := Lib.hid (HB.out.to hz)); have HP := Lib.hid hp1; clear hp1 hz) | (go_at_call 23; refine (rides_s w _).mono ?_; rintro _ _ ⟨ra1, rc1, R1, y1, rfl, rfl, hz, hr1, hR1⟩; replace HP := Lib.hid (HP.out.to hz); (try replace HA := Lib.hid (HA.out.to hz)); (try replace HB := Lib.hid (HB.out.to hz)); have HR := Lib.hid hr1; have HR1 := Lib.hid hR1; clear hr1 hR1 hz) | (go_at_call 16; refine (left_s w _ pa1 pc1 ra1 R1 rc1 0 0 (by decide) HP.out HR.out HR1.out).mono ?_; rintro _ _ ⟨rfl, y1, rfl, hz⟩; (try replace HA := Lib.hid (HA.out.to hz)); (try replace HB := Lib.hid (HB.out.to hz)); clear hz))
  clear HP HR HR1
  go_upto_region 8 with fail
  have mkp := make_pass
  go_wp2_with (first | (go_at_call 15; (with_reducible refine (ints1_s w _ ua uc 4 _ HA.out).mono ?_); rintro _ _ ⟨rfl, y1, rfl, hz⟩; replace HB := Lib.hid (HB.out.to hz); clear hz) | (go_at_call 15; (with_reducible refine (ints2_s w _ ub ud 4 _ HB.out).mono ?_); rintro _ _ ⟨rfl, y1, rfl, hz⟩; clear hz) | (go_at_call 10; (with_reducible refine (pcheck_s w _ 1 _).mono ?_); rintro _ _ ⟨rfl, y1, rfl⟩))
  go_ret
  exact ⟨rfl, _, rfl⟩
end Go.Proofs.Ytbkfcdheckkjaaa
