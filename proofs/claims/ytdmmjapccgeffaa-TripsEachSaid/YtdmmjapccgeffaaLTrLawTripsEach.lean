/- The law TripsEach, walked. -/
import Derived.Test.YtdmmjapccgeffaaTrMh
import Derived.IntWalk
set_option linter.all false
namespace Go.Proofs.Ytdmmjapccgeffaa
open Go.RowKit

set_option maxRecDepth 100000 in
set_option maxHeartbeats 16000000 in
theorem tripsEach_calls (w : World) (x : Since w) (a : Option Addr) (R : List Ride) (c : Nat) (n : Int) (h : RideRow w a R) (hl : R.length ≤ 9223372036854775807) :
    Calls Try.prog 3 #[.slice a R.length c, .int .i64 n] x.w (Yes w) := by
  have H := Lib.hid h
  clear h
  have Hf := Lib.hid (few_calls w x a R c 30 H.out hl)
  cases hfw : fewB R 30 with
  | false =>
    rw [hfw] at Hf
    go_enter Try.func3, Try.ntmps3
    go_wp2_with (first | (go_at_call 11; ((with_reducible refine Hf.out.mono ?_); rintro _ _ ⟨rfl, y1, rfl⟩)) | (go_at_call 12; ((with_reducible refine (awake_calls w y1).mono ?_); rintro _ _ ⟨rfl, y2, rfl⟩)))
    go_ret
    exact ⟨rfl, y2, rfl⟩
  | true =>
    rw [hfw] at Hf
    have hlp : ∀ r ∈ R, r.legs.length ≤ 100000 ∧ r.pauses.length ≤ 100000 := by
      unfold fewB at hfw
      simp only [Bool.and_eq_true, decide_eq_true_eq, List.all_eq_true] at hfw
      exact fun r hr => by have := hfw.1 r hr; omega
    have Hlp := Lib.hid hlp
    clear hfw hlp
    have hlen := eachV_len (R := R) (each := n)
    have HE := Lib.hid (fun y : Since w => each_calls w y a R c n H.out hl Hlp.out)
    have HE2 := Lib.hid (fun (w' : World) (hw : IsSince w w') => reach_calls w' (Since.self w') a R c n (H.out.to hw) hl)
    generalize eachV R n = L at *
    generalize eachE R n = e at *
    have he : (e == e) = true := by simp
    go_enter Try.func3, Try.ntmps3
    go_upto_region 3 with (go_at_call 11; ((with_reducible refine Hf.out.mono ?_); rintro _ _ ⟨rfl, y1, rfl⟩))
    go_wp2_with fail
    refine (HE.out y1).mono ?_
    rintro _ _ ⟨a2, c2, L2, y2, rfl, rfl, h2, _, hL2⟩
    have H2 := Lib.hid h2
    have HL2 := Lib.hid hL2
    clear h2 hL2 HE
    go_wp2_with fail
    refine (HE2.out _ (IsSince.of y2)).mono ?_
    rintro _ _ ⟨a3, c3, y3, rfl, rfl, h3, _⟩
    have hll : L2.length = L.length := by have := congrArg List.length HL2.out; rwa [List.length_map, List.length_map] at this
    have Hs := Lib.hid (sameR_calls y3.w (Since.self y3.w) a2 L2 c2 a3 L c3 (H2.out.to ⟨y3, rfl⟩) h3 HL2.out.symm (by omega))
    clear hll
    have HU := Lib.hid ((IsSince.of y2).trans (IsSince.of y3))
    clear h3
    go_wp2_with fail
    refine Hs.out.mono ?_
    rintro _ _ ⟨rfl, y4, rfl⟩
    go_wp2_with fail
    refine (awake_calls y3.w y4).mono ?_
    rintro _ _ ⟨rfl, y5, rfl⟩
    go_wp2_with fail
    go_ret
    exact ⟨rfl, HU.out.trans (IsSince.of y5)⟩
end Go.Proofs.Ytdmmjapccgeffaa
