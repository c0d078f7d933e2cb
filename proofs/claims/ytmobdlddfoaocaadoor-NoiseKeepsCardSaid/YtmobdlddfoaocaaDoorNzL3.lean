/- The walk of the law NoiseAdds. -/
import Derived.Test.YtmobdlddfoaocaaDoorNzL2
namespace Go.Proofs.YtmobdlddfoaocaaDoor
open Go.RowKit

/-- what Add gives back, whether it fails or not -/
noncomputable def addO (l xs ws : List Int) : List Int := if addE l xs ws = 0 then outL l xs ws xs.length else []
noncomputable def addU (l xs ws : List Int) : Int := if addE l xs ws = 0 then us (total l) ws xs.length else 0
def AddedP (w : World) (l xs ws : List Int) (e : Ending) (w' : World) : Prop := ∃ a cap, e = .returned (.tuple #[.slice a (addO l xs ws).length cap, .int .i64 (addU l xs ws), .int .i64 (addE l xs ws)]) ∧ (addO l xs ws).length ≤ cap ∧ ∃ y : Since w, w' = y.w ∧ IntRow y.w a (addO l xs ws)
theorem added_imp {w : World} {l xs ws : List Int} (e : Ending) (w' : World) (h : Added w l xs ws e w') : AddedP w l xs ws e w' := by
  unfold Added at h
  unfold AddedP addO addU
  split at h
  · rename_i hc
    rw [if_pos hc, if_pos hc, hc]
    obtain ⟨_, rfl, a, cap, rfl, hcap, y, rfl, hr⟩ := h
    exact ⟨a, cap, rfl, hcap, y, rfl, hr⟩
  · rename_i hc
    rw [if_neg hc, if_neg hc]
    obtain ⟨rfl, y, rfl⟩ := h
    exact ⟨none, 0, rfl, Nat.le_refl _, y, rfl, fun i hi => (by simp at hi)⟩
theorem addO_len (l xs ws : List Int) : (addO l xs ws).length ≤ xs.length := by
  unfold addO; split
  · rw [outL_length]; omega
  · simp

set_option maxHeartbeats 2000000 in
theorem noiseAdds_calls (w : World) (x : Since w) (hs : Signs w) (a b c : Option Addr) (l xs ws : List Int) (ca cb cc : Nat) (hca : l.length ≤ ca) (hcc : ws.length ≤ cc) (hl : l.length ≤ 9223372036854775807) (hx : xs.length ≤ 9223372036854775807) (hwl : ws.length ≤ 9223372036854775807)
    (hr : IntRow w a l) (hrx : IntRow w b xs) (hrw : Row w c ws.length fun i => .int .u64 (at0 ws i)) (hw : ∀ i, 0 ≤ at0 ws i ∧ at0 ws i < 18446744073709551616) :
    Calls Tryd.prog 6 #[.agg #[.slice a l.length ca], .slice b xs.length cb, .slice c ws.length cc] x.w fun e w' => e = .returned (.bool true) ∧ ∃ y : Since w, w' = y.w := by
  go_enter Tryd.func6, Tryd.ntmps6
  go_upto_region 1 with fail
  have hb0_0 : ∀ y : Since (x.w.alloc (.cells #[.slice a l.length ca] 24)), y.w.cell? ⟨x.w.heap.size, 0, none⟩ = some (.slice a l.length ca) := fun y => Since.cell (by simp [go_sem]) (by first | (simp; done) | (simp; omega)) y
  have hf0 : ∀ (y : Since (x.w.alloc (.cells #[.slice a l.length ca] 24))) (o : Nat), y.w.frozen? ⟨x.w.heap.size, o, none⟩ = false := fun y o => Since.free (by simp [go_sem]) (by first | (simp; done) | (simp; omega)) y
  have hWup : ∃ z : Since w, (x.w.alloc (.cells #[.slice a l.length ca] 24)) = z.w := x.alloc _
  obtain ⟨y0, hy0⟩ := Since.refl (x.w.alloc (.cells #[.slice a l.length ca] 24))
  have Hbx := Lib.hid (And.intro x.b.size (show x.w.heap.size + 1 = (x.w.alloc (.cells #[.slice a l.length ca] 24)).heap.size from by simp))
  generalize hW : (x.w.alloc (.cells #[.slice a l.length ca] 24)) = W at *
  clear hW
  generalize x.w.heap.size = bx at *
  have Hup := Lib.hid (Since.up hWup)
  rw [hy0]
  clear hy0
  replace hr := hr.to hWup
  replace hrx := hrx.to hWup
  replace hrw := hrw.to hWup
  replace hs := hs.to hWup
  clear hWup
  by_cases hf : l.length ≤ 40
  · go_wp2_with fail
    refine (few_yes W _ a l.length ca hl hf).mono ?_
    rintro _ _ ⟨rfl, y, rfl⟩
    by_cases hok : ws.length ≤ 200 ∧ (xs.length ≤ 40 ∨ (512 < xs.length ∧ xs.length ≤ 520))
    · have hxx : xs.length ≤ 520 := by omega
      have d1 : decide (200 < (ws.length : Int)) = false := decide_eq_false (by omega)
      rcases hok.2 with h40 | ⟨h512, h520⟩
      all_goals
        go_wp2_with fail
        refine (add_calls W _ hs a b c l xs ws ca cb cc hca hcc hl hx hwl hr hrx hrw hw).mono fun e w' h => ?_
        obtain ⟨a1, c1, rfl, hc1, y1, rfl, hr1⟩ := added_imp e w' h
        clear h
        have hl1 := addO_len l xs ws
        replace hb0_0 : ∀ (y : Since y1.w), y.w.cell? ⟨bx, 0, none⟩ = some (.slice a l.length ca) := fun y => by obtain ⟨z, e⟩ := y1.trans y; rw [e]; exact hb0_0 z
        replace hf0 : ∀ (y : Since y1.w) (o : Nat), y.w.frozen? ⟨bx, o, none⟩ = false := fun y o => by obtain ⟨z, e⟩ := y1.trans y; rw [e]; exact hf0 z o
        replace hr := hr.to ⟨y1, rfl⟩
        replace hrx := hrx.to ⟨y1, rfl⟩
        replace hrw := hrw.to ⟨y1, rfl⟩
        replace hs := hs.to ⟨y1, rfl⟩
        obtain ⟨q0, hq0⟩ := Since.refl y1.w
        rw [hq0]
        clear hq0
        go_wp2_with fail
        refine (radd_calls y1.w q0 a b c l xs ws ca cb cc hcc hl hx hwl hr hrx hrw hw).mono fun e w' h => ?_
        obtain ⟨a2, c2, rfl, hc2, q, rfl, hr2⟩ := added_imp e w' h
        clear h
        replace hr1 := hr1.to ⟨q, rfl⟩
        replace hs := hs.to ⟨q, rfl⟩
        have hsame := same_calls q.w (Since.self q.w) a1 a2 (addO l xs ws) (addO l xs ws) c1 c2 (by omega) (by omega) hr1 hr2
        rw [decide_eq_true rfl] at hsame
        have Hsame := Lib.hid hsame; clear hsame
        go_wp2_with fail
        refine Hsame.out.mono ?_
        rintro _ _ ⟨rfl, q2, rfl⟩
        go_wp2_with fail
        refine (awake_calls q.w q2 hs).mono ?_
        rintro _ _ ⟨rfl, q3, rfl⟩
        go_wp2_with fail
        go_ret
        exact ⟨rfl, by obtain ⟨u, e⟩ := q.trans q3; rw [e]; obtain ⟨v, e⟩ := y1.trans u; rw [e]; exact Hup.out v⟩
    · have hc : (200 < ws.length) ∨ (ws.length ≤ 200 ∧ 40 < xs.length ∧ xs.length ≤ 512) ∨ (ws.length ≤ 200 ∧ 40 < xs.length ∧ 512 < xs.length ∧ 520 < xs.length) := by omega
      clear hok
      rcases hc with h | ⟨h, h', h''⟩ | ⟨h, h', h'', h3⟩
      all_goals
        go_wp2_with fail
        refine (awake_calls W _ hs).mono ?_
        rintro _ _ ⟨rfl, q, rfl⟩
        go_wp2_with fail
        go_ret
        exact ⟨rfl, Hup.out _⟩
  · go_wp2_with fail
    refine (few_no W _ a l.length ca hl hf).mono ?_
    rintro _ _ ⟨rfl, y, rfl⟩
    go_wp2_with fail
    refine (awake_calls W _ hs).mono ?_
    rintro _ _ ⟨rfl, y, rfl⟩
    go_wp2_with fail
    go_ret
    exact ⟨rfl, Hup.out _⟩
end Go.Proofs.YtmobdlddfoaocaaDoor
