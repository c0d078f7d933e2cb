/- The walks of the laws NoiseExcesses, NoiseAts. -/
import Derived.Test.YtmobdlddfoaocaaDoorNzL1
namespace Go.Proofs.YtmobdlddfoaocaaDoor
open Go.RowKit

set_option maxHeartbeats 2000000 in
theorem noiseExcesses_calls (w : World) (x : Since w) (hs : Signs w) (a : Option Addr) (l : List Int) (cap : Nat) (num den s : Int) (hlen : l.length ≤ 9223372036854775807) (hr : IntRow w a l) :
    Calls Tryd.prog 5 #[.agg #[.slice a l.length cap], .agg #[.int .i64 num, .int .i64 den, .int .i64 s]] x.w fun e w' => e = .returned (.bool true) ∧ ∃ y : Since w, w' = y.w := by
  go_enter Tryd.func5, Tryd.ntmps5
  go_upto_region 1 with fail
  have hb0_0 : ∀ y : Since ((x.w.alloc (.cells #[.slice a l.length cap] 24)).alloc (.cells #[.int .i64 num, .int .i64 den, .int .i64 s] 36)), y.w.cell? ⟨x.w.heap.size, 0, none⟩ = some (.slice a l.length cap) := fun y => Since.cell (by simp [go_sem]) (by first | (simp; done) | (simp; omega)) y
  have hf0 : ∀ (y : Since ((x.w.alloc (.cells #[.slice a l.length cap] 24)).alloc (.cells #[.int .i64 num, .int .i64 den, .int .i64 s] 36))) (o : Nat), y.w.frozen? ⟨x.w.heap.size, o, none⟩ = false := fun y o => Since.free (by simp [go_sem]) (by first | (simp; done) | (simp; omega)) y
  have hb1_0 : ∀ y : Since ((x.w.alloc (.cells #[.slice a l.length cap] 24)).alloc (.cells #[.int .i64 num, .int .i64 den, .int .i64 s] 36)), y.w.cell? ⟨x.w.heap.size + 1, 0, none⟩ = some (.int .i64 num) := fun y => Since.cell (by simp [go_sem]) (by first | (simp; done) | (simp; omega)) y
  have hb1_1 : ∀ y : Since ((x.w.alloc (.cells #[.slice a l.length cap] 24)).alloc (.cells #[.int .i64 num, .int .i64 den, .int .i64 s] 36)), y.w.cell? ⟨x.w.heap.size + 1, 1, none⟩ = some (.int .i64 den) := fun y => Since.cell (by simp [go_sem]) (by first | (simp; done) | (simp; omega)) y
  have hb1_2 : ∀ y : Since ((x.w.alloc (.cells #[.slice a l.length cap] 24)).alloc (.cells #[.int .i64 num, .int .i64 den, .int .i64 s] 36)), y.w.cell? ⟨x.w.heap.size + 1, 2, none⟩ = some (.int .i64 s) := fun y => Since.cell (by simp [go_sem]) (by first | (simp; done) | (simp; omega)) y
  have hf1 : ∀ (y : Since ((x.w.alloc (.cells #[.slice a l.length cap] 24)).alloc (.cells #[.int .i64 num, .int .i64 den, .int .i64 s] 36))) (o : Nat), y.w.frozen? ⟨x.w.heap.size + 1, o, none⟩ = false := fun y o => Since.free (by simp [go_sem]) (by first | (simp; done) | (simp; omega)) y
  have hWup : ∃ z : Since w, ((x.w.alloc (.cells #[.slice a l.length cap] 24)).alloc (.cells #[.int .i64 num, .int .i64 den, .int .i64 s] 36)) = z.w := Since.allocs x [.cells #[.slice a l.length cap] 24, .cells #[.int .i64 num, .int .i64 den, .int .i64 s] 36]
  obtain ⟨y0, hy0⟩ := Since.refl ((x.w.alloc (.cells #[.slice a l.length cap] 24)).alloc (.cells #[.int .i64 num, .int .i64 den, .int .i64 s] 36))
  have Hbx := Lib.hid (And.intro x.b.size (show x.w.heap.size + 2 = ((x.w.alloc (.cells #[.slice a l.length cap] 24)).alloc (.cells #[.int .i64 num, .int .i64 den, .int .i64 s] 36)).heap.size from by simp))
  generalize hW : ((x.w.alloc (.cells #[.slice a l.length cap] 24)).alloc (.cells #[.int .i64 num, .int .i64 den, .int .i64 s] 36)) = W at *
  clear hW
  generalize x.w.heap.size = bx at *
  have Hup := Lib.hid (Since.up hWup)
  rw [hy0]
  clear hy0
  replace hr := hr.to hWup
  replace hs := hs.to hWup
  clear hWup
  by_cases hf : l.length ≤ 40
  · go_wp2_with fail
    refine (few_yes W _ a l.length cap hlen hf).mono ?_
    rintro _ _ ⟨rfl, y, rfl⟩
    go_wp2_with fail
    refine (excess_calls W _ hs a l cap num den s hlen hr).mono ?_
    rintro _ _ ⟨rfl, y, rfl⟩
    go_wp2_with fail
    refine (rexcess_calls W _ a l cap num den s hlen hr).mono ?_
    rintro _ _ ⟨rfl, y, rfl⟩
    go_wp2_with fail
    refine (awake_calls W _ hs).mono ?_
    rintro _ _ ⟨rfl, y, rfl⟩
    go_wp2_with fail
    go_ret
    exact ⟨rfl, Hup.out _⟩
  · go_wp2_with fail
    refine (few_no W _ a l.length cap hlen hf).mono ?_
    rintro _ _ ⟨rfl, y, rfl⟩
    go_wp2_with fail
    refine (awake_calls W _ hs).mono ?_
    rintro _ _ ⟨rfl, y, rfl⟩
    go_wp2_with fail
    go_ret
    exact ⟨rfl, Hup.out _⟩

/-- what Make gives back, whether it fails or not -/
def mkO (r num den : Int) : List Int := if 0 ≤ r ∧ r ≤ 32 ∧ Right num den then mkL num den (r.toNat + 1) else []
def mkE (r num den : Int) : Int := if 0 ≤ r ∧ r ≤ 32 ∧ Right num den then 0 else 1
def MadeP (w : World) (r num den : Int) (e : Ending) (w' : World) : Prop := ∃ a cap, e = .returned (.tuple #[.agg #[.slice a (mkO r num den).length cap], .int .i64 (mkE r num den)]) ∧ (mkO r num den).length ≤ cap ∧ ∃ y : Since w, w' = y.w ∧ IntRow y.w a (mkO r num den)
theorem made_imp {w : World} {r num den : Int} (e : Ending) (w' : World) (h : Made w r num den e w') : MadeP w r num den e w' := by
  unfold Made at h
  unfold MadeP mkO mkE
  split at h
  · rename_i hc
    rw [if_pos hc, if_pos hc]
    obtain ⟨_, rfl, a, cap, rfl, hcap, y, rfl, hr⟩ := h
    exact ⟨a, cap, rfl, hcap, y, rfl, hr⟩
  · rename_i hc
    rw [if_neg hc, if_neg hc]
    obtain ⟨rfl, y, rfl⟩ := h
    exact ⟨none, 0, rfl, Nat.le_refl _, y, rfl, fun i hi => (by simp at hi)⟩
theorem mkO_len (r num den : Int) : (mkO r num den).length ≤ 33 := by
  unfold mkO; split
  · rw [mkL_length]; omega
  · simp

set_option maxHeartbeats 2000000 in
theorem noiseAts_calls (w : World) (x : Since w) (hs : Signs w) (a : Option Addr) (l : List Int) (cap : Nat) (n num den s : Int) (hcap : l.length ≤ cap) (hlen : l.length ≤ 9223372036854775807) (hr : IntRow w a l) :
    Calls Tryd.prog 4 #[.agg #[.slice a l.length cap], .int .i64 n, .agg #[.int .i64 num, .int .i64 den, .int .i64 s]] x.w fun e w' => e = .returned (.bool true) ∧ ∃ y : Since w, w' = y.w := by
  go_enter Tryd.func4, Tryd.ntmps4
  go_upto_region 1 with fail
  have hb0_0 : ∀ y : Since ((x.w.alloc (.cells #[.slice a l.length cap] 24)).alloc (.cells #[.int .i64 num, .int .i64 den, .int .i64 s] 36)), y.w.cell? ⟨x.w.heap.size, 0, none⟩ = some (.slice a l.length cap) := fun y => Since.cell (by simp [go_sem]) (by first | (simp; done) | (simp; omega)) y
  have hf0 : ∀ (y : Since ((x.w.alloc (.cells #[.slice a l.length cap] 24)).alloc (.cells #[.int .i64 num, .int .i64 den, .int .i64 s] 36))) (o : Nat), y.w.frozen? ⟨x.w.heap.size, o, none⟩ = false := fun y o => Since.free (by simp [go_sem]) (by first | (simp; done) | (simp; omega)) y
  have hb1_0 : ∀ y : Since ((x.w.alloc (.cells #[.slice a l.length cap] 24)).alloc (.cells #[.int .i64 num, .int .i64 den, .int .i64 s] 36)), y.w.cell? ⟨x.w.heap.size + 1, 0, none⟩ = some (.int .i64 num) := fun y => Since.cell (by simp [go_sem]) (by first | (simp; done) | (simp; omega)) y
  have hb1_1 : ∀ y : Since ((x.w.alloc (.cells #[.slice a l.length cap] 24)).alloc (.cells #[.int .i64 num, .int .i64 den, .int .i64 s] 36)), y.w.cell? ⟨x.w.heap.size + 1, 1, none⟩ = some (.int .i64 den) := fun y => Since.cell (by simp [go_sem]) (by first | (simp; done) | (simp; omega)) y
  have hb1_2 : ∀ y : Since ((x.w.alloc (.cells #[.slice a l.length cap] 24)).alloc (.cells #[.int .i64 num, .int .i64 den, .int .i64 s] 36)), y.w.cell? ⟨x.w.heap.size + 1, 2, none⟩ = some (.int .i64 s) := fun y => Since.cell (by simp [go_sem]) (by first | (simp; done) | (simp; omega)) y
  have hf1 : ∀ (y : Since ((x.w.alloc (.cells #[.slice a l.length cap] 24)).alloc (.cells #[.int .i64 num, .int .i64 den, .int .i64 s] 36))) (o : Nat), y.w.frozen? ⟨x.w.heap.size + 1, o, none⟩ = false := fun y o => Since.free (by simp [go_sem]) (by first | (simp; done) | (simp; omega)) y
  have hWup : ∃ z : Since w, ((x.w.alloc (.cells #[.slice a l.length cap] 24)).alloc (.cells #[.int .i64 num, .int .i64 den, .int .i64 s] 36)) = z.w := Since.allocs x [.cells #[.slice a l.length cap] 24, .cells #[.int .i64 num, .int .i64 den, .int .i64 s] 36]
  obtain ⟨y0, hy0⟩ := Since.refl ((x.w.alloc (.cells #[.slice a l.length cap] 24)).alloc (.cells #[.int .i64 num, .int .i64 den, .int .i64 s] 36))
  have Hbx := Lib.hid (And.intro x.b.size (show x.w.heap.size + 2 = ((x.w.alloc (.cells #[.slice a l.length cap] 24)).alloc (.cells #[.int .i64 num, .int .i64 den, .int .i64 s] 36)).heap.size from by simp))
  generalize hW : ((x.w.alloc (.cells #[.slice a l.length cap] 24)).alloc (.cells #[.int .i64 num, .int .i64 den, .int .i64 s] 36)) = W at *
  clear hW
  generalize x.w.heap.size = bx at *
  have Hup := Lib.hid (Since.up hWup)
  rw [hy0]
  clear hy0
  replace hr := hr.to hWup
  replace hs := hs.to hWup
  clear hWup
  by_cases hf : l.length ≤ 40
  · go_wp2_with fail
    refine (few_yes W _ a l.length cap hlen hf).mono ?_
    rintro _ _ ⟨rfl, y, rfl⟩
    go_wp2_with fail
    refine (at_calls W _ hs a l cap n hcap hlen hr).mono ?_
    rintro _ _ ⟨rfl, y, rfl⟩
    go_wp2_with fail
    refine (rat_calls W _ a l cap n hlen hr).mono ?_
    rintro _ _ ⟨rfl, y, rfl⟩
    go_wp2_with fail
    refine (make_calls W y s num den).mono fun e w' h => ?_
    obtain ⟨a1, c1, rfl, hc1, y, rfl, hr1⟩ := made_imp e w' h
    clear h
    have hl1 := mkO_len s num den
    go_upto_region 6 with fail
    have hcell0 : (y.w.alloc (.cells #[.slice a1 (mkO s num den).length c1] 24)).cell? ⟨y.w.heap.size, 0, none⟩ = some (.slice a1 (mkO s num den).length c1) := by simp [go_sem]
    have hlt0 : y.w.heap.size < (y.w.alloc (.cells #[.slice a1 (mkO s num den).length c1] 24)).heap.size := by simp
    have hst0 : ∃ zz : Since y.w, y.w.alloc (.cells #[.slice a1 (mkO s num den).length c1] 24) = zz.w := ⟨⟨_, below_new _ _⟩, rfl⟩
    obtain ⟨y2, e2⟩ := y.alloc (.cells #[.slice a1 (mkO s num den).length c1] 24)
    rw [e2] at hcell0 hlt0 hst0 ⊢
    replace hr1 := hr1.to hst0
    clear e2 hst0
    generalize y.w.heap.size = g1 at *
    have hbox1 : ∀ q : Since y2.w, q.w.cell? ⟨g1, 0, none⟩ = some (.slice a1 (mkO s num den).length c1) := fun q => Since.cell hcell0 hlt0 q
    clear hcell0 hlt0
    replace hb0_0 : ∀ (y : Since y2.w), y.w.cell? ⟨bx, 0, none⟩ = some (.slice a l.length cap) := fun y => by obtain ⟨z, e⟩ := y2.trans y; rw [e]; exact hb0_0 z
    replace hb1_0 : ∀ (y : Since y2.w), y.w.cell? ⟨bx + 1, 0, none⟩ = some (.int .i64 num) := fun y => by obtain ⟨z, e⟩ := y2.trans y; rw [e]; exact hb1_0 z
    replace hb1_1 : ∀ (y : Since y2.w), y.w.cell? ⟨bx + 1, 1, none⟩ = some (.int .i64 den) := fun y => by obtain ⟨z, e⟩ := y2.trans y; rw [e]; exact hb1_1 z
    replace hb1_2 : ∀ (y : Since y2.w), y.w.cell? ⟨bx + 1, 2, none⟩ = some (.int .i64 s) := fun y => by obtain ⟨z, e⟩ := y2.trans y; rw [e]; exact hb1_2 z
    replace hf0 : ∀ (y : Since y2.w) (o : Nat), y.w.frozen? ⟨bx, o, none⟩ = false := fun y o => by obtain ⟨z, e⟩ := y2.trans y; rw [e]; exact hf0 z o
    replace hf1 : ∀ (y : Since y2.w) (o : Nat), y.w.frozen? ⟨bx + 1, o, none⟩ = false := fun y o => by obtain ⟨z, e⟩ := y2.trans y; rw [e]; exact hf1 z o
    replace hr := hr.to ⟨y2, rfl⟩
    replace hs := hs.to ⟨y2, rfl⟩
    obtain ⟨q0, hq0⟩ := Since.refl y2.w
    rw [hq0]
    clear hq0
    go_wp2_with fail
    refine (rmake_calls y2.w q0 s num den).mono fun e w' h => ?_
    obtain ⟨a2, c2, rfl, hc2, z, rfl, hr2⟩ := made_imp e w' h
    clear h
    go_upto_region 7 with fail
    have hcell0 : (z.w.alloc (.cells #[.slice a2 (mkO s num den).length c2] 24)).cell? ⟨z.w.heap.size, 0, none⟩ = some (.slice a2 (mkO s num den).length c2) := by simp [go_sem]
    have hlt0 : z.w.heap.size < (z.w.alloc (.cells #[.slice a2 (mkO s num den).length c2] 24)).heap.size := by simp
    have hst0 : ∃ zz : Since z.w, z.w.alloc (.cells #[.slice a2 (mkO s num den).length c2] 24) = zz.w := ⟨⟨_, below_new _ _⟩, rfl⟩
    obtain ⟨y3, e2⟩ := z.alloc (.cells #[.slice a2 (mkO s num den).length c2] 24)
    rw [e2] at hcell0 hlt0 hst0 ⊢
    replace hr2 := hr2.to hst0
    clear e2 hst0
    generalize z.w.heap.size = g2 at *
    have hbox2 : ∀ q : Since y3.w, q.w.cell? ⟨g2, 0, none⟩ = some (.slice a2 (mkO s num den).length c2) := fun q => Since.cell hcell0 hlt0 q
    clear hcell0 hlt0
    replace hr1 := hr1.to ⟨y3, rfl⟩
    replace hs := hs.to ⟨y3, rfl⟩
    replace hbox1 : ∀ q : Since y3.w, q.w.cell? ⟨g1, 0, none⟩ = some (.slice a1 (mkO s num den).length c1) := fun q => by obtain ⟨z, e⟩ := y3.trans q; rw [e]; exact hbox1 z
    obtain ⟨q0, hq0⟩ := Since.refl y3.w
    rw [hq0]
    clear hq0
    have hsame := same_calls y3.w q0 a1 a2 (mkO s num den) (mkO s num den) c1 c2 (by omega) (by omega) hr1 hr2
    rw [decide_eq_true rfl] at hsame
    have Hsame := Lib.hid hsame; clear hsame
    go_wp2_with fail
    refine Hsame.out.mono ?_
    rintro _ _ ⟨rfl, q, rfl⟩
    go_wp2_with fail
    refine (awake_calls y3.w q hs).mono ?_
    rintro _ _ ⟨rfl, q, rfl⟩
    go_wp2_with fail
    go_ret
    exact ⟨rfl, by obtain ⟨u, e⟩ := y3.trans q; rw [e]; obtain ⟨v, e⟩ := y2.trans u; rw [e]; exact Hup.out v⟩
  · go_wp2_with fail
    refine (few_no W _ a l.length cap hlen hf).mono ?_
    rintro _ _ ⟨rfl, y, rfl⟩
    go_wp2_with fail
    refine (awake_calls W _ hs).mono ?_
    rintro _ _ ⟨rfl, y, rfl⟩
    go_wp2_with fail
    go_ret
    exact ⟨rfl, Hup.out _⟩
end Go.Proofs.YtmobdlddfoaocaaDoor
