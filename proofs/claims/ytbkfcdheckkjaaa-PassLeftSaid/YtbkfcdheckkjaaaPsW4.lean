/- The walks of passes, fourth part: what compares two rides; the sort. -/
import Derived.Test.YtbkfcdheckkjaaaPsW3
import Derived.Test.YtbkfcdheckkjaaaPsGr
set_option linter.all false
namespace Go.Proofs.Ytbkfcdheckkjaaa
open Go.RowKit Go.ChangeMaps Go.Sort

def rcmp (a b : Ride) : Int := if bef a b then -1 else if bef b a then 1 else 0
/-- the first number that is not 0 -/
def orI (l : List Int) : Int := (l.find? fun x => x != 0).getD 0
theorem orI_at {l : List Int} {k : Nat} {x : Int} (hx : l[k]? = some x) (h0 : x ≠ 0) (hn : ∀ j, j < k → at0 l j = 0) : orI l = x := by
  unfold orI
  have : l.find? (fun x => x != 0) = some x := by
    rw [List.find?_eq_some_iff_getElem]
    refine ⟨by simpa using h0, k, (List.getElem?_eq_some_iff.1 hx).1, (List.getElem?_eq_some_iff.1 hx).2, fun j hj => ?_⟩
    have hlt : j < l.length := by have := (List.getElem?_eq_some_iff.1 hx).1; omega
    have := hn j hj
    unfold at0 at this
    rw [List.getD_eq_getElem?_getD, List.getElem?_eq_getElem hlt] at this
    have h2 : l[j] = 0 := this
    simp [h2]
  rw [this]; rfl
theorem orI_none {l : List Int} (hn : ∀ j, j < l.length → at0 l j = 0) : orI l = 0 := by
  unfold orI
  have : l.find? (fun x => x != 0) = none := by
    rw [List.find?_eq_none]
    intro x hx
    obtain ⟨j, hj⟩ := List.mem_iff_getElem?.1 hx
    have := hn j (List.getElem?_eq_some_iff.1 hj).1
    unfold at0 at this
    rw [List.getD_eq_getElem?_getD, hj] at this
    have h2 : x = 0 := this
    simp [h2]
  rw [this]; rfl
set_option maxHeartbeats 4000000 in
theorem or_calls (w : World) (a : Option Addr) (l : List Int) (c : Nat) (h : IntRow w a l) (hl : l.length ≤ 9223372036854775807) :
    Calls Try.prog 38 #[.slice a l.length c] w fun e w' => e = .returned (.int .i64 (orI l)) ∧ w = w' := by
  have H := Lib.hid h
  clear h
  go_enter Try.func38, Try.ntmps38
  go_wp2_with fail
  go_loop [8] (fun i => ∃ k : Nat, k ≤ l.length ∧ i = .int .i64 k ∧ ∀ j, j < k → at0 l j = 0) (fun i => l.length - (intOf i).toNat)
  case atStart => exact ⟨0, by omega, rfl, fun j hj => by omega⟩
  case round =>
    obtain ⟨k, hk, rfl, hok⟩ := hrel
    have Hok := Lib.hid hok; clear hok
    by_cases hlt : k < l.length
    · obtain ⟨b, off, rfl, hb, hc⟩ := H.out k hlt
      change w.cell? ⟨b, off + k, none⟩ = some (.int .i64 (at0 l k)) at hc
      have hk0 : (0 : Int) ≤ (k : Int) := by omega
      have hkl : (k : Int) < (l.length : Int) := by omega
      have hx : l[k]? = some (at0 l k) := by unfold at0; rw [List.getD_eq_getElem?_getD, List.getElem?_eq_getElem hlt]; rfl
      have Hx := Lib.hid hx
      clear hb hx
      by_cases h0 : at0 l k = 0
      · have Hn := Lib.hid (show ∀ j, j < k + 1 → at0 l j = 0 from fun j hj => by
          by_cases hjk : j < k
          · exact Hok.out j hjk
          · obtain rfl : j = k := by omega
            exact h0)
        rw [h0] at hc
        clear h0
        go_wp2_with fail
        go_round
        case rel => exact ⟨k + 1, by omega, by go_num, Hn.out⟩
        case measure => simp [intOf] <;> omega
      · have Hr := Lib.hid (orI_at Hx.out h0 Hok.out)
        have hne : (at0 l k != 0) = true := by simpa using h0
        clear h0
        generalize at0 l k = v at *
        go_wp2_with fail
        go_ret
        exact ⟨ret_int Hr.out.symm, rfl⟩
    · obtain rfl : k = l.length := by omega
      have Hr := Lib.hid (orI_none Hok.out)
      go_wp2_with fail
      go_ret
      exact ⟨ret_int Hr.out.symm, rfl⟩
theorem or3_calls (w : World) (x y z : Int) (T : TypeId) :
    Calls Try.prog 38 #[.slice (some ⟨w.heap.size, 0, none⟩) 3 3] (w.alloc (.cells #[.int .i64 x, .int .i64 y, .int .i64 z] T)) fun e w' => e = .returned (.int .i64 (orI [x, y, z])) ∧ w.alloc (.cells #[.int .i64 x, .int .i64 y, .int .i64 z] T) = w' := by
  refine or_calls _ _ [x, y, z] 3 ?_ (by simp)
  intro i hi
  refine ⟨w.heap.size, 0, rfl, by simp, ?_⟩
  have := cell_new_at w [Value.int .i64 x, Value.int .i64 y, Value.int .i64 z] T i (.int .i64 (at0 [x, y, z] i)) (by
    match i, hi with
    | 0, _ => rfl
    | 1, _ => rfl
    | 2, _ => rfl)
  rw [Addr.add_lit] at this
  exact this
theorem or3d_calls (w : World) (x y z : Int) (T : TypeId) :
    Calls Try.prog 38 #[.slice (some ⟨w.heap.size, 0, none⟩) 3 3] (w.alloc (.cells #[.int .i64 x, .int .i64 y, .int .i64 z] T)).drew fun e w' => e = .returned (.int .i64 (orI [x, y, z])) ∧ (w.alloc (.cells #[.int .i64 x, .int .i64 y, .int .i64 z] T)).drew = w' := by
  refine or_calls _ _ [x, y, z] 3 ?_ (by simp)
  intro i hi
  refine ⟨w.heap.size, 0, rfl, by simp [World.drew], ?_⟩
  have := cell_new_at w [Value.int .i64 x, Value.int .i64 y, Value.int .i64 z] T i (.int .i64 (at0 [x, y, z] i)) (by
    match i, hi with
    | 0, _ => rfl
    | 1, _ => rfl
    | 2, _ => rfl)
  rw [Addr.add_lit] at this
  exact this
theorem rcmp_or (u v : Ride) : orI [ccmp u.s0 v.s0, ccmp u.e0 v.e0, ccmp u.id v.id] = rcmp u v := by
  unfold rcmp
  have h1 := bef_iff u v
  have h2 := bef_iff v u
  unfold orI ccmp
  cases hb : bef u v
  · have n1 : ¬ bef u v = true := by rw [hb]; simp
    rw [h1] at n1
    cases hb2 : bef v u
    · have n2 : ¬ bef v u = true := by rw [hb2]; simp
      rw [h2] at n2
      have e1 : u.s0 = v.s0 := by omega
      have e2 : u.e0 = v.e0 := by omega
      have e3 : u.id = v.id := by omega
      simp [e1, e2, e3]
    · rw [h2] at hb2
      rcases hb2 with h | ⟨h, h' | ⟨h', h''⟩⟩
      · simp [show ¬ u.s0 < v.s0 by omega, h]
      · simp [h, h', show ¬ u.e0 < v.e0 by omega]
      · simp [h, h', h'', show ¬ u.id < v.id by omega]
  · rw [h1] at hb
    rcases hb with h | ⟨h, h' | ⟨h', h''⟩⟩
    · simp [h]
    · simp [h, h']
    · simp [h, h', h'']
theorem two_boxes (W : World) (U V : List Value) (T : TypeId) : Gr W (((W.alloc (.cells U.toArray T)).alloc (.cells V.toArray T)).drew) ∧
    (∀ j c, U[j]? = some c → (((W.alloc (.cells U.toArray T)).alloc (.cells V.toArray T)).drew).cell? ⟨W.heap.size, j, none⟩ = some c) ∧
    (∀ j c, V[j]? = some c → (((W.alloc (.cells U.toArray T)).alloc (.cells V.toArray T)).drew).cell? ⟨W.heap.size + 1, j, none⟩ = some c) := by
  refine ⟨Gr.drew' (Gr.alloc' (Gr.alloc W _) _), fun j c hc => ?_, fun j c hc => ?_⟩
  · have h := cell_new_at W U T j c hc
    rw [Addr.add_lit, Nat.zero_add] at h
    exact Gr.cell h (Gr.drew' (Gr.alloc _ _))
  · have h := cell_new_at (W.alloc (.cells U.toArray T)) V T j c hc
    rw [Addr.add_lit, Nat.zero_add] at h
    have hs : (W.alloc (.cells U.toArray T)).heap.size = W.heap.size + 1 := by simp
    rw [hs] at h
    exact Gr.cell h (Gr.drew' (Gr.refl _))
set_option maxRecDepth 100000 in
set_option maxHeartbeats 8000000 in
theorem cmp_calls (W : World) (bx : Nat) (a : Option Addr) (c : Nat) (R : List Ride) (i k : Nat) (u v : Ride) (hb : W.cell? ⟨bx, 0, none⟩ = some (.slice a R.length c)) (hR : Els Ride.cs 13 W a R) (hi : R[i]? = some u) (hk : R[k]? = some v) (hRl : R.length ≤ 9223372036854775807) :
    Calls Try.prog 37 #[.int .i64 i, .int .i64 k, .pointer (some ⟨bx, 0, none⟩)] W fun e w' => e = .returned (.int .i64 (rcmp u v)) ∧ Gr W w' := by
  obtain ⟨b1, off1, rfl, h1⟩ := Els.ride hR hi
  obtain ⟨b2, off2, hbo, h2⟩ := Els.ride hR hk
  obtain ⟨rfl, rfl⟩ : b1 = b2 ∧ off1 = off2 := by simpa using hbo
  have hi0 : (0 : Int) ≤ (i : Int) := by omega
  have hk0 : (0 : Int) ≤ (k : Int) := by omega
  have hil : (i : Int) < (R.length : Int) := by have := (List.getElem?_eq_some_iff.1 hi).1; omega
  have hkl : (k : Int) < (R.length : Int) := by have := (List.getElem?_eq_some_iff.1 hk).1; omega
  have kb : ∀ w', Gr W w' → w'.cell? ⟨bx, 0, none⟩ = some (.slice (some ⟨b1, off1, none⟩) R.length c) := fun _ h => Gr.cell hb h
  have ka0 := fun w' (h : Gr W w') => Gr.cell (h1.c0 (Since.self W)) h
  have ka1 := fun w' (h : Gr W w') => Gr.cell (h1.c1 (Since.self W)) h
  have ka2 := fun w' (h : Gr W w') => Gr.cell (h1.c2 (Since.self W)) h
  have ka3 := fun w' (h : Gr W w') => Gr.cell (h1.c3 (Since.self W)) h
  have ka4 := fun w' (h : Gr W w') => Gr.cell (h1.c4 (Since.self W)) h
  have ka5 := fun w' (h : Gr W w') => Gr.cell (h1.c5 (Since.self W)) h
  have ka6 := fun w' (h : Gr W w') => Gr.cell (h1.c6 (Since.self W)) h
  have ka7 := fun w' (h : Gr W w') => Gr.cell (h1.c7 (Since.self W)) h
  have ka8 := fun w' (h : Gr W w') => Gr.cell (h1.c8 (Since.self W)) h
  have ka9 := fun w' (h : Gr W w') => Gr.cell (h1.c9 (Since.self W)) h
  have ka10 := fun w' (h : Gr W w') => Gr.cell (h1.c10 (Since.self W)) h
  have ka11 := fun w' (h : Gr W w') => Gr.cell (h1.c11 (Since.self W)) h
  have ka12 := fun w' (h : Gr W w') => Gr.cell (h1.c12 (Since.self W)) h
  have kc0 := fun w' (h : Gr W w') => Gr.cell (h2.c0 (Since.self W)) h
  have kc1 := fun w' (h : Gr W w') => Gr.cell (h2.c1 (Since.self W)) h
  have kc2 := fun w' (h : Gr W w') => Gr.cell (h2.c2 (Since.self W)) h
  have kc3 := fun w' (h : Gr W w') => Gr.cell (h2.c3 (Since.self W)) h
  have kc4 := fun w' (h : Gr W w') => Gr.cell (h2.c4 (Since.self W)) h
  have kc5 := fun w' (h : Gr W w') => Gr.cell (h2.c5 (Since.self W)) h
  have kc6 := fun w' (h : Gr W w') => Gr.cell (h2.c6 (Since.self W)) h
  have kc7 := fun w' (h : Gr W w') => Gr.cell (h2.c7 (Since.self W)) h
  have kc8 := fun w' (h : Gr W w') => Gr.cell (h2.c8 (Since.self W)) h
  have kc9 := fun w' (h : Gr W w') => Gr.cell (h2.c9 (Since.self W)) h
  have kc10 := fun w' (h : Gr W w') => Gr.cell (h2.c10 (Since.self W)) h
  have kc11 := fun w' (h : Gr W w') => Gr.cell (h2.c11 (Since.self W)) h
  have kc12 := fun w' (h : Gr W w') => Gr.cell (h2.c12 (Since.self W)) h
  clear hbo h1 h2 hi hk hR hb
  go_enter Try.func37, Try.ntmps37
  go_upto_region 1 with fail
  go_region_held3 (fun w' => Gr W w') (first | assumption | exact Gr.drew' (Gr.refl _) | exact Gr.alloc' (Gr.drew' (Gr.refl _)) _ | exact Gr.alloc' (Gr.alloc' (Gr.drew' (Gr.refl _)) _) _) (fail)
  all_goals go_upto_region 2 with fail
  · obtain ⟨hG, hu, hv⟩ := two_boxes W [.int .i64 u.id, .int .i64 u.rd, .int .i64 u.s0, .int .i64 u.s1, .int .i64 u.e0, .int .i64 u.e1, .bool u.op, .slice u.la u.legs.length u.lc, .slice u.pa u.pauses.length u.pc, .int .i64 u.fw, .int .i64 u.fp, .int .i64 u.wh, .int .i64 u.pl] [.int .i64 v.id, .int .i64 v.rd, .int .i64 v.s0, .int .i64 v.s1, .int .i64 v.e0, .int .i64 v.e1, .bool v.op, .slice v.la v.legs.length v.lc, .slice v.pa v.pauses.length v.pc, .int .i64 v.fw, .int .i64 v.fp, .int .i64 v.wh, .int .i64 v.pl] 44
    have a0 := hu 0 _ rfl
    have a2 := hu 2 _ rfl
    have a4 := hu 4 _ rfl
    have c0 := hv 0 _ rfl
    have c2 := hv 2 _ rfl
    have c4 := hv 4 _ rfl
    clear hu hv kb
    clear ka0 ka1 ka2 ka3 ka4 ka5 ka6 ka7 ka8 ka9 ka10 ka11 ka12 kc0 kc1 kc2 kc3 kc4 kc5 kc6 kc7 kc8 kc9 kc10 kc11 kc12
    generalize (World.drew (World.alloc (World.alloc W _) _)) = X at *
    generalize W.heap.size + 1 = g2 at *
    generalize W.heap.size = g1 at *
    have HG := Lib.hid hG
    have Hor := Lib.hid (rcmp_or u v)
    have k1 : ∀ w', Gr X w' → w'.cell? ⟨g1, 0, none⟩ = some (.int .i64 u.id) := fun _ h => Gr.cell a0 h
    have k2 : ∀ w', Gr X w' → w'.cell? ⟨g1, 2, none⟩ = some (.int .i64 u.s0) := fun _ h => Gr.cell a2 h
    have k3 : ∀ w', Gr X w' → w'.cell? ⟨g1, 4, none⟩ = some (.int .i64 u.e0) := fun _ h => Gr.cell a4 h
    have k4 : ∀ w', Gr X w' → w'.cell? ⟨g2, 0, none⟩ = some (.int .i64 v.id) := fun _ h => Gr.cell c0 h
    have k5 : ∀ w', Gr X w' → w'.cell? ⟨g2, 2, none⟩ = some (.int .i64 v.s0) := fun _ h => Gr.cell c2 h
    have k6 : ∀ w', Gr X w' → w'.cell? ⟨g2, 4, none⟩ = some (.int .i64 v.e0) := fun _ h => Gr.cell c4 h
    clear hG a0 a2 a4 c0 c2 c4
    go_region_held3 (fun w' => Gr X w') (first | assumption | exact Gr.drew' (Gr.refl _) | exact Gr.alloc' (by assumption) _ | exact Gr.alloc' (Gr.drew' (Gr.refl _)) _) (first | (go_at_call 39; ((with_reducible refine (ccmp_calls _ _ _).mono ?_); rintro _ _ ⟨rfl, rfl⟩)) | (go_at_call 38; ((with_reducible refine (or3d_calls _ _ _ _ _).mono ?_); rintro _ _ ⟨rfl, rfl⟩)))
    go_wp2_with fail
    go_ret
    exact ⟨ret_int Hor.out, HG.out.trans (by first | assumption | exact Gr.alloc' (Gr.drew' (Gr.refl _)) _ | exact Gr.drew' (Gr.alloc' (Gr.refl _) _))⟩
  · obtain ⟨hG, hv, hu⟩ := two_boxes W [.int .i64 v.id, .int .i64 v.rd, .int .i64 v.s0, .int .i64 v.s1, .int .i64 v.e0, .int .i64 v.e1, .bool v.op, .slice v.la v.legs.length v.lc, .slice v.pa v.pauses.length v.pc, .int .i64 v.fw, .int .i64 v.fp, .int .i64 v.wh, .int .i64 v.pl] [.int .i64 u.id, .int .i64 u.rd, .int .i64 u.s0, .int .i64 u.s1, .int .i64 u.e0, .int .i64 u.e1, .bool u.op, .slice u.la u.legs.length u.lc, .slice u.pa u.pauses.length u.pc, .int .i64 u.fw, .int .i64 u.fp, .int .i64 u.wh, .int .i64 u.pl] 44
    have a0 := hu 0 _ rfl
    have a2 := hu 2 _ rfl
    have a4 := hu 4 _ rfl
    have c0 := hv 0 _ rfl
    have c2 := hv 2 _ rfl
    have c4 := hv 4 _ rfl
    clear hu hv kb
    clear ka0 ka1 ka2 ka3 ka4 ka5 ka6 ka7 ka8 ka9 ka10 ka11 ka12 kc0 kc1 kc2 kc3 kc4 kc5 kc6 kc7 kc8 kc9 kc10 kc11 kc12
    generalize (World.drew (World.alloc (World.alloc W _) _)) = X at *
    generalize W.heap.size + 1 = g2 at *
    generalize W.heap.size = g1 at *
    have HG := Lib.hid hG
    have Hor := Lib.hid (rcmp_or u v)
    have k1 : ∀ w', Gr X w' → w'.cell? ⟨g1, 0, none⟩ = some (.int .i64 v.id) := fun _ h => Gr.cell c0 h
    have k2 : ∀ w', Gr X w' → w'.cell? ⟨g1, 2, none⟩ = some (.int .i64 v.s0) := fun _ h => Gr.cell c2 h
    have k3 : ∀ w', Gr X w' → w'.cell? ⟨g1, 4, none⟩ = some (.int .i64 v.e0) := fun _ h => Gr.cell c4 h
    have k4 : ∀ w', Gr X w' → w'.cell? ⟨g2, 0, none⟩ = some (.int .i64 u.id) := fun _ h => Gr.cell a0 h
    have k5 : ∀ w', Gr X w' → w'.cell? ⟨g2, 2, none⟩ = some (.int .i64 u.s0) := fun _ h => Gr.cell a2 h
    have k6 : ∀ w', Gr X w' → w'.cell? ⟨g2, 4, none⟩ = some (.int .i64 u.e0) := fun _ h => Gr.cell a4 h
    clear hG a0 a2 a4 c0 c2 c4
    go_region_held3 (fun w' => Gr X w') (first | assumption | exact Gr.drew' (Gr.refl _) | exact Gr.alloc' (by assumption) _ | exact Gr.alloc' (Gr.drew' (Gr.refl _)) _) (first | (go_at_call 39; ((with_reducible refine (ccmp_calls _ _ _).mono ?_); rintro _ _ ⟨rfl, rfl⟩)) | (go_at_call 38; ((with_reducible refine (or3d_calls _ _ _ _ _).mono ?_); rintro _ _ ⟨rfl, rfl⟩)))
    go_wp2_with fail
    go_ret
    exact ⟨ret_int Hor.out, HG.out.trans (by first | assumption | exact Gr.alloc' (Gr.drew' (Gr.refl _)) _ | exact Gr.drew' (Gr.alloc' (Gr.refl _) _))⟩
end Go.Proofs.Ytbkfcdheckkjaaa
