/- The reference of windows, sixth part: the difference. -/
import Derived.Test.YtnkmngkinjjbfaaDoorClR5
set_option linter.all false
namespace Go.Proofs.YtnkmngkinjjbfaaDoor
open Go.RowKit

set_option maxRecDepth 100000 in
set_option maxHeartbeats 8000000 in
theorem rminus_calls (w : World) (x : Since w) (pa : Option Addr) (a : List Win) (ca : Nat) (pb : Option Addr) (b : List Win) (cb : Nat) (ha : WinRow w pa a) (hb : WinRow w pb b) (hla : a.length ≤ 100000) (hlb : b.length ≤ 100000) :
    Calls Tryd.prog 30 #[.slice pa a.length ca, .slice pb b.length cb] x.w (SetRes w (MinOk a b) (setE a b)) := by
  have HA := Lib.hid (runion_calls w x pa a ca ha hla)
  have HB := Lib.hid (fun y : Since w => runion_calls y.w (Since.self _) pb b cb (Since.els hb y) hlb)
  have Hse := Lib.hid (show setE a b = if badW a || badW b then 1 else 0 from rfl)
  clear ha hb
  by_cases hgood : badW a = false ∧ badW b = false
  case neg =>
    have hbd : (badW a || badW b) = true := by
      cases h1 : badW a
      · cases h2 : badW b
        · exact (hgood ⟨h1, h2⟩).elim
        · rfl
      · rfl
    have H1 := Lib.hid (show ∀ y : Since w, SetRes w (MinOk a b) (setE a b) (.returned (.tuple #[.slice none 0 0, .int .i64 1])) y.w from fun y => by
      rw [Hse.out, hbd]; exact setRes_nil ⟨fun h => by rw [hbd] at h; (cases h), fun _ => rfl, by simp⟩ y)
    have Hu := Lib.hid (show unE a = if badW a then 1 else 0 from rfl)
    have Hv := Lib.hid (show unE b = if badW b then 1 else 0 from rfl)
    have hc : (unE a = 1 ∧ (unE b = 0 ∨ unE b = 1)) ∨ (unE a = 0 ∧ unE b = 1) := by
      rw [Hu.out, Hv.out]
      revert hbd
      cases badW a <;> cases badW b <;> simp
    generalize SetRes w (MinOk a b) (setE a b) = PO at *
    clear hbd hgood Hu Hv Hse
    rcases hc with ⟨hu, hv | hv⟩ | ⟨hu, hv⟩
    all_goals
      rw [hu] at HA
      rw [hv] at HB
      clear hu hv
      go_enter Tryd.func30, Tryd.ntmps30
      go_wp2_with fail
      refine HA.out.mono ?_
      rintro _ _ ⟨ax, cx, u, y1, rfl, rfl, _⟩
      go_wp2_with fail
      refine (HB.out y1).mono ?_
      rintro _ _ ⟨ay, cy, v, z1, rfl, rfl, _⟩
      obtain ⟨y2, h2⟩ := y1.trans z1
      rw [h2]
      clear h2
      go_wp2_with fail
      exact H1.out y2
  case pos =>
    obtain ⟨hba, hbb⟩ := hgood
    have hbd : (badW a || badW b) = false := by rw [hba, hbb]; rfl
    have HP := Lib.hid (show ∀ (p : Option Addr) (cap : Nat) (u : List Win) (y : Since w), WinRow y.w p u → u.length ≤ cap → IsSet u (fun t => hasW a t && !hasW b t) → u.length ≤ a.length * (b.length + 1) → SetRes w (MinOk a b) (setE a b) (.returned (.tuple #[.slice p u.length cap, .int .i64 0])) y.w from fun p cap u y h1 h2 h3 h4 => by
      rw [Hse.out, hbd]; exact ⟨p, cap, u, y, rfl, rfl, h1, h2, ⟨fun _ => h3, fun h => by rw [hbd] at h; (cases h), h4⟩⟩)
    have Hba := Lib.hid (And.intro hba hbb)
    have hu0 : unE a = 0 := by unfold unE; rw [hba]; rfl
    have hv0 : unE b = 0 := by unfold unE; rw [hbb]; rfl
    rw [hu0] at HA
    rw [hv0] at HB
    generalize SetRes w (MinOk a b) (setE a b) = PO at *
    clear hbd hba hbb hu0 hv0 Hse
    go_enter Tryd.func30, Tryd.ntmps30
    go_wp2_with fail
    refine HA.out.mono ?_
    rintro _ _ ⟨ax, cx, U, y0, rfl, rfl, hU, hcx, hUo⟩
    have HU0 := Lib.hid hU; have HUo := Lib.hid hUo
    clear hU hUo hcx
    go_wp2_with fail
    refine (HB.out y0).mono ?_
    rintro _ _ ⟨ay, cy, V, z1, rfl, rfl, hV, hcy, hVo⟩
    have hlU := HUo.out.n
    have hlV := hVo.n
    have hsU := HUo.out.ok Hba.out.1
    have hsV := hVo.ok Hba.out.2
    have Hhas := Lib.hid (And.intro hsU.h hsV.h)
    have HnU := Lib.hid hsU.n; have HnV := Lib.hid hsV.n
    have HU1 := Lib.hid (Since.els HU0.out z1); have HV1 := Lib.hid hV
    obtain ⟨y1, h1⟩ := y0.trans z1
    rw [h1] at HU1 HV1 ⊢
    obtain ⟨nu, hnu⟩ : ∃ nu, nu = U.length := ⟨_, rfl⟩
    obtain ⟨M, hM⟩ : ∃ M, M = V.length := ⟨_, rfl⟩
    have Hmul := Lib.hid (Nat.mul_le_mul hlU (Nat.succ_le_succ hlV))
    simp only [Nat.succ_eq_add_one] at Hmul
    rw [← hnu, ← hM] at Hmul ⊢
    rw [← hnu] at hlU
    rw [← hM] at hlV
    have Hnu := Lib.hid hnu; have HM := Lib.hid hM
    have hnu2 : nu ≤ 100000 := by omega
    have hM2 : M ≤ 100000 := by omega
    clear HU0 HUo hVo hsU hsV hV h1 hnu hM hcy
    go_wp2_with fail
    go_loopw [10, 11] (fun so si wr => ∃ (k : Nat) (out : List Win) (y : Since y1.w), k ≤ nu ∧ si = .int .i64 k ∧ wr = y.w ∧ y.w.ownsRow y1.w.heap.size 30 2 so out.length (flat Win.cs out) ∧ MinO V (U.take k) (U.drop k) out ∧ out.length ≤ k * (M + 1)) (fun _ si _ => nu - (intOf si).toNat)
    case atStart => exact ⟨0, [], Since.self _, by omega, rfl, rfl, ⟨rfl, .inl ⟨rfl, rfl⟩⟩, minO_start V U, by simp⟩
    case round =>
      obtain ⟨k, out, y, hk, rfl, rfl, hown, hO, hlen⟩ := hrel
      have Hown := Lib.hid hown; have HO := Lib.hid hO
      clear hown hO
      by_cases hlt : k < nu
      · obtain ⟨e, he⟩ : ∃ e, U[k]? = some e := ⟨_, List.getElem?_eq_getElem (by have := Hnu.out; omega)⟩
        have hk0 : (0 : Int) ≤ (k : Int) := by omega
        have hkl : (k : Int) < (nu : Int) := by omega
        have hklb : decide ((k : Int) < (nu : Int)) = true := decide_eq_true hkl
        have hdk : U.drop k = e :: U.drop (k + 1) := by
          have h1 := List.getElem?_eq_some_iff.1 he
          rw [← h1.2, ← List.drop_eq_getElem_cons h1.1]
        have htk : U.take (k + 1) = U.take k ++ [e] := by rw [List.take_add_one, he]; rfl
        rw [hdk] at HO
        have Hev := Lib.hid (HnU.out.v e (List.mem_of_getElem? he))
        have HeU := Lib.hid (show Norm (e :: U.drop (k + 1)) by rw [← hdk]; exact HnU.out.drop k)
        have Htk := Lib.hid htk
        have HI0 := Lib.hid (HO.out.enter Hev.out.2.1)
        have He := Lib.hid he
        obtain ⟨KB, hKB⟩ : ∃ KB, KB = k * (M + 1) := ⟨_, rfl⟩
        have hKB2 : KB ≤ 10000100000 := by
          rw [hKB]
          calc k * (M + 1) ≤ 100000 * 100001 := Nat.mul_le_mul (by omega) (by omega)
            _ = 10000100000 := rfl
        rw [← hKB] at hlen
        have HKB := Lib.hid (show (k + 1) * (M + 1) = KB + (M + 1) by rw [hKB, Nat.succ_mul])
        obtain ⟨b1, off1, rfl, h1'⟩ := Els.win HU1.out he
        have ra0 := h1'.c0
        have ra1 := h1'.c1
        clear hdk htk hKB HO he h1'
        go_wp2_with fail
        clear ra0 ra1
        go_loopw [10, 12, 13] (fun so sa si wr => ∃ (j : Nat) (at_ : Int) (out : List Win) (y : Since y1.w), j ≤ M ∧ si = .int .i64 j ∧ sa = .int .i64 at_ ∧ wr = y.w ∧ y.w.ownsRow y1.w.heap.size 30 2 so out.length (flat Win.cs out) ∧ MinI (fun t => hasW (U.take k) t && !hasW V t) (hasW V) e at_ out ∧ Past e at_ (V.take j) ∧ out.length ≤ KB + j) (fun _ _ si _ => M - (intOf si).toNat)
        case atStart => exact ⟨0, e.f, out, y, by omega, rfl, rfl, rfl, Hown.out, HI0.out, (fun c hc => by simp at hc), by omega⟩
        case round =>
          clear Hown HI0 hlen
          obtain ⟨j, at_, out, y, hj, rfl, rfl, rfl, hown, hI, hPs, hlen⟩ := hrel
          have Hown := Lib.hid hown; have HI := Lib.hid hI; have HPs := Lib.hid hPs
          clear hown hI hPs
          have hol : out.length ≤ 10000200000 := by omega
          obtain ⟨b3, off3, hbo3, h3'⟩ := Els.win (Since.els HU1.out y) He.out
          simp only [Option.some.injEq, Addr.mk.injEq, and_true] at hbo3
          obtain ⟨rfl, rfl⟩ := hbo3
          have ra1 := h3'.c1
          clear h3'
          by_cases hjt : j < M
          · obtain ⟨g, hg⟩ : ∃ g, V[j]? = some g := ⟨_, List.getElem?_eq_getElem (by have := HM.out; omega)⟩
            have hj0 : (0 : Int) ≤ (j : Int) := by omega
            have hjl : (j : Int) < (M : Int) := by omega
            have hjlb : decide ((j : Int) < (M : Int)) = true := decide_eq_true hjl
            have hdj : V = V.take j ++ g :: V.drop (j + 1) := by
              have h1 := List.getElem?_eq_some_iff.1 hg
              rw [← h1.2, ← List.drop_eq_getElem_cons h1.1, List.take_append_drop]
            have Htj := Lib.hid (show V.take (j + 1) = V.take j ++ [g] by rw [List.take_add_one, hg]; rfl)
            have Hdj := Lib.hid hdj
            have Hng := Lib.hid (show Norm (g :: V.drop (j + 1)) by
              have h1 := List.getElem?_eq_some_iff.1 hg
              rw [← h1.2, ← List.drop_eq_getElem_cons h1.1]; exact HnV.out.drop j)
            obtain ⟨b2, off2, rfl, h2'⟩ := Els.win (Since.els HV1.out y) hg
            have rb0 := h2'.c0
            have rb1 := h2'.c1
            clear h2' hdj hg
            obtain ⟨q5, hq0⟩ := Since.refl y.w
            rw [hq0]
            clear hq0
            rcases (by omega : g.t ≤ at_ ∨ (at_ < g.t ∧ e.t ≤ g.f) ∨ (at_ < g.t ∧ g.f < e.t ∧ at_ < g.f) ∨ (at_ < g.t ∧ g.f < e.t ∧ g.f ≤ at_)) with hc | ⟨hc, hc2⟩ | ⟨hc, hc2, hc3⟩ | ⟨hc, hc2, hc3⟩
            · have hcb : decide (g.t ≤ at_) = true := decide_eq_true hc
              have HP2 := Lib.hid (show Past e at_ (V.take (j + 1)) by rw [Htj.out]; exact HPs.out.snoc (.inl hc))
              clear hc
              go_wp2_with fail
              refine wp_region_since (by kernel_rfl) (by kernel_rfl) ?_
              repeat (go_big_quiet_step (fail))
              refine wpQuiet_nil ?_
              rintro _ ⟨z, rfl⟩
              obtain ⟨y6, h6⟩ := y.trans z
              have Hown6 := Lib.hid (own_to Hown.out (⟨z, rfl⟩ : ∃ zz : Since y.w, z.w = zz.w))
              rw [h6] at Hown6 ⊢
              clear h6
              go_wp2_with fail
              go_roundw
              case rel => exact ⟨j + 1, at_, out, y6, by omega, by go_num, rfl, rfl, Hown6.out, HI.out, HP2.out, by omega⟩
              case measure => simp [intOf] <;> omega
            · have hcb : decide (g.t ≤ at_) = false := decide_eq_false (by omega)
              have hcb2 : decide (e.t ≤ g.f) = true := decide_eq_true hc2
              have HP2 := Lib.hid (show Past e at_ (V.take (j + 1)) by rw [Htj.out]; exact HPs.out.snoc (.inr hc2))
              clear hc hc2
              go_wp2_with fail
              refine wp_region_since (by kernel_rfl) (by kernel_rfl) ?_
              repeat (go_big_quiet_step (fail))
              refine wpQuiet_nil ?_
              rintro _ ⟨z, rfl⟩
              obtain ⟨y6, h6⟩ := y.trans z
              have Hown6 := Lib.hid (own_to Hown.out (⟨z, rfl⟩ : ∃ zz : Since y.w, z.w = zz.w))
              rw [h6] at Hown6 ⊢
              clear h6
              go_wp2_with fail
              go_roundw
              case rel => exact ⟨j + 1, at_, out, y6, by omega, by go_num, rfl, rfl, Hown6.out, HI.out, HP2.out, by omega⟩
              case measure => simp [intOf] <;> omega
            · have hcb : decide (g.t ≤ at_) = false := decide_eq_false (by omega)
              have hcb2 : decide (e.t ≤ g.f) = false := decide_eq_false (by omega)
              have hh := MinI.hole (vd := V.take j) (b := g) (vr := V.drop (j + 1)) (by rw [← Hdj.out]; exact HI.out) HPs.out ⟨Hev.out.1, Hev.out.2.2⟩ Hng.out hc2
              rw [← Hdj.out, ← Htj.out, show max at_ g.t = g.t by omega, addW_yes (show (⟨at_, g.f⟩ : Win).f < (⟨at_, g.f⟩ : Win).t from hc3)] at hh
              have Hh := Lib.hid hh
              clear hh hc hc2
              go_wp2_with fail
              refine wp_region_since (by kernel_rfl) (by kernel_rfl) ?_
              repeat (go_big_quiet_step (fail))
              refine wpQuiet_nil ?_
              rintro _ ⟨z, rfl⟩
              go_upto_region 16 with (at_builtin; (refine wpList_appendK (w0 := y1.w) ?hw rfl _ _ 35 rfl y1.w.heap.size (Nat.le_refl _) ?hb 30 (.agg #[.int .i64 0, .int .i64 0]) 16 sWin u10 out.length (flat Win.cs out) rfl ?hown ⟨z.w.heap.size, 0, none⟩ 1 1 (⟨at_, g.f⟩ : Win).cs rfl rfl ?hc (win_one _) ?h63 ?hbytes ?_; rotate_right 1; intro v2 q2 hown4 _ hg4))
              case hw => obtain ⟨yz, hyz⟩ := y.trans z; rw [hyz]; exact IsSince.alloc (IsSince.of yz) _
              case hb => have := y.b.size; have := z.b.size; simp; omega
              case hown => exact own_to (own_to Hown.out ⟨z, rfl⟩) (IsSince.alloc (IsSince.self _) _)
              case hc => exact cell_new_at z.w (⟨at_, g.f⟩ : Win).cs _
              case h63 => unfold maxLen; omega
              case hbytes => omega
              rw [← flat_one Win.cs (⟨at_, g.f⟩ : Win), ← flat_append] at hown4
              have Hown4 := Lib.hid (show q2.w.ownsRow y1.w.heap.size 30 2 v2 (out ++ [(⟨at_, g.f⟩ : Win)]).length (flat Win.cs (out ++ [(⟨at_, g.f⟩ : Win)])) by rw [List.length_append, List.length_singleton]; exact hown4)
              obtain ⟨b4, off4, hbo4, h4'⟩ := Els.win (Since.els HV1.out q2) (show V[j]? = some g by rw [Hdj.out, List.getElem?_append_right (by simp; omega)]; simp [show min j V.length = j by have := HM.out; omega])
              simp only [Option.some.injEq, Addr.mk.injEq, and_true] at hbo4
              obtain ⟨rfl, rfl⟩ := hbo4
              have rc1 := h4'.c1
              clear hown4 hg4 Hown ra1 rb0 rb1 h4'
              obtain ⟨q3, hq0⟩ := Since.refl q2.w
              rw [hq0]
              clear hq0
              go_wp2_with fail
              obtain ⟨y6, h6⟩ := q2.trans q3
              have Hown6 := Lib.hid (own_to Hown4.out (⟨q3, rfl⟩ : ∃ zz : Since q2.w, q3.w = zz.w))
              rw [h6] at Hown6 ⊢
              clear h6
              go_roundw
              case rel => exact ⟨j + 1, g.t, out ++ [⟨at_, g.f⟩], y6, by omega, by go_num, rfl, rfl, Hown6.out, Hh.out.1, Hh.out.2, by simp; omega⟩
              case measure => simp [intOf] <;> omega
            · have hcb : decide (g.t ≤ at_) = false := decide_eq_false (by omega)
              have hcb2 : decide (e.t ≤ g.f) = false := decide_eq_false (by omega)
              have hh := MinI.hole (vd := V.take j) (b := g) (vr := V.drop (j + 1)) (by rw [← Hdj.out]; exact HI.out) HPs.out ⟨Hev.out.1, Hev.out.2.2⟩ Hng.out hc2
              rw [← Hdj.out, ← Htj.out, show max at_ g.t = g.t by omega, addW_no (show ¬ (⟨at_, g.f⟩ : Win).f < (⟨at_, g.f⟩ : Win).t from by show ¬ at_ < g.f; omega)] at hh
              have Hh := Lib.hid hh
              clear hh hc hc2
              go_wp2_with fail
              refine wp_region_since (by kernel_rfl) (by kernel_rfl) ?_
              repeat (go_big_quiet_step (fail))
              refine wpQuiet_nil ?_
              rintro _ ⟨z, rfl⟩
              go_wp2_with fail
              obtain ⟨y6, h6⟩ := y.trans z
              have Hown6 := Lib.hid (own_to Hown.out (⟨z, rfl⟩ : ∃ zz : Since y.w, z.w = zz.w))
              rw [h6] at Hown6 ⊢
              clear h6
              go_roundw
              case rel => exact ⟨j + 1, g.t, out, y6, by omega, by go_num, rfl, rfl, Hown6.out, Hh.out.1, Hh.out.2, by omega⟩
              case measure => simp [intOf] <;> omega
          · obtain rfl : j = M := by omega
            have hjlb : decide ((j : Int) < (j : Int)) = false := decide_eq_false (by omega)
            have hl : MinO V (U.take (k + 1)) (U.drop (k + 1)) (addW out ⟨at_, e.t⟩) := by
              rw [Htk.out]
              have h := HPs.out
              rw [List.take_of_length_le (by have := HM.out; omega)] at h
              exact HI.out.leave h HeU.out
            rcases (by omega : at_ < e.t ∨ e.t ≤ at_) with hc | hc
            · rw [addW_yes (show (⟨at_, e.t⟩ : Win).f < (⟨at_, e.t⟩ : Win).t from hc)] at hl
              have Hl := Lib.hid hl
              clear hl
              obtain ⟨z, hq0⟩ := Since.refl y.w
              rw [hq0]
              clear hq0
              go_wp2_with (at_builtin; (refine wpList_appendK (w0 := y1.w) ?hw rfl _ _ 35 rfl y1.w.heap.size (Nat.le_refl _) ?hb 30 (.agg #[.int .i64 0, .int .i64 0]) 16 sWin u10 out.length (flat Win.cs out) rfl ?hown ⟨z.w.heap.size, 0, none⟩ 1 1 (⟨at_, e.t⟩ : Win).cs rfl rfl ?hc (win_one _) ?h63 ?hbytes ?_; rotate_right 1; intro v2 q2 hown4 _ hg4))
              case hw => obtain ⟨yz, hyz⟩ := y.trans z; rw [hyz]; exact IsSince.alloc (IsSince.of yz) _
              case hb => have := y.b.size; have := z.b.size; simp; omega
              case hown => exact own_to (own_to Hown.out ⟨z, rfl⟩) (IsSince.alloc (IsSince.self _) _)
              case hc => exact cell_new_at z.w (⟨at_, e.t⟩ : Win).cs _
              case h63 => unfold maxLen; omega
              case hbytes => omega
              rw [← flat_one Win.cs (⟨at_, e.t⟩ : Win), ← flat_append] at hown4
              have Hown4 := Lib.hid (show q2.w.ownsRow y1.w.heap.size 30 2 v2 (out ++ [(⟨at_, e.t⟩ : Win)]).length (flat Win.cs (out ++ [(⟨at_, e.t⟩ : Win)])) by rw [List.length_append, List.length_singleton]; exact hown4)
              clear hown4 hg4 Hown
              go_wp2_with fail
              go_roundw
              case rel => exact ⟨k + 1, out ++ [⟨at_, e.t⟩], q2, by omega, by go_num, rfl, Hown4.out, Hl.out, by rw [HKB.out]; simp; omega⟩
              case measure => simp [intOf] <;> omega
            · rw [addW_no (show ¬ (⟨at_, e.t⟩ : Win).f < (⟨at_, e.t⟩ : Win).t from by show ¬ at_ < e.t; omega)] at hl
              have Hl := Lib.hid hl
              clear hl
              obtain ⟨z, hq0⟩ := Since.refl y.w
              rw [hq0]
              clear hq0
              go_wp2_with fail
              obtain ⟨y6, h6⟩ := y.trans z
              have Hown6 := Lib.hid (own_to Hown.out (⟨z, rfl⟩ : ∃ zz : Since y.w, z.w = zz.w))
              rw [h6] at Hown6 ⊢
              clear h6
              go_roundw
              case rel => exact ⟨k + 1, out, y6, by omega, by go_num, rfl, Hown6.out, Hl.out, by rw [HKB.out]; omega⟩
              case measure => simp [intOf] <;> omega
      · obtain rfl : k = nu := by omega
        have hklb : decide ((k : Int) < (k : Int)) = false := decide_eq_false (by omega)
        have Hset := Lib.hid (show IsSet out (fun t => hasW a t && !hasW b t) from by
          have h := HO.out
          rw [List.take_of_length_le (by have := Hnu.out; omega), List.drop_eq_nil_of_le (by have := Hnu.out; omega)] at h
          exact ⟨h.set.n, fun t => by rw [h.set.h]; show (hasW U t && !hasW V t) = _; rw [Hhas.out.1, Hhas.out.2]⟩)
        obtain ⟨hlen1, a5, c5, rfl, hc5, he5, _, _⟩ := own_els Win.len (by decide) Hown.out
        obtain ⟨y5, h5⟩ := y1.trans y
        have H5 := Lib.hid (HP.out a5 c5 out y5 (h5 ▸ he5) hc5 Hset.out (by have := Hmul.out; omega))
        rw [h5]
        clear hlen1 hc5 he5 h5
        go_wp2_with fail
        exact H5.out
end Go.Proofs.YtnkmngkinjjbfaaDoor
