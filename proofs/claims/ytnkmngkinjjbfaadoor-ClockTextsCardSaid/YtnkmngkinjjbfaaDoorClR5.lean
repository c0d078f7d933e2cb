/- The reference of windows, fifth part: the common part. -/
import Derived.Test.YtnkmngkinjjbfaaDoorClR4
set_option linter.all false
namespace Go.Proofs.YtnkmngkinjjbfaaDoor
open Go.RowKit

/-- what the reference's common part of two lists is -/
structure RComOk (a b c : List Win) : Prop where
  ok : (badW a || badW b) = false → IsSet c (fun t => hasW a t && hasW b t)
  no : (badW a || badW b) = true → c = []
  n : c.length ≤ a.length * b.length
theorem ComOk.uniqueR {a b u v : List Win} (h : ComOk a b u) (k : RComOk a b v) : u = v := by
  cases hb : badW a || badW b
  · exact (h.ok hb).unique (k.ok hb)
  · rw [h.no hb, k.no hb]
set_option maxRecDepth 100000 in
set_option maxHeartbeats 8000000 in
theorem rcommon_calls (w : World) (x : Since w) (pa : Option Addr) (a : List Win) (ca : Nat) (pb : Option Addr) (b : List Win) (cb : Nat) (ha : WinRow w pa a) (hb : WinRow w pb b) (hla : a.length ≤ 100000) (hlb : b.length ≤ 100000) :
    Calls Tryd.prog 28 #[.slice pa a.length ca, .slice pb b.length cb] x.w (SetRes w (RComOk a b) (setE a b)) := by
  have HA := Lib.hid (runion_calls w x pa a ca ha hla)
  have HB := Lib.hid (fun y : Since w => runion_calls y.w (Since.self _) pb b cb (Since.els hb y) hlb)
  have Hse := Lib.hid (show setE a b = if badW a || badW b then 1 else 0 from rfl)
  clear ha hb
  by_cases hgood : badW a = false ∧ badW b = false
  case neg =>
    have hbd : (badW a || badW b) = true := by
      cases h1 : badW a
      · cases h2 : badW b
        · exact (hgood ⟨h1, h2⟩).elim
        · rfl
      · rfl
    have H1 := Lib.hid (show ∀ y : Since w, SetRes w (RComOk a b) (setE a b) (.returned (.tuple #[.slice none 0 0, .int .i64 1])) y.w from fun y => by
      rw [Hse.out, hbd]; exact setRes_nil ⟨fun h => by rw [hbd] at h; (cases h), fun _ => rfl, by simp⟩ y)
    have Hu := Lib.hid (show unE a = if badW a then 1 else 0 from rfl)
    have Hv := Lib.hid (show unE b = if badW b then 1 else 0 from rfl)
    have hc : (unE a = 1 ∧ (unE b = 0 ∨ unE b = 1)) ∨ (unE a = 0 ∧ unE b = 1) := by
      rw [Hu.out, Hv.out]
      revert hbd
      cases badW a <;> cases badW b <;> simp
    generalize SetRes w (RComOk a b) (setE a b) = PO at *
    clear hbd hgood Hu Hv Hse
    rcases hc with ⟨hu, hv | hv⟩ | ⟨hu, hv⟩
    all_goals
      rw [hu] at HA
      rw [hv] at HB
      clear hu hv
      go_enter Tryd.func28, Tryd.ntmps28
      go_wp2_with fail
      refine HA.out.mono ?_
      rintro _ _ ⟨ax, cx, u, y1, rfl, rfl, _⟩
      go_wp2_with fail
      refine (HB.out y1).mono ?_
      rintro _ _ ⟨ay, cy, v, z1, rfl, rfl, _⟩
      obtain ⟨y2, h2⟩ := y1.trans z1
      rw [h2]
      clear h2
      go_wp2_with fail
      exact H1.out y2
  case pos =>
    obtain ⟨hba, hbb⟩ := hgood
    have hbd : (badW a || badW b) = false := by rw [hba, hbb]; rfl
    have HP := Lib.hid (show ∀ (p : Option Addr) (cap : Nat) (u : List Win) (y : Since w), WinRow y.w p u → u.length ≤ cap → IsSet u (fun t => hasW a t && hasW b t) → u.length ≤ a.length * b.length → SetRes w (RComOk a b) (setE a b) (.returned (.tuple #[.slice p u.length cap, .int .i64 0])) y.w from fun p cap u y h1 h2 h3 h4 => by
      rw [Hse.out, hbd]; exact ⟨p, cap, u, y, rfl, rfl, h1, h2, ⟨fun _ => h3, fun h => by rw [hbd] at h; (cases h), h4⟩⟩)
    have Hba := Lib.hid (And.intro hba hbb)
    have hu0 : unE a = 0 := by unfold unE; rw [hba]; rfl
    have hv0 : unE b = 0 := by unfold unE; rw [hbb]; rfl
    rw [hu0] at HA
    rw [hv0] at HB
    generalize SetRes w (RComOk a b) (setE a b) = PO at *
    clear hbd hba hbb hu0 hv0 Hse
    go_enter Tryd.func28, Tryd.ntmps28
    go_wp2_with fail
    refine HA.out.mono ?_
    rintro _ _ ⟨ax, cx, U, y0, rfl, rfl, hU, hcx, hUo⟩
    have HU0 := Lib.hid hU; have HUo := Lib.hid hUo
    clear hU hUo hcx
    go_wp2_with fail
    refine (HB.out y0).mono ?_
    rintro _ _ ⟨ay, cy, V, z1, rfl, rfl, hV, hcy, hVo⟩
    have hlU := HUo.out.n
    have hlV := hVo.n
    have hsU := HUo.out.ok Hba.out.1
    have hsV := hVo.ok Hba.out.2
    have Hhas := Lib.hid (And.intro hsU.h hsV.h)
    have HnU := Lib.hid hsU.n; have HnV := Lib.hid hsV.n
    have HU1 := Lib.hid (Since.els HU0.out z1); have HV1 := Lib.hid hV
    obtain ⟨y1, h1⟩ := y0.trans z1
    rw [h1] at HU1 HV1 ⊢
    obtain ⟨nu, hnu⟩ : ∃ nu, nu = U.length := ⟨_, rfl⟩
    obtain ⟨M, hM⟩ : ∃ M, M = V.length := ⟨_, rfl⟩
    have Hmul := Lib.hid (Nat.mul_le_mul hlU hlV)
    rw [← hnu, ← hM] at Hmul ⊢
    rw [← hnu] at hlU
    rw [← hM] at hlV
    have Hnu := Lib.hid hnu; have HM := Lib.hid hM
    have hnu2 : nu ≤ 100000 := by omega
    have hM2 : M ≤ 100000 := by omega
    clear HU0 HUo hVo hsU hsV hV h1 hnu hM hcy
    go_wp2_with fail
    go_loopw [10, 11] (fun so si wr => ∃ (k : Nat) (out : List Win) (y : Since y1.w), k ≤ nu ∧ si = .int .i64 k ∧ wr = y.w ∧ y.w.ownsRow y1.w.heap.size 30 2 so out.length (flat Win.cs out) ∧ ComO V (U.take k) (U.drop k) out ∧ out.length ≤ k * M) (fun _ si _ => nu - (intOf si).toNat)
    case atStart => exact ⟨0, [], Since.self _, by omega, rfl, rfl, ⟨rfl, .inl ⟨rfl, rfl⟩⟩, comO_start V U, by simp⟩
    case round =>
      obtain ⟨k, out, y, hk, rfl, rfl, hown, hO, hlen⟩ := hrel
      have Hown := Lib.hid hown; have HO := Lib.hid hO
      clear hown hO
      by_cases hlt : k < nu
      · obtain ⟨e, he⟩ : ∃ e, U[k]? = some e := ⟨_, List.getElem?_eq_getElem (by have := Hnu.out; omega)⟩
        have hk0 : (0 : Int) ≤ (k : Int) := by omega
        have hkl : (k : Int) < (nu : Int) := by omega
        have hklb : decide ((k : Int) < (nu : Int)) = true := decide_eq_true hkl
        have hdk : U.drop k = e :: U.drop (k + 1) := by
          have h1 := List.getElem?_eq_some_iff.1 he
          rw [← h1.2, ← List.drop_eq_getElem_cons h1.1]
        have htk : U.take (k + 1) = U.take k ++ [e] := by rw [List.take_add_one, he]; rfl
        rw [hdk] at HO
        have Hev := Lib.hid (HnU.out.v e (List.mem_of_getElem? he))
        have HeU := Lib.hid (show Norm (e :: U.drop (k + 1)) by rw [← hdk]; exact HnU.out.drop k)
        have Htk := Lib.hid htk
        have HI0 := Lib.hid HO.out.enter
        have He := Lib.hid he
        obtain ⟨KB, hKB⟩ : ∃ KB, KB = k * M := ⟨_, rfl⟩
        have hKB2 : KB ≤ 10000000000 := by
          rw [hKB]
          calc k * M ≤ 100000 * 100000 := Nat.mul_le_mul (by omega) (by omega)
            _ = 10000000000 := rfl
        rw [← hKB] at hlen
        have HKB := Lib.hid (show (k + 1) * M = KB + M by rw [hKB, Nat.succ_mul])
        clear hdk htk hKB HO he
        go_wp2_with fail
        go_loopw [10, 12] (fun so si wr => ∃ (j : Nat) (out : List Win) (y : Since y1.w), j ≤ M ∧ si = .int .i64 j ∧ wr = y.w ∧ y.w.ownsRow y1.w.heap.size 30 2 so out.length (flat Win.cs out) ∧ ComI (fun t => hasW (U.take k) t && hasW V t) e (V.take j) (V.drop j) out ∧ out.length ≤ KB + j) (fun _ si _ => M - (intOf si).toNat)
        case atStart => exact ⟨0, out, y, by omega, rfl, rfl, Hown.out, HI0.out, by omega⟩
        case round =>
          clear Hown HI0 hlen
          obtain ⟨j, out, y, hj, rfl, rfl, hown, hI, hlen⟩ := hrel
          have Hown := Lib.hid hown; have HI := Lib.hid hI
          clear hown hI
          by_cases hjt : j < M
          · obtain ⟨g, hg⟩ : ∃ g, V[j]? = some g := ⟨_, List.getElem?_eq_getElem (by have := HM.out; omega)⟩
            have hj0 : (0 : Int) ≤ (j : Int) := by omega
            have hjl : (j : Int) < (M : Int) := by omega
            have hjlb : decide ((j : Int) < (M : Int)) = true := decide_eq_true hjl
            have hdj : V.drop j = g :: V.drop (j + 1) := by
              have h1 := List.getElem?_eq_some_iff.1 hg
              rw [← h1.2, ← List.drop_eq_getElem_cons h1.1]
            have Htj := Lib.hid (show V.take (j + 1) = V.take j ++ [g] by rw [List.take_add_one, hg]; rfl)
            rw [hdj] at HI
            have Hstep := Lib.hid (HI.out.step ⟨Hev.out.1, Hev.out.2.2⟩ (by rw [← hdj]; exact HnV.out.drop j))
            rw [← Htj.out] at Hstep
            obtain ⟨b1, off1, rfl, h1'⟩ := Els.win (Since.els HU1.out y) He.out
            obtain ⟨b2, off2, rfl, h2'⟩ := Els.win (Since.els HV1.out y) hg
            have ka0 := fun w' (h : IsSince y.w w') => IsSince.cell h1'.c0 h
            have ka1 := fun w' (h : IsSince y.w w') => IsSince.cell h1'.c1 h
            have kb0 := fun w' (h : IsSince y.w w') => IsSince.cell h2'.c0 h
            have kb1 := fun w' (h : IsSince y.w w') => IsSince.cell h2'.c1 h
            clear h1' h2' hdj hg HI
            go_upto_region 12 with fail
            go_cut [13] (fun s13 wr => ∃ (gw : Nat) (y5 : Since y.w), s13 = .pointer (some ⟨gw, 0, none⟩) ∧ wr = y5.w ∧ (∀ q : Since y5.w, q.w.cell? ⟨gw, 0, none⟩ = some (.int .i64 (max e.f g.f))) ∧ (∀ q : Since y5.w, q.w.cell? ⟨gw, 1, none⟩ = some (.int .i64 (min e.t g.t))))
            case first =>
              go_region_held3 (fun w' => IsSince y.w w') (first | assumption | exact IsSince.drew' (IsSince.self _) | exact IsSince.alloc (by assumption) _ | exact IsSince.drew' (IsSince.alloc (IsSince.self _) _)) (fail)
              all_goals
                go_wp2_with fail
                go_meet
                obtain ⟨y5, h1, h2, h3⟩ := box2 y.w (.int .i64 (max e.f g.f)) (.int .i64 (min e.t g.t)) 30
                exact ⟨_, y5, rfl, h1, h2, h3⟩
            case rest =>
              obtain ⟨gw, y5, rfl, rfl, Hhx0, Hhx1⟩ := hcut
              replace Hown := Lib.hid (own_to Hown.out (⟨y5, rfl⟩ : ∃ zz : Since y.w, y5.w = zz.w))
              obtain ⟨y5', h5'⟩ := y.trans y5
              have H5' := Lib.hid h5'
              clear h5' ka0 ka1 kb0 kb1
              have Hcut := Lib.hid (show cutW e g = ⟨max e.f g.f, min e.t g.t⟩ from rfl)
              generalize max e.f g.f = F at *
              generalize min e.t g.t = T at *
              have hol : out.length ≤ 10000100000 := by omega
              obtain ⟨q5, hq0⟩ := Since.refl y5.w
              rw [hq0]
              clear hq0
              have hft : F < T ∨ ¬ F < T := by omega
              rcases hft with hft | hft
              · have Hadd := Lib.hid (show addW out (cutW e g) = out ++ [⟨F, T⟩] by rw [Hcut.out]; exact addW_yes hft)
                rw [Hadd.out] at Hstep
                go_wp2_with (at_builtin; (refine wpList_appendK (w0 := y1.w) ?hw rfl _ _ 35 rfl y1.w.heap.size (Nat.le_refl _) ?hb 30 (.agg #[.int .i64 0, .int .i64 0]) 16 sWin u10 out.length (flat Win.cs out) rfl ?hown ⟨q5.w.heap.size, 0, none⟩ 1 1 (⟨F, T⟩ : Win).cs rfl rfl ?hc (win_one _) ?h63 ?hbytes ?_; rotate_right 1; intro v2 q2 hown4 _ hg4))
                case hw => obtain ⟨yz, hyz⟩ := y5.trans q5; rw [hyz]; obtain ⟨yq, hyq⟩ := y.trans yz; rw [hyq]; exact IsSince.alloc (IsSince.of yq) _
                case hb => have := y.b.size; have := y5.b.size; have := q5.b.size; simp; omega
                case hown => exact own_to (own_to Hown.out ⟨q5, rfl⟩) (IsSince.alloc (IsSince.self _) _)
                case hc => exact cell_new_at q5.w (⟨F, T⟩ : Win).cs _
                case h63 => unfold maxLen; omega
                case hbytes => omega
                rw [← flat_one Win.cs (⟨F, T⟩ : Win), ← flat_append] at hown4
                have Hown4 := Lib.hid (show q2.w.ownsRow y1.w.heap.size 30 2 v2 (out ++ [(⟨F, T⟩ : Win)]).length (flat Win.cs (out ++ [(⟨F, T⟩ : Win)])) by rw [List.length_append, List.length_singleton]; exact hown4)
                clear hown4 hg4 hft Hown Hhx0 Hhx1
                go_wp2_with fail
                go_roundw
                case rel => exact ⟨j + 1, out ++ [⟨F, T⟩], q2, by omega, by go_num, rfl, Hown4.out, Hstep.out, by simp; omega⟩
                case measure => simp [intOf] <;> omega
              · have Hadd := Lib.hid (show addW out (cutW e g) = out by rw [Hcut.out]; exact addW_no hft)
                rw [Hadd.out] at Hstep
                obtain ⟨q1, hq1⟩ := y5.trans q5
                obtain ⟨q2, hq2⟩ := y.trans q1
                rw [← hq1] at hq2
                have Hown4 := Lib.hid (own_to Hown.out (⟨q5, rfl⟩ : ∃ zz : Since y5.w, q5.w = zz.w))
                rw [hq2] at Hown4
                clear Hown hq1
                have Hq2 := Lib.hid hq2
                clear hq2
                go_wp2_with fail
                go_roundw
                case rel => exact ⟨j + 1, out, q2, by omega, by go_num, Hq2.out, Hown4.out, Hstep.out, by omega⟩
                case measure => simp [intOf] <;> omega
          · obtain rfl : j = M := by omega
            have hjlb : decide ((j : Int) < (j : Int)) = false := decide_eq_false (by omega)
            have Hl := Lib.hid (show ComO V (U.take (k + 1)) (U.drop (k + 1)) out by
              rw [Htk.out]
              refine ComI.leave ?_ HeU.out
              have h := HI.out
              have ht : V.take j = V := List.take_of_length_le (by have := HM.out; omega)
              have hd : V.drop j = [] := List.drop_eq_nil_of_le (by have := HM.out; omega)
              rw [ht, hd] at h
              exact h)
            go_wp2_with fail
            go_roundw
            case rel => exact ⟨k + 1, out, y, by omega, by go_num, rfl, Hown.out, Hl.out, by rw [HKB.out]; exact hlen⟩
            case measure => simp [intOf] <;> omega
      · obtain rfl : k = nu := by omega
        have hklb : decide ((k : Int) < (k : Int)) = false := decide_eq_false (by omega)
        have Hset := Lib.hid (show IsSet out (fun t => hasW a t && hasW b t) from by
          have h := HO.out
          rw [List.take_of_length_le (by have := Hnu.out; omega), List.drop_eq_nil_of_le (by have := Hnu.out; omega)] at h
          exact ⟨h.set.n, fun t => by rw [h.set.h]; show (hasW U t && hasW V t) = _; rw [Hhas.out.1, Hhas.out.2]⟩)
        obtain ⟨hlen1, a5, c5, rfl, hc5, he5, _, _⟩ := own_els Win.len (by decide) Hown.out
        obtain ⟨y5, h5⟩ := y1.trans y
        have H5 := Lib.hid (HP.out a5 c5 out y5 (h5 ▸ he5) hc5 Hset.out (by have := Hmul.out; omega))
        rw [h5]
        clear hlen1 hc5 he5 h5
        go_wp2_with fail
        exact H5.out
end Go.Proofs.YtnkmngkinjjbfaaDoor
