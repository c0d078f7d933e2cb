/- The walks of windows, fourth part: two lists, their common part. -/
import Derived.Test.YtnkmngkinjjbfaaDoorClW3
import Derived.Deep.RegionHeld3
import Derived.OwnWalk
set_option linter.all false
namespace Go.Proofs.YtnkmngkinjjbfaaDoor
open Go.RowKit

/-- a new block of two cells, behind a draw -/
theorem box2 (W : World) (u v : Value) (T : TypeId) : ∃ y : Since W, (W.alloc (.cells #[u, v] T)).drew = y.w ∧ (∀ q : Since y.w, q.w.cell? ⟨W.heap.size, 0, none⟩ = some u) ∧ (∀ q : Since y.w, q.w.cell? ⟨W.heap.size, 1, none⟩ = some v) := by
  have h0 : (W.alloc (.cells #[u, v] T)).drew.cell? ⟨W.heap.size, 0, none⟩ = some u := by simp [go_sem]
  have h1 : (W.alloc (.cells #[u, v] T)).drew.cell? ⟨W.heap.size, 1, none⟩ = some v := by simp [go_sem]
  have hl : W.heap.size < (W.alloc (.cells #[u, v] T)).drew.heap.size := by simp
  obtain ⟨y, hy⟩ := IsSince.drew' (IsSince.alloc (IsSince.self W) (.cells #[u, v] T))
  rw [hy] at h0 h1 hl
  exact ⟨y, hy, fun q => Since.cell h0 hl q, fun q => Since.cell h1 hl q⟩
def setE (a b : List Win) : Int := if badW a || badW b then 1 else 0
/-- the normal forms of two lists -/
structure BothOk (a b u v : List Win) : Prop where
  ok : (badW a || badW b) = false → IsSet u (hasW a) ∧ IsSet v (hasW b)
  no : (badW a || badW b) = true → u = [] ∧ v = []
  n : u.length ≤ a.length ∧ v.length ≤ b.length
def BothRes (w : World) (a b : List Win) (o : Ending) (w' : World) : Prop :=
  ∃ (ax : Option Addr) (cx : Nat) (u : List Win) (ay : Option Addr) (cy : Nat) (v : List Win) (y : Since w), o = .returned (.tuple #[.slice ax u.length cx, .slice ay v.length cy, .int .i64 (setE a b)]) ∧ w' = y.w ∧ WinRow y.w ax u ∧ WinRow y.w ay v ∧ u.length ≤ cx ∧ v.length ≤ cy ∧ BothOk a b u v
set_option maxRecDepth 100000 in
set_option maxHeartbeats 4000000 in
theorem both_calls (w : World) (x : Since w) (pa : Option Addr) (a : List Win) (ca : Nat) (pb : Option Addr) (b : List Win) (cb : Nat) (ha : WinRow w pa a) (hb : WinRow w pb b) (hla : a.length ≤ 100000) (hlb : b.length ≤ 100000) :
    Calls Tryd.prog 50 #[.slice pa a.length ca, .slice pb b.length cb] x.w (BothRes w a b) := by
  have HA := Lib.hid (union_calls w x pa a ca ha hla)
  have HB := Lib.hid (fun y : Since w => union_calls y.w (Since.self _) pb b cb (Since.els hb y) hlb)
  have Hno := Lib.hid (show ∀ y : Since w, (badW a || badW b) = true → BothRes w a b (.returned (.tuple #[.slice none 0 0, .slice none 0 0, .int .i64 1])) y.w from fun y h =>
    ⟨none, 0, [], none, 0, [], y, by unfold setE; rw [h]; rfl, rfl, els_nil _ _, els_nil _ _, Nat.le_refl _, Nat.le_refl _, ⟨fun h' => by rw [h] at h'; (cases h'), fun _ => ⟨rfl, rfl⟩, by simp, by simp⟩⟩)
  clear ha hb
  cases hba : badW a with
  | true =>
    have H1 := Lib.hid (fun y : Since w => Hno.out y (by rw [hba]; rfl))
    have Hu := Lib.hid (show unE a = 1 by unfold unE; rw [hba]; rfl)
    generalize BothRes w a b = PO at *
    clear hba Hno HB
    go_enter Tryd.func50, Tryd.ntmps50
    go_wp2_with fail
    refine HA.out.mono ?_
    rintro _ _ ⟨ax, cx, u, y1, rfl, rfl, _, _, _⟩
    rw [Hu.out]
    go_wp2_with fail
    go_ret3
    exact H1.out y1
  | false =>
    have Hu := Lib.hid (show unE a = 0 by unfold unE; rw [hba]; rfl)
    cases hbb : badW b with
    | true =>
      have H1 := Lib.hid (fun y : Since w => Hno.out y (by rw [hbb]; simp))
      have Hv := Lib.hid (show unE b = 1 by unfold unE; rw [hbb]; rfl)
      generalize BothRes w a b = PO at *
      clear hba hbb Hno
      go_enter Tryd.func50, Tryd.ntmps50
      go_wp2_with fail
      refine HA.out.mono ?_
      rintro _ _ ⟨ax, cx, u, y1, rfl, rfl, _, _, _⟩
      rw [Hu.out]
      go_wp2_with fail
      refine (HB.out y1).mono ?_
      rintro _ _ ⟨ay, cy, v, z1, rfl, rfl, _, _, _⟩
      obtain ⟨y2, h2⟩ := y1.trans z1
      rw [Hv.out, h2]
      clear h2
      go_wp2_with fail
      go_ret3
      exact H1.out y2
    | false =>
      have Hv := Lib.hid (show unE b = 0 by unfold unE; rw [hbb]; rfl)
      have Hb0 := Lib.hid (And.intro hba hbb)
      have Hse := Lib.hid (show setE a b = 0 by unfold setE; rw [hba, hbb]; rfl)
      clear hba hbb Hno
      go_enter Tryd.func50, Tryd.ntmps50
      go_wp2_with fail
      refine HA.out.mono ?_
      rintro _ _ ⟨ax, cx, u, y1, rfl, rfl, hu1, hu2, hu3⟩
      have HU := Lib.hid (And.intro hu1 (And.intro hu2 hu3))
      clear hu1 hu2 hu3
      rw [Hu.out]
      go_wp2_with fail
      refine (HB.out y1).mono ?_
      rintro _ _ ⟨ay, cy, v, z1, rfl, rfl, hv1, hv2, hv3⟩
      have HV := Lib.hid (And.intro hv1 (And.intro hv2 hv3))
      have HU1 := Lib.hid (Since.els HU.out.1 z1)
      clear hv1 hv2 hv3
      obtain ⟨y2, h2⟩ := y1.trans z1
      rw [h2] at HV HU1
      rw [Hv.out, h2]
      clear h2
      go_wp2_with fail
      go_ret3
      exact ⟨ax, cx, u, ay, cy, v, y2, by rw [Hse.out]; rfl, rfl, HU1.out, HV.out.1, HU.out.2.1, HV.out.2.1, ⟨fun _ => ⟨HU.out.2.2.ok Hb0.out.1, HV.out.2.2.ok Hb0.out.2⟩, fun h => by rw [Hb0.out.1, Hb0.out.2] at h; (cases h), HU.out.2.2.n, HV.out.2.2.n⟩⟩
/-- what the common part of two lists is -/
structure ComOk (a b c : List Win) : Prop where
  ok : (badW a || badW b) = false → IsSet c (fun t => hasW a t && hasW b t)
  no : (badW a || badW b) = true → c = []
  n : c.length ≤ a.length + b.length
theorem ComOk.unique {a b u v : List Win} (h : ComOk a b u) (k : ComOk a b v) : u = v := by
  cases hb : badW a || badW b
  · exact (h.ok hb).unique (k.ok hb)
  · rw [h.no hb, k.no hb]
set_option maxRecDepth 100000 in
set_option maxHeartbeats 8000000 in
theorem common_calls (w : World) (x : Since w) (pa : Option Addr) (a : List Win) (ca : Nat) (pb : Option Addr) (b : List Win) (cb : Nat) (ha : WinRow w pa a) (hb : WinRow w pb b) (hla : a.length ≤ 100000) (hlb : b.length ≤ 100000) :
    Calls Tryd.prog 27 #[.slice pa a.length ca, .slice pb b.length cb] x.w (SetRes w (ComOk a b) (setE a b)) := by
  have HB := Lib.hid (both_calls w x pa a ca pb b cb ha hb hla hlb)
  have Hse := Lib.hid (show setE a b = if badW a || badW b then 1 else 0 from rfl)
  clear ha hb
  cases hbd : badW a || badW b with
  | true =>
    have H1 := Lib.hid (show ∀ y : Since w, SetRes w (ComOk a b) (setE a b) (.returned (.tuple #[.slice none 0 0, .int .i64 1])) y.w from fun y => by
      rw [Hse.out, hbd]; exact setRes_nil ⟨fun h => by rw [hbd] at h; (cases h), fun _ => rfl, by simp⟩ y)
    rw [hbd] at Hse
    generalize SetRes w (ComOk a b) (setE a b) = PO at *
    clear hbd
    go_enter Tryd.func27, Tryd.ntmps27
    go_wp2_with fail
    refine HB.out.mono ?_
    rintro _ _ ⟨ax, cx, u, ay, cy, v, y1, rfl, rfl, _⟩
    rw [Hse.out]
    go_wp2_with fail
    exact H1.out y1
  | false =>
    have HP := Lib.hid (show ∀ (p : Option Addr) (cap : Nat) (u : List Win) (y : Since w), WinRow y.w p u → u.length ≤ cap → IsSet u (fun t => hasW a t && hasW b t) → u.length ≤ a.length + b.length → SetRes w (ComOk a b) (setE a b) (.returned (.tuple #[.slice p u.length cap, .int .i64 0])) y.w from fun p cap u y h1 h2 h3 h4 => by
      rw [Hse.out, hbd]; exact ⟨p, cap, u, y, rfl, rfl, h1, h2, ⟨fun _ => h3, fun h => by rw [hbd] at h; (cases h), h4⟩⟩)
    have Hbd := Lib.hid hbd
    rw [hbd] at Hse
    generalize SetRes w (ComOk a b) (setE a b) = PO at *
    clear hbd
    go_enter Tryd.func27, Tryd.ntmps27
    go_wp2_with fail
    refine HB.out.mono ?_
    rintro _ _ ⟨ax, cx, U, ay, cy, V, y1, rfl, rfl, hU, hV, hcx, hcy, hB⟩
    obtain ⟨hsU, hsV⟩ := hB.ok Hbd.out
    have hlU := hB.n.1
    have hlV := hB.n.2
    have Hst := Lib.hid (show Com U V U V [] from com_start hsU.n hsV.n)
    have Hhas := Lib.hid (And.intro hsU.h hsV.h)
    have HU0 := Lib.hid hU; have HV0 := Lib.hid hV
    obtain ⟨N, hN⟩ : ∃ N, N = U.length + V.length := ⟨_, rfl⟩
    have HN := Lib.hid hN
    rw [Hse.out]
    clear hB hsU hsV hU hV hN
    go_wp2_with fail
    go_loopw [6, 7, 9] (fun sx sy so wr => ∃ (p : Option Addr) (nx dx : Nat) (q : Option Addr) (ny dy : Nat) (xs ys out : List Win) (y : Since y1.w), sx = .slice p nx dx ∧ nx = xs.length ∧ nx ≤ dx ∧ sy = .slice q ny dy ∧ ny = ys.length ∧ ny ≤ dy ∧ WinRow y1.w p xs ∧ WinRow y1.w q ys ∧ wr = y.w ∧ y.w.ownsRow y1.w.heap.size 30 2 so out.length (flat Win.cs out) ∧ Com U V xs ys out ∧ out.length + nx + ny ≤ N) (fun sx sy _ _ => (match sx, sy with | .slice _ m _, .slice _ k _ => m + k | _, _ => 0))
    case atStart => exact ⟨ax, U.length, cx, ay, V.length, cy, U, V, [], Since.self _, rfl, rfl, hcx, rfl, rfl, hcy, HU0.out, HV0.out, rfl, ⟨rfl, .inl ⟨rfl, rfl⟩⟩, Hst.out, by have := HN.out; simp; omega⟩
    case round =>
      clear Hst HU0 HV0 hcx hcy
      obtain ⟨p, nx, dx, q, ny, dy, xs, ys, out, y, rfl, hnx, hdx, rfl, hny, hdy, hxs, hys, rfl, hown, hC, hlen⟩ := hrel
      have Hnx := Lib.hid hnx; have Hny := Lib.hid hny; have Hxs := Lib.hid hxs; have Hys := Lib.hid hys; have Hown := Lib.hid hown; have HC := Lib.hid hC
      have hNb : N ≤ 200000 := by have := HN.out; omega
      clear hnx hny hxs hys hown hC
      by_cases h0 : 0 < nx ∧ 0 < ny
      · obtain ⟨h1, h2⟩ := h0
        obtain ⟨ea, xs', rfl⟩ : ∃ e l, xs = e :: l := by
          cases xs with
          | nil => have := Hnx.out; simp at this; omega
          | cons e l => exact ⟨e, l, rfl⟩
        obtain ⟨eb, ys', rfl⟩ : ∃ e l, ys = e :: l := by
          cases ys with
          | nil => have := Hny.out; simp at this; omega
          | cons e l => exact ⟨e, l, rfl⟩
        obtain ⟨b1, off1, rfl, h1'⟩ := Els.win (Since.els Hxs.out y) (k := 0) rfl
        obtain ⟨b2, off2, rfl, h2'⟩ := Els.win (Since.els Hys.out y) (k := 0) rfl
        have ka0 := fun w' (h : IsSince y.w w') => IsSince.cell h1'.c0 h
        have ka1 := fun w' (h : IsSince y.w w') => IsSince.cell h1'.c1 h
        have kb0 := fun w' (h : IsSince y.w w') => IsSince.cell h2'.c0 h
        have kb1 := fun w' (h : IsSince y.w w') => IsSince.cell h2'.c1 h
        simp only [Nat.zero_mul, Nat.add_zero] at ka0 ka1 kb0 kb1
        clear h1' h2'
        have hx0 : (0 : Int) < (nx : Int) := by omega
        have hy0 : (0 : Int) < (ny : Int) := by omega
        go_upto_region 6 with fail
        go_cut [10] (fun s10 wr => ∃ (gw : Nat) (y5 : Since y.w), s10 = .pointer (some ⟨gw, 0, none⟩) ∧ wr = y5.w ∧ (∀ q : Since y5.w, q.w.cell? ⟨gw, 0, none⟩ = some (.int .i64 (max ea.f eb.f))) ∧ (∀ q : Since y5.w, q.w.cell? ⟨gw, 1, none⟩ = some (.int .i64 (min ea.t eb.t))))
        case first =>
          go_region_held3 (fun w' => IsSince y.w w') (first | assumption | exact IsSince.drew' (IsSince.self _) | exact IsSince.alloc (by assumption) _ | exact IsSince.drew' (IsSince.alloc (IsSince.self _) _)) (fail)
          all_goals
            go_wp2_with fail
            go_meet
            obtain ⟨y5, h1, h2, h3⟩ := box2 y.w (.int .i64 (max ea.f eb.f)) (.int .i64 (min ea.t eb.t)) 30
            exact ⟨_, y5, rfl, h1, h2, h3⟩
        case rest =>
          obtain ⟨gw, y5, rfl, rfl, Hhx0, Hhx1⟩ := hcut
          replace Hown := Lib.hid (own_to Hown.out (⟨y5, rfl⟩ : ∃ zz : Since y.w, y5.w = zz.w))
          obtain ⟨y5', h5'⟩ := y.trans y5
          have H5' := Lib.hid h5'
          clear h5' ka0 ka1 kb0 kb1
          have hle : ea.t < eb.t ∨ eb.t ≤ ea.t := by omega
          have Hcut := Lib.hid (show cutW ea eb = ⟨max ea.f eb.f, min ea.t eb.t⟩ from rfl)
          generalize max ea.f eb.f = F at *
          generalize min ea.t eb.t = T at *
          have hol : out.length ≤ 200000 := by omega
          have Hx1 := Lib.hid (show nx - 1 = xs'.length by have := Hnx.out; simp at this; omega)
          have Hy1 := Lib.hid (show ny - 1 = ys'.length by have := Hny.out; simp at this; omega)
          have Hxc := Lib.hid ((Hxs.out.cut 1 dx (by have := Hnx.out; omega)))
          have Hyc := Lib.hid ((Hys.out.cut 1 dy (by have := Hny.out; omega)))
          rw [List.drop_succ_cons, List.drop_zero] at Hxc Hyc
          obtain ⟨q5, hq0⟩ := Since.refl y5.w
          rw [hq0]
          clear hq0
          have hft : F < T ∨ ¬ F < T := by omega
          rcases hft with hft | hft
          · have Hadd := Lib.hid (show addW out (cutW ea eb) = out ++ [⟨F, T⟩] by rw [Hcut.out]; exact addW_yes hft)
            go_upto_region 9 with (at_builtin; (refine wpList_appendK (w0 := y1.w) ?hw rfl _ _ 35 rfl y1.w.heap.size (Nat.le_refl _) ?hb 30 (.agg #[.int .i64 0, .int .i64 0]) 16 sWin u9 out.length (flat Win.cs out) rfl ?hown ⟨q5.w.heap.size, 0, none⟩ 1 1 (⟨F, T⟩ : Win).cs rfl rfl ?hc (win_one _) ?h63 ?hbytes ?_; rotate_right 1; intro v2 q2 hown4 _ hg4))
            case hw => obtain ⟨yz, hyz⟩ := y5.trans q5; rw [hyz]; obtain ⟨yq, hyq⟩ := y.trans yz; rw [hyq]; exact IsSince.alloc (IsSince.of yq) _
            case hb => have := y.b.size; have := y5.b.size; have := q5.b.size; simp; omega
            case hown => exact own_to (own_to Hown.out ⟨q5, rfl⟩) (IsSince.alloc (IsSince.self _) _)
            case hc => exact cell_new_at q5.w (⟨F, T⟩ : Win).cs _
            case h63 => unfold maxLen; omega
            case hbytes => omega
            rw [← flat_one Win.cs (⟨F, T⟩ : Win), ← flat_append] at hown4
            have Hown4 := Lib.hid (show q2.w.ownsRow y1.w.heap.size 30 2 v2 (out ++ [(⟨F, T⟩ : Win)]).length (flat Win.cs (out ++ [(⟨F, T⟩ : Win)])) by rw [List.length_append, List.length_singleton]; exact hown4)
            clear hown4 hg4 hft Hown
            obtain ⟨b3, off3, hbo3, hc3⟩ := Els.win Hxs.out (k := 0) rfl
            obtain ⟨b4, off4, hbo4, hc4⟩ := Els.win Hys.out (k := 0) rfl
            simp only [Option.some.injEq, Addr.mk.injEq, and_true] at hbo3 hbo4
            obtain ⟨rfl, rfl⟩ := hbo3
            obtain ⟨rfl, rfl⟩ := hbo4
            have ra1 := Since.cellTo (IsSince.of q2) hc3.c1
            have rb1 := Since.cellTo (IsSince.of q2) hc4.c1
            simp only [Nat.zero_mul, Nat.add_zero] at ra1 rb1
            clear hc3 hc4 Hhx0 Hhx1
            obtain ⟨q6, hq0⟩ := Since.refl q2.w
            rw [hq0]
            clear hq0
            rcases hle with hle | hle
            · have hleb : decide (ea.t < eb.t) = true := decide_eq_true hle
              have Hstep := Lib.hid (by have h := HC.out.left hle; rw [Hadd.out] at h; exact h)
              clear HC Hadd hle
              go_wp2_with fail
              refine wp_region_since (by kernel_rfl) (by kernel_rfl) ?_
              repeat (go_big_quiet_step (fail))
              refine wpQuiet_nil ?_
              rintro _ ⟨z, rfl⟩
              go_wp2_with fail
              obtain ⟨z2, hz2⟩ := (IsSince.of q2 : IsSince y1.w q2.w)
              have Hown6 := Lib.hid (own_to Hown4.out (⟨z, rfl⟩ : ∃ zz : Since q2.w, z.w = zz.w))
              obtain ⟨y6, h6⟩ := q2.trans z
              rw [h6] at Hown6 ⊢
              clear h6 hz2
              go_roundw
              case rel => exact ⟨_, nx - 1, dx - 1, _, ny, dy, xs', eb :: ys', out ++ [⟨F, T⟩], y6, rfl, Hx1.out, by omega, rfl, Hny.out, hdy, Hxc.out, Hys.out, rfl, Hown6.out, Hstep.out, by simp; omega⟩
              case measure => simp; omega
            · have hleb : decide (ea.t < eb.t) = false := decide_eq_false (by omega)
              have Hstep := Lib.hid (by have h := HC.out.right hle; rw [Hadd.out] at h; exact h)
              clear HC Hadd hle
              go_wp2_with fail
              refine wp_region_since (by kernel_rfl) (by kernel_rfl) ?_
              repeat (go_big_quiet_step (fail))
              refine wpQuiet_nil ?_
              rintro _ ⟨z, rfl⟩
              go_wp2_with fail
              obtain ⟨z2, hz2⟩ := (IsSince.of q2 : IsSince y1.w q2.w)
              have Hown6 := Lib.hid (own_to Hown4.out (⟨z, rfl⟩ : ∃ zz : Since q2.w, z.w = zz.w))
              obtain ⟨y6, h6⟩ := q2.trans z
              rw [h6] at Hown6 ⊢
              clear h6 hz2
              go_roundw
              case rel => exact ⟨_, nx, dx, _, ny - 1, dy - 1, ea :: xs', ys', out ++ [⟨F, T⟩], y6, rfl, Hnx.out, hdx, rfl, Hy1.out, by omega, Hxs.out, Hyc.out, rfl, Hown6.out, Hstep.out, by simp; omega⟩
              case measure => simp; omega
          · have Hadd := Lib.hid (show addW out (cutW ea eb) = out by rw [Hcut.out]; exact addW_no hft)
            go_upto_region 9 with fail
            obtain ⟨q1, hq1⟩ := y5.trans q5
            obtain ⟨q2, hq2⟩ := y.trans q1
            rw [← hq1] at hq2
            have Hown4 := Lib.hid (own_to Hown.out (⟨q5, rfl⟩ : ∃ zz : Since y5.w, q5.w = zz.w))
            rw [hq2] at Hown4 ⊢
            clear hq1 hq2 hft Hown
            obtain ⟨b3, off3, hbo3, hc3⟩ := Els.win Hxs.out (k := 0) rfl
            obtain ⟨b4, off4, hbo4, hc4⟩ := Els.win Hys.out (k := 0) rfl
            simp only [Option.some.injEq, Addr.mk.injEq, and_true] at hbo3 hbo4
            obtain ⟨rfl, rfl⟩ := hbo3
            obtain ⟨rfl, rfl⟩ := hbo4
            have ra1 := Since.cellTo (IsSince.of q2) hc3.c1
            have rb1 := Since.cellTo (IsSince.of q2) hc4.c1
            simp only [Nat.zero_mul, Nat.add_zero] at ra1 rb1
            clear hc3 hc4 Hhx0 Hhx1
            obtain ⟨q6, hq0⟩ := Since.refl q2.w
            rw [hq0]
            clear hq0
            rcases hle with hle | hle
            · have hleb : decide (ea.t < eb.t) = true := decide_eq_true hle
              have Hstep := Lib.hid (by have h := HC.out.left hle; rw [Hadd.out] at h; exact h)
              clear HC Hadd hle
              go_wp2_with fail
              refine wp_region_since (by kernel_rfl) (by kernel_rfl) ?_
              repeat (go_big_quiet_step (fail))
              refine wpQuiet_nil ?_
              rintro _ ⟨z, rfl⟩
              go_wp2_with fail
              obtain ⟨z2, hz2⟩ := (IsSince.of q2 : IsSince y1.w q2.w)
              have Hown6 := Lib.hid (own_to Hown4.out (⟨z, rfl⟩ : ∃ zz : Since q2.w, z.w = zz.w))
              obtain ⟨y6, h6⟩ := q2.trans z
              rw [h6] at Hown6 ⊢
              clear h6 hz2
              go_roundw
              case rel => exact ⟨_, nx - 1, dx - 1, _, ny, dy, xs', eb :: ys', out, y6, rfl, Hx1.out, by omega, rfl, Hny.out, hdy, Hxc.out, Hys.out, rfl, Hown6.out, Hstep.out, by omega⟩
              case measure => simp; omega
            · have hleb : decide (ea.t < eb.t) = false := decide_eq_false (by omega)
              have Hstep := Lib.hid (by have h := HC.out.right hle; rw [Hadd.out] at h; exact h)
              clear HC Hadd hle
              go_wp2_with fail
              refine wp_region_since (by kernel_rfl) (by kernel_rfl) ?_
              repeat (go_big_quiet_step (fail))
              refine wpQuiet_nil ?_
              rintro _ ⟨z, rfl⟩
              go_wp2_with fail
              obtain ⟨z2, hz2⟩ := (IsSince.of q2 : IsSince y1.w q2.w)
              have Hown6 := Lib.hid (own_to Hown4.out (⟨z, rfl⟩ : ∃ zz : Since q2.w, z.w = zz.w))
              obtain ⟨y6, h6⟩ := q2.trans z
              rw [h6] at Hown6 ⊢
              clear h6 hz2
              go_roundw
              case rel => exact ⟨_, nx, dx, _, ny - 1, dy - 1, ea :: xs', ys', out, y6, rfl, Hnx.out, hdx, rfl, Hy1.out, by omega, Hxs.out, Hyc.out, rfl, Hown6.out, Hstep.out, by omega⟩
              case measure => simp; omega
      · have Hdone := Lib.hid (show IsSet out (fun t => hasW a t && hasW b t) from by
          have h9 := HC.out.done (by
            rcases (by omega : nx = 0 ∨ ny = 0) with h | h
            · left; exact List.eq_nil_of_length_eq_zero (by rw [← Hnx.out]; exact h)
            · right; exact List.eq_nil_of_length_eq_zero (by rw [← Hny.out]; exact h))
          exact ⟨h9.n, fun t => by rw [h9.h]; show (hasW U t && hasW V t) = _; rw [Hhas.out.1, Hhas.out.2]⟩)
        obtain ⟨hlen1, a5, c5, rfl, hc5, he5, _, _⟩ := own_els Win.len (by decide) Hown.out
        obtain ⟨y5, h5⟩ := y1.trans y
        have H5 := Lib.hid (HP.out a5 c5 out y5 (h5 ▸ he5) hc5 Hdone.out (by have := HN.out; omega))
        rw [h5]
        clear hlen1 hc5 he5 h5
        rcases (by omega : nx = 0 ∨ (0 < nx ∧ ny = 0)) with h | ⟨h, h'⟩
        · subst h
          go_wp2_with fail
          exact H5.out
        · subst h'
          have hx0 : (0 : Int) < (nx : Int) := by omega
          go_wp2_with fail
          exact H5.out
end Go.Proofs.YtnkmngkinjjbfaaDoor
