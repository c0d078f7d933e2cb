/- The walks of windows, fifth part: the difference. -/
import Derived.Test.YtnkmngkinjjbfaaDoorClW4
import Derived.Test.YtnkmngkinjjbfaaDoorApp
set_option linter.all false
namespace Go.Proofs.YtnkmngkinjjbfaaDoor
open Go.RowKit

/-- what the difference of two lists is -/
structure MinOk (a b c : List Win) : Prop where
  ok : (badW a || badW b) = false → IsSet c (fun t => hasW a t && !hasW b t)
  no : (badW a || badW b) = true → c = []
  n : c.length ≤ a.length * (b.length + 1)
theorem MinOk.unique {a b u v : List Win} (h : MinOk a b u) (k : MinOk a b v) : u = v := by
  cases hb : badW a || badW b
  · exact (h.ok hb).unique (k.ok hb)
  · rw [h.no hb, k.no hb]
theorem add_len (out : List Win) (w : Win) : (addW out w).length ≤ out.length + 1 := by unfold addW; split <;> simp
set_option maxRecDepth 100000 in
set_option maxHeartbeats 16000000 in
theorem minus_calls (w : World) (x : Since w) (pa : Option Addr) (a : List Win) (ca : Nat) (pb : Option Addr) (b : List Win) (cb : Nat) (ha : WinRow w pa a) (hb : WinRow w pb b) (hla : a.length ≤ 100000) (hlb : b.length ≤ 100000) :
    Calls Tryd.prog 29 #[.slice pa a.length ca, .slice pb b.length cb] x.w (SetRes w (MinOk a b) (setE a b)) := by
  have HB := Lib.hid (both_calls w x pa a ca pb b cb ha hb hla hlb)
  have Hse := Lib.hid (show setE a b = if badW a || badW b then 1 else 0 from rfl)
  clear ha hb
  cases hbd : badW a || badW b with
  | true =>
    have H1 := Lib.hid (show ∀ y : Since w, SetRes w (MinOk a b) (setE a b) (.returned (.tuple #[.slice none 0 0, .int .i64 1])) y.w from fun y => by
      rw [Hse.out, hbd]; exact setRes_nil ⟨fun h => by rw [hbd] at h; (cases h), fun _ => rfl, by simp⟩ y)
    rw [hbd] at Hse
    generalize SetRes w (MinOk a b) (setE a b) = PO at *
    clear hbd
    go_enter Tryd.func29, Tryd.ntmps29
    go_wp2_with fail
    refine HB.out.mono ?_
    rintro _ _ ⟨ax, cx, u, ay, cy, v, y1, rfl, rfl, _⟩
    rw [Hse.out]
    go_wp2_with fail
    exact H1.out y1
  | false =>
    have HP := Lib.hid (show ∀ (p : Option Addr) (cap : Nat) (u : List Win) (y : Since w), WinRow y.w p u → u.length ≤ cap → IsSet u (fun t => hasW a t && !hasW b t) → u.length ≤ a.length * (b.length + 1) → SetRes w (MinOk a b) (setE a b) (.returned (.tuple #[.slice p u.length cap, .int .i64 0])) y.w from fun p cap u y h1 h2 h3 h4 => by
      rw [Hse.out, hbd]; exact ⟨p, cap, u, y, rfl, rfl, h1, h2, ⟨fun _ => h3, fun h => by rw [hbd] at h; (cases h), h4⟩⟩)
    have Hbd := Lib.hid hbd
    rw [hbd] at Hse
    generalize SetRes w (MinOk a b) (setE a b) = PO at *
    clear hbd
    go_enter Tryd.func29, Tryd.ntmps29
    go_wp2_with fail
    refine HB.out.mono ?_
    rintro _ _ ⟨ax, cx, U, ay, cy, V, y1, rfl, rfl, hU, hV, hcx, hcy, hB⟩
    obtain ⟨hsU, hsV⟩ := hB.ok Hbd.out
    have hlU := hB.n.1
    have hlV := hB.n.2
    have Hhas := Lib.hid (And.intro hsU.h hsV.h)
    have HnU := Lib.hid hsU.n; have HnV := Lib.hid hsV.n
    have HU0 := Lib.hid hU; have HV0 := Lib.hid hV
    obtain ⟨nu, hnu⟩ : ∃ nu, nu = U.length := ⟨_, rfl⟩
    obtain ⟨M, hM⟩ : ∃ M, M = V.length := ⟨_, rfl⟩
    rw [← hnu, ← hM, Hse.out]
    rw [← hnu] at hlU
    rw [← hM] at hlV hcy
    have Hnu := Lib.hid hnu; have HM := Lib.hid hM
    have hnu2 : nu ≤ 100000 := by omega
    have hM2 : M ≤ 100000 := by omega
    clear hB hsU hsV hU hV hnu hM hcx
    go_wp2_with fail
    go_loopw [7, 9, 27] (fun sy so si wr => ∃ (k : Nat) (q : Option Addr) (ny dy : Nat) (yd ys out : List Win) (y : Since y1.w), si = .int .i64 k ∧ k ≤ nu ∧ sy = .slice q ny dy ∧ ny = ys.length ∧ ny ≤ dy ∧ ny ≤ M ∧ V = yd ++ ys ∧ WinRow y1.w q ys ∧ wr = y.w ∧ y.w.ownsRow y1.w.heap.size 30 2 so out.length (flat Win.cs out) ∧ MinO V (U.take k) (U.drop k) out ∧ (∀ c ∈ yd, ∀ e ∈ U.drop k, c.t ≤ e.f) ∧ out.length ≤ k * (M + 1)) (fun _ _ si _ => nu - (intOf si).toNat)
    case atStart => exact ⟨0, ay, M, cy, [], V, [], Since.self _, rfl, by omega, rfl, HM.out, hcy, Nat.le_refl _, rfl, HV0.out, rfl, ⟨rfl, .inl ⟨rfl, rfl⟩⟩, minO_start V U, fun c hc => (by cases hc), by simp⟩
    case round =>
      clear hcy
      obtain ⟨k, q, ny, dy, yd, ys, out, y, rfl, hk, rfl, hny, hdy, hnM, hV, hys, rfl, hown, hO, hyd, hlen⟩ := hrel
      have Hny := Lib.hid hny; have HV := Lib.hid hV; have Hys := Lib.hid hys; have Hown := Lib.hid hown; have HO := Lib.hid hO; have Hyd := Lib.hid hyd
      clear hny hV hys hown hO hyd
      by_cases hlt : k < nu
      · obtain ⟨e, he⟩ : ∃ e, U[k]? = some e := ⟨_, List.getElem?_eq_getElem (by have := Hnu.out; omega)⟩
        have hk0 : (0 : Int) ≤ (k : Int) := by omega
        have hkl : (k : Int) < (nu : Int) := by omega
        have hdk : U.drop k = e :: U.drop (k + 1) := by
          have h1 := List.getElem?_eq_some_iff.1 he
          rw [← h1.2, ← List.drop_eq_getElem_cons h1.1]
        have htk : U.take (k + 1) = U.take k ++ [e] := by rw [List.take_add_one, he]; rfl
        rw [hdk] at HO Hyd
        have Hev := Lib.hid (HnU.out.v e (List.mem_of_getElem? he))
        have HeU := Lib.hid (show Norm (e :: U.drop (k + 1)) by rw [← hdk]; exact HnU.out.drop k)
        have Htk := Lib.hid htk
        obtain ⟨b1, off1, rfl, h1'⟩ := Els.win HU0.out he
        have ra0 := h1'.c0
        have ra1 := h1'.c1
        obtain ⟨KB, hKB⟩ : ∃ KB, KB = k * (M + 1) := ⟨_, rfl⟩
        have hKB2 : KB ≤ 10000100000 := by
          rw [hKB]
          calc k * (M + 1) ≤ 100000 * 100001 := Nat.mul_le_mul (by omega) (by omega)
            _ = 10000100000 := rfl
        rw [← hKB] at hlen
        have HKB := Lib.hid hKB
        clear h1' he hdk htk hKB
        go_upto_region 8 with fail
        have hx0 : (y.w.alloc (.cells #[.int .i64 e.f, .int .i64 e.t] 30)).cell? ⟨y.w.heap.size, 0, none⟩ = some (.int .i64 e.f) := by simp [go_sem]
        have hx1 : (y.w.alloc (.cells #[.int .i64 e.f, .int .i64 e.t] 30)).cell? ⟨y.w.heap.size, 1, none⟩ = some (.int .i64 e.t) := by simp [go_sem]
        have hxf : ∀ o, (y.w.alloc (.cells #[.int .i64 e.f, .int .i64 e.t] 30)).frozen? ⟨y.w.heap.size, o, none⟩ = false := fun o => by simp [go_sem]
        have hlt0 : y.w.heap.size < (y.w.alloc (.cells #[.int .i64 e.f, .int .i64 e.t] 30)).heap.size := by simp
        have hst0 : ∃ zz : Since y.w, (y.w.alloc (.cells #[.int .i64 e.f, .int .i64 e.t] 30)) = zz.w := IsSince.alloc (IsSince.self _) _
        have hsz0 := y.b.size
        obtain ⟨y5, e2⟩ := IsSince.alloc (IsSince.of y) (.cells #[.int .i64 e.f, .int .i64 e.t] 30)
        rw [e2] at hx0 hx1 hxf hlt0 hst0 ⊢
        (have hne : ∀ b, u9.ownBlock = some b → b < y.w.heap.size := fun b hb => (World.ownsRow.lt Hown.out b hb).2; replace Hown := Lib.hid (own_to Hown.out hst0))
        clear e2 hst0
        generalize y.w.heap.size = gw at *
        have Hhx0 : ∀ q : Since y5.w, q.w.cell? ⟨gw, 0, none⟩ = some (.int .i64 e.f) := fun q => Since.cell hx0 (by omega) q
        have Hhx1 : ∀ q : Since y5.w, q.w.cell? ⟨gw, 1, none⟩ = some (.int .i64 e.t) := fun q => Since.cell hx1 (by omega) q
        have Hhxf : ∀ (q : Since y5.w) (o : Nat), q.w.frozen? ⟨gw, o, none⟩ = false := fun q o => Since.free (hxf o) (by omega) q
        have Hhxg := Lib.hid (And.intro hsz0 hlt0)
        clear hlt0 hsz0
        have Hbx := Lib.hid (⟨Hhxg.out.2, hx0, hx1, fun b hb => by have := hne b hb; omega⟩ : WBox y5.w gw (.int .i64 e.f) (.int .i64 e.t) u9)
        clear hx0 hx1 hxf hne ra0 ra1
        have Hyde := Lib.hid (show ∀ c ∈ yd, c.t ≤ e.f from fun c hc => Hyd.out c hc e (by simp))
        clear Hyd
        go_loopw [7] (fun sy wr => ∃ (q : Option Addr) (ny dy : Nat) (yd ys : List Win) (y6 : Since y5.w), sy = .slice q ny dy ∧ ny = ys.length ∧ ny ≤ dy ∧ ny ≤ M ∧ V = yd ++ ys ∧ WinRow y1.w q ys ∧ wr = y6.w ∧ (∀ c ∈ yd, c.t ≤ e.f)) (fun sy _ => (match sy with | .slice _ m _ => m | _ => 0))
        case atStart => exact ⟨q, ny, dy, yd, ys, Since.self _, rfl, Hny.out, hdy, hnM, HV.out, Hys.out, rfl, Hyde.out⟩
        case round =>
          clear Hny HV Hys Hyde hdy hnM
          obtain ⟨q, ny, dy, yd, ys, y6, rfl, hny, hdy, hnM, hV, hys, rfl, hyd⟩ := hrel
          have Hny := Lib.hid hny; have HV := Lib.hid hV; have Hys := Lib.hid hys; have Hyde := Lib.hid hyd
          clear hny hV hys hyd
          have hhead : (∃ b0 ys', ys = b0 :: ys' ∧ b0.t ≤ e.f) ∨ (∀ b0 ys', ys = b0 :: ys' → e.f < b0.t) := by
            cases ys with
            | nil => right; intro b0 ys' h; cases h
            | cons b0 ys' =>
              rcases (by omega : b0.t ≤ e.f ∨ e.f < b0.t) with h | h
              · exact .inl ⟨b0, ys', rfl, h⟩
              · right; intro b1 ys1 h1; cases h1; exact h
          rcases hhead with ⟨b0, ys', rfl, hb0⟩ | hstop
          · have hb0b : decide (b0.t ≤ e.f) = true := decide_eq_true hb0
            have h1 : 0 < ny := by have := Hny.out; simp at this; omega
            have hx0 : (0 : Int) < (ny : Int) := by omega
            have hx0b : decide ((0 : Int) < (ny : Int)) = true := decide_eq_true hx0
            have hx0c : decide (0 < ny) = true := decide_eq_true h1
            obtain ⟨yz, hyz⟩ := y5.trans y6
            obtain ⟨b2, off2, rfl, h2'⟩ := Els.win Hys.out (k := 0) rfl
            have kb1 : ∀ q : Since y6.w, q.w.cell? ⟨b2, off2 + 1, none⟩ = some (.int .i64 b0.t) := fun q => by
              obtain ⟨u, hu⟩ := y6.trans q
              obtain ⟨u2, hu2⟩ := y5.trans u
              rw [hu, hu2]
              have := h2'.c1 u2
              simpa using this
            have kw0 := Since.cellTo (⟨y6, rfl⟩ : ∃ zz : Since y5.w, y6.w = zz.w) Hhx0
            have Hx1 := Lib.hid (show ny - 1 = ys'.length by have := Hny.out; simp at this; omega)
            have Hxc := Lib.hid ((Hys.out.cut 1 dy (by have := Hny.out; omega)))
            rw [List.drop_succ_cons, List.drop_zero] at Hxc
            have Hyd3 := Lib.hid (show ∀ c ∈ yd ++ [b0], c.t ≤ e.f from fun c hc => by
              rcases List.mem_append.1 hc with h | h
              · exact Hyde.out c h
              · simp at h; subst h; exact hb0)
            clear h2' hyz hb0 Hhx0 Hhx1 Hhxf
            obtain ⟨q6, hq0⟩ := Since.refl y6.w
            rw [hq0]
            clear hq0
            go_wp2_with fail
            refine wp_region_since (by kernel_rfl) (by kernel_rfl) ?_
            repeat (go_big_quiet_step (fail))
            refine wpQuiet_nil ?_
            rintro _ ⟨z, rfl⟩
            go_wp2_with fail
            obtain ⟨y7, h7⟩ := y6.trans z
            rw [h7]
            clear h7
            go_roundw
            case rel => exact ⟨_, ny - 1, dy - 1, yd ++ [b0], ys', y7, rfl, Hx1.out, by omega, by omega, by rw [List.append_assoc]; exact HV.out, Hxc.out, rfl, Hyd3.out⟩
            case measure => simp <;> omega
          · go_upto_region 8 with fail
            go_cut [42] (fun s42 wr => s42 = .bool false ∧ ∃ z : Since y6.w, wr = z.w)
            case first =>
              have kw0 := Since.cellTo (⟨y6, rfl⟩ : ∃ zz : Since y5.w, y6.w = zz.w) Hhx0
              cases ys with
              | nil =>
                obtain rfl : ny = 0 := by have := Hny.out; simpa using this
                clear Hhx0 Hhx1 Hhxf
                obtain ⟨q6, hq0⟩ := Since.refl y6.w
                rw [hq0]
                clear hq0
                refine wp_region_since (by kernel_rfl) (by kernel_rfl) ?_
                repeat (go_big_quiet_step (fail))
                refine wpQuiet_nil ?_
                rintro _ ⟨z, rfl⟩
                go_wp2_with fail
                go_meet
                exact ⟨rfl, z, rfl⟩
              | cons b0 ys' =>
                have hb0b : decide (b0.t ≤ e.f) = false := decide_eq_false (by have := hstop b0 ys' rfl; omega)
                have h1 : 0 < ny := by have := Hny.out; simp at this; omega
                have hx0 : (0 : Int) < (ny : Int) := by omega
                have hx0b : decide ((0 : Int) < (ny : Int)) = true := decide_eq_true hx0
                have hx0c : decide (0 < ny) = true := decide_eq_true h1
                obtain ⟨b2, off2, rfl, h2'⟩ := Els.win Hys.out (k := 0) rfl
                have kb1 : ∀ q : Since y6.w, q.w.cell? ⟨b2, off2 + 1, none⟩ = some (.int .i64 b0.t) := fun q => by
                  obtain ⟨u, hu⟩ := y6.trans q
                  obtain ⟨u2, hu2⟩ := y5.trans u
                  rw [hu, hu2]
                  have := h2'.c1 u2
                  simpa using this
                clear h2' Hhx0 Hhx1 Hhxf hstop
                obtain ⟨q6, hq0⟩ := Since.refl y6.w
                rw [hq0]
                clear hq0
                refine wp_region_since (by kernel_rfl) (by kernel_rfl) ?_
                repeat (go_big_quiet_step (fail))
                refine wpQuiet_nil ?_
                rintro _ ⟨z, rfl⟩
                go_wp2_with fail
                go_meet
                exact ⟨rfl, z, rfl⟩
            case rest =>
              obtain ⟨rfl, z, rfl⟩ := hcut
              clear hstop Hhx0 Hhx1 Hhxf
              obtain ⟨y7, h7⟩ := y6.trans z
              obtain ⟨y8, h8⟩ := y5.trans y7
              rw [← h7] at h8
              have HB8 := Lib.hid (show WBox z.w gw (.int .i64 e.f) (.int .i64 e.t) u9 by rw [h7]; exact Hbx.out.to ⟨y7, rfl⟩)
              have Hown8 := Lib.hid (show z.w.ownsRow y1.w.heap.size 30 2 u9 out.length (flat Win.cs out) by rw [h7]; exact own_to Hown.out ⟨y7, rfl⟩)
              rw [h8] at HB8 Hown8 ⊢
              have kb0 := HB8.out.a0
              have Hyd2 := Lib.hid (show ∀ c ∈ yd, ∀ g ∈ U.drop (k + 1), c.t ≤ g.f from fun c hc g hg => by
                have h1 := Hyde.out c hc
                have h2 := HeU.out.hd g hg
                have h3 := Hev.out
                omega)
              have HI0 := Lib.hid (HO.out.enter Hev.out.2.1)
              have HP0 := Lib.hid (show Past e e.f (yd ++ ys.take 0) from fun c hc => .inl (Hyde.out c (by simpa using hc)))
              clear h7 h8 Hown Hbx HO
              go_wp2_with fail
              go_loopw [9, 12, 49] (fun so sa sj wr => ∃ (j : Nat) (at_ : Int) (out : List Win) (y9 : Since y1.w), sj = .int .i64 j ∧ j ≤ ny ∧ sa = .int .i64 at_ ∧ wr = y9.w ∧ y9.w.ownsRow y1.w.heap.size 30 2 so out.length (flat Win.cs out) ∧ WBox y9.w gw (.int .i64 e.f) (.int .i64 e.t) so ∧ MinI (fun t => hasW (U.take k) t && !hasW V t) (hasW V) e at_ out ∧ Past e at_ (yd ++ ys.take j) ∧ out.length ≤ KB + j) (fun _ _ sj _ => ny - (intOf sj).toNat)
              case atStart => exact ⟨0, e.f, out, y8, rfl, by omega, rfl, rfl, Hown8.out, HB8.out, HI0.out, HP0.out, by omega⟩
              case round =>
                clear HB8 Hown8 kb0 HI0 HP0
                obtain ⟨j, at_, out, y9, rfl, hj, rfl, rfl, hown, hbx, hI, hPs, hlen3'⟩ := hrel
                have hlen3 : out.length ≤ KB + M := by omega
                by_cases hjn : j < ny
                · obtain ⟨b0, hb0⟩ : ∃ b0, ys[j]? = some b0 := ⟨_, List.getElem?_eq_getElem (by have := Hny.out; omega)⟩
                  have hj0 : (0 : Int) ≤ (j : Int) := by omega
                  have hjl : (j : Int) < (ny : Int) := by omega
                  have hdj : V = (yd ++ ys.take j) ++ b0 :: ys.drop (j + 1) := by
                    have h1 := List.getElem?_eq_some_iff.1 hb0
                    rw [HV.out, List.append_assoc, ← h1.2, ← List.drop_eq_getElem_cons h1.1, List.take_append_drop]
                  have Htj := Lib.hid (show yd ++ ys.take (j + 1) = (yd ++ ys.take j) ++ [b0] by rw [List.take_add_one, hb0, List.append_assoc]; rfl)
                  have hnb : Norm (b0 :: ys.drop (j + 1)) := by
                    have := HnV.out
                    rw [hdj] at this
                    exact ⟨fun x hx => this.v x (List.mem_append_right _ hx), (List.pairwise_append.1 this.s).2.1⟩
                  obtain ⟨b2, off2, rfl, h2'⟩ := Els.win Hys.out hb0
                  have rh0 := h2'.c0
                  have rh1 := h2'.c1
                  have Hown3 := Lib.hid hown
                  have HBx := Lib.hid hbx
                  have HI := Lib.hid hI
                  have HPs := Lib.hid hPs
                  have Hdj := Lib.hid hdj
                  have Hnb := Lib.hid hnb
                  clear h2' hb0 hown hbx hI hPs hdj hnb
                  go_upto_region 14 with fail
                  have hx0 : (y9.w.alloc (.cells #[.int .i64 b0.f, .int .i64 b0.t] 30)).cell? ⟨y9.w.heap.size, 0, none⟩ = some (.int .i64 b0.f) := by simp [go_sem]
                  have hx1 : (y9.w.alloc (.cells #[.int .i64 b0.f, .int .i64 b0.t] 30)).cell? ⟨y9.w.heap.size, 1, none⟩ = some (.int .i64 b0.t) := by simp [go_sem]
                  have hxf : ∀ o, (y9.w.alloc (.cells #[.int .i64 b0.f, .int .i64 b0.t] 30)).frozen? ⟨y9.w.heap.size, o, none⟩ = false := fun o => by simp [go_sem]
                  have hlt0 : y9.w.heap.size < (y9.w.alloc (.cells #[.int .i64 b0.f, .int .i64 b0.t] 30)).heap.size := by simp
                  have hst0 : ∃ zz : Since y9.w, (y9.w.alloc (.cells #[.int .i64 b0.f, .int .i64 b0.t] 30)) = zz.w := IsSince.alloc (IsSince.self _) _
                  have hsz0 := y9.b.size
                  obtain ⟨y10, e2⟩ := IsSince.alloc (IsSince.of y9) (.cells #[.int .i64 b0.f, .int .i64 b0.t] 30)
                  rw [e2] at hx0 hx1 hxf hlt0 hst0 ⊢
                  (have hne : ∀ b, u9.ownBlock = some b → b < y9.w.heap.size := fun b hb => (World.ownsRow.lt Hown3.out b hb).2; replace Hown3 := Lib.hid (own_to Hown3.out hst0); replace HBx := Lib.hid (HBx.out.to hst0))
                  clear e2 hst0
                  generalize y9.w.heap.size = gh at *
                  have Hhx0 : ∀ q : Since y10.w, q.w.cell? ⟨gh, 0, none⟩ = some (.int .i64 b0.f) := fun q => Since.cell hx0 (by omega) q
                  have Hhx1 : ∀ q : Since y10.w, q.w.cell? ⟨gh, 1, none⟩ = some (.int .i64 b0.t) := fun q => Since.cell hx1 (by omega) q
                  have Hhxf : ∀ (q : Since y10.w) (o : Nat), q.w.frozen? ⟨gh, o, none⟩ = false := fun q o => Since.free (hxf o) (by omega) q
                  have Hhxg := Lib.hid (And.intro hsz0 hlt0)
                  clear hlt0 hsz0
                  have HGx := Lib.hid (⟨Hhxg.out.2, hx0, hx1, fun b hb => by have := hne b hb; omega⟩ : WBox y10.w gh (.int .i64 b0.f) (.int .i64 b0.t) u9)
                  have ka0 := HBx.out.a1
                  have kg0 := HGx.out.a0
                  have kg0' := HGx.out.a1
                  clear hx0 hx1 hxf hne rh0 rh1 Hhx0 Hhx1 Hhxf
                  rcases (by omega : e.t ≤ b0.f ∨ b0.f < e.t) with hbr | hbr
                  · have HPst := Lib.hid (show Past e at_ V from fun c hc => by
                      rw [Hdj.out] at hc
                      rcases List.mem_append.1 hc with h | h
                      · exact HPs.out c h
                      · right
                        rcases List.mem_cons.1 h with rfl | h
                        · exact hbr
                        · have := Hnb.out.hd c h
                          have := Hnb.out.v b0 (by simp)
                          omega)
                    clear HPs Hnb HGx Htj Hdj
                    have Hlv := Lib.hid (HI.out.leave HPst.out HeU.out)
                    have kb1 := HBx.out.a1
                    have HLen := Lib.hid (add_len out ⟨at_, e.t⟩)
                    rcases (by omega : at_ < e.t ∨ e.t ≤ at_) with hat | hat
                    · have Hadd := Lib.hid (show addW out ⟨at_, e.t⟩ = out ++ [⟨at_, e.t⟩] from addW_yes hat)
                      rw [Hadd.out] at Hlv HLen
                      go_upto_region 21 with (at_builtin; (refine wpList_appendL (w0 := y1.w) ?hw rfl _ _ 35 rfl y1.w.heap.size (Nat.le_refl _) ?hb 30 (.agg #[.int .i64 0, .int .i64 0]) 16 sWin u9 out.length (flat Win.cs out) rfl ?hown ⟨y10.w.heap.size, 0, none⟩ 1 1 (⟨at_, e.t⟩ : Win).cs rfl rfl ?hc (win_one _) (by decide) ?h63 ?hbytes ?_; rotate_right 1; intro v2 q2 hown4 hg4 hl4))
                      case hw => exact IsSince.alloc (IsSince.of y10) _
                      case hb => have := (IsSince.size (IsSince.of y10)); simp; omega
                      case hown => exact own_to (Hown3.out) (IsSince.alloc (IsSince.self _) _)
                      case hc => exact cell_new_at y10.w (⟨at_, e.t⟩ : Win).cs _
                      case h63 => unfold maxLen; omega
                      case hbytes => omega
                      rw [← flat_one Win.cs (⟨at_, e.t⟩ : Win), ← flat_append] at hown4
                      have Hown4 := Lib.hid (show q2.w.ownsRow y1.w.heap.size 30 2 v2 (out ++ [(⟨at_, e.t⟩ : Win)]).length (flat Win.cs (out ++ [(⟨at_, e.t⟩ : Win)])) by rw [List.length_append, List.length_singleton]; exact hown4)
                      clear hown4 hg4 hl4 hat HI HPst HBx
                      go_wp2_with fail
                      go_roundw
                      case rel => exact ⟨k + 1, _, ny, dy, yd, ys, out ++ [⟨at_, e.t⟩], q2, by go_num, by omega, rfl, Hny.out, hdy, hnM, HV.out, Hys.out, rfl, Hown4.out, by rw [Htk.out]; exact Hlv.out, Hyd2.out, by have h1 := HLen.out; have h2 := HKB.out; have h3 : (k + 1) * (M + 1) = k * (M + 1) + (M + 1) := Nat.succ_mul k (M + 1); omega⟩
                      case measure => simp [intOf] <;> omega
                    · have hatb : e.t ≤ at_ := hat
                      have Hadd := Lib.hid (show addW out ⟨at_, e.t⟩ = out from addW_no (by show ¬ at_ < e.t; omega))
                      rw [Hadd.out] at Hlv
                      clear HI HPst
                      go_wp2_with fail
                      go_roundw
                      case rel => exact ⟨k + 1, _, ny, dy, yd, ys, out, y10, by go_num, by omega, rfl, Hny.out, hdy, hnM, HV.out, Hys.out, rfl, Hown3.out, by rw [Htk.out]; exact Hlv.out, Hyd2.out, by have h2 := HKB.out; have h3 : (k + 1) * (M + 1) = k * (M + 1) + (M + 1) := Nat.succ_mul k (M + 1); omega⟩
                      case measure => simp [intOf] <;> omega
                  · have Hh := Lib.hid (show MinI (fun t => hasW (U.take k) t && !hasW V t) (hasW V) e (max at_ b0.t) (addW out ⟨at_, b0.f⟩) ∧ Past e (max at_ b0.t) (yd ++ ys.take (j + 1)) by
                      have hI := HI.out
                      have he := Hev.out
                      have key : ∀ W, W = (yd ++ ys.take j) ++ b0 :: ys.drop (j + 1) → MinI (fun t => hasW (U.take k) t && !hasW V t) (hasW W) e at_ out → MinI (fun t => hasW (U.take k) t && !hasW V t) (hasW W) e (max at_ b0.t) (addW out ⟨at_, b0.f⟩) ∧ Past e (max at_ b0.t) ((yd ++ ys.take j) ++ [b0]) := fun W hW h => by
                        subst hW
                        exact h.hole HPs.out ⟨he.1, he.2.2⟩ Hnb.out hbr
                      rw [Htj.out]
                      exact key V Hdj.out hI)
                    clear HI HPs Hnb Htj Hdj
                    rcases (by omega : at_ < b0.f ∨ b0.f ≤ at_) with hat | hat
                    · have Hadd := Lib.hid (show addW out ⟨at_, b0.f⟩ = out ++ [⟨at_, b0.f⟩] from addW_yes hat)
                      rw [Hadd.out] at Hh
                      go_upto_region 17 with (at_builtin; (refine wpList_appendL (w0 := y1.w) ?hw rfl _ _ 35 rfl y1.w.heap.size (Nat.le_refl _) ?hb 30 (.agg #[.int .i64 0, .int .i64 0]) 16 sWin u9 out.length (flat Win.cs out) rfl ?hown ⟨y10.w.heap.size, 0, none⟩ 1 1 (⟨at_, b0.f⟩ : Win).cs rfl rfl ?hc (win_one _) (by decide) ?h63 ?hbytes ?_; rotate_right 1; intro v2 q2 hown4 hg4 hl4))
                      case hw => exact IsSince.alloc (IsSince.of y10) _
                      case hb => have := y10.b.size; simp; omega
                      case hown => exact own_to Hown3.out (IsSince.alloc (IsSince.self _) _)
                      case hc => exact cell_new_at y10.w (⟨at_, b0.f⟩ : Win).cs _
                      case h63 => unfold maxLen; omega
                      case hbytes => omega
                      rw [← flat_one Win.cs (⟨at_, b0.f⟩ : Win), ← flat_append] at hown4
                      have Hown4 := Lib.hid (show q2.w.ownsRow y1.w.heap.size 30 2 v2 (out ++ [(⟨at_, b0.f⟩ : Win)]).length (flat Win.cs (out ++ [(⟨at_, b0.f⟩ : Win)])) by rw [List.length_append, List.length_singleton]; exact hown4)
                      have HB4 := Lib.hid ((HBx.out.to (IsSince.alloc (IsSince.self _) (.cells (⟨at_, b0.f⟩ : Win).cs.toArray 30))).app hg4 hl4)
                      have HG4 := Lib.hid ((HGx.out.to (IsSince.alloc (IsSince.self _) (.cells (⟨at_, b0.f⟩ : Win).cs.toArray 30))).app hg4 hl4)
                      have kg1 := HG4.out.a1
                      clear hown4 hg4 hl4 HBx HGx ka0 kg0
                      go_wp2_with fail
                      go_roundw
                      case rel => exact ⟨j + 1, max at_ b0.t, out ++ [⟨at_, b0.f⟩], q2, by go_num, by omega, rfl, rfl, Hown4.out, HB4.out, Hh.out.1, Hh.out.2, by simp; omega⟩
                      case measure => simp [intOf] <;> omega
                    · have Hadd := Lib.hid (show addW out ⟨at_, b0.f⟩ = out from addW_no (by show ¬ at_ < b0.f; omega))
                      rw [Hadd.out] at Hh
                      go_wp2_with fail
                      go_roundw
                      case rel => exact ⟨j + 1, max at_ b0.t, out, y10, by go_num, by omega, rfl, rfl, Hown3.out, HBx.out, Hh.out.1, Hh.out.2, by omega⟩
                      case measure => simp [intOf] <;> omega
                · obtain rfl : ny = j := by omega
                  have Hown3 := Lib.hid hown
                  have HBx := Lib.hid hbx
                  have HI := Lib.hid hI
                  have HPst := Lib.hid (show Past e at_ V by
                    rw [HV.out]
                    have h := hPs
                    rw [List.take_of_length_le (by have := Hny.out; omega)] at h
                    exact h)
                  clear hown hbx hI hPs
                  have Hlv := Lib.hid (HI.out.leave HPst.out HeU.out)
                  have kb1 := HBx.out.a1
                  have HLen := Lib.hid (add_len out ⟨at_, e.t⟩)
                  rcases (by omega : at_ < e.t ∨ e.t ≤ at_) with hat | hat
                  · have Hadd := Lib.hid (show addW out ⟨at_, e.t⟩ = out ++ [⟨at_, e.t⟩] from addW_yes hat)
                    rw [Hadd.out] at Hlv HLen
                    go_upto_region 21 with (at_builtin; (refine wpList_appendL (w0 := y1.w) ?hw rfl _ _ 35 rfl y1.w.heap.size (Nat.le_refl _) ?hb 30 (.agg #[.int .i64 0, .int .i64 0]) 16 sWin u9 out.length (flat Win.cs out) rfl ?hown ⟨y9.w.heap.size, 0, none⟩ 1 1 (⟨at_, e.t⟩ : Win).cs rfl rfl ?hc (win_one _) (by decide) ?h63 ?hbytes ?_; rotate_right 1; intro v2 q2 hown4 hg4 hl4))
                    case hw => exact IsSince.alloc (IsSince.of y9) _
                    case hb => have := (IsSince.size (IsSince.of y9)); simp; omega
                    case hown => exact own_to (Hown3.out) (IsSince.alloc (IsSince.self _) _)
                    case hc => exact cell_new_at y9.w (⟨at_, e.t⟩ : Win).cs _
                    case h63 => unfold maxLen; omega
                    case hbytes => omega
                    rw [← flat_one Win.cs (⟨at_, e.t⟩ : Win), ← flat_append] at hown4
                    have Hown4 := Lib.hid (show q2.w.ownsRow y1.w.heap.size 30 2 v2 (out ++ [(⟨at_, e.t⟩ : Win)]).length (flat Win.cs (out ++ [(⟨at_, e.t⟩ : Win)])) by rw [List.length_append, List.length_singleton]; exact hown4)
                    clear hown4 hg4 hl4 hat HI HPst HBx
                    go_wp2_with fail
                    go_roundw
                    case rel => exact ⟨k + 1, _, ny, dy, yd, ys, out ++ [⟨at_, e.t⟩], q2, by go_num, by omega, rfl, Hny.out, hdy, hnM, HV.out, Hys.out, rfl, Hown4.out, by rw [Htk.out]; exact Hlv.out, Hyd2.out, by have h1 := HLen.out; have h2 := HKB.out; have h3 : (k + 1) * (M + 1) = k * (M + 1) + (M + 1) := Nat.succ_mul k (M + 1); omega⟩
                    case measure => simp [intOf] <;> omega
                  · have hatb : e.t ≤ at_ := hat
                    have Hadd := Lib.hid (show addW out ⟨at_, e.t⟩ = out from addW_no (by show ¬ at_ < e.t; omega))
                    rw [Hadd.out] at Hlv
                    clear HI HPst
                    go_wp2_with fail
                    go_roundw
                    case rel => exact ⟨k + 1, _, ny, dy, yd, ys, out, y9, by go_num, by omega, rfl, Hny.out, hdy, hnM, HV.out, Hys.out, rfl, Hown3.out, by rw [Htk.out]; exact Hlv.out, Hyd2.out, by have h2 := HKB.out; have h3 : (k + 1) * (M + 1) = k * (M + 1) + (M + 1) := Nat.succ_mul k (M + 1); omega⟩
                    case measure => simp [intOf] <;> omega
      · obtain rfl : k = nu := by omega
        have Hset := Lib.hid (show IsSet out (fun t => hasW a t && !hasW b t) from by
          have h := HO.out
          rw [List.take_of_length_le (by have := Hnu.out; omega)] at h
          exact ⟨h.n, fun t => by rw [h.h, Hhas.out.1, Hhas.out.2]⟩)
        have Hlen9 := Lib.hid (show out.length ≤ a.length * (b.length + 1) from Nat.le_trans hlen (Nat.mul_le_mul hlU (by omega)))
        obtain ⟨hlen1, a5, c5, rfl, hc5, he5, _, _⟩ := own_els Win.len (by decide) Hown.out
        obtain ⟨y5, h5⟩ := y1.trans y
        have H5 := Lib.hid (HP.out a5 c5 out y5 (h5 ▸ he5) hc5 Hset.out Hlen9.out)
        rw [h5]
        clear hlen1 hc5 he5 h5
        go_wp2_with fail
        exact H5.out
end Go.Proofs.YtnkmngkinjjbfaaDoor
