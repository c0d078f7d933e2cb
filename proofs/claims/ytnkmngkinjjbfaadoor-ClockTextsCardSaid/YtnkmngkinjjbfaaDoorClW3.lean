/- The walks of windows, third part: the union. -/
import Derived.Test.YtnkmngkinjjbfaaDoorClW2
import Derived.Test.YtnkmngkinjjbfaaDoorCopy
import Derived.Test.YtnkmngkinjjbfaaDoorReg
set_option linter.all false
namespace Go.Proofs.YtnkmngkinjjbfaaDoor
open Go.RowKit

theorem sWin : SliceOf Tryd.prog 35 30 (.agg #[.int .i64 0, .int .i64 0]) 2 16 := SliceOf.mk' Tryd.underlying35 (by kernel_rfl) rfl (by decide)
def unE (l : List Win) : Int := if badW l then 1 else 0
/-- what a union is -/
structure UnOk (l u : List Win) : Prop where
  ok : badW l = false → IsSet u (hasW l)
  no : badW l = true → u = []
  n : u.length ≤ l.length
theorem UnOk.unique {l u v : List Win} (h : UnOk l u) (k : UnOk l v) : u = v := by
  cases hb : badW l
  · exact (h.ok hb).unique (k.ok hb)
  · rw [h.no hb, k.no hb]
/-- a list of windows of the call's own and an error -/
def SetRes (w : World) (Q : List Win → Prop) (e : Int) (o : Ending) (w' : World) : Prop :=
  ∃ (a : Option Addr) (cap : Nat) (u : List Win) (y : Since w), o = .returned (.tuple #[.slice a u.length cap, .int .i64 e]) ∧ w' = y.w ∧ WinRow y.w a u ∧ u.length ≤ cap ∧ Q u
theorem setRes_nil {w : World} {Q : List Win → Prop} {e : Int} (h : Q []) (y : Since w) : SetRes w Q e (.returned (.tuple #[.slice none 0 0, .int .i64 e])) y.w := ⟨none, 0, [], y, rfl, rfl, els_nil _ _, Nat.le_refl _, h⟩
theorem win_set (o : List Win) (l : Win) (t : Int) : (flat Win.cs (o ++ [l])).set (o.length * 2 + 1) (.int .i64 t) = flat Win.cs (o ++ [⟨l.f, t⟩]) := by
  rw [flat_append, flat_append, flat_one, flat_one]
  have hl : (flat Win.cs o).length = o.length * 2 := flat_length Win.len o
  rw [List.set_append_right _ _ (by omega), hl, show o.length * 2 + 1 - o.length * 2 = 1 by omega]
  rfl
theorem snoc_of {α : Type} {l : List α} (h : l ≠ []) : ∃ o x, l = o ++ [x] := ⟨l.dropLast, l.getLast h, (List.dropLast_concat_getLast h).symm⟩
set_option maxRecDepth 100000 in
set_option maxHeartbeats 8000000 in
theorem union_calls (w : World) (x : Since w) (a : Option Addr) (l : List Win) (c : Nat) (h : WinRow w a l) (hl : l.length ≤ 100000) :
    Calls Tryd.prog 25 #[.slice a l.length c] x.w (SetRes w (UnOk l) (unE l)) := by
  have HL := Lib.hid h
  clear h
  obtain ⟨i0, hi0, hz0, hsz0, hby0⟩ := sWin.e
  go_enter Tryd.func25, Tryd.ntmps25
  go_wp2_with (at_make; refine wpList_make_full _ rfl _ _ 35 rfl w.heap.size 30 i0 (.agg #[.int .i64 0, .int .i64 0]) 2 Tryd.underlying35 hi0 hz0 hsz0 .i64 .i64 (l.length : Int) (l.length : Int) l.length rfl rfl rfl rfl (by rw [hby0]; omega) (by unfold maxLen; omega) x.b.size ?_; intro w1 hown hg1)
  obtain ⟨y1, hy1⟩ := x.grown hg1 (fun k hk => by cases hk)
  subst hy1
  have Hown := Lib.hid hown
  have Hgs := Lib.hid x.b.size
  clear hown hg1
  generalize x.w.heap.size = g0 at *
  obtain ⟨q1, hcp, hown2, hg2⟩ := copyEls_run (P := Tryd.prog) y1 Win.len (by decide) win_one 35 3 w.heap.size (Nat.le_refl _) 30 (.agg #[.int .i64 0, .int .i64 0]) 16 sWin (.slice (some ⟨g0, 0, none⟩) l.length l.length) l.length _ Hown.out a l c (Since.els HL.out y1) rfl
  have Hown2 := Lib.hid hown2
  clear Hown hown2 hg2
  go_upto_region 3 with fail
  rw [hcp]
  go_upto_region 3 with fail
  clear hcp hi0 hz0 hsz0 hby0
  obtain ⟨_, a1, c1, hv1, hc1, he1, _, _⟩ := own_els Win.len (by decide) Hown2.out
  obtain ⟨rfl, rfl⟩ : a1 = some ⟨g0, 0, none⟩ ∧ c1 = l.length := by simp at hv1; exact ⟨hv1.1.symm, hv1.2.symm⟩
  have Hany := Lib.hid (anyW_calls q1.w (Since.self _) (some ⟨g0, 0, none⟩) l l.length he1 (by omega))
  have Hue := Lib.hid (show unE l = if badW l then 1 else 0 from rfl)
  clear hv1 hc1 he1
  have Hst := Lib.hid (fun q : Since q1.w => q1.trans q)
  go_wp2_with fail
  refine Hany.out.mono ?_
  rintro _ _ ⟨rfl, z1, rfl⟩
  clear Hany
  have Hown3 := Lib.hid (own_to Hown2.out ⟨z1, rfl⟩)
  obtain ⟨y2, h2⟩ := Hst.out z1
  rw [h2] at Hown3 ⊢
  clear h2 Hst Hown2
  cases hb : badW l with
  | true =>
    have HP := Lib.hid (show SetRes w (UnOk l) (unE l) (.returned (.tuple #[.slice none 0 0, .int .i64 1])) y2.w by
      rw [Hue.out, hb]; exact setRes_nil ⟨fun h => by rw [hb] at h; (cases h), fun _ => rfl, by simp⟩ y2)
    generalize SetRes w (UnOk l) (unE l) = PO at *
    clear hb Hue
    go_wp2_with fail
    exact HP.out
  | false =>
    have HP := Lib.hid (show ∀ (a : Option Addr) (cap : Nat) (u : List Win) (y : Since w), WinRow y.w a u → u.length ≤ cap → IsSet u (hasW l) → u.length ≤ l.length → SetRes w (UnOk l) (unE l) (.returned (.tuple #[.slice a u.length cap, .int .i64 0])) y.w from fun a cap u y h1 h2 h3 h4 => by
      rw [Hue.out, hb]; exact ⟨a, cap, u, y, rfl, rfl, h1, h2, ⟨fun _ => h3, fun h => by rw [hb] at h; (cases h), h4⟩⟩)
    have Hgood := Lib.hid (badW_false.1 hb)
    generalize SetRes w (UnOk l) (unE l) = PO at *
    clear hb Hue
    go_wp2_with fail
    refine (sortW_calls y2.w w.heap.size _ l.length l Hown3.out (by omega)).mono ?_
    rintro _ w3 ⟨rfl, hg, a3, c3, s, hv3, hc3, hp3, hs3, he3⟩
    obtain ⟨rfl, rfl⟩ : a3 = some ⟨g0, 0, none⟩ ∧ c3 = l.length := by simp at hv3; exact ⟨hv3.1.symm, hv3.2.symm⟩
    have hHg := Hgs.out
    obtain ⟨y3, rfl⟩ := y2.grown hg (fun k hk => by simp [Value.ownBlock] at hk; omega)
    have HS := Lib.hid he3
    have Hp := Lib.hid hp3
    have Hsl := Lib.hid (show s.length = l.length from hp3.length_eq)
    have Hss := Lib.hid hs3
    clear hg hv3 hc3 hp3 hs3 he3 Hown3 hHg
    obtain ⟨n, hn⟩ : ∃ n, n = l.length := ⟨_, rfl⟩
    rw [← hn]
    have Hn := Lib.hid hn
    have hn2 : n ≤ 100000 := by omega
    clear hn
    go_wp2_with fail
    go_loopw [5, 21] (fun v i wr => ∃ (k : Nat) (out : List Win) (y : Since y3.w), k ≤ n ∧ i = .int .i64 k ∧ wr = y.w ∧ y.w.ownsRow y3.w.heap.size 30 2 v out.length (flat Win.cs out) ∧ Mrg (s.take k) out ∧ out.length ≤ k) (fun _ i _ => n - (intOf i).toNat)
    case atStart => exact ⟨0, [], Since.self _, by omega, rfl, rfl, ⟨rfl, .inl ⟨rfl, rfl⟩⟩, by rw [List.take_zero]; exact mrg_nil, by simp⟩
    case round =>
      obtain ⟨k, out, y, hk, rfl, rfl, hown, hM, hok⟩ := hrel
      have Hown := Lib.hid hown; have HM := Lib.hid hM
      clear hown hM
      by_cases hlt : k < n
      · obtain ⟨e, he⟩ : ∃ e, s[k]? = some e := ⟨_, List.getElem?_eq_getElem (by have := Hsl.out; have := Hn.out; omega)⟩
        have hk0 : (0 : Int) ≤ (k : Int) := by omega
        have hkl : (k : Int) < (n : Int) := by omega
        obtain ⟨b1, off1, hbo, h1'⟩ := Els.win HS.out he
        simp only [Option.some.injEq, Addr.mk.injEq, and_true] at hbo
        obtain ⟨rfl, rfl⟩ := hbo
        have ra0 := h1'.c0
        have ra1 := h1'.c1
        simp only [Nat.zero_add] at ra0 ra1
        have Htk := Lib.hid (show s.take (k + 1) = s.take k ++ [e] by rw [List.take_add_one, he]; rfl)
        have Hev := Lib.hid (Hgood.out e (Hp.out.mem_iff.1 (List.mem_of_getElem? he)))
        obtain ⟨ev1, ev2, ev3⟩ := (vldW_iff e).1 Hev.out
        have Hpre := Lib.hid (show ∀ x ∈ s.take k, x.f ≤ e.f from fun x hx => by
          obtain ⟨j, hj⟩ := List.mem_iff_getElem?.1 hx
          rw [List.getElem?_take] at hj
          split at hj
          · have h1 := List.getElem?_eq_some_iff.1 hj
            have h2 := List.getElem?_eq_some_iff.1 he
            have := List.pairwise_iff_getElem.1 Hss.out j k h1.1 h2.1 (by omega)
            rw [h1.2, h2.2] at this; exact this
          · cases hj)
        clear h1' he
        go_upto_region 10 with fail
        have hx0 : (y.w.alloc (.cells #[.int .i64 e.f, .int .i64 e.t] 30)).cell? ⟨y.w.heap.size, 0, none⟩ = some (.int .i64 e.f) := by simp [go_sem]
        have hx1 : (y.w.alloc (.cells #[.int .i64 e.f, .int .i64 e.t] 30)).cell? ⟨y.w.heap.size, 1, none⟩ = some (.int .i64 e.t) := by simp [go_sem]
        have hxf : ∀ o, (y.w.alloc (.cells #[.int .i64 e.f, .int .i64 e.t] 30)).frozen? ⟨y.w.heap.size, o, none⟩ = false := fun o => by simp [go_sem]
        have hlt0 : y.w.heap.size < (y.w.alloc (.cells #[.int .i64 e.f, .int .i64 e.t] 30)).heap.size := by simp
        have hst0 : ∃ zz : Since y.w, (y.w.alloc (.cells #[.int .i64 e.f, .int .i64 e.t] 30)) = zz.w := IsSince.alloc (IsSince.self _) _
        have hsz0 := y.b.size
        obtain ⟨y5, e2⟩ := IsSince.alloc (IsSince.of y) (.cells #[.int .i64 e.f, .int .i64 e.t] 30)
        rw [e2] at hx0 hx1 hxf hlt0 hst0 ⊢
        (replace Hown := Lib.hid (own_to Hown.out hst0))
        clear e2 hst0
        generalize y.w.heap.size = gw at *
        have Hhx0 : ∀ q : Since y5.w, q.w.cell? ⟨gw, 0, none⟩ = some (.int .i64 e.f) := fun q => Since.cell hx0 (by omega) q
        have Hhx1 : ∀ q : Since y5.w, q.w.cell? ⟨gw, 1, none⟩ = some (.int .i64 e.t) := fun q => Since.cell hx1 (by omega) q
        have Hhxf : ∀ (q : Since y5.w) (o : Nat), q.w.frozen? ⟨gw, o, none⟩ = false := fun q o => Since.free (hxf o) (by omega) q
        have Hhxg := Lib.hid (And.intro hsz0 hlt0)
        clear hlt0 hsz0
        clear hx0 hx1 hxf ra0 ra1
        by_cases hee : e.f = e.t
        · have heb : (e.f == e.t) = true := by simpa using hee
          have HM2 := Lib.hid (show Mrg (s.take (k + 1)) out by rw [Htk.out]; exact HM.out.skip hee)
          clear hee HM
          have hol : ((out.length : Nat) : Int) ≤ 100000 := by omega
          obtain ⟨hlen, a5, c5, rfl, _⟩ := own_els Win.len (by decide) Hown.out
          obtain ⟨q5, hq0⟩ := Since.refl y5.w
          rw [hq0]
          clear hq0
          go_wp2_with fail
          obtain ⟨y6, h6⟩ := y5.trans q5
          have Hown6 := Lib.hid (own_to Hown.out ⟨q5, rfl⟩)
          rw [h6] at Hown6 ⊢
          go_roundw
          case rel => exact ⟨k + 1, out, y6, by omega, by go_num, rfl, Hown6.out, HM2.out, by omega⟩
          case measure => simp [intOf] <;> omega
        · have heb : (e.f == e.t) = false := by simpa using hee
          have hlt2 : e.f < e.t := by omega
          clear hee
          by_cases hoe : out = []
          · subst hoe
            have HM2 := Lib.hid (show Mrg (s.take (k + 1)) ([] ++ [e]) by rw [Htk.out]; exact HM.out.new Hev.out hlt2 (fun v hv => by cases hv))
            clear HM
            obtain ⟨_, a5, c5, hv5, _⟩ := own_els Win.len (by decide) Hown.out
            have hv5' : u5 = .slice a5 0 c5 := hv5
            subst hv5'
            clear hv5
            obtain ⟨q5, hq0⟩ := Since.refl y5.w
            rw [hq0]
            clear hq0
            go_wp2_with fail
            refine wp_region_since (by kernel_rfl) (by kernel_rfl) ?_
            repeat (go_big_quiet_step (fail))
            refine wpQuiet_nil ?_
            rintro _ ⟨z, rfl⟩
            go_wp2_with (at_builtin; (refine wpList_appendK (w0 := y3.w) ?hw rfl _ _ 35 rfl y3.w.heap.size (Nat.le_refl _) ?hb 30 (.agg #[.int .i64 0, .int .i64 0]) 16 sWin (.slice a5 0 c5) 0 (flat Win.cs []) rfl ?hown ⟨z.w.heap.size, 0, none⟩ 1 1 e.cs rfl rfl ?hc (win_one e) ?h63 ?hbytes ?_; rotate_right 1; intro v2 q2 hown4 _ hg4))
            case hw => obtain ⟨yz, hyz⟩ := y5.trans z; rw [hyz]; exact IsSince.alloc (IsSince.of yz) _
            case hb => have := y5.b.size; have := z.b.size; simp; omega
            case hown => exact own_to (own_to Hown.out ⟨z, rfl⟩) (IsSince.alloc (IsSince.self _) _)
            case hc => exact cell_new_at z.w e.cs _
            case h63 => unfold maxLen; omega
            case hbytes => omega
            rw [← flat_one Win.cs e, ← flat_append] at hown4
            have Hown4 := Lib.hid hown4
            clear hown4 hg4
            go_wp2_with fail
            go_roundw
            case rel => exact ⟨k + 1, [] ++ [e], q2, by omega, by go_num, rfl, by rw [List.length_append, List.length_singleton]; exact Hown4.out, HM2.out, by (try simp at *) <;> omega⟩
            case measure => simp [intOf] <;> omega
          · obtain ⟨o, lw, rfl⟩ := snoc_of hoe
            clear hoe
            have hm : (o ++ [lw]).length = o.length + 1 := by simp
            rw [hm] at Hown hok
            obtain ⟨g5, c5, rfl, hg5, hc5⟩ := own_some Hown.out (by omega)
            obtain ⟨kl, fl, _⟩ := own_cell Hown.out (flat_at Win.len (o ++ [lw]) o.length lw 1 (.int .i64 lw.t) (by simp) rfl)
            have hm0 : (0 : Int) ≤ (o.length : Int) := by omega
            have hmb : decide (0 ≤ (o.length : Int)) = true := decide_eq_true hm0
            have hm1 : (o.length : Int) ≤ 100000 := by omega
            have hlf := HM.out.b e.f Hpre.out lw (by simp)
            by_cases hle : e.f ≤ lw.t
            · have hleb : decide (e.f ≤ lw.t) = true := decide_eq_true hle
              have HM2 := Lib.hid (show Mrg (s.take (k + 1)) (o ++ [⟨lw.f, max lw.t e.t⟩]) by rw [Htk.out]; exact HM.out.join Hev.out hlf hle Hpre.out)
              clear hle hlf HM
              obtain ⟨q5, hq0⟩ := Since.refl y5.w
              rw [hq0]
              clear hq0
              go_wp2_with fail
              refine wp_region_since (by kernel_rfl) (by kernel_rfl) ?_
              repeat (go_big_quiet_step (fail))
              refine wpQuiet_nil ?_
              rintro _ ⟨z, rfl⟩
              go_upto_region 14 with fail
              have kl2 := Since.cellTo (⟨z, rfl⟩ : ∃ zz : Since y5.w, z.w = zz.w) kl
              have ke2 := Since.cellTo (⟨z, rfl⟩ : ∃ zz : Since y5.w, z.w = zz.w) Hhx1
              have fl2 : ∀ q : Since z.w, q.w.frozen? ⟨g5, o.length * 2 + 1, none⟩ = false := fun q => by
                obtain ⟨u, hu⟩ := z.trans q
                rw [hu]; exact fl u
              have Hown6 := Lib.hid (own_to Hown.out (⟨z, rfl⟩ : ∃ zz : Since y5.w, z.w = zz.w))
              obtain ⟨yz, hyz⟩ := y5.trans z
              have Hyz := Lib.hid hyz
              clear kl fl Hhx0 Hhx1 Hhxf hyz
              refine wp_region_tail (fun w' => ∃ q : Since (z.w), w' = q.w) [] [0, 1, 2, 3, 4, 5, 6, 7, 8, 9, 10, 11] 12 (by kernel_rfl) (by kernel_rfl) (fun _ _ _ _ _ h => h) (Since.drawn _) ?_
              simp only [List.nil_append, picks_cons, picks_nil, List.getD_cons_zero, List.getD_cons_succ]
              repeat (go_big_quiet_step (fail))
              refine wpQuiet_nil ?_
              rintro _ ⟨q, rfl⟩
              simp only [List.drop_succ_cons, List.drop_zero]
              obtain ⟨z2, hz2⟩ := z.trans q
              obtain ⟨yq, hyq⟩ := y5.trans z2
              have hsets := own_setcell (own_to Hown6.out (⟨q, rfl⟩ : ∃ zz : Since z.w, q.w = zz.w)) (j := o.length * 2 + 1) (by rw [flat_length Win.len]; simp; omega) (.int .i64 (max lw.t e.t))
              rw [win_set] at hsets
              have Hset := Lib.hid hsets
              obtain ⟨y6, h6⟩ := yq.set ⟨g5, o.length * 2 + 1, none⟩ (by show _ ≤ g5; exact hg5) (.int .i64 (max lw.t e.t))
              rw [← hyq, ← hz2] at h6
              have H6 := Lib.hid h6
              clear hsets h6 hz2 hyq
              go_wp2_with fail
              go_roundw
              case rel => exact ⟨k + 1, o ++ [⟨lw.f, max lw.t e.t⟩], y6, by omega, by go_num, H6.out, by rw [← H6.out, show (o ++ [(⟨lw.f, max lw.t e.t⟩ : Win)]).length = o.length + 1 by simp]; exact Hset.out, HM2.out, by simp; omega⟩
              case measure => simp [intOf] <;> omega
            · have hleb : decide (e.f ≤ lw.t) = false := decide_eq_false hle
              have HM2 := Lib.hid (show Mrg (s.take (k + 1)) ((o ++ [lw]) ++ [e]) by rw [Htk.out]; exact HM.out.new Hev.out hlt2 (norm_last HM.out.n (by omega)))
              clear hle hlf HM
              obtain ⟨q5, hq0⟩ := Since.refl y5.w
              rw [hq0]
              clear hq0
              go_wp2_with fail
              refine wp_region_since (by kernel_rfl) (by kernel_rfl) ?_
              repeat (go_big_quiet_step (fail))
              refine wpQuiet_nil ?_
              rintro _ ⟨z, rfl⟩
              go_wp2_with (at_builtin; (refine wpList_appendK (w0 := y3.w) ?hw rfl _ _ 35 rfl y3.w.heap.size (Nat.le_refl _) ?hb 30 (.agg #[.int .i64 0, .int .i64 0]) 16 sWin (.slice (some ⟨g5, 0, none⟩) (o.length + 1) c5) (o.length + 1) (flat Win.cs (o ++ [lw])) rfl ?hown ⟨z.w.heap.size, 0, none⟩ 1 1 e.cs rfl rfl ?hc (win_one e) ?h63 ?hbytes ?_; rotate_right 1; intro v2 q2 hown4 _ hg4))
              case hw => obtain ⟨yz, hyz⟩ := y5.trans z; rw [hyz]; exact IsSince.alloc (IsSince.of yz) _
              case hb => have := y5.b.size; have := z.b.size; simp; omega
              case hown => exact own_to (own_to Hown.out ⟨z, rfl⟩) (IsSince.alloc (IsSince.self _) _)
              case hc => exact cell_new_at z.w e.cs _
              case h63 => unfold maxLen; omega
              case hbytes => omega
              rw [← flat_one Win.cs e, ← flat_append] at hown4
              have Hown4 := Lib.hid hown4
              clear hown4 hg4
              go_wp2_with fail
              go_roundw
              case rel => exact ⟨k + 1, (o ++ [lw]) ++ [e], q2, by omega, by go_num, rfl, by rw [show ((o ++ [lw]) ++ [e]).length = o.length + 1 + 1 by simp]; exact Hown4.out, HM2.out, by (try simp at *) <;> omega⟩
              case measure => simp [intOf] <;> omega
      · obtain rfl : k = n := by omega
        have Hset := Lib.hid (show IsSet out (hasW l) from ⟨HM.out.n, fun t => by
          rw [HM.out.h, List.take_of_length_le (by have := Hsl.out; have := Hn.out; omega)]; exact hasW_perm Hp.out t⟩)
        obtain ⟨hlen, a5, c5, rfl, hc5, he5, _, _⟩ := own_els Win.len (by decide) Hown.out
        obtain ⟨y5, h5⟩ := y3.trans y
        have H5 := Lib.hid (HP.out a5 c5 out y5 (h5 ▸ he5) hc5 Hset.out (by have := Hn.out; omega))
        rw [h5]
        clear hlen hc5 he5 h5
        go_wp2_with fail
        exact H5.out
end Go.Proofs.YtnkmngkinjjbfaaDoor
