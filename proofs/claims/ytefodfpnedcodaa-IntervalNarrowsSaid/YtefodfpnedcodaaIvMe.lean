/- The reference of windows, third part: the union. -/
import Derived.Test.YtefodfpnedcodaaIvMd
import Derived.IntWalk
set_option linter.all false
namespace Go.Proofs.Ytefodfpnedcodaa
open Go.RowKit

/-- window e has come down to place k of a sorted list -/
def Ins (old : List Win) (e : Win) (k : Nat) (s : List Win) : Prop := ∃ pre post, s = pre ++ e :: post ∧ pre.length = k ∧ old = pre ++ post ∧ ∀ x ∈ post, e.f < x.f
theorem ins_start (old : List Win) (e : Win) : Ins old e old.length (old ++ [e]) := ⟨old, [], by simp, rfl, by simp, fun x h => by cases h⟩
theorem Ins.at {old : List Win} {e : Win} {k : Nat} {s : List Win} (h : Ins old e k s) : s[k]? = some e := by
  obtain ⟨pre, post, rfl, rfl, _, _⟩ := h; simp
theorem Ins.len {old : List Win} {e : Win} {k : Nat} {s : List Win} (h : Ins old e k s) : s.length = old.length + 1 := by
  obtain ⟨pre, post, rfl, rfl, rfl, _⟩ := h; simp; omega
theorem Ins.step {old : List Win} {e p : Win} {j : Nat} {s : List Win} (h : Ins old e (j + 1) s) (hp : s[j]? = some p) (hlt : e.f < p.f) : Ins old e j ((s.set j e).set (j + 1) p) := by
  obtain ⟨pre, post, rfl, hl, rfl, hpost⟩ := h
  have hne : pre ≠ [] := fun hh => by subst hh; simp at hl
  obtain ⟨pre', q, rfl⟩ := snoc_of hne
  have hl' : pre'.length = j := by simpa using hl
  have hq : q = p := by
    rw [List.append_assoc, List.getElem?_append_right (by omega), hl'] at hp
    simpa using hp
  subst hq
  refine ⟨pre', q :: post, ?_, hl', by simp, fun x hx => ?_⟩
  · subst hl'
    simp [List.append_assoc]
  · rcases List.mem_cons.1 hx with rfl | hx
    · exact hlt
    · exact hpost x hx
theorem Ins.perm {old : List Win} {e : Win} {k : Nat} {s : List Win} (h : Ins old e k s) : s.Perm (old ++ [e]) := by
  obtain ⟨pre, post, rfl, _, rfl, _⟩ := h
  have := (List.perm_middle (a := e) (l₁ := pre) (l₂ := post))
  exact this.trans (List.perm_append_singleton e (pre ++ post)).symm
theorem Ins.stop {old : List Win} {e : Win} {k : Nat} {s : List Win} (h : Ins old e k s) (ho : old.Pairwise fun x y : Win => x.f ≤ y.f) (hs : ∀ j p, k = j + 1 → s[j]? = some p → p.f ≤ e.f) : s.Pairwise fun x y : Win => x.f ≤ y.f := by
  obtain ⟨pre, post, rfl, hl, rfl, hpost⟩ := h
  rw [List.pairwise_append] at ho ⊢
  refine ⟨ho.1, List.pairwise_cons.2 ⟨fun x hx => by have := hpost x hx; omega, ho.2.1⟩, fun x hx y hy => ?_⟩
  rcases List.mem_cons.1 hy with rfl | hy
  · have hne : pre ≠ [] := fun hh => by subst hh; cases hx
    obtain ⟨pre', q, rfl⟩ := snoc_of hne
    have hq := hs pre'.length q (by rw [← hl]; simp) (by simp)
    rcases List.mem_append.1 hx with h | h
    · have := (List.pairwise_append.1 ho.1).2.2 x h q (by simp)
      omega
    · simp at h; subst h; exact hq
  · exact ho.2.2 x hx y hy
theorem flat_set (s : List Win) (j : Nat) (e : Win) (h : j < s.length) : ((flat Win.cs s).set (j * 2) (.int .i64 e.f)).set (j * 2 + 1) (.int .i64 e.t) = flat Win.cs (s.set j e) := by
  induction s generalizing j with
  | nil => simp at h
  | cons x s ih =>
    have e1 : flat Win.cs (x :: s) = Value.int .i64 x.f :: Value.int .i64 x.t :: flat Win.cs s := by simp [flat, Win.cs]
    cases j with
    | zero => rw [e1]; simp [flat, Win.cs]
    | succ j =>
      have e2 : flat Win.cs ((x :: s).set (j + 1) e) = Value.int .i64 x.f :: Value.int .i64 x.t :: flat Win.cs (s.set j e) := by simp [flat, Win.cs]
      rw [e1, e2, ← ih j (by simpa using h), show (j + 1) * 2 = j * 2 + 1 + 1 by omega]
      simp [List.set_cons_succ]
set_option maxRecDepth 100000 in
set_option maxHeartbeats 16000000 in
theorem runion_calls (w : World) (x : Since w) (a : Option Addr) (l : List Win) (c : Nat) (h : WinRow w a l) (hl : l.length ≤ 100000) :
    Calls Try.prog 46 #[.slice a l.length c] x.w (SetRes w (UnOk l) (unE l)) := by
  have HL := Lib.hid h
  have Hck := Lib.hid (rcheckW_calls w x a l c h (by omega))
  have Hue := Lib.hid (show unE l = if badW l then 1 else 0 from rfl)
  clear h
  cases hb : badW l with
  | true =>
    have HP := Lib.hid (show ∀ y2 : Since w, SetRes w (UnOk l) (unE l) (.returned (.tuple #[.slice none 0 0, .int .i64 1])) y2.w from fun y2 => by
      rw [Hue.out, hb]; exact setRes_nil ⟨fun h => by rw [hb] at h; (cases h), fun _ => rfl, by simp⟩ y2)
    rw [hb] at Hue
    generalize SetRes w (UnOk l) (unE l) = PO at *
    clear hb
    go_enter Try.func46, Try.ntmps46
    go_wp2_with fail
    refine Hck.out.mono ?_
    rintro _ _ ⟨rfl, y1, rfl⟩
    rw [Hue.out]
    go_wp2_with fail
    exact HP.out y1
  | false =>
    have HP := Lib.hid (show ∀ (a : Option Addr) (cap : Nat) (u : List Win) (y : Since w), WinRow y.w a u → u.length ≤ cap → IsSet u (hasW l) → u.length ≤ l.length → SetRes w (UnOk l) (unE l) (.returned (.tuple #[.slice a u.length cap, .int .i64 0])) y.w from fun a cap u y h1 h2 h3 h4 => by
      rw [Hue.out, hb]; exact ⟨a, cap, u, y, rfl, rfl, h1, h2, ⟨fun _ => h3, fun h => by rw [hb] at h; (cases h), h4⟩⟩)
    have Hgood := Lib.hid (badW_false.1 hb)
    rw [hb] at Hue
    generalize SetRes w (UnOk l) (unE l) = PO at *
    clear hb
    go_enter Try.func46, Try.ntmps46
    go_wp2_with fail
    refine Hck.out.mono ?_
    rintro _ _ ⟨rfl, y1, rfl⟩
    rw [Hue.out]
    clear Hck
    obtain ⟨n, hn⟩ : ∃ n, n = l.length := ⟨_, rfl⟩
    rw [← hn]
    have Hn := Lib.hid hn
    have hn2 : n ≤ 100000 := by omega
    clear hn
    go_wp2_with fail
    go_loopw [4, 5] (fun v si wr => ∃ (i : Nat) (s : List Win) (y : Since w), i ≤ n ∧ si = .int .i64 i ∧ wr = y.w ∧ y.w.ownsRow w.heap.size 31 2 v i (flat Win.cs s) ∧ s.length = i ∧ s.Perm (l.take i) ∧ s.Pairwise fun x y : Win => x.f ≤ y.f) (fun _ si _ => n - (intOf si).toNat)
    case atStart => exact ⟨0, [], y1, by omega, rfl, rfl, ⟨rfl, .inl ⟨rfl, rfl⟩⟩, rfl, by rw [List.take_zero], .nil⟩
    case round =>
      obtain ⟨i, s, y, hi, rfl, rfl, hown, hsl, hperm, hsort⟩ := hrel
      have Hown := Lib.hid hown; have Hsl := Lib.hid hsl; have Hperm := Lib.hid hperm; have Hsort := Lib.hid hsort
      clear hown hsl hperm hsort
      by_cases hlt : i < n
      · obtain ⟨e, he⟩ : ∃ e, l[i]? = some e := ⟨_, List.getElem?_eq_getElem (by have := Hn.out; omega)⟩
        have hi0 : (0 : Int) ≤ (i : Int) := by omega
        have hil : (i : Int) < (n : Int) := by omega
        obtain ⟨b1, off1, rfl, h1'⟩ := Els.win HL.out he
        have ra0 := h1'.c0
        have ra1 := h1'.c1
        have Htk := Lib.hid (show l.take (i + 1) = l.take i ++ [e] by rw [List.take_add_one, he]; rfl)
        clear h1' he
        go_upto_region 8 with (at_builtin; (refine wpList_appendK (w0 := w) ?hw rfl _ _ 35 rfl w.heap.size (Nat.le_refl _) ?hb 31 (.agg #[.int .i64 0, .int .i64 0]) 16 sWin u4 i (flat Win.cs s) rfl ?hown ⟨y.w.heap.size, 0, none⟩ 1 1 e.cs rfl rfl ?hc (win_one e) ?h63 ?hbytes ?_; rotate_right 1; intro v2 q2 hown4 _ hg4))
        case hw => exact y.alloc _
        case hb => have := y.b.size; simp; omega
        case hown => exact own_to Hown.out (IsSince.alloc (IsSince.self _) _)
        case hc => exact cell_new_at y.w e.cs _
        case h63 => unfold maxLen; omega
        case hbytes => omega
        rw [← flat_one Win.cs e, ← flat_append] at hown4
        obtain ⟨g, cap, rfl, hg, hcap⟩ := own_some hown4 (by omega)
        have Hown4 := Lib.hid hown4
        have Hins0 := Lib.hid (show Ins s e i (s ++ [e]) by have := ins_start s e; rwa [Hsl.out] at this)
        clear hown4 hg4 ra0 ra1 Hown
        go_wp2_with fail
        go_loopw [6] (fun sk wr => ∃ (k : Nat) (s2 : List Win) (y2 : Since w), sk = .int .i64 k ∧ k ≤ i ∧ wr = y2.w ∧ y2.w.ownsRow w.heap.size 31 2 (.slice (some ⟨g, 0, none⟩) (i + 1) cap) (i + 1) (flat Win.cs s2) ∧ Ins s e k s2) (fun sk _ => (intOf sk).toNat)
        case atStart => exact ⟨i, s ++ [e], q2, by go_num, by omega, rfl, Hown4.out, Hins0.out⟩
        case round =>
          clear Hown4 Hins0
          obtain ⟨k, s2, y2, rfl, hk, rfl, hown, hins⟩ := hrel
          have Hown := Lib.hid hown; have Hins := Lib.hid hins
          clear hown hins
          have hcase : k = 0 ∨ (∃ j p, k = j + 1 ∧ s2[j]? = some p ∧ e.f < p.f) ∨ (∃ j p, k = j + 1 ∧ s2[j]? = some p ∧ p.f ≤ e.f) := by
            rcases Nat.eq_zero_or_pos k with h | h
            · exact .inl h
            · obtain ⟨j, rfl⟩ : ∃ j, k = j + 1 := ⟨k - 1, by omega⟩
              obtain ⟨p, hp⟩ : ∃ p, s2[j]? = some p := ⟨_, List.getElem?_eq_getElem (by have h1 := Hins.out.len; have h2 := Hsl.out; omega)⟩
              rcases (by omega : e.f < p.f ∨ p.f ≤ e.f) with h | h
              · exact .inr (.inl ⟨j, p, rfl, hp, h⟩)
              · exact .inr (.inr ⟨j, p, rfl, hp, h⟩)
          rcases hcase with rfl | ⟨j, p, rfl, hp, hlt2⟩ | ⟨j, p, rfl, hp, hge⟩
          · have Hsorted := Lib.hid (Hins.out.stop Hsort.out (fun j p h => by omega))
            obtain ⟨q5, hq0⟩ := Since.refl y2.w
            rw [hq0]
            clear hq0
            go_wp2_with fail
            refine wp_region_since (by kernel_rfl) (by kernel_rfl) ?_
            repeat (go_big_quiet_step (fail))
            refine wpQuiet_nil ?_
            rintro _ ⟨z, rfl⟩
            go_wp2_with fail
            obtain ⟨y6, h6⟩ := y2.trans z
            have Hown6 := Lib.hid (own_to Hown.out (⟨z, rfl⟩ : ∃ zz : Since y2.w, z.w = zz.w))
            rw [h6] at Hown6 ⊢
            clear h6
            go_roundw
            case rel => exact ⟨i + 1, s2, y6, by omega, by go_num, rfl, Hown6.out, by rw [Hins.out.len, Hsl.out], by rw [Htk.out]; exact Hins.out.perm.trans (Hperm.out.append_right [e]), Hsorted.out⟩
            case measure => simp [intOf] <;> omega
          · have htb : decide (e.f < p.f) = true := decide_eq_true hlt2
            have hj0 : (0 : Int) ≤ (j : Int) := by omega
            have hj1 : decide ((0 : Int) < (j : Int) + 1) = true := decide_eq_true (by omega)
            have hj2 : (j : Int) < (i : Int) := by omega
            have hl2 := Hins.out.len
            obtain ⟨ka0, fa0, _⟩ := own_cell Hown.out (flat_at Win.len s2 j p 0 (.int .i64 p.f) hp rfl)
            obtain ⟨ka1, fa1, _⟩ := own_cell Hown.out (flat_at Win.len s2 j p 1 (.int .i64 p.t) hp rfl)
            obtain ⟨kb0, fb0, _⟩ := own_cell Hown.out (flat_at Win.len s2 (j + 1) e 0 (.int .i64 e.f) Hins.out.at rfl)
            obtain ⟨kb1, fb1, _⟩ := own_cell Hown.out (flat_at Win.len s2 (j + 1) e 1 (.int .i64 e.t) Hins.out.at rfl)
            simp only [Nat.add_zero] at ka0 fa0 kb0 fb0
            have Hstep := Lib.hid (Hins.out.step hp hlt2)
            clear hp hlt2 hl2
            obtain ⟨q5, hq0⟩ := Since.refl y2.w
            rw [hq0]
            clear hq0
            go_wp2_with fail
            refine wp_region_since (by kernel_rfl) (by kernel_rfl) ?_
            repeat (go_big_quiet_step (fail))
            refine wpQuiet_nil ?_
            rintro _ ⟨z, rfl⟩
            go_upto_region 11 with fail
            have hzz : ∃ zz : Since y2.w, z.w = zz.w := ⟨z, rfl⟩
            have ja0 := Since.cellTo hzz ka0
            have ja1 := Since.cellTo hzz ka1
            have jb0 := Since.cellTo hzz kb0
            have jb1 := Since.cellTo hzz kb1
            have ga0 : ∀ q : Since z.w, q.w.frozen? ⟨g, j * 2, none⟩ = false := fun q => by obtain ⟨u, hu⟩ := z.trans q; rw [hu]; exact fa0 u
            have ga1 : ∀ q : Since z.w, q.w.frozen? ⟨g, j * 2 + 1, none⟩ = false := fun q => by obtain ⟨u, hu⟩ := z.trans q; rw [hu]; exact fa1 u
            have gb0 : ∀ q : Since z.w, q.w.frozen? ⟨g, (j + 1) * 2, none⟩ = false := fun q => by obtain ⟨u, hu⟩ := z.trans q; rw [hu]; exact fb0 u
            have gb1 : ∀ q : Since z.w, q.w.frozen? ⟨g, (j + 1) * 2 + 1, none⟩ = false := fun q => by obtain ⟨u, hu⟩ := z.trans q; rw [hu]; exact fb1 u
            have Hownz := Lib.hid (own_to Hown.out hzz)
            clear hzz ka0 ka1 kb0 kb1 fa0 fa1 fb0 fb1
            refine wp_region_tail (fun w' => ∃ q : Since (z.w), w' = q.w) [3, 4] [0, 1, 2, 5, 6, 7, 8, 9, 10, 11, 12, 13] 14 (by kernel_rfl) (by kernel_rfl) (fun _ _ _ _ _ h => h) (Since.drawn _) ?_
            simp only [List.cons_append, List.nil_append, picks_cons, picks_nil, List.getD_cons_zero, List.getD_cons_succ]
            repeat (go_big_quiet_step (fail))
            refine wpQuiet_nil ?_
            rintro _ ⟨q, rfl⟩
            simp only [List.drop_succ_cons, List.drop_zero]
            have hl2' := Hins.out.len
            have hsl' := Hsl.out
            have hfl : (flat Win.cs s2).length = s2.length * 2 := flat_length Win.len s2
            have o0 := own_to Hownz.out (⟨q, rfl⟩ : ∃ zz : Since z.w, q.w = zz.w)
            have o1 := own_setcell o0 (j := j * 2) (by rw [hfl]; omega) (.int .i64 e.f)
            have o2 := own_setcell o1 (j := j * 2 + 1) (by rw [List.length_set, hfl]; omega) (.int .i64 e.t)
            rw [flat_set s2 j e (by omega)] at o2
            have hfl2 : (flat Win.cs (s2.set j e)).length = s2.length * 2 := by rw [flat_length Win.len, List.length_set]
            have o3 := own_setcell o2 (j := (j + 1) * 2) (by rw [hfl2]; omega) (.int .i64 p.f)
            have o4 := own_setcell o3 (j := (j + 1) * 2 + 1) (by rw [List.length_set, hfl2]; omega) (.int .i64 p.t)
            rw [flat_set (s2.set j e) (j + 1) p (by rw [List.length_set]; omega)] at o4
            have O4 := Lib.hid o4
            obtain ⟨z2, hz2⟩ := z.trans q
            obtain ⟨yq, hyq⟩ := y2.trans z2
            obtain ⟨ya, ha⟩ := yq.set ⟨g, j * 2, none⟩ hg (.int .i64 e.f)
            obtain ⟨yb, hb⟩ := ya.set ⟨g, j * 2 + 1, none⟩ hg (.int .i64 e.t)
            obtain ⟨yc, hc⟩ := yb.set ⟨g, (j + 1) * 2, none⟩ hg (.int .i64 p.f)
            obtain ⟨yd, hd⟩ := yc.set ⟨g, (j + 1) * 2 + 1, none⟩ hg (.int .i64 p.t)
            have HE := Lib.hid (show (((q.w.setCell ⟨g, j * 2, none⟩ (.int .i64 e.f)).setCell ⟨g, j * 2 + 1, none⟩ (.int .i64 e.t)).setCell ⟨g, (j + 1) * 2, none⟩ (.int .i64 p.f)).setCell ⟨g, (j + 1) * 2 + 1, none⟩ (.int .i64 p.t) = yd.w by rw [hz2, hyq, ha, hb, hc, hd])
            clear hfl hfl2 o0 o1 o2 o3 o4 hz2 hyq ha hb hc hd hl2' hsl'
            go_wp2_with fail
            go_roundw
            case rel => exact ⟨j, _, yd, rfl, by omega, HE.out, by rw [← HE.out]; exact O4.out, Hstep.out⟩
            case measure => simp [intOf] <;> omega
          · have htb : decide (e.f < p.f) = false := decide_eq_false (by omega)
            have hj0 : (0 : Int) ≤ (j : Int) := by omega
            have hj1 : decide ((0 : Int) < (j : Int) + 1) = true := decide_eq_true (by omega)
            have hj2 : (j : Int) < (i : Int) := by omega
            have hl2 := Hins.out.len
            obtain ⟨ka0, fa0, _⟩ := own_cell Hown.out (flat_at Win.len s2 j p 0 (.int .i64 p.f) hp rfl)
            obtain ⟨ka1, fa1, _⟩ := own_cell Hown.out (flat_at Win.len s2 j p 1 (.int .i64 p.t) hp rfl)
            obtain ⟨kb0, fb0, _⟩ := own_cell Hown.out (flat_at Win.len s2 (j + 1) e 0 (.int .i64 e.f) Hins.out.at rfl)
            obtain ⟨kb1, fb1, _⟩ := own_cell Hown.out (flat_at Win.len s2 (j + 1) e 1 (.int .i64 e.t) Hins.out.at rfl)
            simp only [Nat.add_zero] at ka0 fa0 kb0 fb0
            have Hsorted := Lib.hid (Hins.out.stop Hsort.out (fun j' p' h hp' => by
              have : j' = j := by omega
              subst this
              rw [hp] at hp'; cases hp'; exact hge))
            clear hp hge hl2
            obtain ⟨q5, hq0⟩ := Since.refl y2.w
            rw [hq0]
            clear hq0
            go_wp2_with fail
            refine wp_region_since (by kernel_rfl) (by kernel_rfl) ?_
            repeat (go_big_quiet_step (fail))
            refine wpQuiet_nil ?_
            rintro _ ⟨z, rfl⟩
            go_wp2_with fail
            obtain ⟨y6, h6⟩ := y2.trans z
            have Hown6 := Lib.hid (own_to Hown.out (⟨z, rfl⟩ : ∃ zz : Since y2.w, z.w = zz.w))
            rw [h6] at Hown6 ⊢
            clear h6
            go_roundw
            case rel => exact ⟨i + 1, s2, y6, by omega, by go_num, rfl, Hown6.out, by rw [Hins.out.len, Hsl.out], by rw [Htk.out]; exact Hins.out.perm.trans (Hperm.out.append_right [e]), Hsorted.out⟩
            case measure => simp [intOf] <;> omega
      · obtain rfl : i = n := by omega
        obtain ⟨hlen0, a5, c5, rfl, hc5, he5, _, _⟩ := own_els Win.len (by decide) Hown.out
        clear hlen0
        rw [Hsl.out]
        have HS := Lib.hid he5
        have Hp := Lib.hid (show s.Perm l by have h := Hperm.out; rwa [List.take_of_length_le (by have := Hn.out; omega)] at h)
        clear hc5 he5 Hown Hperm
        go_wp2_with fail
        go_loopw [7, 8, 9] (fun v si _ wr => ∃ (k : Nat) (out : List Win) (y5 : Since y.w), k ≤ i ∧ si = .int .i64 k ∧ wr = y5.w ∧ y5.w.ownsRow y.w.heap.size 31 2 v out.length (flat Win.cs out) ∧ Mrg (s.take k) out ∧ out.length ≤ k) (fun _ si _ _ => i - (intOf si).toNat)
        case atStart => exact ⟨0, [], Since.self _, by omega, rfl, rfl, ⟨rfl, .inl ⟨rfl, rfl⟩⟩, by rw [List.take_zero]; exact mrg_nil, by simp⟩
        case round =>
          obtain ⟨k, out, y5, hk, rfl, rfl, hown, hM, hok⟩ := hrel
          have Hown := Lib.hid hown; have HM := Lib.hid hM
          clear hown hM
          by_cases hlt : k < i
          · obtain ⟨e, he⟩ : ∃ e, s[k]? = some e := ⟨_, List.getElem?_eq_getElem (by have := Hsl.out; omega)⟩
            have hk0 : (0 : Int) ≤ (k : Int) := by omega
            have hkl : (k : Int) < (i : Int) := by omega
            obtain ⟨b2, off2, rfl, h1'⟩ := Els.win HS.out he
            have ra0 := Since.cellTo (IsSince.of y5) h1'.c0
            have ra1 := Since.cellTo (IsSince.of y5) h1'.c1
            have Htk2 := Lib.hid (show s.take (k + 1) = s.take k ++ [e] by rw [List.take_add_one, he]; rfl)
            have Hev := Lib.hid (Hgood.out e (Hp.out.mem_iff.1 (List.mem_of_getElem? he)))
            obtain ⟨ev1, ev2, ev3⟩ := (vldW_iff e).1 Hev.out
            have Hpre := Lib.hid (show ∀ x ∈ s.take k, x.f ≤ e.f from fun x hx => by
              obtain ⟨j, hj⟩ := List.mem_iff_getElem?.1 hx
              rw [List.getElem?_take] at hj
              split at hj
              · have h1 := List.getElem?_eq_some_iff.1 hj
                have h2 := List.getElem?_eq_some_iff.1 he
                have := List.pairwise_iff_getElem.1 Hsort.out j k h1.1 h2.1 (by omega)
                rw [h1.2, h2.2] at this; exact this
              · cases hj)
            clear h1' he
            by_cases hee : e.f = e.t
            · have heb : (e.f == e.t) = true := by simpa using hee
              have HM2 := Lib.hid (show Mrg (s.take (k + 1)) out by rw [Htk2.out]; exact HM.out.skip hee)
              clear hee HM
              obtain ⟨hlen, a6, c6, rfl, _⟩ := own_els Win.len (by decide) Hown.out
              clear hlen
              obtain ⟨q5, hq0⟩ := Since.refl y5.w
              rw [hq0]
              clear hq0
              go_wp2_with fail
              refine wp_region_since (by kernel_rfl) (by kernel_rfl) ?_
              repeat (go_big_quiet_step (fail))
              refine wpQuiet_nil ?_
              rintro _ ⟨z, rfl⟩
              go_wp2_with fail
              obtain ⟨y6, h6⟩ := y5.trans z
              have Hown6 := Lib.hid (own_to Hown.out (⟨z, rfl⟩ : ∃ zz : Since y5.w, z.w = zz.w))
              rw [h6] at Hown6 ⊢
              clear h6
              go_roundw
              case rel => exact ⟨k + 1, out, y6, by omega, by go_num, rfl, Hown6.out, HM2.out, by omega⟩
              case measure => simp [intOf] <;> omega
            · have heb : (e.f == e.t) = false := by simpa using hee
              have hlt2 : e.f < e.t := by omega
              clear hee
              by_cases hoe : out = []
              · subst hoe
                have HM2 := Lib.hid (show Mrg (s.take (k + 1)) ([] ++ [e]) by rw [Htk2.out]; exact HM.out.new Hev.out hlt2 (fun v hv => by cases hv))
                clear HM
                obtain ⟨hlen0, a6, c6, hv5, _⟩ := own_els Win.len (by decide) Hown.out
                have hv5' : u7 = .slice a6 0 c6 := hv5
                subst hv5'
                clear hv5 hlen0
                obtain ⟨q5, hq0⟩ := Since.refl y5.w
                rw [hq0]
                clear hq0
                go_wp2_with fail
                refine wp_region_since (by kernel_rfl) (by kernel_rfl) ?_
                repeat (go_big_quiet_step (fail))
                refine wpQuiet_nil ?_
                rintro _ ⟨z0, rfl⟩
                go_wp2_with fail
                refine wp_region_since (by kernel_rfl) (by kernel_rfl) ?_
                repeat (go_big_quiet_step (fail))
                refine wpQuiet_nil ?_
                rintro _ ⟨z, rfl⟩
                go_wp2_with (at_builtin; (refine wpList_appendK (w0 := y.w) ?hw rfl _ _ 35 rfl y.w.heap.size (Nat.le_refl _) ?hb 31 (.agg #[.int .i64 0, .int .i64 0]) 16 sWin (.slice a6 0 c6) 0 (flat Win.cs []) rfl ?hown ⟨z.w.heap.size, 0, none⟩ 1 1 e.cs rfl rfl ?hc (win_one e) ?h63 ?hbytes ?_; rotate_right 1; intro v2 q2 hown4 _ hg4))
                case hw => obtain ⟨yz, hyz⟩ := y5.trans z; rw [hyz]; exact IsSince.alloc (IsSince.of yz) _
                case hb => have := y5.b.size; have := z.b.size; simp; omega
                case hown => exact own_to (own_to Hown.out ⟨z, rfl⟩) (IsSince.alloc (IsSince.self _) _)
                case hc => exact cell_new_at z.w e.cs _
                case h63 => unfold maxLen; omega
                case hbytes => omega
                rw [← flat_one Win.cs e, ← flat_append] at hown4
                have Hown4 := Lib.hid hown4
                clear hown4 hg4
                go_wp2_with fail
                go_roundw
                case rel => exact ⟨k + 1, [] ++ [e], q2, by omega, by go_num, rfl, Hown4.out, HM2.out, by (try simp at *) <;> omega⟩
                case measure => simp [intOf] <;> omega
              · obtain ⟨o, lw, rfl⟩ := snoc_of hoe
                clear hoe
                have hm : (o ++ [lw]).length = o.length + 1 := by simp
                rw [hm] at Hown hok
                obtain ⟨g5, c6, rfl, hg5, hc6⟩ := own_some Hown.out (by omega)
                obtain ⟨kl, fl, _⟩ := own_cell Hown.out (flat_at Win.len (o ++ [lw]) o.length lw 1 (.int .i64 lw.t) (by simp) rfl)
                have hm0 : (0 : Int) ≤ (o.length : Int) := by omega
                have hmb : decide ((0 : Int) < (o.length : Int) + 1) = true := decide_eq_true (by omega)
                have hm1 : (o.length : Int) ≤ 100000 := by omega
                have hlf := HM.out.b e.f Hpre.out lw (by simp)
                by_cases hle : e.f ≤ lw.t
                · have hleb : decide (e.f ≤ lw.t) = true := decide_eq_true hle
                  have HM2 := Lib.hid (show Mrg (s.take (k + 1)) (o ++ [⟨lw.f, max lw.t e.t⟩]) by rw [Htk2.out]; exact HM.out.join Hev.out hlf hle Hpre.out)
                  clear hle hlf HM
                  obtain ⟨q5, hq0⟩ := Since.refl y5.w
                  rw [hq0]
                  clear hq0
                  go_wp2_with fail
                  refine wp_region_since (by kernel_rfl) (by kernel_rfl) ?_
                  repeat (go_big_quiet_step (fail))
                  refine wpQuiet_nil ?_
                  rintro _ ⟨z0, rfl⟩
                  go_wp2_with fail
                  refine wp_region_since (by kernel_rfl) (by kernel_rfl) ?_
                  repeat (go_big_quiet_step (fail))
                  refine wpQuiet_nil ?_
                  rintro _ ⟨z, rfl⟩
                  go_upto_region 19 with fail
                  have hzz : ∃ zz : Since y5.w, z.w = zz.w := ⟨z, rfl⟩
                  have kl2 := Since.cellTo hzz kl
                  have ke2 := Since.cellTo hzz ra1
                  have fl2 : ∀ q : Since z.w, q.w.frozen? ⟨g5, o.length * 2 + 1, none⟩ = false := fun q => by
                    obtain ⟨u, hu⟩ := z.trans q
                    rw [hu]; exact fl u
                  have Hown6 := Lib.hid (own_to Hown.out hzz)
                  clear kl fl ra0 ra1 hzz
                  refine wp_region_tail (fun w' => ∃ q : Since (z.w), w' = q.w) [] [0, 1, 2, 3, 4, 5, 6, 7, 8, 9, 10, 11, 12, 13, 14, 15, 16] 17 (by kernel_rfl) (by kernel_rfl) (fun _ _ _ _ _ h => h) (Since.drawn _) ?_
                  simp only [List.nil_append, picks_cons, picks_nil, List.getD_cons_zero, List.getD_cons_succ]
                  repeat (go_big_quiet_step (fail))
                  refine wpQuiet_nil ?_
                  rintro _ ⟨q, rfl⟩
                  simp only [List.drop_succ_cons, List.drop_zero]
                  obtain ⟨z2, hz2⟩ := z.trans q
                  obtain ⟨yq, hyq⟩ := y5.trans z2
                  have hsets := own_setcell (own_to Hown6.out (⟨q, rfl⟩ : ∃ zz : Since z.w, q.w = zz.w)) (j := o.length * 2 + 1) (by rw [flat_length Win.len]; simp; omega) (.int .i64 (max lw.t e.t))
                  rw [win_set] at hsets
                  have Hset := Lib.hid hsets
                  obtain ⟨y6, h6⟩ := yq.set ⟨g5, o.length * 2 + 1, none⟩ (by show _ ≤ g5; exact hg5) (.int .i64 (max lw.t e.t))
                  rw [← hyq, ← hz2] at h6
                  have H6 := Lib.hid h6
                  clear hsets h6 hz2 hyq
                  go_wp2_with fail
                  go_roundw
                  case rel => exact ⟨k + 1, o ++ [⟨lw.f, max lw.t e.t⟩], y6, by omega, by go_num, H6.out, by rw [← H6.out, show (o ++ [(⟨lw.f, max lw.t e.t⟩ : Win)]).length = o.length + 1 by simp]; exact Hset.out, HM2.out, by simp; omega⟩
                  case measure => simp [intOf] <;> omega
                · have hleb : decide (e.f ≤ lw.t) = false := decide_eq_false hle
                  have HM2 := Lib.hid (show Mrg (s.take (k + 1)) ((o ++ [lw]) ++ [e]) by rw [Htk2.out]; exact HM.out.new Hev.out hlt2 (norm_last HM.out.n (by omega)))
                  clear hle hlf HM
                  obtain ⟨q5, hq0⟩ := Since.refl y5.w
                  rw [hq0]
                  clear hq0
                  go_wp2_with fail
                  refine wp_region_since (by kernel_rfl) (by kernel_rfl) ?_
                  repeat (go_big_quiet_step (fail))
                  refine wpQuiet_nil ?_
                  rintro _ ⟨z0, rfl⟩
                  go_wp2_with fail
                  refine wp_region_since (by kernel_rfl) (by kernel_rfl) ?_
                  repeat (go_big_quiet_step (fail))
                  refine wpQuiet_nil ?_
                  rintro _ ⟨z, rfl⟩
                  go_wp2_with (at_builtin; (refine wpList_appendK (w0 := y.w) ?hw rfl _ _ 35 rfl y.w.heap.size (Nat.le_refl _) ?hb 31 (.agg #[.int .i64 0, .int .i64 0]) 16 sWin (.slice (some ⟨g5, 0, none⟩) (o.length + 1) c6) (o.length + 1) (flat Win.cs (o ++ [lw])) rfl ?hown ⟨z.w.heap.size, 0, none⟩ 1 1 e.cs rfl rfl ?hc (win_one e) ?h63 ?hbytes ?_; rotate_right 1; intro v2 q2 hown4 _ hg4))
                  case hw => obtain ⟨yz, hyz⟩ := y5.trans z; rw [hyz]; exact IsSince.alloc (IsSince.of yz) _
                  case hb => have := y5.b.size; have := z.b.size; simp; omega
                  case hown => exact own_to (own_to Hown.out ⟨z, rfl⟩) (IsSince.alloc (IsSince.self _) _)
                  case hc => exact cell_new_at z.w e.cs _
                  case h63 => unfold maxLen; omega
                  case hbytes => omega
                  rw [← flat_one Win.cs e, ← flat_append] at hown4
                  have Hown4 := Lib.hid hown4
                  clear hown4 hg4
                  go_wp2_with fail
                  go_roundw
                  case rel => exact ⟨k + 1, (o ++ [lw]) ++ [e], q2, by omega, by go_num, rfl, by rw [show ((o ++ [lw]) ++ [e]).length = (o.length + 1) + 1 by simp]; exact Hown4.out, HM2.out, by (try simp at *) <;> omega⟩
                  case measure => simp [intOf] <;> omega
          · obtain rfl : k = i := by omega
            have Hset := Lib.hid (show IsSet out (hasW l) from ⟨HM.out.n, fun t => by
              rw [HM.out.h, List.take_of_length_le (by have := Hsl.out; omega)]; exact hasW_perm Hp.out t⟩)
            obtain ⟨hlen, a6, c6, rfl, hc6, he6, _, _⟩ := own_els Win.len (by decide) Hown.out
            obtain ⟨y6, h6⟩ := y.trans y5
            have H6 := Lib.hid (HP.out a6 c6 out y6 (h6 ▸ he6) hc6 Hset.out (by have := Hn.out; omega))
            rw [h6]
            clear hlen hc6 he6 h6
            go_wp2_with fail
            exact H6.out
end Go.Proofs.Ytefodfpnedcodaa
/- The reference of windows, fourth part: the length. -/
namespace Go.Proofs.Ytefodfpnedcodaa
open Go.RowKit

set_option maxRecDepth 100000 in
set_option maxHeartbeats 4000000 in
theorem rlength_calls (w : World) (x : Since w) (pa : Option Addr) (a : List Win) (ca : Nat) (ha : WinRow w pa a) (hla : a.length ≤ 100000) :
    Calls Try.prog 29 #[.slice pa a.length ca] x.w (LenRes w a) := by
  have HA := Lib.hid (runion_calls w x pa a ca ha hla)
  have Hpost := Lib.hid (show ∀ (u : List Win) (y : Since w) (v e : Int), UnOk a u → v = lenW u → e = unE a → LenRes w a (.returned (.tuple #[.int .i64 v, .int .i64 e])) y.w from fun u y v e h1 h2 h3 => ⟨u, y, by rw [h2, h3], rfl, h1⟩)
  have Hue := Lib.hid (show unE a = if badW a then 1 else 0 from rfl)
  clear ha
  cases hb : badW a with
  | true =>
    rw [hb] at Hue
    have Hno := Lib.hid (show ∀ u, UnOk a u → u = [] from fun u h => h.no hb)
    clear hb
    go_enter Try.func29, Try.ntmps29
    go_wp2_with fail
    refine HA.out.mono ?_
    rintro _ _ ⟨ax, cx, u, y1, rfl, rfl, _, _, hu⟩
    have Hu := Lib.hid hu
    clear hu
    rw [Hue.out]
    go_wp2_with fail
    go_ret2
    exact Hpost.out u y1 _ _ Hu.out (by rw [Hno.out u Hu.out]; rfl) Hue.out.symm
  | false =>
    rw [hb] at Hue
    have Hset := Lib.hid (show ∀ u, UnOk a u → Norm u from fun u h => (h.ok hb).n)
    clear hb
    go_enter Try.func29, Try.ntmps29
    go_wp2_with fail
    refine HA.out.mono ?_
    rintro _ _ ⟨ax, cx, u, y1, rfl, rfl, hrow, _, hu⟩
    have Hu := Lib.hid hu
    have HR := Lib.hid hrow
    have Hn := Lib.hid (Hset.out u hu)
    have hul := hu.n
    clear hu hrow
    rw [Hue.out]
    obtain ⟨n, hn⟩ : ∃ n, n = u.length := ⟨_, rfl⟩
    rw [← hn]
    rw [← hn] at hul
    have Hnn := Lib.hid hn
    clear hn
    go_wp2_with fail
    go_loopw [6, 7] (fun s i wr => ∃ (k : Nat) (y : Since y1.w), k ≤ n ∧ i = .int .i64 k ∧ s = .int .i64 (lenW (u.take k)) ∧ wr = y.w) (fun _ i _ => n - (intOf i).toNat)
    case atStart => exact ⟨0, Since.self _, by omega, rfl, rfl, rfl⟩
    case round =>
      obtain ⟨k, y, hk, rfl, rfl, rfl⟩ := hrel
      by_cases hlt : k < n
      · obtain ⟨e, he⟩ : ∃ e, u[k]? = some e := ⟨_, List.getElem?_eq_getElem (by have := Hnn.out; omega)⟩
        have hk0 : (0 : Int) ≤ (k : Int) := by omega
        have hkl : (k : Int) < (n : Int) := by omega
        obtain ⟨b1, off1, rfl, h1'⟩ := Els.win HR.out he
        have ra0 := h1'.c0
        have ra1 := h1'.c1
        have Hx := Lib.hid (lenW_take u k e he)
        have hev := Hn.out.v e (List.mem_of_getElem? he)
        obtain ⟨e1, e2, e3⟩ := hev
        have hnt : Norm (u.take k) := ⟨fun x hx => Hn.out.v x (List.mem_of_mem_take hx), Hn.out.s.sublist (List.take_sublist k u)⟩
        obtain ⟨l1, l2⟩ := lenW_range hnt
        clear h1' he hnt
        generalize lenW (u.take k) = L at *
        have hs1 : IntKind.i64.wrap (L + e.t) = L + e.t := IntWalk.i64_in _ (by omega)
        have hs2 : IntKind.i64.wrap (L + e.t - e.f) = L + e.t - e.f := IntWalk.i64_in _ (by omega)
        go_wp2_with fail
        refine wp_region_since (by kernel_rfl) (by kernel_rfl) ?_
        repeat (go_big_quiet_step (fail))
        refine wpQuiet_nil ?_
        rintro _ ⟨z, rfl⟩
        go_wp2_with fail
        go_roundw
        case rel => exact ⟨k + 1, z, by omega, by go_num, by rw [Hx.out]; exact congrArg _ (by omega), rfl⟩
        case measure => simp [intOf] <;> omega
      · obtain rfl : n = k := by omega
        obtain ⟨y5, h5⟩ := y1.trans y
        rw [h5]
        clear h5
        have Htk := Lib.hid (show u.take n = u from List.take_of_length_le (by have := Hnn.out; omega))
        rw [Htk.out]
        go_wp2_with fail
        go_ret2
        exact Hpost.out u y5 _ _ Hu.out rfl Hue.out.symm
end Go.Proofs.Ytefodfpnedcodaa
/- The reference of windows, fifth part: the common part. -/
namespace Go.Proofs.Ytefodfpnedcodaa
open Go.RowKit

/-- what the reference's common part of two lists is -/
structure RComOk (a b c : List Win) : Prop where
  ok : (badW a || badW b) = false → IsSet c (fun t => hasW a t && hasW b t)
  no : (badW a || badW b) = true → c = []
  n : c.length ≤ a.length * b.length
theorem ComOk.uniqueR {a b u v : List Win} (h : ComOk a b u) (k : RComOk a b v) : u = v := by
  cases hb : badW a || badW b
  · exact (h.ok hb).unique (k.ok hb)
  · rw [h.no hb, k.no hb]
set_option maxRecDepth 100000 in
set_option maxHeartbeats 8000000 in
theorem rcommon_calls (w : World) (x : Since w) (pa : Option Addr) (a : List Win) (ca : Nat) (pb : Option Addr) (b : List Win) (cb : Nat) (ha : WinRow w pa a) (hb : WinRow w pb b) (hla : a.length ≤ 100000) (hlb : b.length ≤ 100000) :
    Calls Try.prog 27 #[.slice pa a.length ca, .slice pb b.length cb] x.w (SetRes w (RComOk a b) (setE a b)) := by
  have HA := Lib.hid (runion_calls w x pa a ca ha hla)
  have HB := Lib.hid (fun y : Since w => runion_calls y.w (Since.self _) pb b cb (Since.els hb y) hlb)
  have Hse := Lib.hid (show setE a b = if badW a || badW b then 1 else 0 from rfl)
  clear ha hb
  by_cases hgood : badW a = false ∧ badW b = false
  case neg =>
    have hbd : (badW a || badW b) = true := by
      cases h1 : badW a
      · cases h2 : badW b
        · exact (hgood ⟨h1, h2⟩).elim
        · rfl
      · rfl
    have H1 := Lib.hid (show ∀ y : Since w, SetRes w (RComOk a b) (setE a b) (.returned (.tuple #[.slice none 0 0, .int .i64 1])) y.w from fun y => by
      rw [Hse.out, hbd]; exact setRes_nil ⟨fun h => by rw [hbd] at h; (cases h), fun _ => rfl, by simp⟩ y)
    have Hu := Lib.hid (show unE a = if badW a then 1 else 0 from rfl)
    have Hv := Lib.hid (show unE b = if badW b then 1 else 0 from rfl)
    have hc : (unE a = 1 ∧ (unE b = 0 ∨ unE b = 1)) ∨ (unE a = 0 ∧ unE b = 1) := by
      rw [Hu.out, Hv.out]
      revert hbd
      cases badW a <;> cases badW b <;> simp
    generalize SetRes w (RComOk a b) (setE a b) = PO at *
    clear hbd hgood Hu Hv Hse
    rcases hc with ⟨hu, hv | hv⟩ | ⟨hu, hv⟩
    all_goals
      rw [hu] at HA
      rw [hv] at HB
      clear hu hv
      go_enter Try.func27, Try.ntmps27
      go_wp2_with fail
      refine HA.out.mono ?_
      rintro _ _ ⟨ax, cx, u, y1, rfl, rfl, _⟩
      go_wp2_with fail
      refine (HB.out y1).mono ?_
      rintro _ _ ⟨ay, cy, v, z1, rfl, rfl, _⟩
      obtain ⟨y2, h2⟩ := y1.trans z1
      rw [h2]
      clear h2
      go_wp2_with fail
      exact H1.out y2
  case pos =>
    obtain ⟨hba, hbb⟩ := hgood
    have hbd : (badW a || badW b) = false := by rw [hba, hbb]; rfl
    have HP := Lib.hid (show ∀ (p : Option Addr) (cap : Nat) (u : List Win) (y : Since w), WinRow y.w p u → u.length ≤ cap → IsSet u (fun t => hasW a t && hasW b t) → u.length ≤ a.length * b.length → SetRes w (RComOk a b) (setE a b) (.returned (.tuple #[.slice p u.length cap, .int .i64 0])) y.w from fun p cap u y h1 h2 h3 h4 => by
      rw [Hse.out, hbd]; exact ⟨p, cap, u, y, rfl, rfl, h1, h2, ⟨fun _ => h3, fun h => by rw [hbd] at h; (cases h), h4⟩⟩)
    have Hba := Lib.hid (And.intro hba hbb)
    have hu0 : unE a = 0 := by unfold unE; rw [hba]; rfl
    have hv0 : unE b = 0 := by unfold unE; rw [hbb]; rfl
    rw [hu0] at HA
    rw [hv0] at HB
    generalize SetRes w (RComOk a b) (setE a b) = PO at *
    clear hbd hba hbb hu0 hv0 Hse
    go_enter Try.func27, Try.ntmps27
    go_wp2_with fail
    refine HA.out.mono ?_
    rintro _ _ ⟨ax, cx, U, y0, rfl, rfl, hU, hcx, hUo⟩
    have HU0 := Lib.hid hU; have HUo := Lib.hid hUo
    clear hU hUo hcx
    go_wp2_with fail
    refine (HB.out y0).mono ?_
    rintro _ _ ⟨ay, cy, V, z1, rfl, rfl, hV, hcy, hVo⟩
    have hlU := HUo.out.n
    have hlV := hVo.n
    have hsU := HUo.out.ok Hba.out.1
    have hsV := hVo.ok Hba.out.2
    have Hhas := Lib.hid (And.intro hsU.h hsV.h)
    have HnU := Lib.hid hsU.n; have HnV := Lib.hid hsV.n
    have HU1 := Lib.hid (Since.els HU0.out z1); have HV1 := Lib.hid hV
    obtain ⟨y1, h1⟩ := y0.trans z1
    rw [h1] at HU1 HV1 ⊢
    obtain ⟨nu, hnu⟩ : ∃ nu, nu = U.length := ⟨_, rfl⟩
    obtain ⟨M, hM⟩ : ∃ M, M = V.length := ⟨_, rfl⟩
    have Hmul := Lib.hid (Nat.mul_le_mul hlU hlV)
    rw [← hnu, ← hM] at Hmul ⊢
    rw [← hnu] at hlU
    rw [← hM] at hlV
    have Hnu := Lib.hid hnu; have HM := Lib.hid hM
    have hnu2 : nu ≤ 100000 := by omega
    have hM2 : M ≤ 100000 := by omega
    clear HU0 HUo hVo hsU hsV hV h1 hnu hM hcy
    go_wp2_with fail
    go_loopw [10, 11] (fun so si wr => ∃ (k : Nat) (out : List Win) (y : Since y1.w), k ≤ nu ∧ si = .int .i64 k ∧ wr = y.w ∧ y.w.ownsRow y1.w.heap.size 31 2 so out.length (flat Win.cs out) ∧ ComO V (U.take k) (U.drop k) out ∧ out.length ≤ k * M) (fun _ si _ => nu - (intOf si).toNat)
    case atStart => exact ⟨0, [], Since.self _, by omega, rfl, rfl, ⟨rfl, .inl ⟨rfl, rfl⟩⟩, comO_start V U, by simp⟩
    case round =>
      obtain ⟨k, out, y, hk, rfl, rfl, hown, hO, hlen⟩ := hrel
      have Hown := Lib.hid hown; have HO := Lib.hid hO
      clear hown hO
      by_cases hlt : k < nu
      · obtain ⟨e, he⟩ : ∃ e, U[k]? = some e := ⟨_, List.getElem?_eq_getElem (by have := Hnu.out; omega)⟩
        have hk0 : (0 : Int) ≤ (k : Int) := by omega
        have hkl : (k : Int) < (nu : Int) := by omega
        have hklb : decide ((k : Int) < (nu : Int)) = true := decide_eq_true hkl
        have hdk : U.drop k = e :: U.drop (k + 1) := by
          have h1 := List.getElem?_eq_some_iff.1 he
          rw [← h1.2, ← List.drop_eq_getElem_cons h1.1]
        have htk : U.take (k + 1) = U.take k ++ [e] := by rw [List.take_add_one, he]; rfl
        rw [hdk] at HO
        have Hev := Lib.hid (HnU.out.v e (List.mem_of_getElem? he))
        have HeU := Lib.hid (show Norm (e :: U.drop (k + 1)) by rw [← hdk]; exact HnU.out.drop k)
        have Htk := Lib.hid htk
        have HI0 := Lib.hid HO.out.enter
        have He := Lib.hid he
        obtain ⟨KB, hKB⟩ : ∃ KB, KB = k * M := ⟨_, rfl⟩
        have hKB2 : KB ≤ 10000000000 := by
          rw [hKB]
          calc k * M ≤ 100000 * 100000 := Nat.mul_le_mul (by omega) (by omega)
            _ = 10000000000 := rfl
        rw [← hKB] at hlen
        have HKB := Lib.hid (show (k + 1) * M = KB + M by rw [hKB, Nat.succ_mul])
        clear hdk htk hKB HO he
        go_wp2_with fail
        go_loopw [10, 12] (fun so si wr => ∃ (j : Nat) (out : List Win) (y : Since y1.w), j ≤ M ∧ si = .int .i64 j ∧ wr = y.w ∧ y.w.ownsRow y1.w.heap.size 31 2 so out.length (flat Win.cs out) ∧ ComI (fun t => hasW (U.take k) t && hasW V t) e (V.take j) (V.drop j) out ∧ out.length ≤ KB + j) (fun _ si _ => M - (intOf si).toNat)
        case atStart => exact ⟨0, out, y, by omega, rfl, rfl, Hown.out, HI0.out, by omega⟩
        case round =>
          clear Hown HI0 hlen
          obtain ⟨j, out, y, hj, rfl, rfl, hown, hI, hlen⟩ := hrel
          have Hown := Lib.hid hown; have HI := Lib.hid hI
          clear hown hI
          by_cases hjt : j < M
          · obtain ⟨g, hg⟩ : ∃ g, V[j]? = some g := ⟨_, List.getElem?_eq_getElem (by have := HM.out; omega)⟩
            have hj0 : (0 : Int) ≤ (j : Int) := by omega
            have hjl : (j : Int) < (M : Int) := by omega
            have hjlb : decide ((j : Int) < (M : Int)) = true := decide_eq_true hjl
            have hdj : V.drop j = g :: V.drop (j + 1) := by
              have h1 := List.getElem?_eq_some_iff.1 hg
              rw [← h1.2, ← List.drop_eq_getElem_cons h1.1]
            have Htj := Lib.hid (show V.take (j + 1) = V.take j ++ [g] by rw [List.take_add_one, hg]; rfl)
            rw [hdj] at HI
            have Hstep := Lib.hid (HI.out.step ⟨Hev.out.1, Hev.out.2.2⟩ (by rw [← hdj]; exact HnV.out.drop j))
            rw [← Htj.out] at Hstep
            obtain ⟨b1, off1, rfl, h1'⟩ := Els.win (Since.els HU1.out y) He.out
            obtain ⟨b2, off2, rfl, h2'⟩ := Els.win (Since.els HV1.out y) hg
            have ka0 := fun w' (h : IsSince y.w w') => IsSince.cell h1'.c0 h
            have ka1 := fun w' (h : IsSince y.w w') => IsSince.cell h1'.c1 h
            have kb0 := fun w' (h : IsSince y.w w') => IsSince.cell h2'.c0 h
            have kb1 := fun w' (h : IsSince y.w w') => IsSince.cell h2'.c1 h
            clear h1' h2' hdj hg HI
            go_upto_region 12 with fail
            go_cut [13] (fun s13 wr => ∃ (gw : Nat) (y5 : Since y.w), s13 = .pointer (some ⟨gw, 0, none⟩) ∧ wr = y5.w ∧ (∀ q : Since y5.w, q.w.cell? ⟨gw, 0, none⟩ = some (.int .i64 (max e.f g.f))) ∧ (∀ q : Since y5.w, q.w.cell? ⟨gw, 1, none⟩ = some (.int .i64 (min e.t g.t))))
            case first =>
              go_region_held3 (fun w' => IsSince y.w w') (first | assumption | exact IsSince.drew' (IsSince.self _) | exact IsSince.alloc (by assumption) _ | exact IsSince.drew' (IsSince.alloc (IsSince.self _) _)) (fail)
              all_goals
                go_wp2_with fail
                go_meet
                obtain ⟨y5, h1, h2, h3⟩ := box2 y.w (.int .i64 (max e.f g.f)) (.int .i64 (min e.t g.t)) 31
                exact ⟨_, y5, rfl, h1, h2, h3⟩
            case rest =>
              obtain ⟨gw, y5, rfl, rfl, Hhx0, Hhx1⟩ := hcut
              replace Hown := Lib.hid (own_to Hown.out (⟨y5, rfl⟩ : ∃ zz : Since y.w, y5.w = zz.w))
              obtain ⟨y5', h5'⟩ := y.trans y5
              have H5' := Lib.hid h5'
              clear h5' ka0 ka1 kb0 kb1
              have Hcut := Lib.hid (show cutW e g = ⟨max e.f g.f, min e.t g.t⟩ from rfl)
              generalize max e.f g.f = F at *
              generalize min e.t g.t = T at *
              have hol : out.length ≤ 10000100000 := by omega
              obtain ⟨q5, hq0⟩ := Since.refl y5.w
              rw [hq0]
              clear hq0
              have hft : F < T ∨ ¬ F < T := by omega
              rcases hft with hft | hft
              · have Hadd := Lib.hid (show addW out (cutW e g) = out ++ [⟨F, T⟩] by rw [Hcut.out]; exact addW_yes hft)
                rw [Hadd.out] at Hstep
                go_wp2_with (at_builtin; (refine wpList_appendK (w0 := y1.w) ?hw rfl _ _ 35 rfl y1.w.heap.size (Nat.le_refl _) ?hb 31 (.agg #[.int .i64 0, .int .i64 0]) 16 sWin u10 out.length (flat Win.cs out) rfl ?hown ⟨q5.w.heap.size, 0, none⟩ 1 1 (⟨F, T⟩ : Win).cs rfl rfl ?hc (win_one _) ?h63 ?hbytes ?_; rotate_right 1; intro v2 q2 hown4 _ hg4))
                case hw => obtain ⟨yz, hyz⟩ := y5.trans q5; rw [hyz]; obtain ⟨yq, hyq⟩ := y.trans yz; rw [hyq]; exact IsSince.alloc (IsSince.of yq) _
                case hb => have := y.b.size; have := y5.b.size; have := q5.b.size; simp; omega
                case hown => exact own_to (own_to Hown.out ⟨q5, rfl⟩) (IsSince.alloc (IsSince.self _) _)
                case hc => exact cell_new_at q5.w (⟨F, T⟩ : Win).cs _
                case h63 => unfold maxLen; omega
                case hbytes => omega
                rw [← flat_one Win.cs (⟨F, T⟩ : Win), ← flat_append] at hown4
                have Hown4 := Lib.hid (show q2.w.ownsRow y1.w.heap.size 31 2 v2 (out ++ [(⟨F, T⟩ : Win)]).length (flat Win.cs (out ++ [(⟨F, T⟩ : Win)])) by rw [List.length_append, List.length_singleton]; exact hown4)
                clear hown4 hg4 hft Hown Hhx0 Hhx1
                go_wp2_with fail
                go_roundw
                case rel => exact ⟨j + 1, out ++ [⟨F, T⟩], q2, by omega, by go_num, rfl, Hown4.out, Hstep.out, by simp; omega⟩
                case measure => simp [intOf] <;> omega
              · have Hadd := Lib.hid (show addW out (cutW e g) = out by rw [Hcut.out]; exact addW_no hft)
                rw [Hadd.out] at Hstep
                obtain ⟨q1, hq1⟩ := y5.trans q5
                obtain ⟨q2, hq2⟩ := y.trans q1
                rw [← hq1] at hq2
                have Hown4 := Lib.hid (own_to Hown.out (⟨q5, rfl⟩ : ∃ zz : Since y5.w, q5.w = zz.w))
                rw [hq2] at Hown4
                clear Hown hq1
                have Hq2 := Lib.hid hq2
                clear hq2
                go_wp2_with fail
                go_roundw
                case rel => exact ⟨j + 1, out, q2, by omega, by go_num, Hq2.out, Hown4.out, Hstep.out, by omega⟩
                case measure => simp [intOf] <;> omega
          · obtain rfl : j = M := by omega
            have hjlb : decide ((j : Int) < (j : Int)) = false := decide_eq_false (by omega)
            have Hl := Lib.hid (show ComO V (U.take (k + 1)) (U.drop (k + 1)) out by
              rw [Htk.out]
              refine ComI.leave ?_ HeU.out
              have h := HI.out
              have ht : V.take j = V := List.take_of_length_le (by have := HM.out; omega)
              have hd : V.drop j = [] := List.drop_eq_nil_of_le (by have := HM.out; omega)
              rw [ht, hd] at h
              exact h)
            go_wp2_with fail
            go_roundw
            case rel => exact ⟨k + 1, out, y, by omega, by go_num, rfl, Hown.out, Hl.out, by rw [HKB.out]; exact hlen⟩
            case measure => simp [intOf] <;> omega
      · obtain rfl : k = nu := by omega
        have hklb : decide ((k : Int) < (k : Int)) = false := decide_eq_false (by omega)
        have Hset := Lib.hid (show IsSet out (fun t => hasW a t && hasW b t) from by
          have h := HO.out
          rw [List.take_of_length_le (by have := Hnu.out; omega), List.drop_eq_nil_of_le (by have := Hnu.out; omega)] at h
          exact ⟨h.set.n, fun t => by rw [h.set.h]; show (hasW U t && hasW V t) = _; rw [Hhas.out.1, Hhas.out.2]⟩)
        obtain ⟨hlen1, a5, c5, rfl, hc5, he5, _, _⟩ := own_els Win.len (by decide) Hown.out
        obtain ⟨y5, h5⟩ := y1.trans y
        have H5 := Lib.hid (HP.out a5 c5 out y5 (h5 ▸ he5) hc5 Hset.out (by have := Hmul.out; omega))
        rw [h5]
        clear hlen1 hc5 he5 h5
        go_wp2_with fail
        exact H5.out
end Go.Proofs.Ytefodfpnedcodaa
/- The reference of windows, sixth part: the difference. -/
namespace Go.Proofs.Ytefodfpnedcodaa
open Go.RowKit

set_option maxRecDepth 100000 in
set_option maxHeartbeats 8000000 in
theorem rminus_calls (w : World) (x : Since w) (pa : Option Addr) (a : List Win) (ca : Nat) (pb : Option Addr) (b : List Win) (cb : Nat) (ha : WinRow w pa a) (hb : WinRow w pb b) (hla : a.length ≤ 100000) (hlb : b.length ≤ 100000) :
    Calls Try.prog 43 #[.slice pa a.length ca, .slice pb b.length cb] x.w (SetRes w (MinOk a b) (setE a b)) := by
  have HA := Lib.hid (runion_calls w x pa a ca ha hla)
  have HB := Lib.hid (fun y : Since w => runion_calls y.w (Since.self _) pb b cb (Since.els hb y) hlb)
  have Hse := Lib.hid (show setE a b = if badW a || badW b then 1 else 0 from rfl)
  clear ha hb
  by_cases hgood : badW a = false ∧ badW b = false
  case neg =>
    have hbd : (badW a || badW b) = true := by
      cases h1 : badW a
      · cases h2 : badW b
        · exact (hgood ⟨h1, h2⟩).elim
        · rfl
      · rfl
    have H1 := Lib.hid (show ∀ y : Since w, SetRes w (MinOk a b) (setE a b) (.returned (.tuple #[.slice none 0 0, .int .i64 1])) y.w from fun y => by
      rw [Hse.out, hbd]; exact setRes_nil ⟨fun h => by rw [hbd] at h; (cases h), fun _ => rfl, by simp⟩ y)
    have Hu := Lib.hid (show unE a = if badW a then 1 else 0 from rfl)
    have Hv := Lib.hid (show unE b = if badW b then 1 else 0 from rfl)
    have hc : (unE a = 1 ∧ (unE b = 0 ∨ unE b = 1)) ∨ (unE a = 0 ∧ unE b = 1) := by
      rw [Hu.out, Hv.out]
      revert hbd
      cases badW a <;> cases badW b <;> simp
    generalize SetRes w (MinOk a b) (setE a b) = PO at *
    clear hbd hgood Hu Hv Hse
    rcases hc with ⟨hu, hv | hv⟩ | ⟨hu, hv⟩
    all_goals
      rw [hu] at HA
      rw [hv] at HB
      clear hu hv
      go_enter Try.func43, Try.ntmps43
      go_wp2_with fail
      refine HA.out.mono ?_
      rintro _ _ ⟨ax, cx, u, y1, rfl, rfl, _⟩
      go_wp2_with fail
      refine (HB.out y1).mono ?_
      rintro _ _ ⟨ay, cy, v, z1, rfl, rfl, _⟩
      obtain ⟨y2, h2⟩ := y1.trans z1
      rw [h2]
      clear h2
      go_wp2_with fail
      exact H1.out y2
  case pos =>
    obtain ⟨hba, hbb⟩ := hgood
    have hbd : (badW a || badW b) = false := by rw [hba, hbb]; rfl
    have HP := Lib.hid (show ∀ (p : Option Addr) (cap : Nat) (u : List Win) (y : Since w), WinRow y.w p u → u.length ≤ cap → IsSet u (fun t => hasW a t && !hasW b t) → u.length ≤ a.length * (b.length + 1) → SetRes w (MinOk a b) (setE a b) (.returned (.tuple #[.slice p u.length cap, .int .i64 0])) y.w from fun p cap u y h1 h2 h3 h4 => by
      rw [Hse.out, hbd]; exact ⟨p, cap, u, y, rfl, rfl, h1, h2, ⟨fun _ => h3, fun h => by rw [hbd] at h; (cases h), h4⟩⟩)
    have Hba := Lib.hid (And.intro hba hbb)
    have hu0 : unE a = 0 := by unfold unE; rw [hba]; rfl
    have hv0 : unE b = 0 := by unfold unE; rw [hbb]; rfl
    rw [hu0] at HA
    rw [hv0] at HB
    generalize SetRes w (MinOk a b) (setE a b) = PO at *
    clear hbd hba hbb hu0 hv0 Hse
    go_enter Try.func43, Try.ntmps43
    go_wp2_with fail
    refine HA.out.mono ?_
    rintro _ _ ⟨ax, cx, U, y0, rfl, rfl, hU, hcx, hUo⟩
    have HU0 := Lib.hid hU; have HUo := Lib.hid hUo
    clear hU hUo hcx
    go_wp2_with fail
    refine (HB.out y0).mono ?_
    rintro _ _ ⟨ay, cy, V, z1, rfl, rfl, hV, hcy, hVo⟩
    have hlU := HUo.out.n
    have hlV := hVo.n
    have hsU := HUo.out.ok Hba.out.1
    have hsV := hVo.ok Hba.out.2
    have Hhas := Lib.hid (And.intro hsU.h hsV.h)
    have HnU := Lib.hid hsU.n; have HnV := Lib.hid hsV.n
    have HU1 := Lib.hid (Since.els HU0.out z1); have HV1 := Lib.hid hV
    obtain ⟨y1, h1⟩ := y0.trans z1
    rw [h1] at HU1 HV1 ⊢
    obtain ⟨nu, hnu⟩ : ∃ nu, nu = U.length := ⟨_, rfl⟩
    obtain ⟨M, hM⟩ : ∃ M, M = V.length := ⟨_, rfl⟩
    have Hmul := Lib.hid (Nat.mul_le_mul hlU (Nat.succ_le_succ hlV))
    simp only [Nat.succ_eq_add_one] at Hmul
    rw [← hnu, ← hM] at Hmul ⊢
    rw [← hnu] at hlU
    rw [← hM] at hlV
    have Hnu := Lib.hid hnu; have HM := Lib.hid hM
    have hnu2 : nu ≤ 100000 := by omega
    have hM2 : M ≤ 100000 := by omega
    clear HU0 HUo hVo hsU hsV hV h1 hnu hM hcy
    go_wp2_with fail
    go_loopw [10, 11] (fun so si wr => ∃ (k : Nat) (out : List Win) (y : Since y1.w), k ≤ nu ∧ si = .int .i64 k ∧ wr = y.w ∧ y.w.ownsRow y1.w.heap.size 31 2 so out.length (flat Win.cs out) ∧ MinO V (U.take k) (U.drop k) out ∧ out.length ≤ k * (M + 1)) (fun _ si _ => nu - (intOf si).toNat)
    case atStart => exact ⟨0, [], Since.self _, by omega, rfl, rfl, ⟨rfl, .inl ⟨rfl, rfl⟩⟩, minO_start V U, by simp⟩
    case round =>
      obtain ⟨k, out, y, hk, rfl, rfl, hown, hO, hlen⟩ := hrel
      have Hown := Lib.hid hown; have HO := Lib.hid hO
      clear hown hO
      by_cases hlt : k < nu
      · obtain ⟨e, he⟩ : ∃ e, U[k]? = some e := ⟨_, List.getElem?_eq_getElem (by have := Hnu.out; omega)⟩
        have hk0 : (0 : Int) ≤ (k : Int) := by omega
        have hkl : (k : Int) < (nu : Int) := by omega
        have hklb : decide ((k : Int) < (nu : Int)) = true := decide_eq_true hkl
        have hdk : U.drop k = e :: U.drop (k + 1) := by
          have h1 := List.getElem?_eq_some_iff.1 he
          rw [← h1.2, ← List.drop_eq_getElem_cons h1.1]
        have htk : U.take (k + 1) = U.take k ++ [e] := by rw [List.take_add_one, he]; rfl
        rw [hdk] at HO
        have Hev := Lib.hid (HnU.out.v e (List.mem_of_getElem? he))
        have HeU := Lib.hid (show Norm (e :: U.drop (k + 1)) by rw [← hdk]; exact HnU.out.drop k)
        have Htk := Lib.hid htk
        have HI0 := Lib.hid (HO.out.enter Hev.out.2.1)
        have He := Lib.hid he
        obtain ⟨KB, hKB⟩ : ∃ KB, KB = k * (M + 1) := ⟨_, rfl⟩
        have hKB2 : KB ≤ 10000100000 := by
          rw [hKB]
          calc k * (M + 1) ≤ 100000 * 100001 := Nat.mul_le_mul (by omega) (by omega)
            _ = 10000100000 := rfl
        rw [← hKB] at hlen
        have HKB := Lib.hid (show (k + 1) * (M + 1) = KB + (M + 1) by rw [hKB, Nat.succ_mul])
        obtain ⟨b1, off1, rfl, h1'⟩ := Els.win HU1.out he
        have ra0 := h1'.c0
        have ra1 := h1'.c1
        clear hdk htk hKB HO he h1'
        go_wp2_with fail
        clear ra0 ra1
        go_loopw [10, 12, 13] (fun so sa si wr => ∃ (j : Nat) (at_ : Int) (out : List Win) (y : Since y1.w), j ≤ M ∧ si = .int .i64 j ∧ sa = .int .i64 at_ ∧ wr = y.w ∧ y.w.ownsRow y1.w.heap.size 31 2 so out.length (flat Win.cs out) ∧ MinI (fun t => hasW (U.take k) t && !hasW V t) (hasW V) e at_ out ∧ Past e at_ (V.take j) ∧ out.length ≤ KB + j) (fun _ _ si _ => M - (intOf si).toNat)
        case atStart => exact ⟨0, e.f, out, y, by omega, rfl, rfl, rfl, Hown.out, HI0.out, (fun c hc => by simp at hc), by omega⟩
        case round =>
          clear Hown HI0 hlen
          obtain ⟨j, at_, out, y, hj, rfl, rfl, rfl, hown, hI, hPs, hlen⟩ := hrel
          have Hown := Lib.hid hown; have HI := Lib.hid hI; have HPs := Lib.hid hPs
          clear hown hI hPs
          have hol : out.length ≤ 10000200000 := by omega
          obtain ⟨b3, off3, hbo3, h3'⟩ := Els.win (Since.els HU1.out y) He.out
          simp only [Option.some.injEq, Addr.mk.injEq, and_true] at hbo3
          obtain ⟨rfl, rfl⟩ := hbo3
          have ra1 := h3'.c1
          clear h3'
          by_cases hjt : j < M
          · obtain ⟨g, hg⟩ : ∃ g, V[j]? = some g := ⟨_, List.getElem?_eq_getElem (by have := HM.out; omega)⟩
            have hj0 : (0 : Int) ≤ (j : Int) := by omega
            have hjl : (j : Int) < (M : Int) := by omega
            have hjlb : decide ((j : Int) < (M : Int)) = true := decide_eq_true hjl
            have hdj : V = V.take j ++ g :: V.drop (j + 1) := by
              have h1 := List.getElem?_eq_some_iff.1 hg
              rw [← h1.2, ← List.drop_eq_getElem_cons h1.1, List.take_append_drop]
            have Htj := Lib.hid (show V.take (j + 1) = V.take j ++ [g] by rw [List.take_add_one, hg]; rfl)
            have Hdj := Lib.hid hdj
            have Hng := Lib.hid (show Norm (g :: V.drop (j + 1)) by
              have h1 := List.getElem?_eq_some_iff.1 hg
              rw [← h1.2, ← List.drop_eq_getElem_cons h1.1]; exact HnV.out.drop j)
            obtain ⟨b2, off2, rfl, h2'⟩ := Els.win (Since.els HV1.out y) hg
            have rb0 := h2'.c0
            have rb1 := h2'.c1
            clear h2' hdj hg
            obtain ⟨q5, hq0⟩ := Since.refl y.w
            rw [hq0]
            clear hq0
            rcases (by omega : g.t ≤ at_ ∨ (at_ < g.t ∧ e.t ≤ g.f) ∨ (at_ < g.t ∧ g.f < e.t ∧ at_ < g.f) ∨ (at_ < g.t ∧ g.f < e.t ∧ g.f ≤ at_)) with hc | ⟨hc, hc2⟩ | ⟨hc, hc2, hc3⟩ | ⟨hc, hc2, hc3⟩
            · have hcb : decide (g.t ≤ at_) = true := decide_eq_true hc
              have HP2 := Lib.hid (show Past e at_ (V.take (j + 1)) by rw [Htj.out]; exact HPs.out.snoc (.inl hc))
              clear hc
              go_wp2_with fail
              refine wp_region_since (by kernel_rfl) (by kernel_rfl) ?_
              repeat (go_big_quiet_step (fail))
              refine wpQuiet_nil ?_
              rintro _ ⟨z, rfl⟩
              obtain ⟨y6, h6⟩ := y.trans z
              have Hown6 := Lib.hid (own_to Hown.out (⟨z, rfl⟩ : ∃ zz : Since y.w, z.w = zz.w))
              rw [h6] at Hown6 ⊢
              clear h6
              go_wp2_with fail
              go_roundw
              case rel => exact ⟨j + 1, at_, out, y6, by omega, by go_num, rfl, rfl, Hown6.out, HI.out, HP2.out, by omega⟩
              case measure => simp [intOf] <;> omega
            · have hcb : decide (g.t ≤ at_) = false := decide_eq_false (by omega)
              have hcb2 : decide (e.t ≤ g.f) = true := decide_eq_true hc2
              have HP2 := Lib.hid (show Past e at_ (V.take (j + 1)) by rw [Htj.out]; exact HPs.out.snoc (.inr hc2))
              clear hc hc2
              go_wp2_with fail
              refine wp_region_since (by kernel_rfl) (by kernel_rfl) ?_
              repeat (go_big_quiet_step (fail))
              refine wpQuiet_nil ?_
              rintro _ ⟨z, rfl⟩
              obtain ⟨y6, h6⟩ := y.trans z
              have Hown6 := Lib.hid (own_to Hown.out (⟨z, rfl⟩ : ∃ zz : Since y.w, z.w = zz.w))
              rw [h6] at Hown6 ⊢
              clear h6
              go_wp2_with fail
              go_roundw
              case rel => exact ⟨j + 1, at_, out, y6, by omega, by go_num, rfl, rfl, Hown6.out, HI.out, HP2.out, by omega⟩
              case measure => simp [intOf] <;> omega
            · have hcb : decide (g.t ≤ at_) = false := decide_eq_false (by omega)
              have hcb2 : decide (e.t ≤ g.f) = false := decide_eq_false (by omega)
              have hh := MinI.hole (vd := V.take j) (b := g) (vr := V.drop (j + 1)) (by rw [← Hdj.out]; exact HI.out) HPs.out ⟨Hev.out.1, Hev.out.2.2⟩ Hng.out hc2
              rw [← Hdj.out, ← Htj.out, show max at_ g.t = g.t by omega, addW_yes (show (⟨at_, g.f⟩ : Win).f < (⟨at_, g.f⟩ : Win).t from hc3)] at hh
              have Hh := Lib.hid hh
              clear hh hc hc2
              go_wp2_with fail
              refine wp_region_since (by kernel_rfl) (by kernel_rfl) ?_
              repeat (go_big_quiet_step (fail))
              refine wpQuiet_nil ?_
              rintro _ ⟨z, rfl⟩
              go_upto_region 16 with (at_builtin; (refine wpList_appendK (w0 := y1.w) ?hw rfl _ _ 35 rfl y1.w.heap.size (Nat.le_refl _) ?hb 31 (.agg #[.int .i64 0, .int .i64 0]) 16 sWin u10 out.length (flat Win.cs out) rfl ?hown ⟨z.w.heap.size, 0, none⟩ 1 1 (⟨at_, g.f⟩ : Win).cs rfl rfl ?hc (win_one _) ?h63 ?hbytes ?_; rotate_right 1; intro v2 q2 hown4 _ hg4))
              case hw => obtain ⟨yz, hyz⟩ := y.trans z; rw [hyz]; exact IsSince.alloc (IsSince.of yz) _
              case hb => have := y.b.size; have := z.b.size; simp; omega
              case hown => exact own_to (own_to Hown.out ⟨z, rfl⟩) (IsSince.alloc (IsSince.self _) _)
              case hc => exact cell_new_at z.w (⟨at_, g.f⟩ : Win).cs _
              case h63 => unfold maxLen; omega
              case hbytes => omega
              rw [← flat_one Win.cs (⟨at_, g.f⟩ : Win), ← flat_append] at hown4
              have Hown4 := Lib.hid (show q2.w.ownsRow y1.w.heap.size 31 2 v2 (out ++ [(⟨at_, g.f⟩ : Win)]).length (flat Win.cs (out ++ [(⟨at_, g.f⟩ : Win)])) by rw [List.length_append, List.length_singleton]; exact hown4)
              obtain ⟨b4, off4, hbo4, h4'⟩ := Els.win (Since.els HV1.out q2) (show V[j]? = some g by rw [Hdj.out, List.getElem?_append_right (by simp; omega)]; simp [show min j V.length = j by have := HM.out; omega])
              simp only [Option.some.injEq, Addr.mk.injEq, and_true] at hbo4
              obtain ⟨rfl, rfl⟩ := hbo4
              have rc1 := h4'.c1
              clear hown4 hg4 Hown ra1 rb0 rb1 h4'
              obtain ⟨q3, hq0⟩ := Since.refl q2.w
              rw [hq0]
              clear hq0
              go_wp2_with fail
              obtain ⟨y6, h6⟩ := q2.trans q3
              have Hown6 := Lib.hid (own_to Hown4.out (⟨q3, rfl⟩ : ∃ zz : Since q2.w, q3.w = zz.w))
              rw [h6] at Hown6 ⊢
              clear h6
              go_roundw
              case rel => exact ⟨j + 1, g.t, out ++ [⟨at_, g.f⟩], y6, by omega, by go_num, rfl, rfl, Hown6.out, Hh.out.1, Hh.out.2, by simp; omega⟩
              case measure => simp [intOf] <;> omega
            · have hcb : decide (g.t ≤ at_) = false := decide_eq_false (by omega)
              have hcb2 : decide (e.t ≤ g.f) = false := decide_eq_false (by omega)
              have hh := MinI.hole (vd := V.take j) (b := g) (vr := V.drop (j + 1)) (by rw [← Hdj.out]; exact HI.out) HPs.out ⟨Hev.out.1, Hev.out.2.2⟩ Hng.out hc2
              rw [← Hdj.out, ← Htj.out, show max at_ g.t = g.t by omega, addW_no (show ¬ (⟨at_, g.f⟩ : Win).f < (⟨at_, g.f⟩ : Win).t from by show ¬ at_ < g.f; omega)] at hh
              have Hh := Lib.hid hh
              clear hh hc hc2
              go_wp2_with fail
              refine wp_region_since (by kernel_rfl) (by kernel_rfl) ?_
              repeat (go_big_quiet_step (fail))
              refine wpQuiet_nil ?_
              rintro _ ⟨z, rfl⟩
              go_wp2_with fail
              obtain ⟨y6, h6⟩ := y.trans z
              have Hown6 := Lib.hid (own_to Hown.out (⟨z, rfl⟩ : ∃ zz : Since y.w, z.w = zz.w))
              rw [h6] at Hown6 ⊢
              clear h6
              go_roundw
              case rel => exact ⟨j + 1, g.t, out, y6, by omega, by go_num, rfl, rfl, Hown6.out, Hh.out.1, Hh.out.2, by omega⟩
              case measure => simp [intOf] <;> omega
          · obtain rfl : j = M := by omega
            have hjlb : decide ((j : Int) < (j : Int)) = false := decide_eq_false (by omega)
            have hl : MinO V (U.take (k + 1)) (U.drop (k + 1)) (addW out ⟨at_, e.t⟩) := by
              rw [Htk.out]
              have h := HPs.out
              rw [List.take_of_length_le (by have := HM.out; omega)] at h
              exact HI.out.leave h HeU.out
            rcases (by omega : at_ < e.t ∨ e.t ≤ at_) with hc | hc
            · rw [addW_yes (show (⟨at_, e.t⟩ : Win).f < (⟨at_, e.t⟩ : Win).t from hc)] at hl
              have Hl := Lib.hid hl
              clear hl
              obtain ⟨z, hq0⟩ := Since.refl y.w
              rw [hq0]
              clear hq0
              go_wp2_with (at_builtin; (refine wpList_appendK (w0 := y1.w) ?hw rfl _ _ 35 rfl y1.w.heap.size (Nat.le_refl _) ?hb 31 (.agg #[.int .i64 0, .int .i64 0]) 16 sWin u10 out.length (flat Win.cs out) rfl ?hown ⟨z.w.heap.size, 0, none⟩ 1 1 (⟨at_, e.t⟩ : Win).cs rfl rfl ?hc (win_one _) ?h63 ?hbytes ?_; rotate_right 1; intro v2 q2 hown4 _ hg4))
              case hw => obtain ⟨yz, hyz⟩ := y.trans z; rw [hyz]; exact IsSince.alloc (IsSince.of yz) _
              case hb => have := y.b.size; have := z.b.size; simp; omega
              case hown => exact own_to (own_to Hown.out ⟨z, rfl⟩) (IsSince.alloc (IsSince.self _) _)
              case hc => exact cell_new_at z.w (⟨at_, e.t⟩ : Win).cs _
              case h63 => unfold maxLen; omega
              case hbytes => omega
              rw [← flat_one Win.cs (⟨at_, e.t⟩ : Win), ← flat_append] at hown4
              have Hown4 := Lib.hid (show q2.w.ownsRow y1.w.heap.size 31 2 v2 (out ++ [(⟨at_, e.t⟩ : Win)]).length (flat Win.cs (out ++ [(⟨at_, e.t⟩ : Win)])) by rw [List.length_append, List.length_singleton]; exact hown4)
              clear hown4 hg4 Hown
              go_wp2_with fail
              go_roundw
              case rel => exact ⟨k + 1, out ++ [⟨at_, e.t⟩], q2, by omega, by go_num, rfl, Hown4.out, Hl.out, by rw [HKB.out]; simp; omega⟩
              case measure => simp [intOf] <;> omega
            · rw [addW_no (show ¬ (⟨at_, e.t⟩ : Win).f < (⟨at_, e.t⟩ : Win).t from by show ¬ at_ < e.t; omega)] at hl
              have Hl := Lib.hid hl
              clear hl
              obtain ⟨z, hq0⟩ := Since.refl y.w
              rw [hq0]
              clear hq0
              go_wp2_with fail
              obtain ⟨y6, h6⟩ := y.trans z
              have Hown6 := Lib.hid (own_to Hown.out (⟨z, rfl⟩ : ∃ zz : Since y.w, z.w = zz.w))
              rw [h6] at Hown6 ⊢
              clear h6
              go_roundw
              case rel => exact ⟨k + 1, out, y6, by omega, by go_num, rfl, Hown6.out, Hl.out, by rw [HKB.out]; omega⟩
              case measure => simp [intOf] <;> omega
      · obtain rfl : k = nu := by omega
        have hklb : decide ((k : Int) < (k : Int)) = false := decide_eq_false (by omega)
        have Hset := Lib.hid (show IsSet out (fun t => hasW a t && !hasW b t) from by
          have h := HO.out
          rw [List.take_of_length_le (by have := Hnu.out; omega), List.drop_eq_nil_of_le (by have := Hnu.out; omega)] at h
          exact ⟨h.set.n, fun t => by rw [h.set.h]; show (hasW U t && !hasW V t) = _; rw [Hhas.out.1, Hhas.out.2]⟩)
        obtain ⟨hlen1, a5, c5, rfl, hc5, he5, _, _⟩ := own_els Win.len (by decide) Hown.out
        obtain ⟨y5, h5⟩ := y1.trans y
        have H5 := Lib.hid (HP.out a5 c5 out y5 (h5 ▸ he5) hc5 Hset.out (by have := Hmul.out; omega))
        rw [h5]
        clear hlen1 hc5 he5 h5
        go_wp2_with fail
        exact H5.out
end Go.Proofs.Ytefodfpnedcodaa
/- The reference of windows, seventh part: a list in normal form is accepted as such. -/
namespace Go.Proofs.Ytefodfpnedcodaa
open Go.RowKit

theorem norm_pair {l : List Win} (h : Norm l) {j : Nat} {p e : Win} (hp : l[j]? = some p) (he : l[j + 1]? = some e) : p.t < e.f := by
  obtain ⟨h1, rfl⟩ := List.getElem?_eq_some_iff.1 hp
  obtain ⟨h2, rfl⟩ := List.getElem?_eq_some_iff.1 he
  exact List.pairwise_iff_getElem.1 h.s j (j + 1) h1 h2 (by omega)
set_option maxRecDepth 100000 in
set_option maxHeartbeats 4000000 in
theorem normal_calls (w : World) (x : Since w) (a : Option Addr) (l : List Win) (c : Nat) (h : WinRow w a l) (hl : l.length ≤ 9223372036854775807) (hn : Norm l) :
    Calls Try.prog 30 #[.slice a l.length c] x.w fun o w' => o = .returned (.bool true) ∧ ∃ y : Since w, w' = y.w := by
  have HL := Lib.hid h
  have HN := Lib.hid hn
  clear h hn
  obtain ⟨n, hnl⟩ : ∃ n, n = l.length := ⟨_, rfl⟩
  rw [← hnl] at hl ⊢
  have Hnl := Lib.hid hnl
  clear hnl
  go_enter Try.func30, Try.ntmps30
  go_wp2_with fail
  go_loopw [3] (fun i wr => ∃ (k : Nat) (y : Since w), k ≤ n ∧ i = .int .i64 k ∧ wr = y.w) (fun i _ => n - (intOf i).toNat)
  case atStart => exact ⟨0, x, by omega, rfl, rfl⟩
  case round =>
    obtain ⟨k, y, hk, rfl, rfl⟩ := hrel
    by_cases hlt : k < n
    · obtain ⟨e, he⟩ : ∃ e, l[k]? = some e := ⟨_, List.getElem?_eq_getElem (by have := Hnl.out; omega)⟩
      have hev := HN.out.v e (List.mem_of_getElem? he)
      have hvl : vldW e = true := (vldW_iff e).2 (by omega)
      have hne : (e.f == e.t) = false := by simp; omega
      have Hc := Lib.hid (fun y : Since w => rvw_calls w y e)
      rw [hvl] at Hc
      clear hvl hev
      cases k with
      | zero =>
        obtain ⟨b1, off1, rfl, h1'⟩ := Els.win HL.out he
        have ra0 := h1'.c0
        have ra1 := h1'.c1
        simp only [Nat.zero_mul, Nat.add_zero] at ra0 ra1
        have hkl : (0 : Int) < (n : Int) := by omega
        have hklb : decide ((0 : Int) < (n : Int)) = true := decide_eq_true hkl
        clear h1' he
        go_wp2_with fail
        refine wp_region_since (by kernel_rfl) (by kernel_rfl) ?_
        repeat (go_big_quiet_step ((go_at_call 47; exact Hc.out _)))
        refine wpQuiet_nil ?_
        rintro _ ⟨z, rfl⟩
        go_wp2_with fail
        go_roundw
        case rel => exact ⟨1, z, by omega, by go_num, rfl⟩
        case measure => simp [intOf] <;> omega
      | succ j =>
        obtain ⟨p, hp⟩ : ∃ p, l[j]? = some p := ⟨_, List.getElem?_eq_getElem (by have := Hnl.out; omega)⟩
        have hpe := norm_pair HN.out hp he
        have hpb : decide (e.f ≤ p.t) = false := decide_eq_false (by omega)
        obtain ⟨b1, off1, rfl, h1'⟩ := Els.win HL.out he
        have ra0 := h1'.c0
        have ra1 := h1'.c1
        obtain ⟨b2, off2, hbo, h2'⟩ := Els.win HL.out hp
        simp only [Option.some.injEq, Addr.mk.injEq, and_true] at hbo
        obtain ⟨rfl, rfl⟩ := hbo
        have rb0 := h2'.c0
        have rb1 := h2'.c1
        have hk0 : (0 : Int) ≤ (j : Int) := by omega
        have hj1 : decide ((0 : Int) < (j : Int) + 1) = true := decide_eq_true (by omega)
        have hkl : (j : Int) + 1 < (n : Int) := by omega
        have hj2 : (j : Int) < (n : Int) := by omega
        have hkln : j + 1 < n := by omega
        clear h1' h2' hp he hpe
        go_wp2_with fail
        refine wp_region_since (by kernel_rfl) (by kernel_rfl) ?_
        repeat (go_big_quiet_step ((go_at_call 47; exact Hc.out _)))
        refine wpQuiet_nil ?_
        rintro _ ⟨z, rfl⟩
        go_wp2_with fail
        go_roundw
        case rel => exact ⟨j + 1 + 1, z, by omega, by go_num, rfl⟩
        case measure => simp [intOf] <;> omega
    · obtain rfl : k = n := by omega
      go_wp2_with fail
      go_ret
      exact ⟨rfl, _, rfl⟩
end Go.Proofs.Ytefodfpnedcodaa
/- The walks of the certain and the possible time, first part: Sure, Possible, Doubt. -/
namespace Go.Proofs.Ytefodfpnedcodaa
open Go.RowKit

def WinRes (w : World) (S : Win) (E : Int) (o : Ending) (w' : World) : Prop := o = .returned (.tuple #[.agg #[.int .i64 S.f, .int .i64 S.t], .int .i64 E]) ∧ ∃ y : Since w, w' = y.w
theorem winRes {w w' : World} {S : Win} {E : Int} {f t e : Int} (y : Since w) (hS : S = ⟨f, t⟩) (hE : E = e) (hw : w' = y.w) : WinRes w S E (.returned (.tuple #[.agg #[.int .i64 f, .int .i64 t], .int .i64 e])) w' := by
  subst hS; subst hE; exact ⟨rfl, y, hw⟩
set_option maxRecDepth 100000 in
set_option maxHeartbeats 8000000 in
theorem sure_calls (w : World) (x : Since w) (r : Ride) (h : r.At w) :
    Calls Try.prog 12 #[.agg #[.int .i64 r.id, .int .i64 r.rd, .int .i64 r.s0, .int .i64 r.s1, .int .i64 r.e0, .int .i64 r.e1, .bool r.op, .slice r.la r.legs.length r.lc, .slice r.pa r.pauses.length r.pc, .int .i64 r.fw, .int .i64 r.fp, .int .i64 r.wh, .int .i64 r.pl]] x.w (WinRes w (sureW r) (ivE r)) := by
  have H := Lib.hid h
  clear h
  have hsw : sureW r = if ivE r = 0 then ⟨r.s1, max r.s1 r.e0⟩ else ⟨0, 0⟩ := rfl
  have hiv : ivE r = if rideE r = 0 then (if r.op then 26 else 0) else rideE r := rfl
  have Hsw := Lib.hid hsw
  have Hiv := Lib.hid hiv
  clear hsw hiv
  generalize sureW r = S at *
  generalize ivE r = E at *
  have Hc := Lib.hid (fun (w : World) (x : Since w) (h : r.At w) => check_calls w x r h)
  generalize hre : rideE r = e at *
  clear hre
  have Hpost := Lib.hid (fun (w' : World) (f t e : Int) (y : Since w) (hS : S = ⟨f, t⟩) (hE : E = e) (hw : w' = y.w) => winRes y hS hE hw)
  generalize WinRes w S E = PO at *
  generalize r.op = op at *
  go_enter Try.func12, Try.ntmps12
  go_upto_region 1 with fail
  have hb0_0 : ∀ y : Since ((x.w.alloc (.cells #[.int .i64 r.id, .int .i64 r.rd, .int .i64 r.s0, .int .i64 r.s1, .int .i64 r.e0, .int .i64 r.e1, .bool op, .slice r.la r.legs.length r.lc, .slice r.pa r.pauses.length r.pc, .int .i64 r.fw, .int .i64 r.fp, .int .i64 r.wh, .int .i64 r.pl] 27)).alloc (.cells #[.int .i64 0, .int .i64 0] 31)), y.w.cell? ⟨x.w.heap.size, 0, none⟩ = some (.int .i64 r.id) := fun y => Since.cell (by simp [go_sem]) (by first | (simp; done) | (simp; omega)) y
  have hb0_1 : ∀ y : Since ((x.w.alloc (.cells #[.int .i64 r.id, .int .i64 r.rd, .int .i64 r.s0, .int .i64 r.s1, .int .i64 r.e0, .int .i64 r.e1, .bool op, .slice r.la r.legs.length r.lc, .slice r.pa r.pauses.length r.pc, .int .i64 r.fw, .int .i64 r.fp, .int .i64 r.wh, .int .i64 r.pl] 27)).alloc (.cells #[.int .i64 0, .int .i64 0] 31)), y.w.cell? ⟨x.w.heap.size, 1, none⟩ = some (.int .i64 r.rd) := fun y => Since.cell (by simp [go_sem]) (by first | (simp; done) | (simp; omega)) y
  have hb0_2 : ∀ y : Since ((x.w.alloc (.cells #[.int .i64 r.id, .int .i64 r.rd, .int .i64 r.s0, .int .i64 r.s1, .int .i64 r.e0, .int .i64 r.e1, .bool op, .slice r.la r.legs.length r.lc, .slice r.pa r.pauses.length r.pc, .int .i64 r.fw, .int .i64 r.fp, .int .i64 r.wh, .int .i64 r.pl] 27)).alloc (.cells #[.int .i64 0, .int .i64 0] 31)), y.w.cell? ⟨x.w.heap.size, 2, none⟩ = some (.int .i64 r.s0) := fun y => Since.cell (by simp [go_sem]) (by first | (simp; done) | (simp; omega)) y
  have hb0_3 : ∀ y : Since ((x.w.alloc (.cells #[.int .i64 r.id, .int .i64 r.rd, .int .i64 r.s0, .int .i64 r.s1, .int .i64 r.e0, .int .i64 r.e1, .bool op, .slice r.la r.legs.length r.lc, .slice r.pa r.pauses.length r.pc, .int .i64 r.fw, .int .i64 r.fp, .int .i64 r.wh, .int .i64 r.pl] 27)).alloc (.cells #[.int .i64 0, .int .i64 0] 31)), y.w.cell? ⟨x.w.heap.size, 3, none⟩ = some (.int .i64 r.s1) := fun y => Since.cell (by simp [go_sem]) (by first | (simp; done) | (simp; omega)) y
  have hb0_4 : ∀ y : Since ((x.w.alloc (.cells #[.int .i64 r.id, .int .i64 r.rd, .int .i64 r.s0, .int .i64 r.s1, .int .i64 r.e0, .int .i64 r.e1, .bool op, .slice r.la r.legs.length r.lc, .slice r.pa r.pauses.length r.pc, .int .i64 r.fw, .int .i64 r.fp, .int .i64 r.wh, .int .i64 r.pl] 27)).alloc (.cells #[.int .i64 0, .int .i64 0] 31)), y.w.cell? ⟨x.w.heap.size, 4, none⟩ = some (.int .i64 r.e0) := fun y => Since.cell (by simp [go_sem]) (by first | (simp; done) | (simp; omega)) y
  have hb0_5 : ∀ y : Since ((x.w.alloc (.cells #[.int .i64 r.id, .int .i64 r.rd, .int .i64 r.s0, .int .i64 r.s1, .int .i64 r.e0, .int .i64 r.e1, .bool op, .slice r.la r.legs.length r.lc, .slice r.pa r.pauses.length r.pc, .int .i64 r.fw, .int .i64 r.fp, .int .i64 r.wh, .int .i64 r.pl] 27)).alloc (.cells #[.int .i64 0, .int .i64 0] 31)), y.w.cell? ⟨x.w.heap.size, 5, none⟩ = some (.int .i64 r.e1) := fun y => Since.cell (by simp [go_sem]) (by first | (simp; done) | (simp; omega)) y
  have hb0_6 : ∀ y : Since ((x.w.alloc (.cells #[.int .i64 r.id, .int .i64 r.rd, .int .i64 r.s0, .int .i64 r.s1, .int .i64 r.e0, .int .i64 r.e1, .bool op, .slice r.la r.legs.length r.lc, .slice r.pa r.pauses.length r.pc, .int .i64 r.fw, .int .i64 r.fp, .int .i64 r.wh, .int .i64 r.pl] 27)).alloc (.cells #[.int .i64 0, .int .i64 0] 31)), y.w.cell? ⟨x.w.heap.size, 6, none⟩ = some (.bool op) := fun y => Since.cell (by simp [go_sem]) (by first | (simp; done) | (simp; omega)) y
  have hb0_7 : ∀ y : Since ((x.w.alloc (.cells #[.int .i64 r.id, .int .i64 r.rd, .int .i64 r.s0, .int .i64 r.s1, .int .i64 r.e0, .int .i64 r.e1, .bool op, .slice r.la r.legs.length r.lc, .slice r.pa r.pauses.length r.pc, .int .i64 r.fw, .int .i64 r.fp, .int .i64 r.wh, .int .i64 r.pl] 27)).alloc (.cells #[.int .i64 0, .int .i64 0] 31)), y.w.cell? ⟨x.w.heap.size, 7, none⟩ = some (.slice r.la r.legs.length r.lc) := fun y => Since.cell (by simp [go_sem]) (by first | (simp; done) | (simp; omega)) y
  have hb0_8 : ∀ y : Since ((x.w.alloc (.cells #[.int .i64 r.id, .int .i64 r.rd, .int .i64 r.s0, .int .i64 r.s1, .int .i64 r.e0, .int .i64 r.e1, .bool op, .slice r.la r.legs.length r.lc, .slice r.pa r.pauses.length r.pc, .int .i64 r.fw, .int .i64 r.fp, .int .i64 r.wh, .int .i64 r.pl] 27)).alloc (.cells #[.int .i64 0, .int .i64 0] 31)), y.w.cell? ⟨x.w.heap.size, 8, none⟩ = some (.slice r.pa r.pauses.length r.pc) := fun y => Since.cell (by simp [go_sem]) (by first | (simp; done) | (simp; omega)) y
  have hb0_9 : ∀ y : Since ((x.w.alloc (.cells #[.int .i64 r.id, .int .i64 r.rd, .int .i64 r.s0, .int .i64 r.s1, .int .i64 r.e0, .int .i64 r.e1, .bool op, .slice r.la r.legs.length r.lc, .slice r.pa r.pauses.length r.pc, .int .i64 r.fw, .int .i64 r.fp, .int .i64 r.wh, .int .i64 r.pl] 27)).alloc (.cells #[.int .i64 0, .int .i64 0] 31)), y.w.cell? ⟨x.w.heap.size, 9, none⟩ = some (.int .i64 r.fw) := fun y => Since.cell (by simp [go_sem]) (by first | (simp; done) | (simp; omega)) y
  have hb0_10 : ∀ y : Since ((x.w.alloc (.cells #[.int .i64 r.id, .int .i64 r.rd, .int .i64 r.s0, .int .i64 r.s1, .int .i64 r.e0, .int .i64 r.e1, .bool op, .slice r.la r.legs.length r.lc, .slice r.pa r.pauses.length r.pc, .int .i64 r.fw, .int .i64 r.fp, .int .i64 r.wh, .int .i64 r.pl] 27)).alloc (.cells #[.int .i64 0, .int .i64 0] 31)), y.w.cell? ⟨x.w.heap.size, 10, none⟩ = some (.int .i64 r.fp) := fun y => Since.cell (by simp [go_sem]) (by first | (simp; done) | (simp; omega)) y
  have hb0_11 : ∀ y : Since ((x.w.alloc (.cells #[.int .i64 r.id, .int .i64 r.rd, .int .i64 r.s0, .int .i64 r.s1, .int .i64 r.e0, .int .i64 r.e1, .bool op, .slice r.la r.legs.length r.lc, .slice r.pa r.pauses.length r.pc, .int .i64 r.fw, .int .i64 r.fp, .int .i64 r.wh, .int .i64 r.pl] 27)).alloc (.cells #[.int .i64 0, .int .i64 0] 31)), y.w.cell? ⟨x.w.heap.size, 11, none⟩ = some (.int .i64 r.wh) := fun y => Since.cell (by simp [go_sem]) (by first | (simp; done) | (simp; omega)) y
  have hb0_12 : ∀ y : Since ((x.w.alloc (.cells #[.int .i64 r.id, .int .i64 r.rd, .int .i64 r.s0, .int .i64 r.s1, .int .i64 r.e0, .int .i64 r.e1, .bool op, .slice r.la r.legs.length r.lc, .slice r.pa r.pauses.length r.pc, .int .i64 r.fw, .int .i64 r.fp, .int .i64 r.wh, .int .i64 r.pl] 27)).alloc (.cells #[.int .i64 0, .int .i64 0] 31)), y.w.cell? ⟨x.w.heap.size, 12, none⟩ = some (.int .i64 r.pl) := fun y => Since.cell (by simp [go_sem]) (by first | (simp; done) | (simp; omega)) y
  have hf0 : ∀ (y : Since ((x.w.alloc (.cells #[.int .i64 r.id, .int .i64 r.rd, .int .i64 r.s0, .int .i64 r.s1, .int .i64 r.e0, .int .i64 r.e1, .bool op, .slice r.la r.legs.length r.lc, .slice r.pa r.pauses.length r.pc, .int .i64 r.fw, .int .i64 r.fp, .int .i64 r.wh, .int .i64 r.pl] 27)).alloc (.cells #[.int .i64 0, .int .i64 0] 31))) (o : Nat), y.w.frozen? ⟨x.w.heap.size, o, none⟩ = false := fun y o => Since.free (by simp [go_sem]) (by first | (simp; done) | (simp; omega)) y
  have hb1_0 : ∀ y : Since ((x.w.alloc (.cells #[.int .i64 r.id, .int .i64 r.rd, .int .i64 r.s0, .int .i64 r.s1, .int .i64 r.e0, .int .i64 r.e1, .bool op, .slice r.la r.legs.length r.lc, .slice r.pa r.pauses.length r.pc, .int .i64 r.fw, .int .i64 r.fp, .int .i64 r.wh, .int .i64 r.pl] 27)).alloc (.cells #[.int .i64 0, .int .i64 0] 31)), y.w.cell? ⟨x.w.heap.size + 1, 0, none⟩ = some (.int .i64 0) := fun y => Since.cell (by simp [go_sem]) (by first | (simp; done) | (simp; omega)) y
  have hb1_1 : ∀ y : Since ((x.w.alloc (.cells #[.int .i64 r.id, .int .i64 r.rd, .int .i64 r.s0, .int .i64 r.s1, .int .i64 r.e0, .int .i64 r.e1, .bool op, .slice r.la r.legs.length r.lc, .slice r.pa r.pauses.length r.pc, .int .i64 r.fw, .int .i64 r.fp, .int .i64 r.wh, .int .i64 r.pl] 27)).alloc (.cells #[.int .i64 0, .int .i64 0] 31)), y.w.cell? ⟨x.w.heap.size + 1, 1, none⟩ = some (.int .i64 0) := fun y => Since.cell (by simp [go_sem]) (by first | (simp; done) | (simp; omega)) y
  have hf1 : ∀ (y : Since ((x.w.alloc (.cells #[.int .i64 r.id, .int .i64 r.rd, .int .i64 r.s0, .int .i64 r.s1, .int .i64 r.e0, .int .i64 r.e1, .bool op, .slice r.la r.legs.length r.lc, .slice r.pa r.pauses.length r.pc, .int .i64 r.fw, .int .i64 r.fp, .int .i64 r.wh, .int .i64 r.pl] 27)).alloc (.cells #[.int .i64 0, .int .i64 0] 31))) (o : Nat), y.w.frozen? ⟨x.w.heap.size + 1, o, none⟩ = false := fun y o => Since.free (by simp [go_sem]) (by first | (simp; done) | (simp; omega)) y
  have hWup : ∃ z : Since w, ((x.w.alloc (.cells #[.int .i64 r.id, .int .i64 r.rd, .int .i64 r.s0, .int .i64 r.s1, .int .i64 r.e0, .int .i64 r.e1, .bool op, .slice r.la r.legs.length r.lc, .slice r.pa r.pauses.length r.pc, .int .i64 r.fw, .int .i64 r.fp, .int .i64 r.wh, .int .i64 r.pl] 27)).alloc (.cells #[.int .i64 0, .int .i64 0] 31)) = z.w := Since.allocs x [.cells #[.int .i64 r.id, .int .i64 r.rd, .int .i64 r.s0, .int .i64 r.s1, .int .i64 r.e0, .int .i64 r.e1, .bool op, .slice r.la r.legs.length r.lc, .slice r.pa r.pauses.length r.pc, .int .i64 r.fw, .int .i64 r.fp, .int .i64 r.wh, .int .i64 r.pl] 27, .cells #[.int .i64 0, .int .i64 0] 31]
  obtain ⟨y0, hy0⟩ := Since.refl ((x.w.alloc (.cells #[.int .i64 r.id, .int .i64 r.rd, .int .i64 r.s0, .int .i64 r.s1, .int .i64 r.e0, .int .i64 r.e1, .bool op, .slice r.la r.legs.length r.lc, .slice r.pa r.pauses.length r.pc, .int .i64 r.fw, .int .i64 r.fp, .int .i64 r.wh, .int .i64 r.pl] 27)).alloc (.cells #[.int .i64 0, .int .i64 0] 31))
  have Hbx := Lib.hid (And.intro x.b.size (show x.w.heap.size + 2 = ((x.w.alloc (.cells #[.int .i64 r.id, .int .i64 r.rd, .int .i64 r.s0, .int .i64 r.s1, .int .i64 r.e0, .int .i64 r.e1, .bool op, .slice r.la r.legs.length r.lc, .slice r.pa r.pauses.length r.pc, .int .i64 r.fw, .int .i64 r.fp, .int .i64 r.wh, .int .i64 r.pl] 27)).alloc (.cells #[.int .i64 0, .int .i64 0] 31)).heap.size from by simp))
  generalize hW : ((x.w.alloc (.cells #[.int .i64 r.id, .int .i64 r.rd, .int .i64 r.s0, .int .i64 r.s1, .int .i64 r.e0, .int .i64 r.e1, .bool op, .slice r.la r.legs.length r.lc, .slice r.pa r.pauses.length r.pc, .int .i64 r.fw, .int .i64 r.fp, .int .i64 r.wh, .int .i64 r.pl] 27)).alloc (.cells #[.int .i64 0, .int .i64 0] 31)) = W at *
  clear hW
  generalize x.w.heap.size = bx at *
  have Hup := Lib.hid (Since.up hWup)
  rw [hy0]
  clear hy0
  replace H := Lib.hid (H.out.to hWup)
  clear hWup
  by_cases he : e = 0
  · subst he
    cases op with
    | false =>
      have HE := Lib.hid (show E = 0 from Hiv.out)
      have HS := Lib.hid (show S = ⟨r.s1, max r.s1 r.e0⟩ by rw [Hsw.out, HE.out, if_pos rfl])
      go_wp2_with (go_at_call 37; ((with_reducible refine (Hc.out W y0 H.out).mono ?_); rintro _ _ ⟨rfl, y1, rfl⟩))
      obtain ⟨z, hz, h0, h1⟩ := set_two y1 (hb1_0 y1) (hb1_1 y1) (Hup.out y1) (by have := Hbx.out; omega) (.int .i64 r.s1) (.int .i64 (max r.s1 r.e0))
      rw [hz]
      exact bodyPost_ret (v := .tuple #[.agg #[.int .i64 r.s1, .int .i64 (max r.s1 r.e0)], .int .i64 0]) (by simp [results, Try.results12, go_sem, h0, h1]) rfl (Hpost.out _ _ _ _ z HS.out HE.out rfl)
    | true =>
      have HE := Lib.hid (show E = 26 from Hiv.out)
      have HS := Lib.hid (show S = ⟨0, 0⟩ by rw [Hsw.out, HE.out]; rfl)
      go_wp2_with (go_at_call 37; ((with_reducible refine (Hc.out W y0 H.out).mono ?_); rintro _ _ ⟨rfl, y1, rfl⟩))
      obtain ⟨z, hz, h0, h1⟩ := set_two y1 (hb1_0 y1) (hb1_1 y1) (Hup.out y1) (by have := Hbx.out; omega) (.int .i64 0) (.int .i64 0)
      rw [hz]
      exact bodyPost_ret (v := .tuple #[.agg #[.int .i64 0, .int .i64 0], .int .i64 26]) (by simp [results, Try.results12, go_sem, h0, h1]) rfl (Hpost.out _ _ _ _ z HS.out HE.out rfl)
  · have hee : (e != 0) = true := by simpa using he
    have HE := Lib.hid (show E = e by rw [Hiv.out, if_neg he])
    have HS := Lib.hid (show S = ⟨0, 0⟩ by rw [Hsw.out, HE.out, if_neg he])
    go_wp2_with (go_at_call 37; ((with_reducible refine (Hc.out W y0 H.out).mono ?_); rintro _ _ ⟨rfl, y1, rfl⟩))
    obtain ⟨z, hz, h0, h1⟩ := set_two y1 (hb1_0 y1) (hb1_1 y1) (Hup.out y1) (by have := Hbx.out; omega) (.int .i64 0) (.int .i64 0)
    rw [hz]
    exact bodyPost_ret (v := .tuple #[.agg #[.int .i64 0, .int .i64 0], .int .i64 e]) (by simp [results, Try.results12, go_sem, h0, h1]) rfl (Hpost.out _ _ _ _ z HS.out HE.out rfl)
set_option maxRecDepth 100000 in
set_option maxHeartbeats 8000000 in
theorem possible_calls (w : World) (x : Since w) (r : Ride) (h : r.At w) :
    Calls Try.prog 14 #[.agg #[.int .i64 r.id, .int .i64 r.rd, .int .i64 r.s0, .int .i64 r.s1, .int .i64 r.e0, .int .i64 r.e1, .bool r.op, .slice r.la r.legs.length r.lc, .slice r.pa r.pauses.length r.pc, .int .i64 r.fw, .int .i64 r.fp, .int .i64 r.wh, .int .i64 r.pl]] x.w (WinRes w (possW r) (ivE r)) := by
  have H := Lib.hid h
  clear h
  have Hsw := Lib.hid (show possW r = if ivE r = 0 then ⟨r.s0, r.e1⟩ else ⟨0, 0⟩ from rfl)
  generalize possW r = S at *
  have Hc := Lib.hid (fun (w : World) (x : Since w) (h : r.At w) => sure_calls w x r h)
  generalize sureW r = T at *
  generalize ivE r = E at *
  have Hpost := Lib.hid (fun (w' : World) (f t e : Int) (y : Since w) (hS : S = ⟨f, t⟩) (hE : E = e) (hw : w' = y.w) => winRes y hS hE hw)
  generalize WinRes w S E = PO at *
  go_enter Try.func14, Try.ntmps14
  go_upto_region 1 with fail
  have hb0_0 : ∀ y : Since ((x.w.alloc (.cells #[.int .i64 r.id, .int .i64 r.rd, .int .i64 r.s0, .int .i64 r.s1, .int .i64 r.e0, .int .i64 r.e1, .bool r.op, .slice r.la r.legs.length r.lc, .slice r.pa r.pauses.length r.pc, .int .i64 r.fw, .int .i64 r.fp, .int .i64 r.wh, .int .i64 r.pl] 27)).alloc (.cells #[.int .i64 0, .int .i64 0] 31)), y.w.cell? ⟨x.w.heap.size, 0, none⟩ = some (.int .i64 r.id) := fun y => Since.cell (by simp [go_sem]) (by first | (simp; done) | (simp; omega)) y
  have hb0_1 : ∀ y : Since ((x.w.alloc (.cells #[.int .i64 r.id, .int .i64 r.rd, .int .i64 r.s0, .int .i64 r.s1, .int .i64 r.e0, .int .i64 r.e1, .bool r.op, .slice r.la r.legs.length r.lc, .slice r.pa r.pauses.length r.pc, .int .i64 r.fw, .int .i64 r.fp, .int .i64 r.wh, .int .i64 r.pl] 27)).alloc (.cells #[.int .i64 0, .int .i64 0] 31)), y.w.cell? ⟨x.w.heap.size, 1, none⟩ = some (.int .i64 r.rd) := fun y => Since.cell (by simp [go_sem]) (by first | (simp; done) | (simp; omega)) y
  have hb0_2 : ∀ y : Since ((x.w.alloc (.cells #[.int .i64 r.id, .int .i64 r.rd, .int .i64 r.s0, .int .i64 r.s1, .int .i64 r.e0, .int .i64 r.e1, .bool r.op, .slice r.la r.legs.length r.lc, .slice r.pa r.pauses.length r.pc, .int .i64 r.fw, .int .i64 r.fp, .int .i64 r.wh, .int .i64 r.pl] 27)).alloc (.cells #[.int .i64 0, .int .i64 0] 31)), y.w.cell? ⟨x.w.heap.size, 2, none⟩ = some (.int .i64 r.s0) := fun y => Since.cell (by simp [go_sem]) (by first | (simp; done) | (simp; omega)) y
  have hb0_3 : ∀ y : Since ((x.w.alloc (.cells #[.int .i64 r.id, .int .i64 r.rd, .int .i64 r.s0, .int .i64 r.s1, .int .i64 r.e0, .int .i64 r.e1, .bool r.op, .slice r.la r.legs.length r.lc, .slice r.pa r.pauses.length r.pc, .int .i64 r.fw, .int .i64 r.fp, .int .i64 r.wh, .int .i64 r.pl] 27)).alloc (.cells #[.int .i64 0, .int .i64 0] 31)), y.w.cell? ⟨x.w.heap.size, 3, none⟩ = some (.int .i64 r.s1) := fun y => Since.cell (by simp [go_sem]) (by first | (simp; done) | (simp; omega)) y
  have hb0_4 : ∀ y : Since ((x.w.alloc (.cells #[.int .i64 r.id, .int .i64 r.rd, .int .i64 r.s0, .int .i64 r.s1, .int .i64 r.e0, .int .i64 r.e1, .bool r.op, .slice r.la r.legs.length r.lc, .slice r.pa r.pauses.length r.pc, .int .i64 r.fw, .int .i64 r.fp, .int .i64 r.wh, .int .i64 r.pl] 27)).alloc (.cells #[.int .i64 0, .int .i64 0] 31)), y.w.cell? ⟨x.w.heap.size, 4, none⟩ = some (.int .i64 r.e0) := fun y => Since.cell (by simp [go_sem]) (by first | (simp; done) | (simp; omega)) y
  have hb0_5 : ∀ y : Since ((x.w.alloc (.cells #[.int .i64 r.id, .int .i64 r.rd, .int .i64 r.s0, .int .i64 r.s1, .int .i64 r.e0, .int .i64 r.e1, .bool r.op, .slice r.la r.legs.length r.lc, .slice r.pa r.pauses.length r.pc, .int .i64 r.fw, .int .i64 r.fp, .int .i64 r.wh, .int .i64 r.pl] 27)).alloc (.cells #[.int .i64 0, .int .i64 0] 31)), y.w.cell? ⟨x.w.heap.size, 5, none⟩ = some (.int .i64 r.e1) := fun y => Since.cell (by simp [go_sem]) (by first | (simp; done) | (simp; omega)) y
  have hb0_6 : ∀ y : Since ((x.w.alloc (.cells #[.int .i64 r.id, .int .i64 r.rd, .int .i64 r.s0, .int .i64 r.s1, .int .i64 r.e0, .int .i64 r.e1, .bool r.op, .slice r.la r.legs.length r.lc, .slice r.pa r.pauses.length r.pc, .int .i64 r.fw, .int .i64 r.fp, .int .i64 r.wh, .int .i64 r.pl] 27)).alloc (.cells #[.int .i64 0, .int .i64 0] 31)), y.w.cell? ⟨x.w.heap.size, 6, none⟩ = some (.bool r.op) := fun y => Since.cell (by simp [go_sem]) (by first | (simp; done) | (simp; omega)) y
  have hb0_7 : ∀ y : Since ((x.w.alloc (.cells #[.int .i64 r.id, .int .i64 r.rd, .int .i64 r.s0, .int .i64 r.s1, .int .i64 r.e0, .int .i64 r.e1, .bool r.op, .slice r.la r.legs.length r.lc, .slice r.pa r.pauses.length r.pc, .int .i64 r.fw, .int .i64 r.fp, .int .i64 r.wh, .int .i64 r.pl] 27)).alloc (.cells #[.int .i64 0, .int .i64 0] 31)), y.w.cell? ⟨x.w.heap.size, 7, none⟩ = some (.slice r.la r.legs.length r.lc) := fun y => Since.cell (by simp [go_sem]) (by first | (simp; done) | (simp; omega)) y
  have hb0_8 : ∀ y : Since ((x.w.alloc (.cells #[.int .i64 r.id, .int .i64 r.rd, .int .i64 r.s0, .int .i64 r.s1, .int .i64 r.e0, .int .i64 r.e1, .bool r.op, .slice r.la r.legs.length r.lc, .slice r.pa r.pauses.length r.pc, .int .i64 r.fw, .int .i64 r.fp, .int .i64 r.wh, .int .i64 r.pl] 27)).alloc (.cells #[.int .i64 0, .int .i64 0] 31)), y.w.cell? ⟨x.w.heap.size, 8, none⟩ = some (.slice r.pa r.pauses.length r.pc) := fun y => Since.cell (by simp [go_sem]) (by first | (simp; done) | (simp; omega)) y
  have hb0_9 : ∀ y : Since ((x.w.alloc (.cells #[.int .i64 r.id, .int .i64 r.rd, .int .i64 r.s0, .int .i64 r.s1, .int .i64 r.e0, .int .i64 r.e1, .bool r.op, .slice r.la r.legs.length r.lc, .slice r.pa r.pauses.length r.pc, .int .i64 r.fw, .int .i64 r.fp, .int .i64 r.wh, .int .i64 r.pl] 27)).alloc (.cells #[.int .i64 0, .int .i64 0] 31)), y.w.cell? ⟨x.w.heap.size, 9, none⟩ = some (.int .i64 r.fw) := fun y => Since.cell (by simp [go_sem]) (by first | (simp; done) | (simp; omega)) y
  have hb0_10 : ∀ y : Since ((x.w.alloc (.cells #[.int .i64 r.id, .int .i64 r.rd, .int .i64 r.s0, .int .i64 r.s1, .int .i64 r.e0, .int .i64 r.e1, .bool r.op, .slice r.la r.legs.length r.lc, .slice r.pa r.pauses.length r.pc, .int .i64 r.fw, .int .i64 r.fp, .int .i64 r.wh, .int .i64 r.pl] 27)).alloc (.cells #[.int .i64 0, .int .i64 0] 31)), y.w.cell? ⟨x.w.heap.size, 10, none⟩ = some (.int .i64 r.fp) := fun y => Since.cell (by simp [go_sem]) (by first | (simp; done) | (simp; omega)) y
  have hb0_11 : ∀ y : Since ((x.w.alloc (.cells #[.int .i64 r.id, .int .i64 r.rd, .int .i64 r.s0, .int .i64 r.s1, .int .i64 r.e0, .int .i64 r.e1, .bool r.op, .slice r.la r.legs.length r.lc, .slice r.pa r.pauses.length r.pc, .int .i64 r.fw, .int .i64 r.fp, .int .i64 r.wh, .int .i64 r.pl] 27)).alloc (.cells #[.int .i64 0, .int .i64 0] 31)), y.w.cell? ⟨x.w.heap.size, 11, none⟩ = some (.int .i64 r.wh) := fun y => Since.cell (by simp [go_sem]) (by first | (simp; done) | (simp; omega)) y
  have hb0_12 : ∀ y : Since ((x.w.alloc (.cells #[.int .i64 r.id, .int .i64 r.rd, .int .i64 r.s0, .int .i64 r.s1, .int .i64 r.e0, .int .i64 r.e1, .bool r.op, .slice r.la r.legs.length r.lc, .slice r.pa r.pauses.length r.pc, .int .i64 r.fw, .int .i64 r.fp, .int .i64 r.wh, .int .i64 r.pl] 27)).alloc (.cells #[.int .i64 0, .int .i64 0] 31)), y.w.cell? ⟨x.w.heap.size, 12, none⟩ = some (.int .i64 r.pl) := fun y => Since.cell (by simp [go_sem]) (by first | (simp; done) | (simp; omega)) y
  have hf0 : ∀ (y : Since ((x.w.alloc (.cells #[.int .i64 r.id, .int .i64 r.rd, .int .i64 r.s0, .int .i64 r.s1, .int .i64 r.e0, .int .i64 r.e1, .bool r.op, .slice r.la r.legs.length r.lc, .slice r.pa r.pauses.length r.pc, .int .i64 r.fw, .int .i64 r.fp, .int .i64 r.wh, .int .i64 r.pl] 27)).alloc (.cells #[.int .i64 0, .int .i64 0] 31))) (o : Nat), y.w.frozen? ⟨x.w.heap.size, o, none⟩ = false := fun y o => Since.free (by simp [go_sem]) (by first | (simp; done) | (simp; omega)) y
  have hb1_0 : ∀ y : Since ((x.w.alloc (.cells #[.int .i64 r.id, .int .i64 r.rd, .int .i64 r.s0, .int .i64 r.s1, .int .i64 r.e0, .int .i64 r.e1, .bool r.op, .slice r.la r.legs.length r.lc, .slice r.pa r.pauses.length r.pc, .int .i64 r.fw, .int .i64 r.fp, .int .i64 r.wh, .int .i64 r.pl] 27)).alloc (.cells #[.int .i64 0, .int .i64 0] 31)), y.w.cell? ⟨x.w.heap.size + 1, 0, none⟩ = some (.int .i64 0) := fun y => Since.cell (by simp [go_sem]) (by first | (simp; done) | (simp; omega)) y
  have hb1_1 : ∀ y : Since ((x.w.alloc (.cells #[.int .i64 r.id, .int .i64 r.rd, .int .i64 r.s0, .int .i64 r.s1, .int .i64 r.e0, .int .i64 r.e1, .bool r.op, .slice r.la r.legs.length r.lc, .slice r.pa r.pauses.length r.pc, .int .i64 r.fw, .int .i64 r.fp, .int .i64 r.wh, .int .i64 r.pl] 27)).alloc (.cells #[.int .i64 0, .int .i64 0] 31)), y.w.cell? ⟨x.w.heap.size + 1, 1, none⟩ = some (.int .i64 0) := fun y => Since.cell (by simp [go_sem]) (by first | (simp; done) | (simp; omega)) y
  have hf1 : ∀ (y : Since ((x.w.alloc (.cells #[.int .i64 r.id, .int .i64 r.rd, .int .i64 r.s0, .int .i64 r.s1, .int .i64 r.e0, .int .i64 r.e1, .bool r.op, .slice r.la r.legs.length r.lc, .slice r.pa r.pauses.length r.pc, .int .i64 r.fw, .int .i64 r.fp, .int .i64 r.wh, .int .i64 r.pl] 27)).alloc (.cells #[.int .i64 0, .int .i64 0] 31))) (o : Nat), y.w.frozen? ⟨x.w.heap.size + 1, o, none⟩ = false := fun y o => Since.free (by simp [go_sem]) (by first | (simp; done) | (simp; omega)) y
  have hWup : ∃ z : Since w, ((x.w.alloc (.cells #[.int .i64 r.id, .int .i64 r.rd, .int .i64 r.s0, .int .i64 r.s1, .int .i64 r.e0, .int .i64 r.e1, .bool r.op, .slice r.la r.legs.length r.lc, .slice r.pa r.pauses.length r.pc, .int .i64 r.fw, .int .i64 r.fp, .int .i64 r.wh, .int .i64 r.pl] 27)).alloc (.cells #[.int .i64 0, .int .i64 0] 31)) = z.w := Since.allocs x [.cells #[.int .i64 r.id, .int .i64 r.rd, .int .i64 r.s0, .int .i64 r.s1, .int .i64 r.e0, .int .i64 r.e1, .bool r.op, .slice r.la r.legs.length r.lc, .slice r.pa r.pauses.length r.pc, .int .i64 r.fw, .int .i64 r.fp, .int .i64 r.wh, .int .i64 r.pl] 27, .cells #[.int .i64 0, .int .i64 0] 31]
  obtain ⟨y0, hy0⟩ := Since.refl ((x.w.alloc (.cells #[.int .i64 r.id, .int .i64 r.rd, .int .i64 r.s0, .int .i64 r.s1, .int .i64 r.e0, .int .i64 r.e1, .bool r.op, .slice r.la r.legs.length r.lc, .slice r.pa r.pauses.length r.pc, .int .i64 r.fw, .int .i64 r.fp, .int .i64 r.wh, .int .i64 r.pl] 27)).alloc (.cells #[.int .i64 0, .int .i64 0] 31))
  have Hbx := Lib.hid (And.intro x.b.size (show x.w.heap.size + 2 = ((x.w.alloc (.cells #[.int .i64 r.id, .int .i64 r.rd, .int .i64 r.s0, .int .i64 r.s1, .int .i64 r.e0, .int .i64 r.e1, .bool r.op, .slice r.la r.legs.length r.lc, .slice r.pa r.pauses.length r.pc, .int .i64 r.fw, .int .i64 r.fp, .int .i64 r.wh, .int .i64 r.pl] 27)).alloc (.cells #[.int .i64 0, .int .i64 0] 31)).heap.size from by simp))
  generalize hW : ((x.w.alloc (.cells #[.int .i64 r.id, .int .i64 r.rd, .int .i64 r.s0, .int .i64 r.s1, .int .i64 r.e0, .int .i64 r.e1, .bool r.op, .slice r.la r.legs.length r.lc, .slice r.pa r.pauses.length r.pc, .int .i64 r.fw, .int .i64 r.fp, .int .i64 r.wh, .int .i64 r.pl] 27)).alloc (.cells #[.int .i64 0, .int .i64 0] 31)) = W at *
  clear hW
  generalize x.w.heap.size = bx at *
  have Hup := Lib.hid (Since.up hWup)
  rw [hy0]
  clear hy0
  replace H := Lib.hid (H.out.to hWup)
  clear hWup
  by_cases he : E = 0
  · have HS := Lib.hid (show S = ⟨r.s0, r.e1⟩ by rw [Hsw.out, if_pos he])
    subst he
    go_upto_region 2 with (go_at_call 12; ((with_reducible refine (Hc.out W y0 H.out).mono ?_); rintro _ _ ⟨rfl, y1, rfl⟩))
    have hs0 : (y1.w.alloc (.cells #[.int .i64 T.f, .int .i64 T.t] 31)).cell? ⟨y1.w.heap.size, 0, none⟩ = some (.int .i64 T.f) := by simp [go_sem]
    have hs1 : (y1.w.alloc (.cells #[.int .i64 T.f, .int .i64 T.t] 31)).cell? ⟨y1.w.heap.size, 1, none⟩ = some (.int .i64 T.t) := by simp [go_sem]
    have hsf : ∀ o, (y1.w.alloc (.cells #[.int .i64 T.f, .int .i64 T.t] 31)).frozen? ⟨y1.w.heap.size, o, none⟩ = false := fun o => by simp [go_sem]
    have hlt0 : y1.w.heap.size < (y1.w.alloc (.cells #[.int .i64 T.f, .int .i64 T.t] 31)).heap.size := by simp
    have hst0 : ∃ zz : Since y1.w, (y1.w.alloc (.cells #[.int .i64 T.f, .int .i64 T.t] 31)) = zz.w := IsSince.alloc (IsSince.self _) _
    have hsz0 := y1.b.size
    obtain ⟨y2, e2⟩ := IsSince.alloc (IsSince.of y1) (.cells #[.int .i64 T.f, .int .i64 T.t] 31)
    rw [e2] at hs0 hs1 hsf hlt0 hst0 ⊢
    skip
    clear e2 hst0
    generalize y1.w.heap.size = gs at *
    have Hhs0 : ∀ q : Since y2.w, q.w.cell? ⟨gs, 0, none⟩ = some (.int .i64 T.f) := fun q => Since.cell hs0 (by omega) q
    have Hhs1 : ∀ q : Since y2.w, q.w.cell? ⟨gs, 1, none⟩ = some (.int .i64 T.t) := fun q => Since.cell hs1 (by omega) q
    have Hhsf : ∀ (q : Since y2.w) (o : Nat), q.w.frozen? ⟨gs, o, none⟩ = false := fun q o => Since.free (hsf o) (by omega) q
    have Hhsg := Lib.hid (And.intro hsz0 hlt0)
    clear hlt0 hsz0
    go_wp2_with fail
    obtain ⟨z, hz, h0, h1⟩ := set_two y2 (hb1_0 y2) (hb1_1 y2) (Hup.out y2) (by have := Hbx.out; omega) (.int .i64 r.s0) (.int .i64 r.e1)
    rw [hz]
    exact bodyPost_ret (v := .tuple #[.agg #[.int .i64 r.s0, .int .i64 r.e1], .int .i64 0]) (by simp [results, Try.results14, go_sem, h0, h1]) rfl (Hpost.out _ _ _ _ z HS.out rfl rfl)
  · have hee : (E != 0) = true := by simpa using he
    have HS := Lib.hid (show S = ⟨0, 0⟩ by rw [Hsw.out, if_neg he])
    go_upto_region 2 with (go_at_call 12; ((with_reducible refine (Hc.out W y0 H.out).mono ?_); rintro _ _ ⟨rfl, y1, rfl⟩))
    have hs0 : (y1.w.alloc (.cells #[.int .i64 T.f, .int .i64 T.t] 31)).cell? ⟨y1.w.heap.size, 0, none⟩ = some (.int .i64 T.f) := by simp [go_sem]
    have hs1 : (y1.w.alloc (.cells #[.int .i64 T.f, .int .i64 T.t] 31)).cell? ⟨y1.w.heap.size, 1, none⟩ = some (.int .i64 T.t) := by simp [go_sem]
    have hsf : ∀ o, (y1.w.alloc (.cells #[.int .i64 T.f, .int .i64 T.t] 31)).frozen? ⟨y1.w.heap.size, o, none⟩ = false := fun o => by simp [go_sem]
    have hlt0 : y1.w.heap.size < (y1.w.alloc (.cells #[.int .i64 T.f, .int .i64 T.t] 31)).heap.size := by simp
    have hst0 : ∃ zz : Since y1.w, (y1.w.alloc (.cells #[.int .i64 T.f, .int .i64 T.t] 31)) = zz.w := IsSince.alloc (IsSince.self _) _
    have hsz0 := y1.b.size
    obtain ⟨y2, e2⟩ := IsSince.alloc (IsSince.of y1) (.cells #[.int .i64 T.f, .int .i64 T.t] 31)
    rw [e2] at hs0 hs1 hsf hlt0 hst0 ⊢
    skip
    clear e2 hst0
    generalize y1.w.heap.size = gs at *
    have Hhs0 : ∀ q : Since y2.w, q.w.cell? ⟨gs, 0, none⟩ = some (.int .i64 T.f) := fun q => Since.cell hs0 (by omega) q
    have Hhs1 : ∀ q : Since y2.w, q.w.cell? ⟨gs, 1, none⟩ = some (.int .i64 T.t) := fun q => Since.cell hs1 (by omega) q
    have Hhsf : ∀ (q : Since y2.w) (o : Nat), q.w.frozen? ⟨gs, o, none⟩ = false := fun q o => Since.free (hsf o) (by omega) q
    have Hhsg := Lib.hid (And.intro hsz0 hlt0)
    clear hlt0 hsz0
    go_wp2_with fail
    obtain ⟨z, hz, h0, h1⟩ := set_two y2 (hb1_0 y2) (hb1_1 y2) (Hup.out y2) (by have := Hbx.out; omega) (.int .i64 0) (.int .i64 0)
    rw [hz]
    exact bodyPost_ret (v := .tuple #[.agg #[.int .i64 0, .int .i64 0], .int .i64 E]) (by simp [results, Try.results14, go_sem, h0, h1]) rfl (Hpost.out _ _ _ _ z HS.out rfl rfl)
theorem rideOk_doubt {r : Ride} (h : ivE r = 0) : 0 ≤ r.s0 ∧ r.s0 ≤ r.s1 ∧ r.s1 ≤ 4294943999 ∧ 0 ≤ r.e0 ∧ r.e0 ≤ r.e1 ∧ r.e1 ≤ 4294943999 := by
  have := rideOk_of h
  exact ⟨this.s.1, this.s.2.1, this.s.2.2, this.e⟩
def NumRes (w : World) (n E : Int) (o : Ending) (w' : World) : Prop := o = .returned (.tuple #[.int .i64 n, .int .i64 E]) ∧ ∃ y : Since w, w' = y.w
theorem numRes {w w' : World} {n E m e : Int} (y : Since w) (hn : n = m) (hE : E = e) (hw : w' = y.w) : NumRes w n E (.returned (.tuple #[.int .i64 m, .int .i64 e])) w' := by
  subst hn; subst hE; exact ⟨rfl, y, hw⟩
set_option maxRecDepth 100000 in
set_option maxHeartbeats 8000000 in
theorem doubt_calls (w : World) (x : Since w) (r : Ride) (h : r.At w) :
    Calls Try.prog 23 #[.agg #[.int .i64 r.id, .int .i64 r.rd, .int .i64 r.s0, .int .i64 r.s1, .int .i64 r.e0, .int .i64 r.e1, .bool r.op, .slice r.la r.legs.length r.lc, .slice r.pa r.pauses.length r.pc, .int .i64 r.fw, .int .i64 r.fp, .int .i64 r.wh, .int .i64 r.pl]] x.w (NumRes w (doubtV r) (ivE r)) := by
  have H := Lib.hid h
  clear h
  have Hd := Lib.hid (show doubtV r = if ivE r = 0 then r.e1 - r.s0 - (max r.s1 r.e0 - r.s1) else 0 from rfl)
  have Hsw := Lib.hid (show sureW r = if ivE r = 0 then ⟨r.s1, max r.s1 r.e0⟩ else ⟨0, 0⟩ from rfl)
  have Hok := Lib.hid (fun h : ivE r = 0 => rideOk_doubt h)
  generalize doubtV r = D at *
  have Hc := Lib.hid (fun (w : World) (x : Since w) (h : r.At w) => sure_calls w x r h)
  generalize sureW r = T at *
  generalize ivE r = E at *
  have Hpost := Lib.hid (fun (w' : World) (m e : Int) (y : Since w) (hS : D = m) (hE : E = e) (hw : w' = y.w) => numRes y hS hE hw)
  generalize NumRes w D E = PO at *
  go_enter Try.func23, Try.ntmps23
  go_upto_region 1 with fail
  have hb0_0 : ∀ y : Since (x.w.alloc (.cells #[.int .i64 r.id, .int .i64 r.rd, .int .i64 r.s0, .int .i64 r.s1, .int .i64 r.e0, .int .i64 r.e1, .bool r.op, .slice r.la r.legs.length r.lc, .slice r.pa r.pauses.length r.pc, .int .i64 r.fw, .int .i64 r.fp, .int .i64 r.wh, .int .i64 r.pl] 27)), y.w.cell? ⟨x.w.heap.size, 0, none⟩ = some (.int .i64 r.id) := fun y => Since.cell (by simp [go_sem]) (by first | (simp; done) | (simp; omega)) y
  have hb0_1 : ∀ y : Since (x.w.alloc (.cells #[.int .i64 r.id, .int .i64 r.rd, .int .i64 r.s0, .int .i64 r.s1, .int .i64 r.e0, .int .i64 r.e1, .bool r.op, .slice r.la r.legs.length r.lc, .slice r.pa r.pauses.length r.pc, .int .i64 r.fw, .int .i64 r.fp, .int .i64 r.wh, .int .i64 r.pl] 27)), y.w.cell? ⟨x.w.heap.size, 1, none⟩ = some (.int .i64 r.rd) := fun y => Since.cell (by simp [go_sem]) (by first | (simp; done) | (simp; omega)) y
  have hb0_2 : ∀ y : Since (x.w.alloc (.cells #[.int .i64 r.id, .int .i64 r.rd, .int .i64 r.s0, .int .i64 r.s1, .int .i64 r.e0, .int .i64 r.e1, .bool r.op, .slice r.la r.legs.length r.lc, .slice r.pa r.pauses.length r.pc, .int .i64 r.fw, .int .i64 r.fp, .int .i64 r.wh, .int .i64 r.pl] 27)), y.w.cell? ⟨x.w.heap.size, 2, none⟩ = some (.int .i64 r.s0) := fun y => Since.cell (by simp [go_sem]) (by first | (simp; done) | (simp; omega)) y
  have hb0_3 : ∀ y : Since (x.w.alloc (.cells #[.int .i64 r.id, .int .i64 r.rd, .int .i64 r.s0, .int .i64 r.s1, .int .i64 r.e0, .int .i64 r.e1, .bool r.op, .slice r.la r.legs.length r.lc, .slice r.pa r.pauses.length r.pc, .int .i64 r.fw, .int .i64 r.fp, .int .i64 r.wh, .int .i64 r.pl] 27)), y.w.cell? ⟨x.w.heap.size, 3, none⟩ = some (.int .i64 r.s1) := fun y => Since.cell (by simp [go_sem]) (by first | (simp; done) | (simp; omega)) y
  have hb0_4 : ∀ y : Since (x.w.alloc (.cells #[.int .i64 r.id, .int .i64 r.rd, .int .i64 r.s0, .int .i64 r.s1, .int .i64 r.e0, .int .i64 r.e1, .bool r.op, .slice r.la r.legs.length r.lc, .slice r.pa r.pauses.length r.pc, .int .i64 r.fw, .int .i64 r.fp, .int .i64 r.wh, .int .i64 r.pl] 27)), y.w.cell? ⟨x.w.heap.size, 4, none⟩ = some (.int .i64 r.e0) := fun y => Since.cell (by simp [go_sem]) (by first | (simp; done) | (simp; omega)) y
  have hb0_5 : ∀ y : Since (x.w.alloc (.cells #[.int .i64 r.id, .int .i64 r.rd, .int .i64 r.s0, .int .i64 r.s1, .int .i64 r.e0, .int .i64 r.e1, .bool r.op, .slice r.la r.legs.length r.lc, .slice r.pa r.pauses.length r.pc, .int .i64 r.fw, .int .i64 r.fp, .int .i64 r.wh, .int .i64 r.pl] 27)), y.w.cell? ⟨x.w.heap.size, 5, none⟩ = some (.int .i64 r.e1) := fun y => Since.cell (by simp [go_sem]) (by first | (simp; done) | (simp; omega)) y
  have hb0_6 : ∀ y : Since (x.w.alloc (.cells #[.int .i64 r.id, .int .i64 r.rd, .int .i64 r.s0, .int .i64 r.s1, .int .i64 r.e0, .int .i64 r.e1, .bool r.op, .slice r.la r.legs.length r.lc, .slice r.pa r.pauses.length r.pc, .int .i64 r.fw, .int .i64 r.fp, .int .i64 r.wh, .int .i64 r.pl] 27)), y.w.cell? ⟨x.w.heap.size, 6, none⟩ = some (.bool r.op) := fun y => Since.cell (by simp [go_sem]) (by first | (simp; done) | (simp; omega)) y
  have hb0_7 : ∀ y : Since (x.w.alloc (.cells #[.int .i64 r.id, .int .i64 r.rd, .int .i64 r.s0, .int .i64 r.s1, .int .i64 r.e0, .int .i64 r.e1, .bool r.op, .slice r.la r.legs.length r.lc, .slice r.pa r.pauses.length r.pc, .int .i64 r.fw, .int .i64 r.fp, .int .i64 r.wh, .int .i64 r.pl] 27)), y.w.cell? ⟨x.w.heap.size, 7, none⟩ = some (.slice r.la r.legs.length r.lc) := fun y => Since.cell (by simp [go_sem]) (by first | (simp; done) | (simp; omega)) y
  have hb0_8 : ∀ y : Since (x.w.alloc (.cells #[.int .i64 r.id, .int .i64 r.rd, .int .i64 r.s0, .int .i64 r.s1, .int .i64 r.e0, .int .i64 r.e1, .bool r.op, .slice r.la r.legs.length r.lc, .slice r.pa r.pauses.length r.pc, .int .i64 r.fw, .int .i64 r.fp, .int .i64 r.wh, .int .i64 r.pl] 27)), y.w.cell? ⟨x.w.heap.size, 8, none⟩ = some (.slice r.pa r.pauses.length r.pc) := fun y => Since.cell (by simp [go_sem]) (by first | (simp; done) | (simp; omega)) y
  have hb0_9 : ∀ y : Since (x.w.alloc (.cells #[.int .i64 r.id, .int .i64 r.rd, .int .i64 r.s0, .int .i64 r.s1, .int .i64 r.e0, .int .i64 r.e1, .bool r.op, .slice r.la r.legs.length r.lc, .slice r.pa r.pauses.length r.pc, .int .i64 r.fw, .int .i64 r.fp, .int .i64 r.wh, .int .i64 r.pl] 27)), y.w.cell? ⟨x.w.heap.size, 9, none⟩ = some (.int .i64 r.fw) := fun y => Since.cell (by simp [go_sem]) (by first | (simp; done) | (simp; omega)) y
  have hb0_10 : ∀ y : Since (x.w.alloc (.cells #[.int .i64 r.id, .int .i64 r.rd, .int .i64 r.s0, .int .i64 r.s1, .int .i64 r.e0, .int .i64 r.e1, .bool r.op, .slice r.la r.legs.length r.lc, .slice r.pa r.pauses.length r.pc, .int .i64 r.fw, .int .i64 r.fp, .int .i64 r.wh, .int .i64 r.pl] 27)), y.w.cell? ⟨x.w.heap.size, 10, none⟩ = some (.int .i64 r.fp) := fun y => Since.cell (by simp [go_sem]) (by first | (simp; done) | (simp; omega)) y
  have hb0_11 : ∀ y : Since (x.w.alloc (.cells #[.int .i64 r.id, .int .i64 r.rd, .int .i64 r.s0, .int .i64 r.s1, .int .i64 r.e0, .int .i64 r.e1, .bool r.op, .slice r.la r.legs.length r.lc, .slice r.pa r.pauses.length r.pc, .int .i64 r.fw, .int .i64 r.fp, .int .i64 r.wh, .int .i64 r.pl] 27)), y.w.cell? ⟨x.w.heap.size, 11, none⟩ = some (.int .i64 r.wh) := fun y => Since.cell (by simp [go_sem]) (by first | (simp; done) | (simp; omega)) y
  have hb0_12 : ∀ y : Since (x.w.alloc (.cells #[.int .i64 r.id, .int .i64 r.rd, .int .i64 r.s0, .int .i64 r.s1, .int .i64 r.e0, .int .i64 r.e1, .bool r.op, .slice r.la r.legs.length r.lc, .slice r.pa r.pauses.length r.pc, .int .i64 r.fw, .int .i64 r.fp, .int .i64 r.wh, .int .i64 r.pl] 27)), y.w.cell? ⟨x.w.heap.size, 12, none⟩ = some (.int .i64 r.pl) := fun y => Since.cell (by simp [go_sem]) (by first | (simp; done) | (simp; omega)) y
  have hf0 : ∀ (y : Since (x.w.alloc (.cells #[.int .i64 r.id, .int .i64 r.rd, .int .i64 r.s0, .int .i64 r.s1, .int .i64 r.e0, .int .i64 r.e1, .bool r.op, .slice r.la r.legs.length r.lc, .slice r.pa r.pauses.length r.pc, .int .i64 r.fw, .int .i64 r.fp, .int .i64 r.wh, .int .i64 r.pl] 27))) (o : Nat), y.w.frozen? ⟨x.w.heap.size, o, none⟩ = false := fun y o => Since.free (by simp [go_sem]) (by first | (simp; done) | (simp; omega)) y
  have hWup : ∃ z : Since w, (x.w.alloc (.cells #[.int .i64 r.id, .int .i64 r.rd, .int .i64 r.s0, .int .i64 r.s1, .int .i64 r.e0, .int .i64 r.e1, .bool r.op, .slice r.la r.legs.length r.lc, .slice r.pa r.pauses.length r.pc, .int .i64 r.fw, .int .i64 r.fp, .int .i64 r.wh, .int .i64 r.pl] 27)) = z.w := x.alloc _
  obtain ⟨y0, hy0⟩ := Since.refl (x.w.alloc (.cells #[.int .i64 r.id, .int .i64 r.rd, .int .i64 r.s0, .int .i64 r.s1, .int .i64 r.e0, .int .i64 r.e1, .bool r.op, .slice r.la r.legs.length r.lc, .slice r.pa r.pauses.length r.pc, .int .i64 r.fw, .int .i64 r.fp, .int .i64 r.wh, .int .i64 r.pl] 27))
  have Hbx := Lib.hid (And.intro x.b.size (show x.w.heap.size + 1 = (x.w.alloc (.cells #[.int .i64 r.id, .int .i64 r.rd, .int .i64 r.s0, .int .i64 r.s1, .int .i64 r.e0, .int .i64 r.e1, .bool r.op, .slice r.la r.legs.length r.lc, .slice r.pa r.pauses.length r.pc, .int .i64 r.fw, .int .i64 r.fp, .int .i64 r.wh, .int .i64 r.pl] 27)).heap.size from by simp))
  generalize hW : (x.w.alloc (.cells #[.int .i64 r.id, .int .i64 r.rd, .int .i64 r.s0, .int .i64 r.s1, .int .i64 r.e0, .int .i64 r.e1, .bool r.op, .slice r.la r.legs.length r.lc, .slice r.pa r.pauses.length r.pc, .int .i64 r.fw, .int .i64 r.fp, .int .i64 r.wh, .int .i64 r.pl] 27)) = W at *
  clear hW
  generalize x.w.heap.size = bx at *
  have Hup := Lib.hid (Since.up hWup)
  rw [hy0]
  clear hy0
  replace H := Lib.hid (H.out.to hWup)
  clear hWup
  by_cases he : E = 0
  · have HD := Lib.hid (show D = r.e1 - r.s0 - (T.t - T.f) by rw [Hd.out, Hsw.out, if_pos he, if_pos he])
    obtain ⟨k0, k1, k2, k3, k4, k5⟩ := Hok.out he
    have hT : T.f = r.s1 ∧ T.t = max r.s1 r.e0 := by rw [Hsw.out, if_pos he]; exact ⟨rfl, rfl⟩
    have k6 : 0 ≤ T.f := by omega
    have k7 : T.f ≤ 4294943999 := by omega
    have k8 : 0 ≤ T.t := by omega
    have k9 : T.t ≤ 4294943999 := by omega
    clear hT
    subst he
    go_upto_region 2 with (go_at_call 12; ((with_reducible refine (Hc.out W y0 H.out).mono ?_); rintro _ _ ⟨rfl, y1, rfl⟩))
    have hs0 : (y1.w.alloc (.cells #[.int .i64 T.f, .int .i64 T.t] 31)).cell? ⟨y1.w.heap.size, 0, none⟩ = some (.int .i64 T.f) := by simp [go_sem]
    have hs1 : (y1.w.alloc (.cells #[.int .i64 T.f, .int .i64 T.t] 31)).cell? ⟨y1.w.heap.size, 1, none⟩ = some (.int .i64 T.t) := by simp [go_sem]
    have hsf : ∀ o, (y1.w.alloc (.cells #[.int .i64 T.f, .int .i64 T.t] 31)).frozen? ⟨y1.w.heap.size, o, none⟩ = false := fun o => by simp [go_sem]
    have hlt0 : y1.w.heap.size < (y1.w.alloc (.cells #[.int .i64 T.f, .int .i64 T.t] 31)).heap.size := by simp
    have hst0 : ∃ zz : Since y1.w, (y1.w.alloc (.cells #[.int .i64 T.f, .int .i64 T.t] 31)) = zz.w := IsSince.alloc (IsSince.self _) _
    have hsz0 := y1.b.size
    obtain ⟨y2, e2⟩ := IsSince.alloc (IsSince.of y1) (.cells #[.int .i64 T.f, .int .i64 T.t] 31)
    rw [e2] at hs0 hs1 hsf hlt0 hst0 ⊢
    skip
    clear e2 hst0
    generalize y1.w.heap.size = gs at *
    have Hhs0 : ∀ q : Since y2.w, q.w.cell? ⟨gs, 0, none⟩ = some (.int .i64 T.f) := fun q => Since.cell hs0 (by omega) q
    have Hhs1 : ∀ q : Since y2.w, q.w.cell? ⟨gs, 1, none⟩ = some (.int .i64 T.t) := fun q => Since.cell hs1 (by omega) q
    have Hhsf : ∀ (q : Since y2.w) (o : Nat), q.w.frozen? ⟨gs, o, none⟩ = false := fun q o => Since.free (hsf o) (by omega) q
    have Hhsg := Lib.hid (And.intro hsz0 hlt0)
    clear hlt0 hsz0
    go_wp2_with fail
    obtain ⟨z, hz⟩ := Hup.out y2
    exact Hpost.out _ _ _ z HD.out rfl hz
  · have hee : (E != 0) = true := by simpa using he
    have HD := Lib.hid (show D = 0 by rw [Hd.out, if_neg he])
    go_upto_region 2 with (go_at_call 12; ((with_reducible refine (Hc.out W y0 H.out).mono ?_); rintro _ _ ⟨rfl, y1, rfl⟩))
    have hs0 : (y1.w.alloc (.cells #[.int .i64 T.f, .int .i64 T.t] 31)).cell? ⟨y1.w.heap.size, 0, none⟩ = some (.int .i64 T.f) := by simp [go_sem]
    have hs1 : (y1.w.alloc (.cells #[.int .i64 T.f, .int .i64 T.t] 31)).cell? ⟨y1.w.heap.size, 1, none⟩ = some (.int .i64 T.t) := by simp [go_sem]
    have hsf : ∀ o, (y1.w.alloc (.cells #[.int .i64 T.f, .int .i64 T.t] 31)).frozen? ⟨y1.w.heap.size, o, none⟩ = false := fun o => by simp [go_sem]
    have hlt0 : y1.w.heap.size < (y1.w.alloc (.cells #[.int .i64 T.f, .int .i64 T.t] 31)).heap.size := by simp
    have hst0 : ∃ zz : Since y1.w, (y1.w.alloc (.cells #[.int .i64 T.f, .int .i64 T.t] 31)) = zz.w := IsSince.alloc (IsSince.self _) _
    have hsz0 := y1.b.size
    obtain ⟨y2, e2⟩ := IsSince.alloc (IsSince.of y1) (.cells #[.int .i64 T.f, .int .i64 T.t] 31)
    rw [e2] at hs0 hs1 hsf hlt0 hst0 ⊢
    skip
    clear e2 hst0
    generalize y1.w.heap.size = gs at *
    have Hhs0 : ∀ q : Since y2.w, q.w.cell? ⟨gs, 0, none⟩ = some (.int .i64 T.f) := fun q => Since.cell hs0 (by omega) q
    have Hhs1 : ∀ q : Since y2.w, q.w.cell? ⟨gs, 1, none⟩ = some (.int .i64 T.t) := fun q => Since.cell hs1 (by omega) q
    have Hhsf : ∀ (q : Since y2.w) (o : Nat), q.w.frozen? ⟨gs, o, none⟩ = false := fun q o => Since.free (hsf o) (by omega) q
    have Hhsg := Lib.hid (And.intro hsz0 hlt0)
    clear hlt0 hsz0
    go_wp2_with fail
    obtain ⟨z, hz⟩ := Hup.out y2
    exact Hpost.out _ _ _ z HD.out rfl hz
end Go.Proofs.Ytefodfpnedcodaa
/- The reference of the certain and the possible time, first part: Check, Sure, Possible. -/
namespace Go.Proofs.Ytefodfpnedcodaa
open Go.RowKit

set_option maxRecDepth 100000 in
set_option maxHeartbeats 8000000 in
theorem rcheck23_calls (w : World) (x : Since w) (r : Ride) (h : r.At w) :
    Calls Try.prog 25 #[.agg #[.int .i64 r.id, .int .i64 r.rd, .int .i64 r.s0, .int .i64 r.s1, .int .i64 r.e0, .int .i64 r.e1, .bool r.op, .slice r.la r.legs.length r.lc, .slice r.pa r.pauses.length r.pc, .int .i64 r.fw, .int .i64 r.fp, .int .i64 r.wh, .int .i64 r.pl]] x.w fun o w' => o = .returned (.int .i64 (ivE r)) ∧ ∃ y : Since w, w' = y.w := by
  have H := Lib.hid h
  clear h
  have Hiv := Lib.hid (show ivE r = if rideE r = 0 then (if r.op then 26 else 0) else rideE r from rfl)
  generalize ivE r = E at *
  have Hc := Lib.hid (fun (w : World) (x : Since w) (h : r.At w) => rcheck_calls w x r h)
  generalize hre : rideE r = e at *
  clear hre
  generalize r.op = op at *
  go_enter Try.func25, Try.ntmps25
  go_upto_region 1 with fail
  have hb0_0 : ∀ y : Since (x.w.alloc (.cells #[.int .i64 r.id, .int .i64 r.rd, .int .i64 r.s0, .int .i64 r.s1, .int .i64 r.e0, .int .i64 r.e1, .bool op, .slice r.la r.legs.length r.lc, .slice r.pa r.pauses.length r.pc, .int .i64 r.fw, .int .i64 r.fp, .int .i64 r.wh, .int .i64 r.pl] 27)), y.w.cell? ⟨x.w.heap.size, 0, none⟩ = some (.int .i64 r.id) := fun y => Since.cell (by simp [go_sem]) (by first | (simp; done) | (simp; omega)) y
  have hb0_1 : ∀ y : Since (x.w.alloc (.cells #[.int .i64 r.id, .int .i64 r.rd, .int .i64 r.s0, .int .i64 r.s1, .int .i64 r.e0, .int .i64 r.e1, .bool op, .slice r.la r.legs.length r.lc, .slice r.pa r.pauses.length r.pc, .int .i64 r.fw, .int .i64 r.fp, .int .i64 r.wh, .int .i64 r.pl] 27)), y.w.cell? ⟨x.w.heap.size, 1, none⟩ = some (.int .i64 r.rd) := fun y => Since.cell (by simp [go_sem]) (by first | (simp; done) | (simp; omega)) y
  have hb0_2 : ∀ y : Since (x.w.alloc (.cells #[.int .i64 r.id, .int .i64 r.rd, .int .i64 r.s0, .int .i64 r.s1, .int .i64 r.e0, .int .i64 r.e1, .bool op, .slice r.la r.legs.length r.lc, .slice r.pa r.pauses.length r.pc, .int .i64 r.fw, .int .i64 r.fp, .int .i64 r.wh, .int .i64 r.pl] 27)), y.w.cell? ⟨x.w.heap.size, 2, none⟩ = some (.int .i64 r.s0) := fun y => Since.cell (by simp [go_sem]) (by first | (simp; done) | (simp; omega)) y
  have hb0_3 : ∀ y : Since (x.w.alloc (.cells #[.int .i64 r.id, .int .i64 r.rd, .int .i64 r.s0, .int .i64 r.s1, .int .i64 r.e0, .int .i64 r.e1, .bool op, .slice r.la r.legs.length r.lc, .slice r.pa r.pauses.length r.pc, .int .i64 r.fw, .int .i64 r.fp, .int .i64 r.wh, .int .i64 r.pl] 27)), y.w.cell? ⟨x.w.heap.size, 3, none⟩ = some (.int .i64 r.s1) := fun y => Since.cell (by simp [go_sem]) (by first | (simp; done) | (simp; omega)) y
  have hb0_4 : ∀ y : Since (x.w.alloc (.cells #[.int .i64 r.id, .int .i64 r.rd, .int .i64 r.s0, .int .i64 r.s1, .int .i64 r.e0, .int .i64 r.e1, .bool op, .slice r.la r.legs.length r.lc, .slice r.pa r.pauses.length r.pc, .int .i64 r.fw, .int .i64 r.fp, .int .i64 r.wh, .int .i64 r.pl] 27)), y.w.cell? ⟨x.w.heap.size, 4, none⟩ = some (.int .i64 r.e0) := fun y => Since.cell (by simp [go_sem]) (by first | (simp; done) | (simp; omega)) y
  have hb0_5 : ∀ y : Since (x.w.alloc (.cells #[.int .i64 r.id, .int .i64 r.rd, .int .i64 r.s0, .int .i64 r.s1, .int .i64 r.e0, .int .i64 r.e1, .bool op, .slice r.la r.legs.length r.lc, .slice r.pa r.pauses.length r.pc, .int .i64 r.fw, .int .i64 r.fp, .int .i64 r.wh, .int .i64 r.pl] 27)), y.w.cell? ⟨x.w.heap.size, 5, none⟩ = some (.int .i64 r.e1) := fun y => Since.cell (by simp [go_sem]) (by first | (simp; done) | (simp; omega)) y
  have hb0_6 : ∀ y : Since (x.w.alloc (.cells #[.int .i64 r.id, .int .i64 r.rd, .int .i64 r.s0, .int .i64 r.s1, .int .i64 r.e0, .int .i64 r.e1, .bool op, .slice r.la r.legs.length r.lc, .slice r.pa r.pauses.length r.pc, .int .i64 r.fw, .int .i64 r.fp, .int .i64 r.wh, .int .i64 r.pl] 27)), y.w.cell? ⟨x.w.heap.size, 6, none⟩ = some (.bool op) := fun y => Since.cell (by simp [go_sem]) (by first | (simp; done) | (simp; omega)) y
  have hb0_7 : ∀ y : Since (x.w.alloc (.cells #[.int .i64 r.id, .int .i64 r.rd, .int .i64 r.s0, .int .i64 r.s1, .int .i64 r.e0, .int .i64 r.e1, .bool op, .slice r.la r.legs.length r.lc, .slice r.pa r.pauses.length r.pc, .int .i64 r.fw, .int .i64 r.fp, .int .i64 r.wh, .int .i64 r.pl] 27)), y.w.cell? ⟨x.w.heap.size, 7, none⟩ = some (.slice r.la r.legs.length r.lc) := fun y => Since.cell (by simp [go_sem]) (by first | (simp; done) | (simp; omega)) y
  have hb0_8 : ∀ y : Since (x.w.alloc (.cells #[.int .i64 r.id, .int .i64 r.rd, .int .i64 r.s0, .int .i64 r.s1, .int .i64 r.e0, .int .i64 r.e1, .bool op, .slice r.la r.legs.length r.lc, .slice r.pa r.pauses.length r.pc, .int .i64 r.fw, .int .i64 r.fp, .int .i64 r.wh, .int .i64 r.pl] 27)), y.w.cell? ⟨x.w.heap.size, 8, none⟩ = some (.slice r.pa r.pauses.length r.pc) := fun y => Since.cell (by simp [go_sem]) (by first | (simp; done) | (simp; omega)) y
  have hb0_9 : ∀ y : Since (x.w.alloc (.cells #[.int .i64 r.id, .int .i64 r.rd, .int .i64 r.s0, .int .i64 r.s1, .int .i64 r.e0, .int .i64 r.e1, .bool op, .slice r.la r.legs.length r.lc, .slice r.pa r.pauses.length r.pc, .int .i64 r.fw, .int .i64 r.fp, .int .i64 r.wh, .int .i64 r.pl] 27)), y.w.cell? ⟨x.w.heap.size, 9, none⟩ = some (.int .i64 r.fw) := fun y => Since.cell (by simp [go_sem]) (by first | (simp; done) | (simp; omega)) y
  have hb0_10 : ∀ y : Since (x.w.alloc (.cells #[.int .i64 r.id, .int .i64 r.rd, .int .i64 r.s0, .int .i64 r.s1, .int .i64 r.e0, .int .i64 r.e1, .bool op, .slice r.la r.legs.length r.lc, .slice r.pa r.pauses.length r.pc, .int .i64 r.fw, .int .i64 r.fp, .int .i64 r.wh, .int .i64 r.pl] 27)), y.w.cell? ⟨x.w.heap.size, 10, none⟩ = some (.int .i64 r.fp) := fun y => Since.cell (by simp [go_sem]) (by first | (simp; done) | (simp; omega)) y
  have hb0_11 : ∀ y : Since (x.w.alloc (.cells #[.int .i64 r.id, .int .i64 r.rd, .int .i64 r.s0, .int .i64 r.s1, .int .i64 r.e0, .int .i64 r.e1, .bool op, .slice r.la r.legs.length r.lc, .slice r.pa r.pauses.length r.pc, .int .i64 r.fw, .int .i64 r.fp, .int .i64 r.wh, .int .i64 r.pl] 27)), y.w.cell? ⟨x.w.heap.size, 11, none⟩ = some (.int .i64 r.wh) := fun y => Since.cell (by simp [go_sem]) (by first | (simp; done) | (simp; omega)) y
  have hb0_12 : ∀ y : Since (x.w.alloc (.cells #[.int .i64 r.id, .int .i64 r.rd, .int .i64 r.s0, .int .i64 r.s1, .int .i64 r.e0, .int .i64 r.e1, .bool op, .slice r.la r.legs.length r.lc, .slice r.pa r.pauses.length r.pc, .int .i64 r.fw, .int .i64 r.fp, .int .i64 r.wh, .int .i64 r.pl] 27)), y.w.cell? ⟨x.w.heap.size, 12, none⟩ = some (.int .i64 r.pl) := fun y => Since.cell (by simp [go_sem]) (by first | (simp; done) | (simp; omega)) y
  have hf0 : ∀ (y : Since (x.w.alloc (.cells #[.int .i64 r.id, .int .i64 r.rd, .int .i64 r.s0, .int .i64 r.s1, .int .i64 r.e0, .int .i64 r.e1, .bool op, .slice r.la r.legs.length r.lc, .slice r.pa r.pauses.length r.pc, .int .i64 r.fw, .int .i64 r.fp, .int .i64 r.wh, .int .i64 r.pl] 27))) (o : Nat), y.w.frozen? ⟨x.w.heap.size, o, none⟩ = false := fun y o => Since.free (by simp [go_sem]) (by first | (simp; done) | (simp; omega)) y
  have hWup : ∃ z : Since w, (x.w.alloc (.cells #[.int .i64 r.id, .int .i64 r.rd, .int .i64 r.s0, .int .i64 r.s1, .int .i64 r.e0, .int .i64 r.e1, .bool op, .slice r.la r.legs.length r.lc, .slice r.pa r.pauses.length r.pc, .int .i64 r.fw, .int .i64 r.fp, .int .i64 r.wh, .int .i64 r.pl] 27)) = z.w := x.alloc _
  obtain ⟨y0, hy0⟩ := Since.refl (x.w.alloc (.cells #[.int .i64 r.id, .int .i64 r.rd, .int .i64 r.s0, .int .i64 r.s1, .int .i64 r.e0, .int .i64 r.e1, .bool op, .slice r.la r.legs.length r.lc, .slice r.pa r.pauses.length r.pc, .int .i64 r.fw, .int .i64 r.fp, .int .i64 r.wh, .int .i64 r.pl] 27))
  have Hbx := Lib.hid (And.intro x.b.size (show x.w.heap.size + 1 = (x.w.alloc (.cells #[.int .i64 r.id, .int .i64 r.rd, .int .i64 r.s0, .int .i64 r.s1, .int .i64 r.e0, .int .i64 r.e1, .bool op, .slice r.la r.legs.length r.lc, .slice r.pa r.pauses.length r.pc, .int .i64 r.fw, .int .i64 r.fp, .int .i64 r.wh, .int .i64 r.pl] 27)).heap.size from by simp))
  generalize hW : (x.w.alloc (.cells #[.int .i64 r.id, .int .i64 r.rd, .int .i64 r.s0, .int .i64 r.s1, .int .i64 r.e0, .int .i64 r.e1, .bool op, .slice r.la r.legs.length r.lc, .slice r.pa r.pauses.length r.pc, .int .i64 r.fw, .int .i64 r.fp, .int .i64 r.wh, .int .i64 r.pl] 27)) = W at *
  clear hW
  generalize x.w.heap.size = bx at *
  have Hup := Lib.hid (Since.up hWup)
  rw [hy0]
  clear hy0
  replace H := Lib.hid (H.out.to hWup)
  clear hWup
  by_cases he : e = 0
  · subst he
    cases op with
    | false =>
      have HE := Lib.hid (show E = 0 from Hiv.out)
      go_wp2_with (go_at_call 35; ((with_reducible refine (Hc.out W y0 H.out).mono ?_); rintro _ _ ⟨rfl, y1, rfl⟩))
      go_ret
      exact ⟨ret_int HE.out.symm, Hup.out _⟩
    | true =>
      have HE := Lib.hid (show E = 26 from Hiv.out)
      go_wp2_with (go_at_call 35; ((with_reducible refine (Hc.out W y0 H.out).mono ?_); rintro _ _ ⟨rfl, y1, rfl⟩))
      go_ret
      exact ⟨ret_int HE.out.symm, Hup.out _⟩
  · have hee : (e != 0) = true := by simpa using he
    have HE := Lib.hid (show E = e by rw [Hiv.out, if_neg he])
    go_wp2_with (go_at_call 35; ((with_reducible refine (Hc.out W y0 H.out).mono ?_); rintro _ _ ⟨rfl, y1, rfl⟩))
    go_ret
    exact ⟨ret_int HE.out.symm, Hup.out _⟩
set_option maxRecDepth 100000 in
set_option maxHeartbeats 8000000 in
theorem rsure_calls (w : World) (x : Since w) (r : Ride) (h : r.At w) :
    Calls Try.prog 13 #[.agg #[.int .i64 r.id, .int .i64 r.rd, .int .i64 r.s0, .int .i64 r.s1, .int .i64 r.e0, .int .i64 r.e1, .bool r.op, .slice r.la r.legs.length r.lc, .slice r.pa r.pauses.length r.pc, .int .i64 r.fw, .int .i64 r.fp, .int .i64 r.wh, .int .i64 r.pl]] x.w (WinRes w (sureW r) (ivE r)) := by
  have H := Lib.hid h
  clear h
  have Hsw := Lib.hid (show sureW r = if ivE r = 0 then ⟨r.s1, max r.s1 r.e0⟩ else ⟨0, 0⟩ from rfl)
  generalize sureW r = S at *
  have Hc := Lib.hid (fun (w : World) (x : Since w) (h : r.At w) => rcheck23_calls w x r h)
  generalize ivE r = E at *
  have Hpost := Lib.hid (fun (w' : World) (f t e : Int) (y : Since w) (hS : S = ⟨f, t⟩) (hE : E = e) (hw : w' = y.w) => winRes y hS hE hw)
  generalize WinRes w S E = PO at *
  go_enter Try.func13, Try.ntmps13
  go_upto_region 1 with fail
  have hb0_0 : ∀ y : Since ((x.w.alloc (.cells #[.int .i64 r.id, .int .i64 r.rd, .int .i64 r.s0, .int .i64 r.s1, .int .i64 r.e0, .int .i64 r.e1, .bool r.op, .slice r.la r.legs.length r.lc, .slice r.pa r.pauses.length r.pc, .int .i64 r.fw, .int .i64 r.fp, .int .i64 r.wh, .int .i64 r.pl] 27)).alloc (.cells #[.int .i64 0, .int .i64 0] 31)), y.w.cell? ⟨x.w.heap.size, 0, none⟩ = some (.int .i64 r.id) := fun y => Since.cell (by simp [go_sem]) (by first | (simp; done) | (simp; omega)) y
  have hb0_1 : ∀ y : Since ((x.w.alloc (.cells #[.int .i64 r.id, .int .i64 r.rd, .int .i64 r.s0, .int .i64 r.s1, .int .i64 r.e0, .int .i64 r.e1, .bool r.op, .slice r.la r.legs.length r.lc, .slice r.pa r.pauses.length r.pc, .int .i64 r.fw, .int .i64 r.fp, .int .i64 r.wh, .int .i64 r.pl] 27)).alloc (.cells #[.int .i64 0, .int .i64 0] 31)), y.w.cell? ⟨x.w.heap.size, 1, none⟩ = some (.int .i64 r.rd) := fun y => Since.cell (by simp [go_sem]) (by first | (simp; done) | (simp; omega)) y
  have hb0_2 : ∀ y : Since ((x.w.alloc (.cells #[.int .i64 r.id, .int .i64 r.rd, .int .i64 r.s0, .int .i64 r.s1, .int .i64 r.e0, .int .i64 r.e1, .bool r.op, .slice r.la r.legs.length r.lc, .slice r.pa r.pauses.length r.pc, .int .i64 r.fw, .int .i64 r.fp, .int .i64 r.wh, .int .i64 r.pl] 27)).alloc (.cells #[.int .i64 0, .int .i64 0] 31)), y.w.cell? ⟨x.w.heap.size, 2, none⟩ = some (.int .i64 r.s0) := fun y => Since.cell (by simp [go_sem]) (by first | (simp; done) | (simp; omega)) y
  have hb0_3 : ∀ y : Since ((x.w.alloc (.cells #[.int .i64 r.id, .int .i64 r.rd, .int .i64 r.s0, .int .i64 r.s1, .int .i64 r.e0, .int .i64 r.e1, .bool r.op, .slice r.la r.legs.length r.lc, .slice r.pa r.pauses.length r.pc, .int .i64 r.fw, .int .i64 r.fp, .int .i64 r.wh, .int .i64 r.pl] 27)).alloc (.cells #[.int .i64 0, .int .i64 0] 31)), y.w.cell? ⟨x.w.heap.size, 3, none⟩ = some (.int .i64 r.s1) := fun y => Since.cell (by simp [go_sem]) (by first | (simp; done) | (simp; omega)) y
  have hb0_4 : ∀ y : Since ((x.w.alloc (.cells #[.int .i64 r.id, .int .i64 r.rd, .int .i64 r.s0, .int .i64 r.s1, .int .i64 r.e0, .int .i64 r.e1, .bool r.op, .slice r.la r.legs.length r.lc, .slice r.pa r.pauses.length r.pc, .int .i64 r.fw, .int .i64 r.fp, .int .i64 r.wh, .int .i64 r.pl] 27)).alloc (.cells #[.int .i64 0, .int .i64 0] 31)), y.w.cell? ⟨x.w.heap.size, 4, none⟩ = some (.int .i64 r.e0) := fun y => Since.cell (by simp [go_sem]) (by first | (simp; done) | (simp; omega)) y
  have hb0_5 : ∀ y : Since ((x.w.alloc (.cells #[.int .i64 r.id, .int .i64 r.rd, .int .i64 r.s0, .int .i64 r.s1, .int .i64 r.e0, .int .i64 r.e1, .bool r.op, .slice r.la r.legs.length r.lc, .slice r.pa r.pauses.length r.pc, .int .i64 r.fw, .int .i64 r.fp, .int .i64 r.wh, .int .i64 r.pl] 27)).alloc (.cells #[.int .i64 0, .int .i64 0] 31)), y.w.cell? ⟨x.w.heap.size, 5, none⟩ = some (.int .i64 r.e1) := fun y => Since.cell (by simp [go_sem]) (by first | (simp; done) | (simp; omega)) y
  have hb0_6 : ∀ y : Since ((x.w.alloc (.cells #[.int .i64 r.id, .int .i64 r.rd, .int .i64 r.s0, .int .i64 r.s1, .int .i64 r.e0, .int .i64 r.e1, .bool r.op, .slice r.la r.legs.length r.lc, .slice r.pa r.pauses.length r.pc, .int .i64 r.fw, .int .i64 r.fp, .int .i64 r.wh, .int .i64 r.pl] 27)).alloc (.cells #[.int .i64 0, .int .i64 0] 31)), y.w.cell? ⟨x.w.heap.size, 6, none⟩ = some (.bool r.op) := fun y => Since.cell (by simp [go_sem]) (by first | (simp; done) | (simp; omega)) y
  have hb0_7 : ∀ y : Since ((x.w.alloc (.cells #[.int .i64 r.id, .int .i64 r.rd, .int .i64 r.s0, .int .i64 r.s1, .int .i64 r.e0, .int .i64 r.e1, .bool r.op, .slice r.la r.legs.length r.lc, .slice r.pa r.pauses.length r.pc, .int .i64 r.fw, .int .i64 r.fp, .int .i64 r.wh, .int .i64 r.pl] 27)).alloc (.cells #[.int .i64 0, .int .i64 0] 31)), y.w.cell? ⟨x.w.heap.size, 7, none⟩ = some (.slice r.la r.legs.length r.lc) := fun y => Since.cell (by simp [go_sem]) (by first | (simp; done) | (simp; omega)) y
  have hb0_8 : ∀ y : Since ((x.w.alloc (.cells #[.int .i64 r.id, .int .i64 r.rd, .int .i64 r.s0, .int .i64 r.s1, .int .i64 r.e0, .int .i64 r.e1, .bool r.op, .slice r.la r.legs.length r.lc, .slice r.pa r.pauses.length r.pc, .int .i64 r.fw, .int .i64 r.fp, .int .i64 r.wh, .int .i64 r.pl] 27)).alloc (.cells #[.int .i64 0, .int .i64 0] 31)), y.w.cell? ⟨x.w.heap.size, 8, none⟩ = some (.slice r.pa r.pauses.length r.pc) := fun y => Since.cell (by simp [go_sem]) (by first | (simp; done) | (simp; omega)) y
  have hb0_9 : ∀ y : Since ((x.w.alloc (.cells #[.int .i64 r.id, .int .i64 r.rd, .int .i64 r.s0, .int .i64 r.s1, .int .i64 r.e0, .int .i64 r.e1, .bool r.op, .slice r.la r.legs.length r.lc, .slice r.pa r.pauses.length r.pc, .int .i64 r.fw, .int .i64 r.fp, .int .i64 r.wh, .int .i64 r.pl] 27)).alloc (.cells #[.int .i64 0, .int .i64 0] 31)), y.w.cell? ⟨x.w.heap.size, 9, none⟩ = some (.int .i64 r.fw) := fun y => Since.cell (by simp [go_sem]) (by first | (simp; done) | (simp; omega)) y
  have hb0_10 : ∀ y : Since ((x.w.alloc (.cells #[.int .i64 r.id, .int .i64 r.rd, .int .i64 r.s0, .int .i64 r.s1, .int .i64 r.e0, .int .i64 r.e1, .bool r.op, .slice r.la r.legs.length r.lc, .slice r.pa r.pauses.length r.pc, .int .i64 r.fw, .int .i64 r.fp, .int .i64 r.wh, .int .i64 r.pl] 27)).alloc (.cells #[.int .i64 0, .int .i64 0] 31)), y.w.cell? ⟨x.w.heap.size, 10, none⟩ = some (.int .i64 r.fp) := fun y => Since.cell (by simp [go_sem]) (by first | (simp; done) | (simp; omega)) y
  have hb0_11 : ∀ y : Since ((x.w.alloc (.cells #[.int .i64 r.id, .int .i64 r.rd, .int .i64 r.s0, .int .i64 r.s1, .int .i64 r.e0, .int .i64 r.e1, .bool r.op, .slice r.la r.legs.length r.lc, .slice r.pa r.pauses.length r.pc, .int .i64 r.fw, .int .i64 r.fp, .int .i64 r.wh, .int .i64 r.pl] 27)).alloc (.cells #[.int .i64 0, .int .i64 0] 31)), y.w.cell? ⟨x.w.heap.size, 11, none⟩ = some (.int .i64 r.wh) := fun y => Since.cell (by simp [go_sem]) (by first | (simp; done) | (simp; omega)) y
  have hb0_12 : ∀ y : Since ((x.w.alloc (.cells #[.int .i64 r.id, .int .i64 r.rd, .int .i64 r.s0, .int .i64 r.s1, .int .i64 r.e0, .int .i64 r.e1, .bool r.op, .slice r.la r.legs.length r.lc, .slice r.pa r.pauses.length r.pc, .int .i64 r.fw, .int .i64 r.fp, .int .i64 r.wh, .int .i64 r.pl] 27)).alloc (.cells #[.int .i64 0, .int .i64 0] 31)), y.w.cell? ⟨x.w.heap.size, 12, none⟩ = some (.int .i64 r.pl) := fun y => Since.cell (by simp [go_sem]) (by first | (simp; done) | (simp; omega)) y
  have hf0 : ∀ (y : Since ((x.w.alloc (.cells #[.int .i64 r.id, .int .i64 r.rd, .int .i64 r.s0, .int .i64 r.s1, .int .i64 r.e0, .int .i64 r.e1, .bool r.op, .slice r.la r.legs.length r.lc, .slice r.pa r.pauses.length r.pc, .int .i64 r.fw, .int .i64 r.fp, .int .i64 r.wh, .int .i64 r.pl] 27)).alloc (.cells #[.int .i64 0, .int .i64 0] 31))) (o : Nat), y.w.frozen? ⟨x.w.heap.size, o, none⟩ = false := fun y o => Since.free (by simp [go_sem]) (by first | (simp; done) | (simp; omega)) y
  have hb1_0 : ∀ y : Since ((x.w.alloc (.cells #[.int .i64 r.id, .int .i64 r.rd, .int .i64 r.s0, .int .i64 r.s1, .int .i64 r.e0, .int .i64 r.e1, .bool r.op, .slice r.la r.legs.length r.lc, .slice r.pa r.pauses.length r.pc, .int .i64 r.fw, .int .i64 r.fp, .int .i64 r.wh, .int .i64 r.pl] 27)).alloc (.cells #[.int .i64 0, .int .i64 0] 31)), y.w.cell? ⟨x.w.heap.size + 1, 0, none⟩ = some (.int .i64 0) := fun y => Since.cell (by simp [go_sem]) (by first | (simp; done) | (simp; omega)) y
  have hb1_1 : ∀ y : Since ((x.w.alloc (.cells #[.int .i64 r.id, .int .i64 r.rd, .int .i64 r.s0, .int .i64 r.s1, .int .i64 r.e0, .int .i64 r.e1, .bool r.op, .slice r.la r.legs.length r.lc, .slice r.pa r.pauses.length r.pc, .int .i64 r.fw, .int .i64 r.fp, .int .i64 r.wh, .int .i64 r.pl] 27)).alloc (.cells #[.int .i64 0, .int .i64 0] 31)), y.w.cell? ⟨x.w.heap.size + 1, 1, none⟩ = some (.int .i64 0) := fun y => Since.cell (by simp [go_sem]) (by first | (simp; done) | (simp; omega)) y
  have hf1 : ∀ (y : Since ((x.w.alloc (.cells #[.int .i64 r.id, .int .i64 r.rd, .int .i64 r.s0, .int .i64 r.s1, .int .i64 r.e0, .int .i64 r.e1, .bool r.op, .slice r.la r.legs.length r.lc, .slice r.pa r.pauses.length r.pc, .int .i64 r.fw, .int .i64 r.fp, .int .i64 r.wh, .int .i64 r.pl] 27)).alloc (.cells #[.int .i64 0, .int .i64 0] 31))) (o : Nat), y.w.frozen? ⟨x.w.heap.size + 1, o, none⟩ = false := fun y o => Since.free (by simp [go_sem]) (by first | (simp; done) | (simp; omega)) y
  have hWup : ∃ z : Since w, ((x.w.alloc (.cells #[.int .i64 r.id, .int .i64 r.rd, .int .i64 r.s0, .int .i64 r.s1, .int .i64 r.e0, .int .i64 r.e1, .bool r.op, .slice r.la r.legs.length r.lc, .slice r.pa r.pauses.length r.pc, .int .i64 r.fw, .int .i64 r.fp, .int .i64 r.wh, .int .i64 r.pl] 27)).alloc (.cells #[.int .i64 0, .int .i64 0] 31)) = z.w := Since.allocs x [.cells #[.int .i64 r.id, .int .i64 r.rd, .int .i64 r.s0, .int .i64 r.s1, .int .i64 r.e0, .int .i64 r.e1, .bool r.op, .slice r.la r.legs.length r.lc, .slice r.pa r.pauses.length r.pc, .int .i64 r.fw, .int .i64 r.fp, .int .i64 r.wh, .int .i64 r.pl] 27, .cells #[.int .i64 0, .int .i64 0] 31]
  obtain ⟨y0, hy0⟩ := Since.refl ((x.w.alloc (.cells #[.int .i64 r.id, .int .i64 r.rd, .int .i64 r.s0, .int .i64 r.s1, .int .i64 r.e0, .int .i64 r.e1, .bool r.op, .slice r.la r.legs.length r.lc, .slice r.pa r.pauses.length r.pc, .int .i64 r.fw, .int .i64 r.fp, .int .i64 r.wh, .int .i64 r.pl] 27)).alloc (.cells #[.int .i64 0, .int .i64 0] 31))
  have Hbx := Lib.hid (And.intro x.b.size (show x.w.heap.size + 2 = ((x.w.alloc (.cells #[.int .i64 r.id, .int .i64 r.rd, .int .i64 r.s0, .int .i64 r.s1, .int .i64 r.e0, .int .i64 r.e1, .bool r.op, .slice r.la r.legs.length r.lc, .slice r.pa r.pauses.length r.pc, .int .i64 r.fw, .int .i64 r.fp, .int .i64 r.wh, .int .i64 r.pl] 27)).alloc (.cells #[.int .i64 0, .int .i64 0] 31)).heap.size from by simp))
  generalize hW : ((x.w.alloc (.cells #[.int .i64 r.id, .int .i64 r.rd, .int .i64 r.s0, .int .i64 r.s1, .int .i64 r.e0, .int .i64 r.e1, .bool r.op, .slice r.la r.legs.length r.lc, .slice r.pa r.pauses.length r.pc, .int .i64 r.fw, .int .i64 r.fp, .int .i64 r.wh, .int .i64 r.pl] 27)).alloc (.cells #[.int .i64 0, .int .i64 0] 31)) = W at *
  clear hW
  generalize x.w.heap.size = bx at *
  have Hup := Lib.hid (Since.up hWup)
  rw [hy0]
  clear hy0
  replace H := Lib.hid (H.out.to hWup)
  clear hWup
  by_cases he : E = 0
  · have HS := Lib.hid (show S = ⟨r.s1, max r.s1 r.e0⟩ by rw [Hsw.out, if_pos he])
    subst he
    go_wp2_with (go_at_call 25; ((with_reducible refine (Hc.out W y0 H.out).mono ?_); rintro _ _ ⟨rfl, y1, rfl⟩))
    obtain ⟨z, hz, h0, h1⟩ := set_two y1 (hb1_0 y1) (hb1_1 y1) (Hup.out y1) (by have := Hbx.out; omega) (.int .i64 r.s1) (.int .i64 (max r.s1 r.e0))
    rw [hz]
    exact bodyPost_ret (v := .tuple #[.agg #[.int .i64 r.s1, .int .i64 (max r.s1 r.e0)], .int .i64 0]) (by simp [results, Try.results13, go_sem, h0, h1]) rfl (Hpost.out _ _ _ _ z HS.out rfl rfl)
  · have hee : (E != 0) = true := by simpa using he
    have HS := Lib.hid (show S = ⟨0, 0⟩ by rw [Hsw.out, if_neg he])
    go_wp2_with (go_at_call 25; ((with_reducible refine (Hc.out W y0 H.out).mono ?_); rintro _ _ ⟨rfl, y1, rfl⟩))
    obtain ⟨z, hz, h0, h1⟩ := set_two y1 (hb1_0 y1) (hb1_1 y1) (Hup.out y1) (by have := Hbx.out; omega) (.int .i64 0) (.int .i64 0)
    rw [hz]
    exact bodyPost_ret (v := .tuple #[.agg #[.int .i64 0, .int .i64 0], .int .i64 E]) (by simp [results, Try.results13, go_sem, h0, h1]) rfl (Hpost.out _ _ _ _ z HS.out rfl rfl)
set_option maxRecDepth 100000 in
set_option maxHeartbeats 8000000 in
theorem rpossible_calls (w : World) (x : Since w) (r : Ride) (h : r.At w) :
    Calls Try.prog 15 #[.agg #[.int .i64 r.id, .int .i64 r.rd, .int .i64 r.s0, .int .i64 r.s1, .int .i64 r.e0, .int .i64 r.e1, .bool r.op, .slice r.la r.legs.length r.lc, .slice r.pa r.pauses.length r.pc, .int .i64 r.fw, .int .i64 r.fp, .int .i64 r.wh, .int .i64 r.pl]] x.w (WinRes w (possW r) (ivE r)) := by
  have H := Lib.hid h
  clear h
  have Hsw := Lib.hid (show possW r = if ivE r = 0 then ⟨r.s0, r.e1⟩ else ⟨0, 0⟩ from rfl)
  generalize possW r = S at *
  have Hc := Lib.hid (fun (w : World) (x : Since w) (h : r.At w) => rcheck23_calls w x r h)
  generalize ivE r = E at *
  have Hpost := Lib.hid (fun (w' : World) (f t e : Int) (y : Since w) (hS : S = ⟨f, t⟩) (hE : E = e) (hw : w' = y.w) => winRes y hS hE hw)
  generalize WinRes w S E = PO at *
  go_enter Try.func15, Try.ntmps15
  go_upto_region 1 with fail
  have hb0_0 : ∀ y : Since ((x.w.alloc (.cells #[.int .i64 r.id, .int .i64 r.rd, .int .i64 r.s0, .int .i64 r.s1, .int .i64 r.e0, .int .i64 r.e1, .bool r.op, .slice r.la r.legs.length r.lc, .slice r.pa r.pauses.length r.pc, .int .i64 r.fw, .int .i64 r.fp, .int .i64 r.wh, .int .i64 r.pl] 27)).alloc (.cells #[.int .i64 0, .int .i64 0] 31)), y.w.cell? ⟨x.w.heap.size, 0, none⟩ = some (.int .i64 r.id) := fun y => Since.cell (by simp [go_sem]) (by first | (simp; done) | (simp; omega)) y
  have hb0_1 : ∀ y : Since ((x.w.alloc (.cells #[.int .i64 r.id, .int .i64 r.rd, .int .i64 r.s0, .int .i64 r.s1, .int .i64 r.e0, .int .i64 r.e1, .bool r.op, .slice r.la r.legs.length r.lc, .slice r.pa r.pauses.length r.pc, .int .i64 r.fw, .int .i64 r.fp, .int .i64 r.wh, .int .i64 r.pl] 27)).alloc (.cells #[.int .i64 0, .int .i64 0] 31)), y.w.cell? ⟨x.w.heap.size, 1, none⟩ = some (.int .i64 r.rd) := fun y => Since.cell (by simp [go_sem]) (by first | (simp; done) | (simp; omega)) y
  have hb0_2 : ∀ y : Since ((x.w.alloc (.cells #[.int .i64 r.id, .int .i64 r.rd, .int .i64 r.s0, .int .i64 r.s1, .int .i64 r.e0, .int .i64 r.e1, .bool r.op, .slice r.la r.legs.length r.lc, .slice r.pa r.pauses.length r.pc, .int .i64 r.fw, .int .i64 r.fp, .int .i64 r.wh, .int .i64 r.pl] 27)).alloc (.cells #[.int .i64 0, .int .i64 0] 31)), y.w.cell? ⟨x.w.heap.size, 2, none⟩ = some (.int .i64 r.s0) := fun y => Since.cell (by simp [go_sem]) (by first | (simp; done) | (simp; omega)) y
  have hb0_3 : ∀ y : Since ((x.w.alloc (.cells #[.int .i64 r.id, .int .i64 r.rd, .int .i64 r.s0, .int .i64 r.s1, .int .i64 r.e0, .int .i64 r.e1, .bool r.op, .slice r.la r.legs.length r.lc, .slice r.pa r.pauses.length r.pc, .int .i64 r.fw, .int .i64 r.fp, .int .i64 r.wh, .int .i64 r.pl] 27)).alloc (.cells #[.int .i64 0, .int .i64 0] 31)), y.w.cell? ⟨x.w.heap.size, 3, none⟩ = some (.int .i64 r.s1) := fun y => Since.cell (by simp [go_sem]) (by first | (simp; done) | (simp; omega)) y
  have hb0_4 : ∀ y : Since ((x.w.alloc (.cells #[.int .i64 r.id, .int .i64 r.rd, .int .i64 r.s0, .int .i64 r.s1, .int .i64 r.e0, .int .i64 r.e1, .bool r.op, .slice r.la r.legs.length r.lc, .slice r.pa r.pauses.length r.pc, .int .i64 r.fw, .int .i64 r.fp, .int .i64 r.wh, .int .i64 r.pl] 27)).alloc (.cells #[.int .i64 0, .int .i64 0] 31)), y.w.cell? ⟨x.w.heap.size, 4, none⟩ = some (.int .i64 r.e0) := fun y => Since.cell (by simp [go_sem]) (by first | (simp; done) | (simp; omega)) y
  have hb0_5 : ∀ y : Since ((x.w.alloc (.cells #[.int .i64 r.id, .int .i64 r.rd, .int .i64 r.s0, .int .i64 r.s1, .int .i64 r.e0, .int .i64 r.e1, .bool r.op, .slice r.la r.legs.length r.lc, .slice r.pa r.pauses.length r.pc, .int .i64 r.fw, .int .i64 r.fp, .int .i64 r.wh, .int .i64 r.pl] 27)).alloc (.cells #[.int .i64 0, .int .i64 0] 31)), y.w.cell? ⟨x.w.heap.size, 5, none⟩ = some (.int .i64 r.e1) := fun y => Since.cell (by simp [go_sem]) (by first | (simp; done) | (simp; omega)) y
  have hb0_6 : ∀ y : Since ((x.w.alloc (.cells #[.int .i64 r.id, .int .i64 r.rd, .int .i64 r.s0, .int .i64 r.s1, .int .i64 r.e0, .int .i64 r.e1, .bool r.op, .slice r.la r.legs.length r.lc, .slice r.pa r.pauses.length r.pc, .int .i64 r.fw, .int .i64 r.fp, .int .i64 r.wh, .int .i64 r.pl] 27)).alloc (.cells #[.int .i64 0, .int .i64 0] 31)), y.w.cell? ⟨x.w.heap.size, 6, none⟩ = some (.bool r.op) := fun y => Since.cell (by simp [go_sem]) (by first | (simp; done) | (simp; omega)) y
  have hb0_7 : ∀ y : Since ((x.w.alloc (.cells #[.int .i64 r.id, .int .i64 r.rd, .int .i64 r.s0, .int .i64 r.s1, .int .i64 r.e0, .int .i64 r.e1, .bool r.op, .slice r.la r.legs.length r.lc, .slice r.pa r.pauses.length r.pc, .int .i64 r.fw, .int .i64 r.fp, .int .i64 r.wh, .int .i64 r.pl] 27)).alloc (.cells #[.int .i64 0, .int .i64 0] 31)), y.w.cell? ⟨x.w.heap.size, 7, none⟩ = some (.slice r.la r.legs.length r.lc) := fun y => Since.cell (by simp [go_sem]) (by first | (simp; done) | (simp; omega)) y
  have hb0_8 : ∀ y : Since ((x.w.alloc (.cells #[.int .i64 r.id, .int .i64 r.rd, .int .i64 r.s0, .int .i64 r.s1, .int .i64 r.e0, .int .i64 r.e1, .bool r.op, .slice r.la r.legs.length r.lc, .slice r.pa r.pauses.length r.pc, .int .i64 r.fw, .int .i64 r.fp, .int .i64 r.wh, .int .i64 r.pl] 27)).alloc (.cells #[.int .i64 0, .int .i64 0] 31)), y.w.cell? ⟨x.w.heap.size, 8, none⟩ = some (.slice r.pa r.pauses.length r.pc) := fun y => Since.cell (by simp [go_sem]) (by first | (simp; done) | (simp; omega)) y
  have hb0_9 : ∀ y : Since ((x.w.alloc (.cells #[.int .i64 r.id, .int .i64 r.rd, .int .i64 r.s0, .int .i64 r.s1, .int .i64 r.e0, .int .i64 r.e1, .bool r.op, .slice r.la r.legs.length r.lc, .slice r.pa r.pauses.length r.pc, .int .i64 r.fw, .int .i64 r.fp, .int .i64 r.wh, .int .i64 r.pl] 27)).alloc (.cells #[.int .i64 0, .int .i64 0] 31)), y.w.cell? ⟨x.w.heap.size, 9, none⟩ = some (.int .i64 r.fw) := fun y => Since.cell (by simp [go_sem]) (by first | (simp; done) | (simp; omega)) y
  have hb0_10 : ∀ y : Since ((x.w.alloc (.cells #[.int .i64 r.id, .int .i64 r.rd, .int .i64 r.s0, .int .i64 r.s1, .int .i64 r.e0, .int .i64 r.e1, .bool r.op, .slice r.la r.legs.length r.lc, .slice r.pa r.pauses.length r.pc, .int .i64 r.fw, .int .i64 r.fp, .int .i64 r.wh, .int .i64 r.pl] 27)).alloc (.cells #[.int .i64 0, .int .i64 0] 31)), y.w.cell? ⟨x.w.heap.size, 10, none⟩ = some (.int .i64 r.fp) := fun y => Since.cell (by simp [go_sem]) (by first | (simp; done) | (simp; omega)) y
  have hb0_11 : ∀ y : Since ((x.w.alloc (.cells #[.int .i64 r.id, .int .i64 r.rd, .int .i64 r.s0, .int .i64 r.s1, .int .i64 r.e0, .int .i64 r.e1, .bool r.op, .slice r.la r.legs.length r.lc, .slice r.pa r.pauses.length r.pc, .int .i64 r.fw, .int .i64 r.fp, .int .i64 r.wh, .int .i64 r.pl] 27)).alloc (.cells #[.int .i64 0, .int .i64 0] 31)), y.w.cell? ⟨x.w.heap.size, 11, none⟩ = some (.int .i64 r.wh) := fun y => Since.cell (by simp [go_sem]) (by first | (simp; done) | (simp; omega)) y
  have hb0_12 : ∀ y : Since ((x.w.alloc (.cells #[.int .i64 r.id, .int .i64 r.rd, .int .i64 r.s0, .int .i64 r.s1, .int .i64 r.e0, .int .i64 r.e1, .bool r.op, .slice r.la r.legs.length r.lc, .slice r.pa r.pauses.length r.pc, .int .i64 r.fw, .int .i64 r.fp, .int .i64 r.wh, .int .i64 r.pl] 27)).alloc (.cells #[.int .i64 0, .int .i64 0] 31)), y.w.cell? ⟨x.w.heap.size, 12, none⟩ = some (.int .i64 r.pl) := fun y => Since.cell (by simp [go_sem]) (by first | (simp; done) | (simp; omega)) y
  have hf0 : ∀ (y : Since ((x.w.alloc (.cells #[.int .i64 r.id, .int .i64 r.rd, .int .i64 r.s0, .int .i64 r.s1, .int .i64 r.e0, .int .i64 r.e1, .bool r.op, .slice r.la r.legs.length r.lc, .slice r.pa r.pauses.length r.pc, .int .i64 r.fw, .int .i64 r.fp, .int .i64 r.wh, .int .i64 r.pl] 27)).alloc (.cells #[.int .i64 0, .int .i64 0] 31))) (o : Nat), y.w.frozen? ⟨x.w.heap.size, o, none⟩ = false := fun y o => Since.free (by simp [go_sem]) (by first | (simp; done) | (simp; omega)) y
  have hb1_0 : ∀ y : Since ((x.w.alloc (.cells #[.int .i64 r.id, .int .i64 r.rd, .int .i64 r.s0, .int .i64 r.s1, .int .i64 r.e0, .int .i64 r.e1, .bool r.op, .slice r.la r.legs.length r.lc, .slice r.pa r.pauses.length r.pc, .int .i64 r.fw, .int .i64 r.fp, .int .i64 r.wh, .int .i64 r.pl] 27)).alloc (.cells #[.int .i64 0, .int .i64 0] 31)), y.w.cell? ⟨x.w.heap.size + 1, 0, none⟩ = some (.int .i64 0) := fun y => Since.cell (by simp [go_sem]) (by first | (simp; done) | (simp; omega)) y
  have hb1_1 : ∀ y : Since ((x.w.alloc (.cells #[.int .i64 r.id, .int .i64 r.rd, .int .i64 r.s0, .int .i64 r.s1, .int .i64 r.e0, .int .i64 r.e1, .bool r.op, .slice r.la r.legs.length r.lc, .slice r.pa r.pauses.length r.pc, .int .i64 r.fw, .int .i64 r.fp, .int .i64 r.wh, .int .i64 r.pl] 27)).alloc (.cells #[.int .i64 0, .int .i64 0] 31)), y.w.cell? ⟨x.w.heap.size + 1, 1, none⟩ = some (.int .i64 0) := fun y => Since.cell (by simp [go_sem]) (by first | (simp; done) | (simp; omega)) y
  have hf1 : ∀ (y : Since ((x.w.alloc (.cells #[.int .i64 r.id, .int .i64 r.rd, .int .i64 r.s0, .int .i64 r.s1, .int .i64 r.e0, .int .i64 r.e1, .bool r.op, .slice r.la r.legs.length r.lc, .slice r.pa r.pauses.length r.pc, .int .i64 r.fw, .int .i64 r.fp, .int .i64 r.wh, .int .i64 r.pl] 27)).alloc (.cells #[.int .i64 0, .int .i64 0] 31))) (o : Nat), y.w.frozen? ⟨x.w.heap.size + 1, o, none⟩ = false := fun y o => Since.free (by simp [go_sem]) (by first | (simp; done) | (simp; omega)) y
  have hWup : ∃ z : Since w, ((x.w.alloc (.cells #[.int .i64 r.id, .int .i64 r.rd, .int .i64 r.s0, .int .i64 r.s1, .int .i64 r.e0, .int .i64 r.e1, .bool r.op, .slice r.la r.legs.length r.lc, .slice r.pa r.pauses.length r.pc, .int .i64 r.fw, .int .i64 r.fp, .int .i64 r.wh, .int .i64 r.pl] 27)).alloc (.cells #[.int .i64 0, .int .i64 0] 31)) = z.w := Since.allocs x [.cells #[.int .i64 r.id, .int .i64 r.rd, .int .i64 r.s0, .int .i64 r.s1, .int .i64 r.e0, .int .i64 r.e1, .bool r.op, .slice r.la r.legs.length r.lc, .slice r.pa r.pauses.length r.pc, .int .i64 r.fw, .int .i64 r.fp, .int .i64 r.wh, .int .i64 r.pl] 27, .cells #[.int .i64 0, .int .i64 0] 31]
  obtain ⟨y0, hy0⟩ := Since.refl ((x.w.alloc (.cells #[.int .i64 r.id, .int .i64 r.rd, .int .i64 r.s0, .int .i64 r.s1, .int .i64 r.e0, .int .i64 r.e1, .bool r.op, .slice r.la r.legs.length r.lc, .slice r.pa r.pauses.length r.pc, .int .i64 r.fw, .int .i64 r.fp, .int .i64 r.wh, .int .i64 r.pl] 27)).alloc (.cells #[.int .i64 0, .int .i64 0] 31))
  have Hbx := Lib.hid (And.intro x.b.size (show x.w.heap.size + 2 = ((x.w.alloc (.cells #[.int .i64 r.id, .int .i64 r.rd, .int .i64 r.s0, .int .i64 r.s1, .int .i64 r.e0, .int .i64 r.e1, .bool r.op, .slice r.la r.legs.length r.lc, .slice r.pa r.pauses.length r.pc, .int .i64 r.fw, .int .i64 r.fp, .int .i64 r.wh, .int .i64 r.pl] 27)).alloc (.cells #[.int .i64 0, .int .i64 0] 31)).heap.size from by simp))
  generalize hW : ((x.w.alloc (.cells #[.int .i64 r.id, .int .i64 r.rd, .int .i64 r.s0, .int .i64 r.s1, .int .i64 r.e0, .int .i64 r.e1, .bool r.op, .slice r.la r.legs.length r.lc, .slice r.pa r.pauses.length r.pc, .int .i64 r.fw, .int .i64 r.fp, .int .i64 r.wh, .int .i64 r.pl] 27)).alloc (.cells #[.int .i64 0, .int .i64 0] 31)) = W at *
  clear hW
  generalize x.w.heap.size = bx at *
  have Hup := Lib.hid (Since.up hWup)
  rw [hy0]
  clear hy0
  replace H := Lib.hid (H.out.to hWup)
  clear hWup
  by_cases he : E = 0
  · have HS := Lib.hid (show S = ⟨r.s0, r.e1⟩ by rw [Hsw.out, if_pos he])
    subst he
    go_wp2_with (go_at_call 25; ((with_reducible refine (Hc.out W y0 H.out).mono ?_); rintro _ _ ⟨rfl, y1, rfl⟩))
    obtain ⟨z, hz, h0, h1⟩ := set_two y1 (hb1_0 y1) (hb1_1 y1) (Hup.out y1) (by have := Hbx.out; omega) (.int .i64 r.s0) (.int .i64 r.e1)
    rw [hz]
    exact bodyPost_ret (v := .tuple #[.agg #[.int .i64 r.s0, .int .i64 r.e1], .int .i64 0]) (by simp [results, Try.results15, go_sem, h0, h1]) rfl (Hpost.out _ _ _ _ z HS.out rfl rfl)
  · have hee : (E != 0) = true := by simpa using he
    have HS := Lib.hid (show S = ⟨0, 0⟩ by rw [Hsw.out, if_neg he])
    go_wp2_with (go_at_call 25; ((with_reducible refine (Hc.out W y0 H.out).mono ?_); rintro _ _ ⟨rfl, y1, rfl⟩))
    obtain ⟨z, hz, h0, h1⟩ := set_two y1 (hb1_0 y1) (hb1_1 y1) (Hup.out y1) (by have := Hbx.out; omega) (.int .i64 0) (.int .i64 0)
    rw [hz]
    exact bodyPost_ret (v := .tuple #[.agg #[.int .i64 0, .int .i64 0], .int .i64 E]) (by simp [results, Try.results15, go_sem, h0, h1]) rfl (Hpost.out _ _ _ _ z HS.out rfl rfl)
end Go.Proofs.Ytefodfpnedcodaa
/- The walks of the certain and the possible time, second part: the windows of the pauses. -/
namespace Go.Proofs.Ytefodfpnedcodaa
open Go.RowKit

/-- a list of windows of the call's own -/
def ListRes (w : World) (u : List Win) (o : Ending) (w' : World) : Prop :=
  ∃ (a : Option Addr) (cap : Nat) (y : Since w), o = .returned (.slice a u.length cap) ∧ w' = y.w ∧ WinRow y.w a u ∧ u.length ≤ cap
set_option maxRecDepth 100000 in
set_option maxHeartbeats 8000000 in
theorem psure_calls (w : World) (x : Since w) (a : Option Addr) (l : List Pse) (c : Nat) (h : Els Pse.cs 4 w a l) (hl : l.length ≤ 100000) :
    Calls Try.prog 40 #[.slice a l.length c] x.w (ListRes w (l.map sureP)) := by
  have HL := Lib.hid h
  have HP := Lib.hid (show ∀ (a : Option Addr) (cap : Nat) (y : Since w), WinRow y.w a (l.map sureP) → l.length ≤ cap → ListRes w (l.map sureP) (.returned (.slice a l.length cap)) y.w from fun a cap y h1 h2 => ⟨a, cap, y, by rw [List.length_map], rfl, h1, by rw [List.length_map]; exact h2⟩)
  generalize ListRes w (l.map sureP) = PO at *
  clear h
  obtain ⟨n, hn⟩ : ∃ n, n = l.length := ⟨_, rfl⟩
  rw [← hn] at HP ⊢
  have hn2 : n ≤ 100000 := by omega
  have Hn := Lib.hid hn
  clear hn hl
  go_enter Try.func40, Try.ntmps40
  go_wp2_with fail
  go_loopw [3, 8] (fun v i wr => ∃ (k : Nat) (y : Since w), k ≤ n ∧ i = .int .i64 k ∧ wr = y.w ∧ y.w.ownsRow w.heap.size 31 2 v k (flat Win.cs ((l.take k).map sureP))) (fun _ i _ => n - (intOf i).toNat)
  case atStart => exact ⟨0, x, by omega, rfl, rfl, ⟨rfl, .inl ⟨rfl, rfl⟩⟩⟩
  case round =>
    obtain ⟨k, y, hk, rfl, rfl, hown⟩ := hrel
    have Hown := Lib.hid hown
    clear hown
    by_cases hlt : k < n
    · obtain ⟨e, he⟩ : ∃ e, l[k]? = some e := ⟨_, List.getElem?_eq_getElem (by have := Hn.out; omega)⟩
      have hk0 : (0 : Int) ≤ (k : Int) := by omega
      have hkl : (k : Int) < (n : Int) := by omega
      have Htk := Lib.hid (show (l.take (k + 1)).map sureP = (l.take k).map sureP ++ [sureP e] by rw [List.take_add_one, he, List.map_append]; rfl)
      obtain ⟨b1, off1, rfl, h1'⟩ := Els.pse HL.out he
      have ra0 := h1'.c0
      have ra1 := h1'.c1
      have ra2 := h1'.c2
      have ra3 := h1'.c3
      clear h1' he
      go_upto_region 5 with fail
      have hp0 : (y.w.alloc (.cells #[.int .i64 e.f0, .int .i64 e.f1, .int .i64 e.t0, .int .i64 e.t1] 52)).cell? ⟨y.w.heap.size, 0, none⟩ = some (.int .i64 e.f0) := by simp [go_sem]
      have hp1 : (y.w.alloc (.cells #[.int .i64 e.f0, .int .i64 e.f1, .int .i64 e.t0, .int .i64 e.t1] 52)).cell? ⟨y.w.heap.size, 1, none⟩ = some (.int .i64 e.f1) := by simp [go_sem]
      have hp2 : (y.w.alloc (.cells #[.int .i64 e.f0, .int .i64 e.f1, .int .i64 e.t0, .int .i64 e.t1] 52)).cell? ⟨y.w.heap.size, 2, none⟩ = some (.int .i64 e.t0) := by simp [go_sem]
      have hp3 : (y.w.alloc (.cells #[.int .i64 e.f0, .int .i64 e.f1, .int .i64 e.t0, .int .i64 e.t1] 52)).cell? ⟨y.w.heap.size, 3, none⟩ = some (.int .i64 e.t1) := by simp [go_sem]
      have hpf : ∀ o, (y.w.alloc (.cells #[.int .i64 e.f0, .int .i64 e.f1, .int .i64 e.t0, .int .i64 e.t1] 52)).frozen? ⟨y.w.heap.size, o, none⟩ = false := fun o => by simp [go_sem]
      have hlt0 : y.w.heap.size < (y.w.alloc (.cells #[.int .i64 e.f0, .int .i64 e.f1, .int .i64 e.t0, .int .i64 e.t1] 52)).heap.size := by simp
      have hst0 : ∃ zz : Since y.w, (y.w.alloc (.cells #[.int .i64 e.f0, .int .i64 e.f1, .int .i64 e.t0, .int .i64 e.t1] 52)) = zz.w := IsSince.alloc (IsSince.self _) _
      have hsz0 := y.b.size
      obtain ⟨y2, e2⟩ := IsSince.alloc (IsSince.of y) (.cells #[.int .i64 e.f0, .int .i64 e.f1, .int .i64 e.t0, .int .i64 e.t1] 52)
      rw [e2] at hp0 hp1 hp2 hp3 hpf hlt0 hst0 ⊢
      (replace Hown := Lib.hid (own_to Hown.out hst0))
      clear e2 hst0
      generalize y.w.heap.size = gp at *
      have Hhp0 : ∀ q : Since y2.w, q.w.cell? ⟨gp, 0, none⟩ = some (.int .i64 e.f0) := fun q => Since.cell hp0 (by omega) q
      have Hhp1 : ∀ q : Since y2.w, q.w.cell? ⟨gp, 1, none⟩ = some (.int .i64 e.f1) := fun q => Since.cell hp1 (by omega) q
      have Hhp2 : ∀ q : Since y2.w, q.w.cell? ⟨gp, 2, none⟩ = some (.int .i64 e.t0) := fun q => Since.cell hp2 (by omega) q
      have Hhp3 : ∀ q : Since y2.w, q.w.cell? ⟨gp, 3, none⟩ = some (.int .i64 e.t1) := fun q => Since.cell hp3 (by omega) q
      have Hhpf : ∀ (q : Since y2.w) (o : Nat), q.w.frozen? ⟨gp, o, none⟩ = false := fun q o => Since.free (hpf o) (by omega) q
      have Hhpg := Lib.hid (And.intro hsz0 hlt0)
      clear hlt0 hsz0
      go_wp2_with (at_builtin; (refine wpList_appendK (w0 := w) ?hw rfl _ _ 35 rfl w.heap.size (Nat.le_refl _) ?hb 31 (.agg #[.int .i64 0, .int .i64 0]) 16 sWin u3 k (flat Win.cs ((l.take k).map sureP)) rfl ?hown ⟨y2.w.heap.size, 0, none⟩ 1 1 (⟨e.f1, max e.f1 e.t0⟩ : Win).cs rfl rfl ?hc (win_one _) ?h63 ?hbytes ?_; rotate_right 1; intro v2 q2 hown4 _ hg4))
      case hw => exact IsSince.alloc (IsSince.of y2) _
      case hb => have := y2.b.size; simp; omega
      case hown => exact own_to Hown.out (IsSince.alloc (IsSince.self _) _)
      case hc => exact cell_new_at y2.w (⟨e.f1, max e.f1 e.t0⟩ : Win).cs _
      case h63 => unfold maxLen; omega
      case hbytes => omega
      rw [← flat_one Win.cs (⟨e.f1, max e.f1 e.t0⟩ : Win), ← flat_append] at hown4
      have Hown4 := Lib.hid hown4
      clear hown4 hg4
      go_wp2_with fail
      go_roundw
      case rel => exact ⟨k + 1, q2, by omega, by go_num, rfl, by rw [Htk.out]; exact Hown4.out⟩
      case measure => simp [intOf] <;> omega
    · obtain rfl : k = n := by omega
      obtain ⟨hlen1, a5, c5, rfl, hc5, he5, _, _⟩ := own_els Win.len (by decide) Hown.out
      have hlk : ((l.take k).map sureP).length = k := by have := Hn.out; simp; omega
      have htk : (l.take k).map sureP = l.map sureP := by rw [List.take_of_length_le (by have := Hn.out; omega)]
      rw [hlk] at hc5 ⊢
      rw [htk] at he5
      have H5 := Lib.hid (HP.out a5 c5 y he5 hc5)
      clear hlen1 hc5 he5 hlk htk
      go_wp2_with fail
      exact H5.out
set_option maxRecDepth 100000 in
set_option maxHeartbeats 8000000 in
theorem pposs_calls (w : World) (x : Since w) (a : Option Addr) (l : List Pse) (c : Nat) (h : Els Pse.cs 4 w a l) (hl : l.length ≤ 100000) :
    Calls Try.prog 42 #[.slice a l.length c] x.w (ListRes w (l.map possP)) := by
  have HL := Lib.hid h
  have HP := Lib.hid (show ∀ (a : Option Addr) (cap : Nat) (y : Since w), WinRow y.w a (l.map possP) → l.length ≤ cap → ListRes w (l.map possP) (.returned (.slice a l.length cap)) y.w from fun a cap y h1 h2 => ⟨a, cap, y, by rw [List.length_map], rfl, h1, by rw [List.length_map]; exact h2⟩)
  generalize ListRes w (l.map possP) = PO at *
  clear h
  obtain ⟨n, hn⟩ : ∃ n, n = l.length := ⟨_, rfl⟩
  rw [← hn] at HP ⊢
  have hn2 : n ≤ 100000 := by omega
  have Hn := Lib.hid hn
  clear hn hl
  go_enter Try.func42, Try.ntmps42
  go_wp2_with fail
  go_loopw [3, 8] (fun v i wr => ∃ (k : Nat) (y : Since w), k ≤ n ∧ i = .int .i64 k ∧ wr = y.w ∧ y.w.ownsRow w.heap.size 31 2 v k (flat Win.cs ((l.take k).map possP))) (fun _ i _ => n - (intOf i).toNat)
  case atStart => exact ⟨0, x, by omega, rfl, rfl, ⟨rfl, .inl ⟨rfl, rfl⟩⟩⟩
  case round =>
    obtain ⟨k, y, hk, rfl, rfl, hown⟩ := hrel
    have Hown := Lib.hid hown
    clear hown
    by_cases hlt : k < n
    · obtain ⟨e, he⟩ : ∃ e, l[k]? = some e := ⟨_, List.getElem?_eq_getElem (by have := Hn.out; omega)⟩
      have hk0 : (0 : Int) ≤ (k : Int) := by omega
      have hkl : (k : Int) < (n : Int) := by omega
      have Htk := Lib.hid (show (l.take (k + 1)).map possP = (l.take k).map possP ++ [possP e] by rw [List.take_add_one, he, List.map_append]; rfl)
      obtain ⟨b1, off1, rfl, h1'⟩ := Els.pse HL.out he
      have ra0 := h1'.c0
      have ra1 := h1'.c1
      have ra2 := h1'.c2
      have ra3 := h1'.c3
      clear h1' he
      go_upto_region 5 with fail
      have hp0 : (y.w.alloc (.cells #[.int .i64 e.f0, .int .i64 e.f1, .int .i64 e.t0, .int .i64 e.t1] 52)).cell? ⟨y.w.heap.size, 0, none⟩ = some (.int .i64 e.f0) := by simp [go_sem]
      have hp1 : (y.w.alloc (.cells #[.int .i64 e.f0, .int .i64 e.f1, .int .i64 e.t0, .int .i64 e.t1] 52)).cell? ⟨y.w.heap.size, 1, none⟩ = some (.int .i64 e.f1) := by simp [go_sem]
      have hp2 : (y.w.alloc (.cells #[.int .i64 e.f0, .int .i64 e.f1, .int .i64 e.t0, .int .i64 e.t1] 52)).cell? ⟨y.w.heap.size, 2, none⟩ = some (.int .i64 e.t0) := by simp [go_sem]
      have hp3 : (y.w.alloc (.cells #[.int .i64 e.f0, .int .i64 e.f1, .int .i64 e.t0, .int .i64 e.t1] 52)).cell? ⟨y.w.heap.size, 3, none⟩ = some (.int .i64 e.t1) := by simp [go_sem]
      have hpf : ∀ o, (y.w.alloc (.cells #[.int .i64 e.f0, .int .i64 e.f1, .int .i64 e.t0, .int .i64 e.t1] 52)).frozen? ⟨y.w.heap.size, o, none⟩ = false := fun o => by simp [go_sem]
      have hlt0 : y.w.heap.size < (y.w.alloc (.cells #[.int .i64 e.f0, .int .i64 e.f1, .int .i64 e.t0, .int .i64 e.t1] 52)).heap.size := by simp
      have hst0 : ∃ zz : Since y.w, (y.w.alloc (.cells #[.int .i64 e.f0, .int .i64 e.f1, .int .i64 e.t0, .int .i64 e.t1] 52)) = zz.w := IsSince.alloc (IsSince.self _) _
      have hsz0 := y.b.size
      obtain ⟨y2, e2⟩ := IsSince.alloc (IsSince.of y) (.cells #[.int .i64 e.f0, .int .i64 e.f1, .int .i64 e.t0, .int .i64 e.t1] 52)
      rw [e2] at hp0 hp1 hp2 hp3 hpf hlt0 hst0 ⊢
      (replace Hown := Lib.hid (own_to Hown.out hst0))
      clear e2 hst0
      generalize y.w.heap.size = gp at *
      have Hhp0 : ∀ q : Since y2.w, q.w.cell? ⟨gp, 0, none⟩ = some (.int .i64 e.f0) := fun q => Since.cell hp0 (by omega) q
      have Hhp1 : ∀ q : Since y2.w, q.w.cell? ⟨gp, 1, none⟩ = some (.int .i64 e.f1) := fun q => Since.cell hp1 (by omega) q
      have Hhp2 : ∀ q : Since y2.w, q.w.cell? ⟨gp, 2, none⟩ = some (.int .i64 e.t0) := fun q => Since.cell hp2 (by omega) q
      have Hhp3 : ∀ q : Since y2.w, q.w.cell? ⟨gp, 3, none⟩ = some (.int .i64 e.t1) := fun q => Since.cell hp3 (by omega) q
      have Hhpf : ∀ (q : Since y2.w) (o : Nat), q.w.frozen? ⟨gp, o, none⟩ = false := fun q o => Since.free (hpf o) (by omega) q
      have Hhpg := Lib.hid (And.intro hsz0 hlt0)
      clear hlt0 hsz0
      go_wp2_with (at_builtin; (refine wpList_appendK (w0 := w) ?hw rfl _ _ 35 rfl w.heap.size (Nat.le_refl _) ?hb 31 (.agg #[.int .i64 0, .int .i64 0]) 16 sWin u3 k (flat Win.cs ((l.take k).map possP)) rfl ?hown ⟨y2.w.heap.size, 0, none⟩ 1 1 (⟨e.f0, max e.f0 e.t1⟩ : Win).cs rfl rfl ?hc (win_one _) ?h63 ?hbytes ?_; rotate_right 1; intro v2 q2 hown4 _ hg4))
      case hw => exact IsSince.alloc (IsSince.of y2) _
      case hb => have := y2.b.size; simp; omega
      case hown => exact own_to Hown.out (IsSince.alloc (IsSince.self _) _)
      case hc => exact cell_new_at y2.w (⟨e.f0, max e.f0 e.t1⟩ : Win).cs _
      case h63 => unfold maxLen; omega
      case hbytes => omega
      rw [← flat_one Win.cs (⟨e.f0, max e.f0 e.t1⟩ : Win), ← flat_append] at hown4
      have Hown4 := Lib.hid hown4
      clear hown4 hg4
      go_wp2_with fail
      go_roundw
      case rel => exact ⟨k + 1, q2, by omega, by go_num, rfl, by rw [Htk.out]; exact Hown4.out⟩
      case measure => simp [intOf] <;> omega
    · obtain rfl : k = n := by omega
      obtain ⟨hlen1, a5, c5, rfl, hc5, he5, _, _⟩ := own_els Win.len (by decide) Hown.out
      have hlk : ((l.take k).map possP).length = k := by have := Hn.out; simp; omega
      have htk : (l.take k).map possP = l.map possP := by rw [List.take_of_length_le (by have := Hn.out; omega)]
      rw [hlk] at hc5 ⊢
      rw [htk] at he5
      have H5 := Lib.hid (HP.out a5 c5 y he5 hc5)
      clear hlen1 hc5 he5 hlk htk
      go_wp2_with fail
      exact H5.out
end Go.Proofs.Ytefodfpnedcodaa
