/- The reference of windows, third part: the union. -/
import Derived.Test.YtnkmngkinjjbfaaDoorClR2
set_option linter.all false
namespace Go.Proofs.YtnkmngkinjjbfaaDoor
open Go.RowKit

/-- window e has come down to place k of a sorted list -/
def Ins (old : List Win) (e : Win) (k : Nat) (s : List Win) : Prop := ∃ pre post, s = pre ++ e :: post ∧ pre.length = k ∧ old = pre ++ post ∧ ∀ x ∈ post, e.f < x.f
theorem ins_start (old : List Win) (e : Win) : Ins old e old.length (old ++ [e]) := ⟨old, [], by simp, rfl, by simp, fun x h => by cases h⟩
theorem Ins.at {old : List Win} {e : Win} {k : Nat} {s : List Win} (h : Ins old e k s) : s[k]? = some e := by
  obtain ⟨pre, post, rfl, rfl, _, _⟩ := h; simp
theorem Ins.len {old : List Win} {e : Win} {k : Nat} {s : List Win} (h : Ins old e k s) : s.length = old.length + 1 := by
  obtain ⟨pre, post, rfl, rfl, rfl, _⟩ := h; simp; omega
theorem Ins.step {old : List Win} {e p : Win} {j : Nat} {s : List Win} (h : Ins old e (j + 1) s) (hp : s[j]? = some p) (hlt : e.f < p.f) : Ins old e j ((s.set j e).set (j + 1) p) := by
  obtain ⟨pre, post, rfl, hl, rfl, hpost⟩ := h
  have hne : pre ≠ [] := fun hh => by subst hh; simp at hl
  obtain ⟨pre', q, rfl⟩ := snoc_of hne
  have hl' : pre'.length = j := by simpa using hl
  have hq : q = p := by
    rw [List.append_assoc, List.getElem?_append_right (by omega), hl'] at hp
    simpa using hp
  subst hq
  refine ⟨pre', q :: post, ?_, hl', by simp, fun x hx => ?_⟩
  · subst hl'
    simp [List.append_assoc]
  · rcases List.mem_cons.1 hx with rfl | hx
    · exact hlt
    · exact hpost x hx
theorem Ins.perm {old : List Win} {e : Win} {k : Nat} {s : List Win} (h : Ins old e k s) : s.Perm (old ++ [e]) := by
  obtain ⟨pre, post, rfl, _, rfl, _⟩ := h
  have := (List.perm_middle (a := e) (l₁ := pre) (l₂ := post))
  exact this.trans (List.perm_append_singleton e (pre ++ post)).symm
theorem Ins.stop {old : List Win} {e : Win} {k : Nat} {s : List Win} (h : Ins old e k s) (ho : old.Pairwise fun x y : Win => x.f ≤ y.f) (hs : ∀ j p, k = j + 1 → s[j]? = some p → p.f ≤ e.f) : s.Pairwise fun x y : Win => x.f ≤ y.f := by
  obtain ⟨pre, post, rfl, hl, rfl, hpost⟩ := h
  rw [List.pairwise_append] at ho ⊢
  refine ⟨ho.1, List.pairwise_cons.2 ⟨fun x hx => by have := hpost x hx; omega, ho.2.1⟩, fun x hx y hy => ?_⟩
  rcases List.mem_cons.1 hy with rfl | hy
  · have hne : pre ≠ [] := fun hh => by subst hh; cases hx
    obtain ⟨pre', q, rfl⟩ := snoc_of hne
    have hq := hs pre'.length q (by rw [← hl]; simp) (by simp)
    rcases List.mem_append.1 hx with h | h
    · have := (List.pairwise_append.1 ho.1).2.2 x h q (by simp)
      omega
    · simp at h; subst h; exact hq
  · exact ho.2.2 x hx y hy
theorem flat_set (s : List Win) (j : Nat) (e : Win) (h : j < s.length) : ((flat Win.cs s).set (j * 2) (.int .i64 e.f)).set (j * 2 + 1) (.int .i64 e.t) = flat Win.cs (s.set j e) := by
  induction s generalizing j with
  | nil => simp at h
  | cons x s ih =>
    have e1 : flat Win.cs (x :: s) = Value.int .i64 x.f :: Value.int .i64 x.t :: flat Win.cs s := by simp [flat, Win.cs]
    cases j with
    | zero => rw [e1]; simp [flat, Win.cs]
    | succ j =>
      have e2 : flat Win.cs ((x :: s).set (j + 1) e) = Value.int .i64 x.f :: Value.int .i64 x.t :: flat Win.cs (s.set j e) := by simp [flat, Win.cs]
      rw [e1, e2, ← ih j (by simpa using h), show (j + 1) * 2 = j * 2 + 1 + 1 by omega]
      simp [List.set_cons_succ]
set_option maxRecDepth 100000 in
set_option maxHeartbeats 16000000 in
theorem runion_calls (w : World) (x : Since w) (a : Option Addr) (l : List Win) (c : Nat) (h : WinRow w a l) (hl : l.length ≤ 100000) :
    Calls Tryd.prog 26 #[.slice a l.length c] x.w (SetRes w (UnOk l) (unE l)) := by
  have HL := Lib.hid h
  have Hck := Lib.hid (rcheckW_calls w x a l c h (by omega))
  have Hue := Lib.hid (show unE l = if badW l then 1 else 0 from rfl)
  clear h
  cases hb : badW l with
  | true =>
    have HP := Lib.hid (show ∀ y2 : Since w, SetRes w (UnOk l) (unE l) (.returned (.tuple #[.slice none 0 0, .int .i64 1])) y2.w from fun y2 => by
      rw [Hue.out, hb]; exact setRes_nil ⟨fun h => by rw [hb] at h; (cases h), fun _ => rfl, by simp⟩ y2)
    rw [hb] at Hue
    generalize SetRes w (UnOk l) (unE l) = PO at *
    clear hb
    go_enter Tryd.func26, Tryd.ntmps26
    go_wp2_with fail
    refine Hck.out.mono ?_
    rintro _ _ ⟨rfl, y1, rfl⟩
    rw [Hue.out]
    go_wp2_with fail
    exact HP.out y1
  | false =>
    have HP := Lib.hid (show ∀ (a : Option Addr) (cap : Nat) (u : List Win) (y : Since w), WinRow y.w a u → u.length ≤ cap → IsSet u (hasW l) → u.length ≤ l.length → SetRes w (UnOk l) (unE l) (.returned (.tuple #[.slice a u.length cap, .int .i64 0])) y.w from fun a cap u y h1 h2 h3 h4 => by
      rw [Hue.out, hb]; exact ⟨a, cap, u, y, rfl, rfl, h1, h2, ⟨fun _ => h3, fun h => by rw [hb] at h; (cases h), h4⟩⟩)
    have Hgood := Lib.hid (badW_false.1 hb)
    rw [hb] at Hue
    generalize SetRes w (UnOk l) (unE l) = PO at *
    clear hb
    go_enter Tryd.func26, Tryd.ntmps26
    go_wp2_with fail
    refine Hck.out.mono ?_
    rintro _ _ ⟨rfl, y1, rfl⟩
    rw [Hue.out]
    clear Hck
    obtain ⟨n, hn⟩ : ∃ n, n = l.length := ⟨_, rfl⟩
    rw [← hn]
    have Hn := Lib.hid hn
    have hn2 : n ≤ 100000 := by omega
    clear hn
    go_wp2_with fail
    go_loopw [4, 5] (fun v si wr => ∃ (i : Nat) (s : List Win) (y : Since w), i ≤ n ∧ si = .int .i64 i ∧ wr = y.w ∧ y.w.ownsRow w.heap.size 30 2 v i (flat Win.cs s) ∧ s.length = i ∧ s.Perm (l.take i) ∧ s.Pairwise fun x y : Win => x.f ≤ y.f) (fun _ si _ => n - (intOf si).toNat)
    case atStart => exact ⟨0, [], y1, by omega, rfl, rfl, ⟨rfl, .inl ⟨rfl, rfl⟩⟩, rfl, by rw [List.take_zero], .nil⟩
    case round =>
      obtain ⟨i, s, y, hi, rfl, rfl, hown, hsl, hperm, hsort⟩ := hrel
      have Hown := Lib.hid hown; have Hsl := Lib.hid hsl; have Hperm := Lib.hid hperm; have Hsort := Lib.hid hsort
      clear hown hsl hperm hsort
      by_cases hlt : i < n
      · obtain ⟨e, he⟩ : ∃ e, l[i]? = some e := ⟨_, List.getElem?_eq_getElem (by have := Hn.out; omega)⟩
        have hi0 : (0 : Int) ≤ (i : Int) := by omega
        have hil : (i : Int) < (n : Int) := by omega
        obtain ⟨b1, off1, rfl, h1'⟩ := Els.win HL.out he
        have ra0 := h1'.c0
        have ra1 := h1'.c1
        have Htk := Lib.hid (show l.take (i + 1) = l.take i ++ [e] by rw [List.take_add_one, he]; rfl)
        clear h1' he
        go_upto_region 8 with (at_builtin; (refine wpList_appendK (w0 := w) ?hw rfl _ _ 35 rfl w.heap.size (Nat.le_refl _) ?hb 30 (.agg #[.int .i64 0, .int .i64 0]) 16 sWin u4 i (flat Win.cs s) rfl ?hown ⟨y.w.heap.size, 0, none⟩ 1 1 e.cs rfl rfl ?hc (win_one e) ?h63 ?hbytes ?_; rotate_right 1; intro v2 q2 hown4 _ hg4))
        case hw => exact y.alloc _
        case hb => have := y.b.size; simp; omega
        case hown => exact own_to Hown.out (IsSince.alloc (IsSince.self _) _)
        case hc => exact cell_new_at y.w e.cs _
        case h63 => unfold maxLen; omega
        case hbytes => omega
        rw [← flat_one Win.cs e, ← flat_append] at hown4
        obtain ⟨g, cap, rfl, hg, hcap⟩ := own_some hown4 (by omega)
        have Hown4 := Lib.hid hown4
        have Hins0 := Lib.hid (show Ins s e i (s ++ [e]) by have := ins_start s e; rwa [Hsl.out] at this)
        clear hown4 hg4 ra0 ra1 Hown
        go_wp2_with fail
        go_loopw [6] (fun sk wr => ∃ (k : Nat) (s2 : List Win) (y2 : Since w), sk = .int .i64 k ∧ k ≤ i ∧ wr = y2.w ∧ y2.w.ownsRow w.heap.size 30 2 (.slice (some ⟨g, 0, none⟩) (i + 1) cap) (i + 1) (flat Win.cs s2) ∧ Ins s e k s2) (fun sk _ => (intOf sk).toNat)
        case atStart => exact ⟨i, s ++ [e], q2, by go_num, by omega, rfl, Hown4.out, Hins0.out⟩
        case round =>
          clear Hown4 Hins0
          obtain ⟨k, s2, y2, rfl, hk, rfl, hown, hins⟩ := hrel
          have Hown := Lib.hid hown; have Hins := Lib.hid hins
          clear hown hins
          have hcase : k = 0 ∨ (∃ j p, k = j + 1 ∧ s2[j]? = some p ∧ e.f < p.f) ∨ (∃ j p, k = j + 1 ∧ s2[j]? = some p ∧ p.f ≤ e.f) := by
            rcases Nat.eq_zero_or_pos k with h | h
            · exact .inl h
            · obtain ⟨j, rfl⟩ : ∃ j, k = j + 1 := ⟨k - 1, by omega⟩
              obtain ⟨p, hp⟩ : ∃ p, s2[j]? = some p := ⟨_, List.getElem?_eq_getElem (by have h1 := Hins.out.len; have h2 := Hsl.out; omega)⟩
              rcases (by omega : e.f < p.f ∨ p.f ≤ e.f) with h | h
              · exact .inr (.inl ⟨j, p, rfl, hp, h⟩)
              · exact .inr (.inr ⟨j, p, rfl, hp, h⟩)
          rcases hcase with rfl | ⟨j, p, rfl, hp, hlt2⟩ | ⟨j, p, rfl, hp, hge⟩
          · have Hsorted := Lib.hid (Hins.out.stop Hsort.out (fun j p h => by omega))
            obtain ⟨q5, hq0⟩ := Since.refl y2.w
            rw [hq0]
            clear hq0
            go_wp2_with fail
            refine wp_region_since (by kernel_rfl) (by kernel_rfl) ?_
            repeat (go_big_quiet_step (fail))
            refine wpQuiet_nil ?_
            rintro _ ⟨z, rfl⟩
            go_wp2_with fail
            obtain ⟨y6, h6⟩ := y2.trans z
            have Hown6 := Lib.hid (own_to Hown.out (⟨z, rfl⟩ : ∃ zz : Since y2.w, z.w = zz.w))
            rw [h6] at Hown6 ⊢
            clear h6
            go_roundw
            case rel => exact ⟨i + 1, s2, y6, by omega, by go_num, rfl, Hown6.out, by rw [Hins.out.len, Hsl.out], by rw [Htk.out]; exact Hins.out.perm.trans (Hperm.out.append_right [e]), Hsorted.out⟩
            case measure => simp [intOf] <;> omega
          · have htb : decide (e.f < p.f) = true := decide_eq_true hlt2
            have hj0 : (0 : Int) ≤ (j : Int) := by omega
            have hj1 : decide ((0 : Int) < (j : Int) + 1) = true := decide_eq_true (by omega)
            have hj2 : (j : Int) < (i : Int) := by omega
            have hl2 := Hins.out.len
            obtain ⟨ka0, fa0, _⟩ := own_cell Hown.out (flat_at Win.len s2 j p 0 (.int .i64 p.f) hp rfl)
            obtain ⟨ka1, fa1, _⟩ := own_cell Hown.out (flat_at Win.len s2 j p 1 (.int .i64 p.t) hp rfl)
            obtain ⟨kb0, fb0, _⟩ := own_cell Hown.out (flat_at Win.len s2 (j + 1) e 0 (.int .i64 e.f) Hins.out.at rfl)
            obtain ⟨kb1, fb1, _⟩ := own_cell Hown.out (flat_at Win.len s2 (j + 1) e 1 (.int .i64 e.t) Hins.out.at rfl)
            simp only [Nat.add_zero] at ka0 fa0 kb0 fb0
            have Hstep := Lib.hid (Hins.out.step hp hlt2)
            clear hp hlt2 hl2
            obtain ⟨q5, hq0⟩ := Since.refl y2.w
            rw [hq0]
            clear hq0
            go_wp2_with fail
            refine wp_region_since (by kernel_rfl) (by kernel_rfl) ?_
            repeat (go_big_quiet_step (fail))
            refine wpQuiet_nil ?_
            rintro _ ⟨z, rfl⟩
            go_upto_region 11 with fail
            have hzz : ∃ zz : Since y2.w, z.w = zz.w := ⟨z, rfl⟩
            have ja0 := Since.cellTo hzz ka0
            have ja1 := Since.cellTo hzz ka1
            have jb0 := Since.cellTo hzz kb0
            have jb1 := Since.cellTo hzz kb1
            have ga0 : ∀ q : Since z.w, q.w.frozen? ⟨g, j * 2, none⟩ = false := fun q => by obtain ⟨u, hu⟩ := z.trans q; rw [hu]; exact fa0 u
            have ga1 : ∀ q : Since z.w, q.w.frozen? ⟨g, j * 2 + 1, none⟩ = false := fun q => by obtain ⟨u, hu⟩ := z.trans q; rw [hu]; exact fa1 u
            have gb0 : ∀ q : Since z.w, q.w.frozen? ⟨g, (j + 1) * 2, none⟩ = false := fun q => by obtain ⟨u, hu⟩ := z.trans q; rw [hu]; exact fb0 u
            have gb1 : ∀ q : Since z.w, q.w.frozen? ⟨g, (j + 1) * 2 + 1, none⟩ = false := fun q => by obtain ⟨u, hu⟩ := z.trans q; rw [hu]; exact fb1 u
            have Hownz := Lib.hid (own_to Hown.out hzz)
            clear hzz ka0 ka1 kb0 kb1 fa0 fa1 fb0 fb1
            refine wp_region_tail (fun w' => ∃ q : Since (z.w), w' = q.w) [3, 4] [0, 1, 2, 5, 6, 7, 8, 9, 10, 11, 12, 13] 14 (by kernel_rfl) (by kernel_rfl) (fun _ _ _ _ _ h => h) (Since.drawn _) ?_
            simp only [List.cons_append, List.nil_append, picks_cons, picks_nil, List.getD_cons_zero, List.getD_cons_succ]
            repeat (go_big_quiet_step (fail))
            refine wpQuiet_nil ?_
            rintro _ ⟨q, rfl⟩
            simp only [List.drop_succ_cons, List.drop_zero]
            have hl2' := Hins.out.len
            have hsl' := Hsl.out
            have hfl : (flat Win.cs s2).length = s2.length * 2 := flat_length Win.len s2
            have o0 := own_to Hownz.out (⟨q, rfl⟩ : ∃ zz : Since z.w, q.w = zz.w)
            have o1 := own_setcell o0 (j := j * 2) (by rw [hfl]; omega) (.int .i64 e.f)
            have o2 := own_setcell o1 (j := j * 2 + 1) (by rw [List.length_set, hfl]; omega) (.int .i64 e.t)
            rw [flat_set s2 j e (by omega)] at o2
            have hfl2 : (flat Win.cs (s2.set j e)).length = s2.length * 2 := by rw [flat_length Win.len, List.length_set]
            have o3 := own_setcell o2 (j := (j + 1) * 2) (by rw [hfl2]; omega) (.int .i64 p.f)
            have o4 := own_setcell o3 (j := (j + 1) * 2 + 1) (by rw [List.length_set, hfl2]; omega) (.int .i64 p.t)
            rw [flat_set (s2.set j e) (j + 1) p (by rw [List.length_set]; omega)] at o4
            have O4 := Lib.hid o4
            obtain ⟨z2, hz2⟩ := z.trans q
            obtain ⟨yq, hyq⟩ := y2.trans z2
            obtain ⟨ya, ha⟩ := yq.set ⟨g, j * 2, none⟩ hg (.int .i64 e.f)
            obtain ⟨yb, hb⟩ := ya.set ⟨g, j * 2 + 1, none⟩ hg (.int .i64 e.t)
            obtain ⟨yc, hc⟩ := yb.set ⟨g, (j + 1) * 2, none⟩ hg (.int .i64 p.f)
            obtain ⟨yd, hd⟩ := yc.set ⟨g, (j + 1) * 2 + 1, none⟩ hg (.int .i64 p.t)
            have HE := Lib.hid (show (((q.w.setCell ⟨g, j * 2, none⟩ (.int .i64 e.f)).setCell ⟨g, j * 2 + 1, none⟩ (.int .i64 e.t)).setCell ⟨g, (j + 1) * 2, none⟩ (.int .i64 p.f)).setCell ⟨g, (j + 1) * 2 + 1, none⟩ (.int .i64 p.t) = yd.w by rw [hz2, hyq, ha, hb, hc, hd])
            clear hfl hfl2 o0 o1 o2 o3 o4 hz2 hyq ha hb hc hd hl2' hsl'
            go_wp2_with fail
            go_roundw
            case rel => exact ⟨j, _, yd, rfl, by omega, HE.out, by rw [← HE.out]; exact O4.out, Hstep.out⟩
            case measure => simp [intOf] <;> omega
          · have htb : decide (e.f < p.f) = false := decide_eq_false (by omega)
            have hj0 : (0 : Int) ≤ (j : Int) := by omega
            have hj1 : decide ((0 : Int) < (j : Int) + 1) = true := decide_eq_true (by omega)
            have hj2 : (j : Int) < (i : Int) := by omega
            have hl2 := Hins.out.len
            obtain ⟨ka0, fa0, _⟩ := own_cell Hown.out (flat_at Win.len s2 j p 0 (.int .i64 p.f) hp rfl)
            obtain ⟨ka1, fa1, _⟩ := own_cell Hown.out (flat_at Win.len s2 j p 1 (.int .i64 p.t) hp rfl)
            obtain ⟨kb0, fb0, _⟩ := own_cell Hown.out (flat_at Win.len s2 (j + 1) e 0 (.int .i64 e.f) Hins.out.at rfl)
            obtain ⟨kb1, fb1, _⟩ := own_cell Hown.out (flat_at Win.len s2 (j + 1) e 1 (.int .i64 e.t) Hins.out.at rfl)
            simp only [Nat.add_zero] at ka0 fa0 kb0 fb0
            have Hsorted := Lib.hid (Hins.out.stop Hsort.out (fun j' p' h hp' => by
              have : j' = j := by omega
              subst this
              rw [hp] at hp'; cases hp'; exact hge))
            clear hp hge hl2
            obtain ⟨q5, hq0⟩ := Since.refl y2.w
            rw [hq0]
            clear hq0
            go_wp2_with fail
            refine wp_region_since (by kernel_rfl) (by kernel_rfl) ?_
            repeat (go_big_quiet_step (fail))
            refine wpQuiet_nil ?_
            rintro _ ⟨z, rfl⟩
            go_wp2_with fail
            obtain ⟨y6, h6⟩ := y2.trans z
            have Hown6 := Lib.hid (own_to Hown.out (⟨z, rfl⟩ : ∃ zz : Since y2.w, z.w = zz.w))
            rw [h6] at Hown6 ⊢
            clear h6
            go_roundw
            case rel => exact ⟨i + 1, s2, y6, by omega, by go_num, rfl, Hown6.out, by rw [Hins.out.len, Hsl.out], by rw [Htk.out]; exact Hins.out.perm.trans (Hperm.out.append_right [e]), Hsorted.out⟩
            case measure => simp [intOf] <;> omega
      · obtain rfl : i = n := by omega
        obtain ⟨hlen0, a5, c5, rfl, hc5, he5, _, _⟩ := own_els Win.len (by decide) Hown.out
        clear hlen0
        rw [Hsl.out]
        have HS := Lib.hid he5
        have Hp := Lib.hid (show s.Perm l by have h := Hperm.out; rwa [List.take_of_length_le (by have := Hn.out; omega)] at h)
        clear hc5 he5 Hown Hperm
        go_wp2_with fail
        go_loopw [7, 8, 9] (fun v si _ wr => ∃ (k : Nat) (out : List Win) (y5 : Since y.w), k ≤ i ∧ si = .int .i64 k ∧ wr = y5.w ∧ y5.w.ownsRow y.w.heap.size 30 2 v out.length (flat Win.cs out) ∧ Mrg (s.take k) out ∧ out.length ≤ k) (fun _ si _ _ => i - (intOf si).toNat)
        case atStart => exact ⟨0, [], Since.self _, by omega, rfl, rfl, ⟨rfl, .inl ⟨rfl, rfl⟩⟩, by rw [List.take_zero]; exact mrg_nil, by simp⟩
        case round =>
          obtain ⟨k, out, y5, hk, rfl, rfl, hown, hM, hok⟩ := hrel
          have Hown := Lib.hid hown; have HM := Lib.hid hM
          clear hown hM
          by_cases hlt : k < i
          · obtain ⟨e, he⟩ : ∃ e, s[k]? = some e := ⟨_, List.getElem?_eq_getElem (by have := Hsl.out; omega)⟩
            have hk0 : (0 : Int) ≤ (k : Int) := by omega
            have hkl : (k : Int) < (i : Int) := by omega
            obtain ⟨b2, off2, rfl, h1'⟩ := Els.win HS.out he
            have ra0 := Since.cellTo (IsSince.of y5) h1'.c0
            have ra1 := Since.cellTo (IsSince.of y5) h1'.c1
            have Htk2 := Lib.hid (show s.take (k + 1) = s.take k ++ [e] by rw [List.take_add_one, he]; rfl)
            have Hev := Lib.hid (Hgood.out e (Hp.out.mem_iff.1 (List.mem_of_getElem? he)))
            obtain ⟨ev1, ev2, ev3⟩ := (vldW_iff e).1 Hev.out
            have Hpre := Lib.hid (show ∀ x ∈ s.take k, x.f ≤ e.f from fun x hx => by
              obtain ⟨j, hj⟩ := List.mem_iff_getElem?.1 hx
              rw [List.getElem?_take] at hj
              split at hj
              · have h1 := List.getElem?_eq_some_iff.1 hj
                have h2 := List.getElem?_eq_some_iff.1 he
                have := List.pairwise_iff_getElem.1 Hsort.out j k h1.1 h2.1 (by omega)
                rw [h1.2, h2.2] at this; exact this
              · cases hj)
            clear h1' he
            by_cases hee : e.f = e.t
            · have heb : (e.f == e.t) = true := by simpa using hee
              have HM2 := Lib.hid (show Mrg (s.take (k + 1)) out by rw [Htk2.out]; exact HM.out.skip hee)
              clear hee HM
              obtain ⟨hlen, a6, c6, rfl, _⟩ := own_els Win.len (by decide) Hown.out
              clear hlen
              obtain ⟨q5, hq0⟩ := Since.refl y5.w
              rw [hq0]
              clear hq0
              go_wp2_with fail
              refine wp_region_since (by kernel_rfl) (by kernel_rfl) ?_
              repeat (go_big_quiet_step (fail))
              refine wpQuiet_nil ?_
              rintro _ ⟨z, rfl⟩
              go_wp2_with fail
              obtain ⟨y6, h6⟩ := y5.trans z
              have Hown6 := Lib.hid (own_to Hown.out (⟨z, rfl⟩ : ∃ zz : Since y5.w, z.w = zz.w))
              rw [h6] at Hown6 ⊢
              clear h6
              go_roundw
              case rel => exact ⟨k + 1, out, y6, by omega, by go_num, rfl, Hown6.out, HM2.out, by omega⟩
              case measure => simp [intOf] <;> omega
            · have heb : (e.f == e.t) = false := by simpa using hee
              have hlt2 : e.f < e.t := by omega
              clear hee
              by_cases hoe : out = []
              · subst hoe
                have HM2 := Lib.hid (show Mrg (s.take (k + 1)) ([] ++ [e]) by rw [Htk2.out]; exact HM.out.new Hev.out hlt2 (fun v hv => by cases hv))
                clear HM
                obtain ⟨hlen0, a6, c6, hv5, _⟩ := own_els Win.len (by decide) Hown.out
                have hv5' : u7 = .slice a6 0 c6 := hv5
                subst hv5'
                clear hv5 hlen0
                obtain ⟨q5, hq0⟩ := Since.refl y5.w
                rw [hq0]
                clear hq0
                go_wp2_with fail
                refine wp_region_since (by kernel_rfl) (by kernel_rfl) ?_
                repeat (go_big_quiet_step (fail))
                refine wpQuiet_nil ?_
                rintro _ ⟨z0, rfl⟩
                go_wp2_with fail
                refine wp_region_since (by kernel_rfl) (by kernel_rfl) ?_
                repeat (go_big_quiet_step (fail))
                refine wpQuiet_nil ?_
                rintro _ ⟨z, rfl⟩
                go_wp2_with (at_builtin; (refine wpList_appendK (w0 := y.w) ?hw rfl _ _ 35 rfl y.w.heap.size (Nat.le_refl _) ?hb 30 (.agg #[.int .i64 0, .int .i64 0]) 16 sWin (.slice a6 0 c6) 0 (flat Win.cs []) rfl ?hown ⟨z.w.heap.size, 0, none⟩ 1 1 e.cs rfl rfl ?hc (win_one e) ?h63 ?hbytes ?_; rotate_right 1; intro v2 q2 hown4 _ hg4))
                case hw => obtain ⟨yz, hyz⟩ := y5.trans z; rw [hyz]; exact IsSince.alloc (IsSince.of yz) _
                case hb => have := y5.b.size; have := z.b.size; simp; omega
                case hown => exact own_to (own_to Hown.out ⟨z, rfl⟩) (IsSince.alloc (IsSince.self _) _)
                case hc => exact cell_new_at z.w e.cs _
                case h63 => unfold maxLen; omega
                case hbytes => omega
                rw [← flat_one Win.cs e, ← flat_append] at hown4
                have Hown4 := Lib.hid hown4
                clear hown4 hg4
                go_wp2_with fail
                go_roundw
                case rel => exact ⟨k + 1, [] ++ [e], q2, by omega, by go_num, rfl, Hown4.out, HM2.out, by (try simp at *) <;> omega⟩
                case measure => simp [intOf] <;> omega
              · obtain ⟨o, lw, rfl⟩ := snoc_of hoe
                clear hoe
                have hm : (o ++ [lw]).length = o.length + 1 := by simp
                rw [hm] at Hown hok
                obtain ⟨g5, c6, rfl, hg5, hc6⟩ := own_some Hown.out (by omega)
                obtain ⟨kl, fl, _⟩ := own_cell Hown.out (flat_at Win.len (o ++ [lw]) o.length lw 1 (.int .i64 lw.t) (by simp) rfl)
                have hm0 : (0 : Int) ≤ (o.length : Int) := by omega
                have hmb : decide ((0 : Int) < (o.length : Int) + 1) = true := decide_eq_true (by omega)
                have hm1 : (o.length : Int) ≤ 100000 := by omega
                have hlf := HM.out.b e.f Hpre.out lw (by simp)
                by_cases hle : e.f ≤ lw.t
                · have hleb : decide (e.f ≤ lw.t) = true := decide_eq_true hle
                  have HM2 := Lib.hid (show Mrg (s.take (k + 1)) (o ++ [⟨lw.f, max lw.t e.t⟩]) by rw [Htk2.out]; exact HM.out.join Hev.out hlf hle Hpre.out)
                  clear hle hlf HM
                  obtain ⟨q5, hq0⟩ := Since.refl y5.w
                  rw [hq0]
                  clear hq0
                  go_wp2_with fail
                  refine wp_region_since (by kernel_rfl) (by kernel_rfl) ?_
                  repeat (go_big_quiet_step (fail))
                  refine wpQuiet_nil ?_
                  rintro _ ⟨z0, rfl⟩
                  go_wp2_with fail
                  refine wp_region_since (by kernel_rfl) (by kernel_rfl) ?_
                  repeat (go_big_quiet_step (fail))
                  refine wpQuiet_nil ?_
                  rintro _ ⟨z, rfl⟩
                  go_upto_region 19 with fail
                  have hzz : ∃ zz : Since y5.w, z.w = zz.w := ⟨z, rfl⟩
                  have kl2 := Since.cellTo hzz kl
                  have ke2 := Since.cellTo hzz ra1
                  have fl2 : ∀ q : Since z.w, q.w.frozen? ⟨g5, o.length * 2 + 1, none⟩ = false := fun q => by
                    obtain ⟨u, hu⟩ := z.trans q
                    rw [hu]; exact fl u
                  have Hown6 := Lib.hid (own_to Hown.out hzz)
                  clear kl fl ra0 ra1 hzz
                  refine wp_region_tail (fun w' => ∃ q : Since (z.w), w' = q.w) [] [0, 1, 2, 3, 4, 5, 6, 7, 8, 9, 10, 11, 12, 13, 14, 15, 16] 17 (by kernel_rfl) (by kernel_rfl) (fun _ _ _ _ _ h => h) (Since.drawn _) ?_
                  simp only [List.nil_append, picks_cons, picks_nil, List.getD_cons_zero, List.getD_cons_succ]
                  repeat (go_big_quiet_step (fail))
                  refine wpQuiet_nil ?_
                  rintro _ ⟨q, rfl⟩
                  simp only [List.drop_succ_cons, List.drop_zero]
                  obtain ⟨z2, hz2⟩ := z.trans q
                  obtain ⟨yq, hyq⟩ := y5.trans z2
                  have hsets := own_setcell (own_to Hown6.out (⟨q, rfl⟩ : ∃ zz : Since z.w, q.w = zz.w)) (j := o.length * 2 + 1) (by rw [flat_length Win.len]; simp; omega) (.int .i64 (max lw.t e.t))
                  rw [win_set] at hsets
                  have Hset := Lib.hid hsets
                  obtain ⟨y6, h6⟩ := yq.set ⟨g5, o.length * 2 + 1, none⟩ (by show _ ≤ g5; exact hg5) (.int .i64 (max lw.t e.t))
                  rw [← hyq, ← hz2] at h6
                  have H6 := Lib.hid h6
                  clear hsets h6 hz2 hyq
                  go_wp2_with fail
                  go_roundw
                  case rel => exact ⟨k + 1, o ++ [⟨lw.f, max lw.t e.t⟩], y6, by omega, by go_num, H6.out, by rw [← H6.out, show (o ++ [(⟨lw.f, max lw.t e.t⟩ : Win)]).length = o.length + 1 by simp]; exact Hset.out, HM2.out, by simp; omega⟩
                  case measure => simp [intOf] <;> omega
                · have hleb : decide (e.f ≤ lw.t) = false := decide_eq_false hle
                  have HM2 := Lib.hid (show Mrg (s.take (k + 1)) ((o ++ [lw]) ++ [e]) by rw [Htk2.out]; exact HM.out.new Hev.out hlt2 (norm_last HM.out.n (by omega)))
                  clear hle hlf HM
                  obtain ⟨q5, hq0⟩ := Since.refl y5.w
                  rw [hq0]
                  clear hq0
                  go_wp2_with fail
                  refine wp_region_since (by kernel_rfl) (by kernel_rfl) ?_
                  repeat (go_big_quiet_step (fail))
                  refine wpQuiet_nil ?_
                  rintro _ ⟨z0, rfl⟩
                  go_wp2_with fail
                  refine wp_region_since (by kernel_rfl) (by kernel_rfl) ?_
                  repeat (go_big_quiet_step (fail))
                  refine wpQuiet_nil ?_
                  rintro _ ⟨z, rfl⟩
                  go_wp2_with (at_builtin; (refine wpList_appendK (w0 := y.w) ?hw rfl _ _ 35 rfl y.w.heap.size (Nat.le_refl _) ?hb 30 (.agg #[.int .i64 0, .int .i64 0]) 16 sWin (.slice (some ⟨g5, 0, none⟩) (o.length + 1) c6) (o.length + 1) (flat Win.cs (o ++ [lw])) rfl ?hown ⟨z.w.heap.size, 0, none⟩ 1 1 e.cs rfl rfl ?hc (win_one e) ?h63 ?hbytes ?_; rotate_right 1; intro v2 q2 hown4 _ hg4))
                  case hw => obtain ⟨yz, hyz⟩ := y5.trans z; rw [hyz]; exact IsSince.alloc (IsSince.of yz) _
                  case hb => have := y5.b.size; have := z.b.size; simp; omega
                  case hown => exact own_to (own_to Hown.out ⟨z, rfl⟩) (IsSince.alloc (IsSince.self _) _)
                  case hc => exact cell_new_at z.w e.cs _
                  case h63 => unfold maxLen; omega
                  case hbytes => omega
                  rw [← flat_one Win.cs e, ← flat_append] at hown4
                  have Hown4 := Lib.hid hown4
                  clear hown4 hg4
                  go_wp2_with fail
                  go_roundw
                  case rel => exact ⟨k + 1, (o ++ [lw]) ++ [e], q2, by omega, by go_num, rfl, by rw [show ((o ++ [lw]) ++ [e]).length = (o.length + 1) + 1 by simp]; exact Hown4.out, HM2.out, by (try simp at *) <;> omega⟩
                  case measure => simp [intOf] <;> omega
          · obtain rfl : k = i := by omega
            have Hset := Lib.hid (show IsSet out (hasW l) from ⟨HM.out.n, fun t => by
              rw [HM.out.h, List.take_of_length_le (by have := Hsl.out; omega)]; exact hasW_perm Hp.out t⟩)
            obtain ⟨hlen, a6, c6, rfl, hc6, he6, _, _⟩ := own_els Win.len (by decide) Hown.out
            obtain ⟨y6, h6⟩ := y.trans y5
            have H6 := Lib.hid (HP.out a6 c6 out y6 (h6 ▸ he6) hc6 Hset.out (by have := Hn.out; omega))
            rw [h6]
            clear hlen hc6 he6 h6
            go_wp2_with fail
            exact H6.out
end Go.Proofs.YtnkmngkinjjbfaaDoor
